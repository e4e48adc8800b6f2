/- Part 2: lemmas for the last text. -/
import Derived.Test.YtebodiamojfnnaaGreatDoorK01
import Derived.CallsIn
import Derived.OrdersIn
import Derived.TacticsIn
import Derived.LoopNIn
import Derived.RangeFuncRecord
set_option linter.unusedVariables false
set_option linter.unusedSimpArgs false
open Array renaming getElem?_modify -> DJ, range -> CV, map -> JO, ext' -> JD, toList_map -> GF, toList_append -> EK, size_append -> FP, length_toList -> DI, getD_eq_getD_getElem? -> CR
open Bool renaming and_eq_true -> AI, false_eq_true -> BX, or_eq_true -> EA, true -> Qt, false -> Qu
open Function renaming comp_def -> MG
open Go renaming Program -> CU, World -> BL, Operand -> CA, Oper -> HP, TypeId -> BP, Edge -> OO, Value -> BE, run_storeCells_cells -> GH, TypeInfo -> OH, run_underlying -> BH, TypeDesc -> OI, grownCap_ge -> IG, size_zeroCells -> HF, undef -> EE, storeCells -> IB, Deferred -> HU
open Go.Array renaming range_zero' -> NF
open Go.Builtin renaming firstCells -> DY, append_ -> DA, zeroCells -> CD, copy_ -> KJ
open Go.Deferred renaming ofValue -> JF
open Go.Fence renaming wide -> FJ
open Go.Instr renaming alloc -> Pz, box -> PU, makeSlice -> EX, fill -> FZ, keyThatStays -> MR, mapUpdate -> IH
open Go.IntKind renaming i64 -> AR, wrap -> GA, bits -> LK, signed -> KC, u8 -> KD
open Go.MapKept renaming run_findKey -> LY, run_getObj_map -> FH, run_setObj_map -> LD
open Go.Region renaming wanted -> OJ, binds -> LZ
open Go.Result renaming andThen -> DL, andThen_ok -> BJ
open Go.Result.ok renaming injEq -> Qg
open Go.Sem renaming run_bind -> BS, run_pure -> CB
open Go.Value renaming int -> EJ
open Go.World renaming setCells -> IZ, setCell -> FR, frozen? -> OS, frozen?_setCells -> EI, cell?_setCells_out -> BV, cell?_setCells_in -> CQ, cell? -> EF
open Int renaming eq_ofNat_of_zero_le -> DN, toNat_natCast -> AT, emod_eq_of_lt -> NT
open List renaming mem_iff_getElem? -> CO, getElem?_eq_some_iff -> AH, all_eq_true -> AO, getElem_mem -> AS, length_map -> AF, mem_of_getElem? -> AN, mem_or_eq_of_mem_set -> GI, getElem?_take -> CF, replicate -> AX, mem_replicate -> GS, take_of_length_le -> CH, mem_cons_of_mem -> BZ, mem_cons -> BD, mem_singleton -> CG, mem_append -> AY, mem_append_left -> CZ, mem_append_right -> CX, getElem?_map -> BN, getElem?_append -> DG, eq_nil_of_length_eq_zero -> DP, nil_append -> CW, take_left -> GU, size_toArray -> FT, length_nil -> AZ, append_assoc -> CJ, all_append -> IL, getElem?_eq_getElem -> AP, mem_of_mem_take -> FA, getElem?_append_left -> BM, getElem?_append_right -> BU, range -> GZ, getElem_of_mem -> MQ, length_cons -> AW, getElem?_set -> FB, isEmpty_iff -> NU, contains_iff_mem -> EH, mem_flatMap -> IM, flatMap_cons -> HW, map -> DR, map_map -> PA, getElem?_cons_zero -> BG, getElem?_zipIdx -> ML, getElem?_eq_none -> CY
open Nat renaming le_refl -> AQ, add_zero -> DU, mul_le_mul_right -> BO, mul_le_mul_left -> JC, le_mul_of_pos_right -> IC, mul_comm -> HJ, zero_add -> BC, add_mul -> CS, sub_mul -> IW, lt_of_lt_of_le -> FU, le_trans -> HX, le_total -> PI, exists_eq_add_of_le -> GN, lt_trichotomy -> NV
open Option renaming map_some -> DE, getD_some -> EN, bind_some -> FG, some -> Qr, none -> Qs
open Option.some renaming injEq -> AG, inj -> DZ
open Prod.mk renaming injEq -> BK
section
namespace Go.AM
open Go
section
variable {P:CU}{ab:cu}{g:G}{H:LO}{w:BL}{ρ:LA}{a:Act}
theorem aND{X:Option CA}(h:wP ab X=Qr Qs):X=none:=by
 cases X with
 |none=>rfl
 |some x=>simp only[wP]at h;obtain⟨z,_,hz⟩:=map_some h;cases hz
theorem aJV{X:Array CA}{x:aa}(h:sB ab X.toList=Qr [x]):∃Y,X = #[Y]/\fA ab Y=Qr x:=by
 obtain⟨l⟩:=X;simp only at h;cases l with
 |nil=>simp[sB]at h
 |cons Y r=>
  simp only[sB]at h;split at h
  ·cases h
  rename_i y hy;split at h
  ·cases h
  rename_i ys j9;cases h;cases r with
  |nil=>exact⟨Y,rfl,hy⟩
  |cons Z r=>
   simp only[sB]at j9;split at j9
   ·cases j9
   split at j9<;>cases j9
theorem aJW{X:Array CA}{x y:aa}(h:sB ab X.toList=Qr [x,y]):∃Y Z,X = #[Y,Z]/\fA ab Y=Qr x/\fA ab Z=Qr y:=by
 obtain⟨l⟩:=X;simp only at h;cases l with
 |nil=>simp[sB]at h
 |cons Y r=>
  simp only[sB]at h;split at h
  ·cases h
  rename_i z hz;split at h
  ·cases h
  rename_i ys j9;cases h;obtain⟨Z,e,hZ⟩:=aJV (X:=r.toArray) (by simpa using j9);have:r=[Z]:=by simpa using congrArg Array.toList e
  subst this;exact⟨Y,Z,rfl,hz,hZ⟩
theorem aNE{α:Type}{X:Array α}{t:α}(h:X.toList=[t]):X = #[t]:=by obtain⟨l⟩:=X;simp at h;rw[h]
theorem mX{α:Type}{X:Array α}{t u:α}(h:X.toList=[t,u]):X = #[t,u]:=by obtain⟨l⟩:=X;simp at h;rw[h]
theorem aJX{o:HP}{op:df}(hc:cOp P ab o=Qr op){av:AV}(h:evR H ρ op=Qr av)(hw:WF g H w)(hg:bM P ab g)(hs:aX g ρ a.tmps):iK P o a w (iP g H w av):=by
 obtain⟨dst,o,type,pos,after,guard⟩:=o;unfold cOp at hc;dsimp only at hc;split at hc
 ·obtain⟨x,hx,rfl⟩:=map_some hc;simp only[evR,AG]at h;subst h;exact aWs hx hw hg hs
 ·obtain⟨x,hx,rfl⟩:=map_some hc;simp only[evR,AG]at h;subst h;exact aR0 hx hw hg hs
 ·split at hc
  ·rename_i c x y h1 h2 h3;cases hc;simp only[evR]at h;split at h
   ·rename_i t ht;cases h;exact aWt h1 h2 h3 ht hw hg hs
   cases h
  cases hc
 ·split at hc
  ·obtain⟨zs,hz,rfl⟩:=map_some hc;simp[evR]at h
  obtain⟨zs,hz,rfl⟩:=map_some hc;exact aTr hz h hw
 ·split at hc
  ·rename_i n x h1 h2;split at hc
   ·cases hc;simp[evR]at h
   cases hc;exact aZU h2 h hw hg hs
  cases hc
 ·split at hc
  ·rename_i zs fields h1 h2;split at hc
   ·rename_i da;obtain⟨aps,hp,rfl⟩:=map_some hc;exact aON h1 (.inl ⟨fields,h2,da,hp⟩) h hw hg hs
   cases hc
  ·rename_i zs n e h1 h2;split at hc
   ·rename_i k hk;obtain⟨aps,hp,rfl⟩:=map_some hc;exact aON h1 (.inr ⟨n,e,k,h2,hk,hp⟩) h hw hg hs
   cases hc
  cases hc
 ·split at hc
  ·rename_i e ht;split at hc
   ·rename_i k zs ps h1 h2 h3;split at hc
    ·rename_i fj;cases hc;exact aZT ht h1 h2 h3 fj.2.1 fj.2.2.1 fj.2.2.2 h hw hg hs |> fun f=>f
    cases hc
   cases hc
  cases hc
 ·split at hc
  ·rename_i n agg x h1 h2;cases hc;simp only[evR]at h;split at h
   ·rename_i cs ru;exact aWu h2 h1 ru h hw hg hs
   cases h
  cases hc
 ·split at hc
  ·cases hc;simp[evR]at h
  cases hc
 ·obtain⟨x,hx,rfl⟩:=map_some hc;exact aTo hx h hw hg hs
 ·split at hc
  ·rename_i hn;split at hc
   ·obtain⟨x,hx,rfl⟩:=map_some hc;exact aOQ hx hn (.inl ⟨rfl,rfl⟩) h hw hg hs
   ·obtain⟨x,hx,rfl⟩:=map_some hc;exact aOQ hx hn (.inr ⟨rfl,rfl⟩) h hw hg hs
   cases hc
  split at hc
  ·rename_i x y h1 h2;cases hc;exact aZM h1 h2 h hw hg hs
  cases hc
 ·obtain⟨x,hx,rfl⟩:=map_some hc;exact bC8 hx h hw hg hs
 ·split at hc
  ·rename_i c x h1 h2;cases hc;exact aWz h1 h2 h hw hg hs
  cases hc
 ·split at hc
  ·rename_i x y h1 h2;cases hc;exact aZV h1 h2 h hw hg hs
  cases hc
 ·split at hc
  ·rename_i e ht;split at hc
   ·rename_i i zs l c h1 h2 h3 h4;split at hc
    ·rename_i fj;cases hc;exact aZW ht h1 h2 h3 h4 fj.2.1 fj.2.2 h hw hg hs
    cases hc
   cases hc
  cases hc
 ·split at hc
  ·rename_i x lo hi h1 h2 h3 h4 h5;cases hc;cases aND h5;exact aR1 h2 h3 h4 h1 h hw hg hs
  ·rename_i e x lo hi mx h1 h2 h3 h4 h5;split at hc
   ·rename_i k hk;split at hc
    ·split at hc
     ·rename_i sx;have e1:hi=none:=by simpa using sx.2.1
      have e2:mx=none:=by simpa using sx.2.2
      subst e1;subst e2;cases hc;exact aWv h2 h3 h4 h5 h1 hk h hw hg hs
     cases hc;exact aME h2 h3 h4 h5 h1 hk h hw hg hs
    cases hc
   cases hc
  ·rename_i n e x lo hi mx h1 h2 h3 h4 h5;split at hc
   ·rename_i k hk;split at hc
    ·cases hc;exact aR2 h2 h3 h4 h5 h1 hk h hw hg hs
    cases hc
   cases hc
  cases hc
 ·split at hc
  ·rename_i fields x h1 h2;split at hc
   ·rename_i fd Dp;split at hc
    ·rename_i n hn;cases hc;exact bC9 h2 h1 Dp hn h hw hg hs
    cases hc
   cases hc
  cases hc
 ·split at hc
  ·rename_i fields x h1 h2;split at hc
   ·rename_i fd Dp;split at hc
    ·rename_i n agg hn;cases hc;exact aZN h2 h1 Dp hn h hw hg hs
    cases hc
   cases hc
  cases hc
 ·split at hc
  ·rename_i n e x i h1 h2 h3;split at hc
   ·rename_i k hk;cases hc;exact aZP h2 h3 h1 hk h hw hg hs
   cases hc
  ·rename_i e x i h1 h2 h3;split at hc
   ·rename_i k hk;split at hc
    ·cases hc;exact aZO h2 h3 h1 hk h hw hg hs
    cases hc
   cases hc
  cases hc
 ·split at hc
  ·rename_i n e x i h1 h2 h3;split at hc
   ·rename_i k agg hk;cases hc;exact aZR h2 h3 h1 hk h hw hg hs
   cases hc
  ·rename_i x i h1 h2 h3;cases hc;exact aZQ h2 h3 h1 h hw hg hs
  cases hc
 ·obtain⟨x,hx,rfl⟩:=map_some hc;exact aZS hx h hw hg hs
 ·split at hc
  ·cases hc
  ·rename_i d hn hd;obtain⟨x,hx,rfl⟩:=map_some hc;exact aTq hd (fun ms e=>hn ms e) hx h hw hg hs
  cases hc
 ·cases hc;simp[evR]at h
 ·split at hc
  ·split at hc
   ·cases hc;simp[evR]at h
   cases hc
  cases hc
 ·split at hc
  ·rename_i kt et ht;split at hc
   ·rename_i K z m k hk hz h1 h2;cases hc;exact aWA ht hk hz h1 h2 h hw hg hs
   cases hc
  cases hc
 ·split at hc
  ·rename_i x t h1 h2;obtain⟨X,rfl,hx⟩:=aJV h1;cases aNE h2;split at hc
   ·rename_i ht;cases hc;exact aWw hx ht h hw hg hs
   ·rename_i e ht;cases hc;exact aWx hx ht h hw hg hs
   ·rename_i n e ht;cases hc;simp only[evR,AG]at h;subst h;exact aWy ht hw
   cases hc
  ·repeat' split at hc
   all_goals first | (cases hc;done)|(cases hc;simp[evR]at h)
  ·repeat' split at hc
   all_goals first | (cases hc;done)|(cases hc;simp[evR]at h)
  ·rename_i xs h1;cases hc;exact bBp (mx:=Qt) h1 h hw hg hs
  ·rename_i xs h1;cases hc;exact bBp (mx:=Qu) h1 h hw hg hs
  cases hc
 ·split at hc
  ·cases hc;simp[evR]at h
  cases hc
 ·split at hc
  ·cases hc;split at h<;>simp[evR]at h
  cases hc
 cases hc
end
section
variable {P:CU}{ab:cu}{g:G}{H:LO}{w:BL}{ρ:LA}{a:Act}
variable {dst:Option Tmp}{type:BP}{pos:String}{after:Array OO}{guard:Option (Nat×Bool)}
def aA8(P:CU)(o:HP)(a:Act)(w:BL)(R:BE->BL->Prop):Prop:=
 (∃v w',(execOp a.eval o).run P w=.ok (.value v) w'/\R v w')∨(∃w',(execOp a.eval o).run P w=.ok .skip w'/\R EE w') ∨
 (∃f args w1,(execOp a.eval o).run P w=.ok (.enter f args) w1/\Calls P f args w1 fun e w'=>match e with | .returned v=>R v w' | _=>False) ∨
 (∃l f tmps assign body w1,(execOp a.eval o).run P w=.ok (.round l f tmps assign body) w1/\RoundIn FJ 0 P l f tmps assign body w1 fun e w'=>match e with | .returned v=>R v w' | _=>False)
def fr(r:Option Nat):Fence:={ FJ with round:=r }
theorem aA8.E9{o:HP}{R:BE->BL->Prop}(h:aA8 P o a w R)(c:Call):o.op≠.defer c:=fun e=>by
 have mn:(execOp a.eval o).run P w=(Sem.run P (resolve a.eval c o.type) w).andThen fun d w'=>.ok (.defer d) w':=by obtain⟨dst,op,ty,pos,after,guard⟩:=o;simp only at e;subst e;simp only[execOp,BS,CB]
 rcases h with⟨v,w',hr,_⟩ | ⟨w',hr,_⟩ | ⟨f,args,w1,hr,_⟩ | ⟨l,f,t,b,c',w1,hr,_⟩ <;>
 ·rw[mn]at hr;cases hq:Sem.run P (resolve a.eval c o.type) w with
  |ok d w2=>rw[hq]at hr;simp[DL]at hr
  |halt x w2=>rw[hq]at hr;simp[DL]at hr
theorem aA8.wp{o:HP}{R:BE->BL->Prop}(h:aA8 P o a w R){next:Act->BL->Prop}{Q:Exit->Act->BL->Prop}(hn:∀v w',R v w'->next (a.put o.dst v) w'):∀{r:Option Nat},o.wpIn (fr r) 0 P a w next Q:=by
 intro r;have Ci:=h.E9;have Dq:o.semAt (fr r).round a.eval=execOp a.eval o:=by
  cases r with
  |none=>rfl
  |some l=>exact Oper.semAt_some l a.eval o Ci
 refine⟨fun _ _=>trivial, ?_⟩;rw[Dq];rcases h with⟨v,w',hr,hR⟩ | ⟨w',hr,hR⟩ | ⟨f,args,w1,hr,hR⟩ | ⟨l,f,t,b,c,w1,hr,hR⟩
 ·rw[hr];exact hn v w' hR
 ·rw[hr];exact hn _ w' hR
 ·rw[hr];refine⟨fun h=>(by simp[fr,FJ]at h), ?_⟩;have h1:CallsIn FJ (0 - 1) P f args w1 _:=callsIn_wide.2 hR;refine CallsIn.mono (F:=fr r) h1 fun e w' he=>?_;cases e with
  |returned v=>exact hn v w' he
  |panicked c=>exact he.elim
  |outgrown=>exact he.elim
 rw[hr];refine⟨fun h=>(by simp[fr,FJ]at h), ?_⟩;refine RoundIn.mono (F:=fr r) hR fun e w' he=>?_;cases e with
 |returned v=>exact hn v w' he
 |panicked c=>exact he.elim
 |outgrown=>exact he.elim
theorem iK.X8{o:HP}{R:BE->BL->Prop}(h:iK P o a w R):aA8 P o a w R:=.inl h
theorem lE(b:Nat):∀(vs:List BE) (o:Nat) (w:BL),(w.setCells b o vs).heap.size=w.heap.size/\∀b',b'≠b->(w.setCells b o vs).heap[b']? = w.heap[b']?
 | [],_,_=>⟨rfl,fun _ _=>rfl⟩
 |v::r,o,w=>by
  obtain⟨h1,h2⟩:=lE b r (o+1) (w.setCell ⟨b,o,Qs⟩ v);refine⟨by rw[IZ,h1,World.size_setCell],fun b' hb=>?_⟩;rw[IZ,h2 b' hb];simp[FR,DJ,Ne.symm hb]
theorem tO(b:Nat):∀(vs:List BE) (o:Nat) (w:BL) (cs:Array BE) (t:BP) (fz:Nat×Nat),w.heap[b]? = Qr (.cells cs t fz)->∃cs',(w.setCells b o vs).heap[b]? = Qr (.cells cs' t fz)/\cs'.size=cs.size
 | [],_,_,cs,_,_,h=>⟨cs,h,rfl⟩
 |v::r,o,w,cs,t,fz,h=>by
  have h1:(w.setCell ⟨b,o,Qs⟩ v).heap[b]? = Qr (.cells (cs.setIfInBounds o v) t fz):=by simp[FR,DJ,h]
  obtain⟨cs',h2,h3⟩:=tO b r (o+1) _ _ t fz h1;exact⟨cs',h2,by rw[h3];simp⟩
theorem aNF{w:BL}{b:Nat}{cs:Array BE}{t:BP}(h:w.heap[b]? = Qr (.cells cs t (0,0))):aQV w b:=fun j _=>by
 simp[OS,h]
theorem ai.js{v:AV}{x:BE}(h:ai g v x)(hok:v.ak=Qt):x.oneCell'=true:=by cases h<;>first | rfl | (simp[AV.ak]at hok)
theorem fU.js{vs:LA}{xs:List BE}(h:fU g vs xs)(hok:vs.all AV.ak=Qt):∀x∈xs,x.oneCell'=true:=by
 intro x hx;obtain⟨i,hi⟩:=CO.1 hx;have hlt:i<vs.length:=by rw[h.1];exact (AH.1 hi).1
 exact (h.2 i vs[i] x (by simp[hlt]) hi).js (AO.1 hok _ (AS hlt))
theorem vG(w:BL)(a:Addr)(v:BE):(w.setCell a v).os=w.os/\(w.setCell a v).output=w.output:=by unfold FR;split<;>exact⟨rfl,rfl⟩
theorem nY(b:Nat):∀(vs:List BE) (off:Nat) (w:BL),(w.setCells b off vs).os=w.os/\(w.setCells b off vs).output=w.output
 | [],_,_=>⟨rfl,rfl⟩
 |v::vs,off,w=>by
  have h1:=vG w ⟨b,off,Qs⟩ v;have h2:=nY b vs (off+1) (w.setCell ⟨b,off,Qs⟩ v);exact⟨h2.1.trans h1.1,h2.2.trans h1.2⟩
theorem Step.write(hw:WF g H w){o:Nat}{l:Loc}{x x':ah}(hb:au g H o l x){off:Nat}{xs:List BE} (nn:x'.ver=x.ver) (j8:x'.alive=Qt) (la:aBw g (w.setCells l.b off xs) l x'):Step g H w g (H.set o x') (w.setCells l.b off xs) [o]:=by
 obtain⟨h1,h2⟩:=lE l.b xs off w;have hg:g.setObj o l=g:=by
  cases g with
  |mk p ob wh io=>
   have:=hb.loc;simp only[G.setObj,G.mk.injEq,true_and,and_true];funext o';by_cases e:o'=o
   ·subst e;simpa using this.symm
   simp[e]
 have:=Step.update (w':=w.setCells l.b off xs) hw o x' l (hw.lt o l hb.loc) (by rw[h1];exact AQ _)
  (fun b _ bl=>h2 b (Ne.symm (bl l x hb))) (by rw[h1];exact hw.blk o l hb.loc) (.inr ⟨l,x,hb,rfl⟩) (by rw[nn];exact hb.st) j8
  (fun l0 h0=>by rw[hb.loc]at h0;cases h0;exact⟨AQ _,fun _=>⟨AQ _,fun _=>rfl⟩⟩)
  (fun _=>by rw[hg];exact la) (nY _ _ _ _)
 rwa [hg]at this
theorem fF(hw:WF g H w){vs:LA}{pv:AV}{H':LO}{wr:LN}(h:storeCells H vs pv=Qr (H',wr)){x:BE}(hx:ai g pv x) {xs:List BE} (hl:fU g vs xs):∃b off,x=.pointer (Qr ⟨b,off,Qs⟩)/\(∀j,j<xs.length->(w.cell? ⟨b,off+j,Qs⟩).isSome=Qt)/\(∀j,j<xs.length->w.frozen? ⟨b,off+j,Qs⟩=Qu) /\ Step g H w g H' (w.setCells b off xs) wr:=by
 cases hx with
 |ptr o v off l ad gr hv hh=>
  simp only[storeCells]at h;split at h
  ·rename_i v' cells hH;split at h
   ·rename_i hc;simp only[AG,BK]at h;obtain⟨rfl,rfl⟩:=h;obtain⟨rfl,ax⟩:=hc;have bd:l.st=v':=by
     have:=hw.st o _ l hH gr;simp only[ah.ver]at this;omega
    have hb:au g H o l (.box v' cells):=⟨hH,rfl,gr,bd⟩;obtain⟨h0,dr,bc⟩:=hw.obj o l _ hb;have ha:=hh bd h0;subst ha;have iv:∀j,j<xs.length->(w.cell? ⟨l.b,off+j,Qs⟩).isSome=true:=fun j hj=>by
     have:=hl.1;obtain⟨y,hy,_⟩:=bc (off+j) (cells[off+j]'(by omega)) (by simp);rw[hy];rfl
    refine⟨l.b,off,rfl,iv,fun j hj=>dr _ (iv j hj),Step.write hw hb rfl rfl ⟨h0,fun j hj=>?_,fun j c hc=>?_⟩⟩
    ·rw[EI];refine dr j ?_;by_cases hr:off<=j/\j<off+xs.length
     ·have:=iv (j - off) (by omega)
      rwa [show off+(j - off)=j by omega]at this
     rwa [BV l.b xs off w ⟨l.b,j,Qs⟩ (fun _ _=>by simp;omega)]at hj
    rw[wT _ _ _ ax]at hc;have Dr:=hl.1;by_cases hr:off<=j/\j<off+vs.length
    ·rw[Zy hr]at hc;have:=CQ l.b xs off w iv (j - off) (by omega);rw[show off+(j - off)=j by omega]at this;exact⟨_,this,hl.2 (j - off) c _ hc (by simp)⟩
    rw[Zx hr]at hc;obtain⟨y,hy,pw⟩:=bc j c hc;exact⟨y,by rw[BV l.b xs off w ⟨l.b,j,Qs⟩ (fun _ _=>by simp;omega)];exact hy,pw⟩
   cases h
  ·rename_i v' ty cells hH;split at h
   ·rename_i hc;simp only[AG,BK]at h;obtain⟨rfl,rfl⟩:=h;obtain⟨rfl,ax⟩:=hc;have bd:l.st=v':=by
     have:=hw.st o _ l hH gr;simp only[ah.ver]at this;omega
    have hb:au g H o l (.cw v' ty cells):=⟨hH,rfl,gr,bd⟩;obtain⟨h0,⟨cs,ld,ru⟩,bc⟩:=hw.obj o l _ hb;have dr:aQV w l.b:=aNF ld;have ha:=hh bd h0;subst ha;have iv:∀j,j<xs.length->(w.cell? ⟨l.b,off+j,Qs⟩).isSome=true:=fun j hj=>by
     have:=hl.1;obtain⟨y,hy,_⟩:=bc (off+j) (cells[off+j]'(by omega)) (by simp);rw[hy];rfl
    refine⟨l.b,off,rfl,iv,fun j hj=>dr _ (iv j hj),Step.write hw hb rfl rfl ⟨h0, ?_,fun j c hc=>?_⟩⟩
    ·obtain⟨cs',h1,h2⟩:=tO l.b xs off w cs ty (0,0) ld;exact⟨cs',h1,by rw[h2,ru,aC7 _ _ _ ax]⟩
    rw[wT _ _ _ ax]at hc;have Dr:=hl.1;by_cases hr:off<=j/\j<off+vs.length
    ·rw[Zy hr]at hc;have:=CQ l.b xs off w iv (j - off) (by omega);rw[show off+(j - off)=j by omega]at this;exact⟨_,this,hl.2 (j - off) c _ hc (by simp)⟩
    rw[Zx hr]at hc;obtain⟨y,hy,pw⟩:=bc j c hc;exact⟨y,by rw[BV l.b xs off w ⟨l.b,j,Qs⟩ (fun _ _=>by simp;omega)];exact hy,pw⟩
   cases h
  cases h
 |vp o v n k1 i off l ad gr hv hn hh=>
  simp only[storeCells]at h;split at h
  ·rename_i v' k rows hH;split at h
   ·rename_i hc;obtain⟨rfl,ax,rfl⟩:=hc;split at h
    ·rename_i row cn;split at h
     ·rename_i sx;simp only[AG,BK]at h;obtain⟨rfl,rfl⟩:=h;have bd:l.st=v':=by
       have:=hw.st o _ l hH gr;simp only[ah.ver]at this;omega
      have hb:au g H o l (.vec v' k rows):=⟨hH,rfl,gr,bd⟩;obtain⟨h0,ow,cm,dr,hk,eh,bc⟩:=hw.obj o l _ hb;have ha:=hh bd (by omega);subst ha;have Hr:=hl.aj;have Dr:=Hr.1;simp only[AF]at Dr;have hi:i<rows.length:=(AH.1 cn).1;have yg:=hk row (AN cn);have iv:∀j,j<xs.length->(w.cell? ⟨l.b,i*k+off+j,Qs⟩).isSome=true:=fun j hj=>by
       rw[Nat.add_assoc];obtain⟨_,y,hy,_⟩:=bc i (off+j) row (row[off+j]'(by omega)) cn (by simp);rw[hy];rfl
      refine⟨l.b,i*k+off,rfl,iv,fun j hj=>dr _ (iv j hj),Step.write hw hb rfl rfl ⟨by simpa using h0,ow,by simpa using cm,fun j hj=>?_,fun r hr=>?_,fun j hj=>?_,fun i' j r c h1 h2=>?_⟩⟩
      ·rw[EI];refine dr j ?_;by_cases hr:i*k+off<=j/\j<i*k+off+xs.length
       ·have:=iv (j - (i*k+off)) (by omega)
        rwa [show i*k+off+(j - (i*k+off))=j by omega]at this
       rwa [BV l.b xs (i*k+off) w ⟨l.b,j,Qs⟩ (fun _ _=>by simp;omega)]at hj
      ·rcases GI hr with pw | rfl
       ·exact hk r pw
       rw[aC7 _ _ _ (by simpa using sx.1)];exact yg
      ·by_cases hr:i*k+off<=j/\j<i*k+off+xs.length
       ·have:=CQ l.b xs (i*k+off) w iv (j - (i*k+off)) (by omega);rw[show i*k+off+(j - (i*k+off))=j by omega]at this;rw[this];rfl
       rw[BV l.b xs (i*k+off) w ⟨l.b,j,Qs⟩ (fun _ _=>by simp;omega)];exact eh j hj
      by_cases e:i'=i
      ·subst e;simp[hi]at h1;subst h1;rw[wT _ _ _ (by simpa using sx.1)]at h2;simp only[AF]at h2;by_cases hr:off<=j/\j<off+vs.length
       ·rw[Zy hr]at h2;have:=CQ l.b xs (i'*k+off) w iv (j - off) (by omega);rw[show i'*k+off+(j - off)=i'*k+j by omega]at this;exact⟨AO.1 sx.2 c (AN h2),_,this,Hr.2 (j - off) c _ h2 (by simp)⟩
       rw[Zx hr]at h2;obtain⟨hs,y,hy,pw⟩:=bc i' j row c cn h2;exact⟨hs,y,by rw[BV l.b xs (i'*k+off) w ⟨l.b,i'*k+j,Qs⟩ (fun _ _=>by simp;omega)];exact hy,pw⟩
      rw[getElem?_set_ne' _ _ (Ne.symm e)]at h1;obtain⟨hs,y,hy,pw⟩:=bc i' j r c h1 h2;refine⟨hs,y, ?_,pw⟩;rw[BV l.b xs (i*k+off) w ⟨l.b,i'*k+j,Qs⟩ (fun _ _=>?_)]
      ·exact hy
      have hj:j<k:=by have:=(AH.1 h2).1;have:=hk r (AN h1);omega
      by_cases hlt:i'*k+j<i*k+off
      ·exact .inl hlt
      by_cases nj:i*k+off+xs.length<=i'*k+j
      ·exact .inr nj
      exfalso;have zd:i'*k+j - i*k<k:=by have:=sx.1;omega
      exact e (aMF (j:=j) (j':=i'*k+j - i*k) hj zd (by omega)).1
     cases h
    cases h
   cases h
  cases h
 |_=>simp[storeCells]at h
theorem aTt{t:BP}{n:Nat}{X V:CA}{x v:aa}(ht:size? P t=Qr n)(hx:fA ab X=Qr x)(hv:fA ab V=Qr v){call:Nat->LA->LO->Out}{site:Option Nat} {av:AV} {H':LO} {wr:LN} (h:evW call H ρ site (.store n x v)=Qr (av,H',wr)) (hw:WF g H w) (hg:bM P ab g) (hs:aX g ρ a.tmps):aA8 P ⟨dst,.store t X V,type,pos,after,guard⟩ a w fun v w'=>∃g',Step g H w g' H' w' wr/\ai g' av v:=by
 simp only[evW]at h;split at h
 ·rename_i hc;split at h
  ·rename_i H1 dc bd;cases h;have hl:=(aQ hv hg hs).cells hc.2;obtain⟨b,off,ex,iv,my,bn⟩:=fF hw bd (aQ hx hg hs) hl;have cl:=GH (P:=P) b off (a.eval V).cells.toList 0 w (by simpa using iv) (by simpa using my) (hl.js hc.2);have gd:(a.eval V).cells.size=n:=by have:=hl.1;simp at this;omega
   refine .inr (.inl ⟨_, ?_,g,bn,.undef _⟩);simp only[execOp,ex,Instr.storeAt,BS,Instr.sureAddr,CB,BJ,storeVar,fV ht,gd,ne_eq,not_true_eq_false,Zu,cl,DU]
  cases h
 cases h
end
section
variable {P:CU}{ab:cu}{g:G}{H:LO}{w w':BL}{ρ:LA}{a:Act}
variable {dst:Option Tmp}{type:BP}{pos:String}{after:Array OO}{guard:Option (Nat×Bool)}
theorem Step.newObj(hw:WF g H w){id:Nat}(hid:id<H.length){c:Array BE}{t:BP}(e:w'.heap=w.heap.push (.cells c t)){l':Loc}(hb:l'.b=w.heap.size)(bd:l'.st=bH H id) {x':ah} (nn:x'.ver=bH H id) (j8:x'.alive=Qt) (la:g.le (g.setObj id l')->aBw (g.setObj id l') w' l' x') (io:w'.os=w.os/\w'.output=w.output:=by exact⟨rfl,rfl⟩):Step g H w (g.setObj id l') (H.set id x') w' [id]:=by
 refine Step.update hw id x' l' hid (by rw[e];simp) (fun b du _=>cK e du) (by rw[e,hb];simp) (.inl (by omega)) (by omega) j8 (fun l hl=>?_) la io;have hx:H[id]? = Qr H[id]:=by simp[hid]
 have:=hw.st id _ l hx hl;have hv:bH H id=H[id].ver+1:=by simp[bH,hid]
 omega
theorem kD{c:Array BE}{t:BP}(e:w'.heap=w.heap.push (.cells c t))(j:Nat):w'.cell? ⟨w.heap.size,j,Qs⟩=c[j]? := by simp[EF,e]
theorem wV{c:Array BE}{t:BP}(e:w'.heap=w.heap.push (.cells c t)):aQV w' w.heap.size:=fun j _=>by
 simp[OS,e]
theorem Step.r7(hw:WF g H w){id:Nat}(hid:id<H.length){c:Array BE}{t:BP}(e:w'.heap=w.heap.push (.cells c t)){cs:LA}(hl:fU g cs c.toList)(io:w'.os=w.os/\w'.output=w.output:=by exact⟨rfl,rfl⟩):∃g',Step g H w g' (make H id (.box · cs)) w' [id]/\ai g' (.ptr id (bH H id) 0) (.pointer (Qr ⟨w.heap.size,0,Qs⟩)):=by
 refine⟨g.setObj id ⟨w.heap.size,bH H id,0,0,0⟩,Step.newObj hw hid e rfl rfl rfl rfl (fun hle=>⟨rfl,wV e,fun j a ha=>?_⟩) io, ?_⟩
 ·have hj:j<cs.length:=(AH.1 ha).1;have ax:=hl.1;simp at ax;rw[kD e];exact⟨c[j]'(by omega),by simp,(hl.2 j a _ ha (by simp)).mono hle⟩
 exact .ptr id _ 0 _ _ (by simp[G.setObj];rfl) (AQ _) fun _ _=>rfl
theorem Step.ry(hw:WF g H w){id:Nat}(hid:id<H.length){c:Array BE}{t:BP}(e:w'.heap=w.heap.push (.cells c t)){k cap:Nat}{rows:List LA} (hr:bz g k rows (c.toList.take (rows.length*k))) (bd:rows.all (fun r=>r.all AV.ak)=Qt) (cm:rows.length<=cap) (gd:c.size=cap*k) (io:w'.os=w.os/\w'.output=w.output:=by exact⟨rfl,rfl⟩):∃g',Step g H w g' (make H id (.vec · k rows)) w' [id]/\ai g' (.sr id (bH H id) rows.length) (.slice (Qr ⟨w.heap.size,0,Qs⟩) rows.length cap):=by
 refine⟨g.setObj id ⟨w.heap.size,bH H id,rows.length,k,cap⟩,Step.newObj hw hid e rfl rfl rfl rfl (fun hle=>⟨rfl,rfl,cm,wV e,hr.row,fun j hj=>?_,fun i j row a h1 h2=>?_⟩) io, ?_⟩
 ·rw[kD e];have:j<c.size:=by rw[gd];exact hj
  simp[this]
 ·have hi:i<rows.length:=(AH.1 h1).1;have hj:j<row.length:=(AH.1 h2).1;have nh:j<k:=by rw[<- hr.row row (AN h1)];exact hj
  have hlt:=eV hi nh;have Ds:rows.length*k<=cap*k:=BO _ cm;have hs:=AO.1 (AO.1 bd row (AN h1)) a (AN h2);rw[kD e];refine⟨hs,c[i*k+j]'(by omega),by simp,(hr.rel i j row a _ h1 h2 ?_).mono hle⟩;rw[CF,Zy hlt];simp
 exact .sr id _ _ _ _ _ (by simp[G.setObj];rfl) (AQ _) (fun _=>AQ _) (by first | assumption | omega) fun _ _=>⟨rfl,rfl⟩
theorem Step.yk(hw:WF g H w){id:Nat}(hid:id<H.length){c:Array BE}{t:BP}(e:w'.heap=w.heap.push (.cells c t)){k cap:Nat}{rows:List LA} (hr:bz g k rows (c.toList.take (rows.length*k))) (bd:rows.all (fun r=>r.all AV.ak)=Qt) (cm:rows.length<=cap) (gd:c.size=cap*k) (io:w'.os=w.os/\w'.output=w.output:=by exact⟨rfl,rfl⟩):∃g',Step g H w g' (make H id (.gl · t k rows)) w' [id]/\ai g' (.sr id (bH H id) rows.length) (.slice (Qr ⟨w.heap.size,0,Qs⟩) rows.length cap):=by
 refine⟨g.setObj id ⟨w.heap.size,bH H id,rows.length,k,cap⟩,Step.newObj hw hid e rfl rfl rfl rfl (fun hle=>⟨⟨rfl,rfl,cm,wV e,hr.row,fun j hj=>?_,fun i j row a h1 h2=>?_⟩,c,by rw[e];simp⟩) io, ?_⟩
 ·rw[kD e];have:j<c.size:=by rw[gd];exact hj
  simp[this]
 ·have hi:i<rows.length:=(AH.1 h1).1;have hj:j<row.length:=(AH.1 h2).1;have nh:j<k:=by rw[<- hr.row row (AN h1)];exact hj
  have hlt:=eV hi nh;have Ds:rows.length*k<=cap*k:=BO _ cm;have hs:=AO.1 (AO.1 bd row (AN h1)) a (AN h2);rw[kD e];refine⟨hs,c[i*k+j]'(by omega),by simp,(hr.rel i j row a _ h1 h2 ?_).mono hle⟩;rw[CF,Zy hlt];simp
 exact .sr id _ _ _ _ _ (by simp[G.setObj];rfl) (AQ _) (fun _=>AQ _) (by first | assumption | omega) fun _ _=>⟨rfl,rfl⟩
theorem aTu{t:BP}{zs:LA}(hz:zeroCells? P ab t=Qr zs){call:Nat->LA->LO->Out}{site:Option Nat} {av:AV} {H':LO} {wr:LN} (h:evW call H ρ site (.alloc zs)=Qr (av,H',wr)) (hw:WF g H w):aA8 P ⟨dst,.alloc t,type,pos,after,guard⟩ a w fun v w'=>∃g',Step g H w g' H' w' wr/\ai g' av v:=by
 simp only[evW]at h;split at h
 ·rename_i id;split at h
  ·rename_i hid;cases h;obtain⟨it,z,hi,tq,ub⟩:=zeroCells?_spec hz;obtain⟨g',h1,h2⟩:=Step.r7 (w':=w.alloc (.cells z.cells t)) hw hid (c:=z.cells) (t:=t) rfl (ub g);exact .inl ⟨.pointer (Qr ⟨w.heap.size,0,Qs⟩),w.alloc (.cells z.cells t),by simp[execOp,Pz,zeroValue,typeInfo,hi,tq,newVar,newRow],g',h1,h2⟩
  cases h
 cases h
theorem aR3{t:BP}{zs:LA}(hz:zeroCells? P ab t=Qr zs){call:Nat->LA->LO->Out}{site:Option Nat} {av:AV} {H':LO} {wr:LN} (h:evW call H ρ site (.gv t zs)=Qr (av,H',wr)) (hw:WF g H w):aA8 P ⟨dst,.alloc t,type,pos,after,guard⟩ a w fun v w'=>∃g',Step g H w g' H' w' wr/\ai g' av v:=by
 simp only[evW]at h;split at h
 ·rename_i id;split at h
  ·rename_i hid;cases h;obtain⟨it,z,hi,tq,ub⟩:=zeroCells?_spec hz;have e:(w.alloc (.cells z.cells t)).heap=w.heap.push (.cells z.cells t):=rfl;have hl:=ub g;have hs:=Step.newObj (w':=w.alloc (.cells z.cells t)) (l':=⟨w.heap.size,bH H id,0,0,0⟩) (x':=.cw (bH H id) t zs) hw hid e rfl rfl rfl rfl (fun hle=>⟨rfl,⟨z.cells,by rw[e];simp,by simpa using hl.1.symm⟩,fun j a ha=>by
    have hj:j<zs.length:=(AH.1 ha).1;have ax:=hl.1;simp at ax;rw[kD e];exact⟨z.cells[j]'(by omega),by simp,(hl.2 j a _ ha (by simp)).mono hle⟩⟩)
   exact .inl ⟨.pointer (Qr ⟨w.heap.size,0,Qs⟩),w.alloc (.cells z.cells t),by simp[execOp,Pz,zeroValue,typeInfo,hi,tq,newVar,newRow],_,hs,.ptr id _ 0 _ _ (by simp[G.setObj];rfl) (AQ _) fun _ _=>rfl⟩
  cases h
 cases h
theorem aZX{t:BP}{n:Nat}{X:CA}{x:aa}(hx:fA ab X=Qr x){call:Nat->LA->LO->Out}{site:Option Nat} {av:AV} {H':LO} {wr:LN} (h:evW call H ρ site (.box n x)=Qr (av,H',wr)) (hw:WF g H w) (hg:bM P ab g) (hs:aX g ρ a.tmps):aA8 P ⟨dst,.box t X,type,pos,after,guard⟩ a w fun v w'=>∃g',Step g H w g' H' w' wr/\ai g' av v:=by
 simp only[evW]at h;split at h
 ·rename_i id;split at h
  ·rename_i hc;cases h;have hl:=(aQ hx hg hs).cells hc.2.2;obtain⟨g',h1,h2⟩:=Step.r7 (w':=w.alloc (.cells (a.eval X).cells t)) hw hc.1 (c:=(a.eval X).cells) (t:=t) rfl hl;exact .inl ⟨.pointer (Qr ⟨w.heap.size,0,Qs⟩),w.alloc (.cells (a.eval X).cells t),by simp[execOp,PU,newVar,newRow],g',h1,h2⟩
  cases h
 cases h
theorem aZY{t:BP}{n:Nat}{X:CA}{x:aa}(hx:fA ab X=Qr x){call:Nat->LA->LO->Out}{site:Option Nat} {av:AV} {H':LO} {wr:LN} (h:evW call H ρ site (.tbx t n x)=Qr (av,H',wr)) (hw:WF g H w) (hg:bM P ab g) (hs:aX g ρ a.tmps):aA8 P ⟨dst,.box t X,type,pos,after,guard⟩ a w fun v w'=>∃g',Step g H w g' H' w' wr/\ai g' av v:=by
 simp only[evW]at h;split at h
 ·rename_i id;split at h
  ·rename_i hc;cases h;have hl:=(aQ hx hg hs).cells hc.2.2;have e:(w.alloc (.cells (a.eval X).cells t)).heap=w.heap.push (.cells (a.eval X).cells t):=rfl;have hs:=Step.newObj (w':=w.alloc (.cells (a.eval X).cells t)) (l':=⟨w.heap.size,bH H id,0,0,0⟩) (x':=.cw (bH H id) t (x.ev ρ).cells) hw hc.1 e rfl rfl rfl rfl (fun hle=>⟨rfl,⟨(a.eval X).cells,by rw[e];simp,by simpa using hl.1.symm⟩,fun j c ha=>by
    have hj:j<(x.ev ρ).cells.length:=(AH.1 ha).1;have ax:=hl.1;simp at ax;rw[kD e];exact⟨(a.eval X).cells[j]'(by omega),by simp,(hl.2 j c _ ha (by simp)).mono hle⟩⟩)
   exact .inl ⟨.pointer (Qr ⟨w.heap.size,0,Qs⟩),w.alloc (.cells (a.eval X).cells t),by simp[execOp,PU,newVar,newRow],_,hs,.ptr id _ 0 _ _ (by simp[G.setObj];rfl) (AQ _) fun _ _=>rfl⟩
  cases h
 cases h
theorem aZZ{t e:BP}{i:OH}{L C:CA}{l c:aa}{zs:LA}(ht:P.underlying t=Qr (.slice e))(hi:P.info? e=Qr i)(hz:zeroCells? P ab e=Qr zs)(hL:fA ab L=Qr l)(hC:fA ab C=Qr c) (O1:zs.length=i.size) (bd:zs.all AV.still=Qt) {call:Nat->LA->LO->Out} {site:Option Nat} {av:AV} {H':LO} {wr:LN} (h:evW call H ρ site (.mks i.size i.bytes zs l c)=Qr (av,H',wr)) (hw:WF g H w) (hg:bM P ab g) (hs:aX g ρ a.tmps):aA8 P ⟨dst,.makeSlice t L C,type,pos,after,guard⟩ a w fun v w'=>∃g',Step g H w g' H' w' wr/\ai g' av v:=by
 simp only[evW]at h;have gu:=aQ hL hg hs;have X7:=aQ hC hg hs;split at h
 ·rename_i k1 n k2 m e1 e2;rw[e1]at gu;rw[e2]at X7;have el:=gu.di;have ec:=X7.di;split at h
  ·rename_i fj;obtain⟨h0,rfl,ed⟩:=fj;obtain⟨it,z,nr,tq,ub⟩:=zeroCells?_spec hz;rw[hi]at nr;cases nr;obtain⟨n',rfl⟩:=DN h0;simp only[bP,decide_eq_true_eq,AT]at ed;have fo:n'*i.bytes<=n'*(i.bytes+1):=JC _ (by omega);have dp:n'<=n'*(i.bytes+1):=IC _ (by omega);have qd:AR.wrap (n':Int)=(n':Int):=by
    unfold GA;simp only[LK,KC];have:((n':Int) % 2 ^ 64)=n':=NT (by omega) (by omega);simp;omega
   have q9:(i.bytes:Int)*(n':Int)<=281474976710656:=by
    have:((i.bytes*n':Nat):Int)=(i.bytes:Int)*(n':Int):=by simp
    rw[<- this,HJ];omega
   have cl:(EX t (.int k1 n') (.int k2 n')).run P w=.ok (.slice (Qr ⟨w.heap.size,0,Qs⟩) n' n') (w.alloc (.cells ((CV (n'*i.size)).map (z.cells[· % z.cells.size]!)) e)):=by
    have lx:¬((n':Int)<0):=by omega
    have xh:¬((i.bytes:Int)*(n':Int)>281474976710656):=by omega
    by_cases me:n'*i.size=0
    ·simp[EX,BH ht,asInt,asIntOf,typeInfo,hi,qd,lx,xh,sizeOf,me,newRow,NF]
    simp[EX,BH ht,asInt,asIntOf,typeInfo,hi,qd,lx,xh,sizeOf,me,zeroValue,tq,newRow]
   have yj:bz g i.size (AX n' (zs.map AV.aj)) (((CV (n'*i.size)).map (z.cells[· % z.cells.size]!)).toList):=aFx (ub g).aj (by simpa using O1);have oz:(AX n' (zs.map AV.aj)).all (fun r=>r.all AV.still)=true:=by rw[AO];intro r hm;rw[(GS.1 hm).2];exact jN bd
   have tu:(AX n' (zs.map AV.aj)).length=n':=by simp
   have gm:(((CV (n'*i.size)).map (z.cells[· % z.cells.size]!)).toList).take ((AX n' (zs.map AV.aj)).length*i.size)=((CV (n'*i.size)).map (z.cells[· % z.cells.size]!)).toList:=
    CH (by simp)
   simp only[AT]at h;split at h
   ·rename_i id;split at h
    ·rename_i hid;cases h;obtain⟨g',h1,h2⟩:=Step.ry (w':=w.alloc (.cells ((CV (n'*i.size)).map (z.cells[· % z.cells.size]!)) e)) hw hid (t:=e) rfl (k:=i.size) (cap:=n') (by rw[gm];exact yj) (vF oz) (by omega) (by simp);rw[tu]at h2;exact .inl ⟨.slice (Qr ⟨w.heap.size,0,Qs⟩) n' n',_,by simp only[execOp,el,ec,BS,cl,BJ,CB],g',h1,h2⟩
    cases h
   cases h;have bn:=Step.ir (w':=w.alloc (.cells ((CV (n'*i.size)).map (z.cells[· % z.cells.size]!)) e)) hw ((CV (n'*i.size)).map (z.cells[· % z.cells.size]!)) e (0,0) rfl;have hv:=ai.rp (f:=Qt) (cap:=n') (b:=w.heap.size) oz (by omega) (fun _=>tu.symm) (by rw[gm];exact yj.mono bn.le);rw[tu]at hv;exact .inl ⟨.slice (Qr ⟨w.heap.size,0,Qs⟩) n' n',_,by simp only[execOp,el,ec,BS,cl,BJ,CB],_,bn,hv⟩
  split at h
  ·rename_i id;split at h
   ·rename_i hc;cases h;obtain⟨rfl,kj,ed,hid⟩:=hc;obtain⟨it,z,nr,tq,ub⟩:=zeroCells?_spec hz;rw[hi]at nr;cases nr;obtain⟨m',rfl⟩:=DN (Int.le_of_lt kj);simp only[bP,decide_eq_true_eq,AT]at ed;have fo:m'*i.bytes<=m'*(i.bytes+1):=JC _ (by omega);have dp:m'<=m'*(i.bytes+1):=IC _ (by omega);have qd:AR.wrap (m':Int)=(m':Int):=by
     unfold GA;simp only[LK,KC];have:((m':Int) % 2 ^ 64)=m':=NT (by omega) (by omega);simp;omega
    have r8:AR.wrap 0=0:=by decide
    have q9:(i.bytes:Int)*(m':Int)<=281474976710656:=by
     have:((i.bytes*m':Nat):Int)=(i.bytes:Int)*(m':Int):=by simp
     rw[<- this,HJ];omega
    have cl:(EX t (.int k1 0) (.int k2 m')).run P w=.ok (.slice (Qr ⟨w.heap.size,0,Qs⟩) 0 m') (w.alloc (.cells ((CV (m'*i.size)).map (z.cells[· % z.cells.size]!)) e)):=by
     have lx:¬((m':Int)<0):=by omega
     have xh:¬((i.bytes:Int)*(m':Int)>281474976710656):=by omega
     by_cases me:m'*i.size=0
     ·simp[EX,BH ht,asInt,asIntOf,typeInfo,hi,qd,r8,lx,xh,sizeOf,me,newRow,NF]
     simp[EX,BH ht,asInt,asIntOf,typeInfo,hi,qd,r8,lx,xh,sizeOf,me,zeroValue,tq,newRow]
    obtain⟨g',h1,h2⟩:=Step.ry (w':=w.alloc (.cells ((CV (m'*i.size)).map (z.cells[· % z.cells.size]!)) e)) hw hid (t:=e) rfl (k:=i.size) (cap:=m') (rows:=[]) ⟨by simp,fun r hr=>by simp at hr,fun i j r c x h=>by simp at h⟩ rfl (Nat.zero_le _) (by simp);exact .inl ⟨.slice (Qr ⟨w.heap.size,0,Qs⟩) 0 m',_,by simp only[execOp,el,ec,BS,cl,BJ,CB],g',h1,h2⟩
   cases h
  cases h
 cases h
end
section
variable {P:CU}{ab:cu}{g:G}{H:LO}{w w':BL}{ρ:LA}{a:Act}
theorem aOR(hw:WF g H w){o:Nat}{l:Loc}{v k:Nat}{rows:List LA}(hb:au g H o l (.vec v k rows))(dq:rows.all (fun r=>r.all AV.still)=Qt):ai (g.bh l.b fun i=>w.cell? ⟨l.b,i,Qs⟩) (.sl Qu rows) (.slice (Qr ⟨l.b,0,Qs⟩) rows.length l.cap):=by
 obtain⟨h0,ow,cm,dr,hk,eh,bc⟩:=hw.obj o l _ hb;have hle:=(Step.gone hw hb).le;refine .sl Qu rows l.b 0 l.cap k cm (by simp) hk (fun row hm=>?_) (fun i j hi hj=>?_) fun i j row c x h1 h2 h3=>?_
 ·obtain⟨i,hi⟩:=CO.1 hm;rw[AO];intro c hc;exact AO.1 (AO.1 dq row hm) c hc
 ·have yg:=hk rows[i] (AS hi);obtain⟨_,y,hy,_⟩:=bc i j rows[i] (rows[i][j]'(by omega)) (by simp[hi]) (by simp);simp only[G.bh,Zv,BC,hy];rfl
 obtain⟨_,y,hy,hr⟩:=bc i j row c h1 h2;simp only[G.bh,Zv,BC,hy,AG]at h3;subst h3;exact hr.mono hle
structure vj(g:G)(H:LO)(g':G)(l:LN):Prop where
 le:g.le g'
 vec:∀o lc v k rows,o∈l->au g H o lc (.vec v k rows)->rows.all (fun r=>r.all AV.still)=Qt->ai g' (.sl Qu rows) (.slice (Qr ⟨lc.b,0,Qs⟩) rows.length lc.cap)
theorem vj.sub{g':G}{l l':LN}(h:vj g H g' l)(hs:∀o∈l',o∈l):vj g H g' l':=⟨h.le,fun o lc v k rows ho=>h.vec o lc v k rows (hs o ho)⟩
theorem iR:∀(l:LN) (g:G) (H:LO),WF g H w->(∀o∈l,(∃lc x,au g H o lc x)∨∃v,H[o]? = Qr (.gone v)) ->∃g',Step g H w g' (dL H l) w l/\vj g H g' l
 | [],g,H,hw,_=>⟨g,.refl hw,G.le.refl g,fun o lc v k rows ho=>by simp at ho⟩
 |o::r,g,H,hw,ho=>by
  have r9:(∃v,H[o]? = Qr (.gone v))∨∃lc x,au g H o lc x:=(ho o (by simp)).symm;rcases r9 with⟨v,hv⟩ | ⟨lc,x,hb⟩
  ·have hlt:o<H.length:=(AH.1 hv).1;have lg:H.set o (.gone ((H[o]?).elim 0 ah.ver))=H:=by
    apply List.ext_getElem?;intro i;by_cases e:i=o
    ·subst e;have hg:H[i]=.gone v:=by have:=hv;simp[hlt]at this;exact this
     simp[hlt,hg,ah.ver]
    rw[getElem?_set_ne' _ _ (Ne.symm e)]
   obtain⟨g',h1,h2⟩:=iR r g H hw fun o' hm=>ho o' (BZ _ hm);refine⟨g', ?_,h2.le,fun o' lc v' k rows hm hb bd=>?_⟩
   ·simp only[dL,lg];exact h1.weaken fun o' hm=>BZ _ hm
   rcases BD.1 hm with rfl | hm
   ·have:=hb.Pr;rw[hv]at this;cases this
   exact h2.vec o' lc v' k rows hm hb bd
  have nn:(H[o]?).elim 0 ah.ver=x.ver:=by rw[hb.Pr];rfl
  have h1:=Step.gone hw hb;have hlt:o<H.length:=hw.lt o lc hb.loc;have yl:∀o' lc' x',o'≠o->au g H o' lc' x'->au (g.bh lc.b fun i=>w.cell? ⟨lc.b,i,Qs⟩) (H.set o (.gone x.ver)) o' lc' x':=fun o' lc' x' bl du=>⟨by rw[getElem?_set_ne' _ _ (Ne.symm bl)];exact du.Pr,du.alive,du.loc,du.st⟩;obtain⟨g',h2,h3⟩:=iR r _ _ h1.wf fun o' hm=>by
   by_cases e:o'=o
   ·subst e;exact .inr ⟨x.ver,by simp[hlt]⟩
   rcases ho o' (BZ _ hm)with⟨lc',x',du⟩ | ⟨v,hv⟩
   ·exact .inl ⟨lc',x',yl o' lc' x' e du⟩
   exact .inr ⟨v,by rw[getElem?_set_ne' _ _ (Ne.symm e)];exact hv⟩
  refine⟨g', ?_,h1.le.trans h3.le,fun o' lc' v k rows hm du bd=>?_⟩
  ·simp only[dL,nn];exact h1.trans h2
  by_cases e:o'=o
  ·subst e;have hl:lc'=lc:=by have:=du.loc;rw[hb.loc]at this;exact (DZ this).symm
   subst hl;exact (aOR hw du bd).mono h3.le
  rcases BD.1 hm with rfl | hm
  ·exact Zw rfl e
  exact h3.vec o' lc' v k rows hm (yl o' lc' _ e du) bd
theorem aFU(hw:WF g H w){v v':AV}{l:LN}(h:aA2 H v=Qr (v',l)){x:BE}(hx:ai g v x):(∀o∈l,∃lc y,au g H o lc y)/\∀g',vj g H g' l->ai g' v' x:=by
 unfold aA2 at h;split at h
 ·rename_i o ve n;split at h
  ·rename_i v0 k rows hH;split at h
   ·rename_i hc;cases h;obtain⟨rfl,ax,dq⟩:=hc;cases hx with
    |sr o v n lc b cap hl hv hn jg hh=>
     have bd:lc.st=v0:=by have:=hw.st o _ lc hH hl;simp only[ah.ver]at this;omega
     have hb:au g H o lc (.vec v0 k rows):=⟨hH,rfl,hl,bd⟩;obtain⟨h0,_⟩:=hw.obj o lc _ hb;obtain⟨rfl,rfl⟩:=hh bd (by omega);refine⟨fun o' ho=>?_,fun g' kg=>?_⟩
     ·simp only[CG]at ho;subst ho;exact⟨lc,_,hb⟩
     rw[<- ax];exact kg.vec o lc v0 k rows (by simp) hb dq
   cases h
  cases h
 ·cases h
 ·cases h
 ·cases h
 ·cases h
 cases h;exact⟨fun o ho=>by simp at ho,fun g' hl=>hx.mono hl.le⟩
theorem aFV(hw:WF g H w):∀{vs vs':LA} {l:LN},aIQ H vs=Qr (vs',l)->∀{xs:List BE},fU g vs xs ->(∀o∈l,∃lc y,au g H o lc y)/\∀g',vj g H g' l->fU g' vs' xs
 | [],vs',l,h,xs,hx=>by
  simp only[aIQ,AG,BK]at h;obtain⟨rfl,rfl⟩:=h;exact⟨fun o ho=>by simp at ho,fun g' hl=>hx.mono hl.le⟩
 |v::r,vs',l,h,xs,hx=>by
  unfold aIQ at h;split at h
  ·cases h
  rename_i v1 l1 h1;split at h
  ·cases h
  rename_i r1 l2 h2;cases h;cases xs with
  |nil=>have:=hx.1;simp at this
  |cons x xs=>
   obtain⟨a1,a2⟩:=aFU hw h1 (hx.2 0 v x rfl rfl);obtain⟨b1,b2⟩:=aFV hw h2 (xs:=xs) ⟨by have:=hx.1;simpa using this,fun i c y hc hy=>hx.2 (i+1) c y (by simpa using hc) (by simpa using hy)⟩;refine⟨fun o ho=>?_,fun g' hl=>?_⟩
   ·rcases AY.1 ho with h | h
    ·exact a1 o h
    exact b1 o h
   have c1:=a2 g' (hl.sub fun o ho=>CZ _ ho);have c2:=b2 g' (hl.sub fun o ho=>CX _ ho);refine⟨by simp[c2.1],fun i c y hc hy=>?_⟩;cases i with
   |zero=>simp at hc hy;subst hc;subst hy;exact c1
   |succ i=>exact c2.2 i c y (by simpa using hc) (by simpa using hy)
theorem aDU(hw:WF g H w){v v':AV}{l:LN}(h:dw H v=Qr (v',l)){x:BE}(hx:ai g v x):(∀o∈l,∃lc y,au g H o lc y)/\∀g',vj g H g' l->ai g' v' x:=by
 unfold dw at h;split at h
 ·split at h
  ·rename_i cs' l' hl;cases h;obtain⟨vs,rfl,hr⟩:=hx.fu;obtain⟨a1,a2⟩:=aFV hw hl hr;exact⟨a1,fun g' hg=>(a2 g' hg).agg⟩
  cases h
 ·cases h
 exact aFU hw h hx
theorem pU(hw:WF g H w):∀{vs vs':LA} {l:LN},kA H vs=Qr (vs',l)->∀{xs:List BE},fU g vs xs ->(∀o∈l,∃lc y,au g H o lc y)/\∀g',vj g H g' l->fU g' vs' xs
 | [],vs',l,h,xs,hx=>by
  simp only[kA,AG,BK]at h;obtain⟨rfl,rfl⟩:=h;exact⟨fun o ho=>by simp at ho,fun g' hl=>hx.mono hl.le⟩
 |v::r,vs',l,h,xs,hx=>by
  unfold kA at h;split at h
  ·cases h
  rename_i v1 l1 h1;split at h
  ·cases h
  rename_i r1 l2 h2;cases h;cases xs with
  |nil=>have:=hx.1;simp at this
  |cons x xs=>
   obtain⟨a1,a2⟩:=aDU hw h1 (hx.2 0 v x rfl rfl);obtain⟨b1,b2⟩:=pU hw h2 (xs:=xs) ⟨by have:=hx.1;simpa using this,fun i c y hc hy=>hx.2 (i+1) c y (by simpa using hc) (by simpa using hy)⟩;refine⟨fun o ho=>?_,fun g' hl=>?_⟩
   ·rcases AY.1 ho with h | h
    ·exact a1 o h
    exact b1 o h
   have c1:=a2 g' (hl.sub fun o ho=>CZ _ ho);have c2:=b2 g' (hl.sub fun o ho=>CX _ ho);refine⟨by simp[c2.1],fun i c y hc hy=>?_⟩;cases i with
   |zero=>simp at hc hy;subst hc;subst hy;exact c1
   |succ i=>exact c2.2 i c y (by simpa using hc) (by simpa using hy)
theorem qO(hw:WF g H w){v v':AV}{H':LO}{l:LN}(h:fix H v=Qr (v',H',l)){x:BE}(hx:ai g v x):∃g',Step g H w g' H' w l/\ai g' v' x:=by
 unfold fix at h;split at h
 ·rename_i v1 l1 hl;cases h;obtain⟨a1,a2⟩:=aDU hw hl hx;obtain⟨g',h1,h2⟩:=iR l g H hw fun o ho=>.inl (a1 o ho);exact⟨g',h1,(a2 g' h2).strip⟩
 cases h
end
section
variable {P:CU}{ab:cu}{g:G}{H:LO}{w w':BL}{ρ:LA}{a:Act}
variable {dst:Option Tmp}{type:BP}{pos:String}{after:Array OO}{guard:Option (Nat×Bool)}
structure F0(P:CU)(w:BL)(k:Nat)(x:BE)(n:Nat)(news:List BE):Prop where
 len:∀w2,(Builtin.lenOf x).run P w2=.ok n w2
 cells:∀w2:BL,w2.heap=w.heap->(DY k n x).run P w2=.ok news.toArray w2
 size:news.length=n*k
theorem gN(hw:WF g H w){k:Nat}{v:AV}{new:List LA}(h:cG H v=Qr new)(hh:dF k new=Qt){x:BE}(hx:ai g v x):∃news,F0 P w k x new.length news/\bz g k new news/\new.all (fun r=>r.all AV.ak)=true:=by
 have viaRows:∀v,dO H v=Qr new->ai g v x->∃news,F0 P w k x new.length news/\bz g k new news/\new.all (fun r=>r.all AV.ak)=true:=by
  intro v h hx;rcases aA7 hw h hx with⟨rfl,cap,rfl⟩ | ⟨b,off,cap,k',cells,rfl,cm,hrr,bd,bc⟩
  ·exact⟨[],⟨fun _=>rfl,fun _ _=>rfl,by simp⟩,⟨by simp,fun r hr=>by simp at hr,fun i j r c x h=>by simp at h⟩,rfl⟩
  have hk:=aHY hh hrr.row;have ax:cells.length=new.length*k:=by
   cases new with
   |nil=>have:=hrr.len;simpa using this
   |cons r rs=>have h1:=hrr.row r (by simp);have h2:=hk r (by simp);have:=hrr.len;rw[this];congr 1;omega
  refine⟨cells,⟨fun _=>rfl,fun w2 e=>?_,ax⟩,⟨ax,hk,fun i j row c y h1 h2 h3=>?_⟩,AO.2 fun r hr=>bd r hr⟩
  ·have:=run_loadCells_list (P:=P) w2 ⟨b,off,Qs⟩ cells (fun j v hv=>by rw[fZ];simp only[EF,e];exact bc j v hv);simp only[DY];rw[<- ax];exact this
  have pt:k'=k:=by rw[<- hrr.row row (AN h1)];exact hk row (AN h1)
  exact hrr.rel i j row c y h1 h2 (by rw[pt];exact h3)
 unfold cG at h;split at h
 ·rename_i l;cases h;obtain⟨s,rfl,hs⟩:=hx.fp;have hl:(aJ l).length=s.size:=by rw[sP hs];simp[aJ]
  have hk:l≠[]->k=1:=fun bl=>by
   cases l with
   |nil=>exact Zw rfl bl
   |cons b r=>simp[aJ,dF]at hh;omega
  rw[hl];have rq:(JO (fun b:UInt8=>EJ KD (b.toNat:Int)) s.data).extract 0 s.size=JO (fun b:UInt8=>EJ KD (b.toNat:Int)) s.data:=by
   have gd:s.size=(JO (fun b:UInt8=>EJ KD (b.toNat:Int)) s.data).size:=by rw[Array.size_map];rfl
   rw[gd,Array.extract_size]
  have lh:((s.extract 0 s.size).data.map fun b=>EJ .u8 b.toNat)=((l.map fun b=>EJ .u8 b.toNat)).toArray:=by
   apply JD;rw[GF,aFN hs];have:(l.take s.size).drop 0=l:=by rw[List.drop_zero,CH (by rw[sP hs];exact AQ _)]
   rw[this]
  refine⟨l.map fun b=>EJ .u8 b.toNat,⟨fun _=>rfl,fun w2 _=>?_, ?_⟩,⟨?_, ?_, ?_⟩, ?_⟩
  ·simp only[DY,lh,CB]
  ·by_cases bl:l=[]
   ·subst bl;have:=sP hs;simp at this;simp[this]
   rw[hk bl,sP hs];simp
  ·by_cases bl:l=[]
   ·subst bl;simp[aJ]
   rw[hk bl];simp[aJ]
  ·intro row hm;have bl:l≠[]:=fun e=>by subst e;simp[aJ]at hm
   rw[hk bl];simp only[aJ,List.mem_map]at hm;obtain⟨b,_,rfl⟩:=hm;rfl
  ·intro i j row c y h1 h2 h3;simp only[aJ,BN]at h1;cases hb:l[i]? with
   |none=>simp[hb]at h1
   |some b=>
    have bl:l≠[]:=fun e=>by subst e;simp at hb
    simp[hb]at h1;subst h1;cases j with
    |succ j=>simp at h2
    |zero=>simp at h2;subst h2;rw[hk bl]at h3;simp only[Nat.mul_one,DU,BN,hb,DE,AG]at h3;subst h3;exact .int _ _
  simp[aJ,AV.ak]
 exact viaRows _ h hx
section
variable {t u e ty:BP}{i:OH}{z:BE}{d:OI}
theorem eY(ht:P.underlying t=Qr (.slice e))(hu:P.underlying u=Qr d)(hd:∀k,d≠.int k)(hi:P.info? e=Qr i){base:Option Addr}{sLen sCap n:Nat}{x:BE}{news:List BE}{w':BL} (hn:F0 P w i.size x n news) (ed:sLen+n<=sCap) (bd:(match base with | some a=>IB (a.add (sLen*i.size)) news | none=>(pure ():Sem Unit)).run P w=.ok () w'):(DA #[t,u] ty #[.slice base sLen sCap,x]).run P w=.ok (.slice base (sLen+n) sCap) w':=by
 cases base with
 |none=>simp only[CB,Qg,true_and]at bd;subst bd;simp[DA,BH ht,BH hu,sizeOf,typeInfo,hi,hn.len,ed,hn.cells w rfl]
 |some a=>simp only at bd;simp[DA,BH ht,BH hu,sizeOf,typeInfo,hi,hn.len,ed,hn.cells w rfl,bd]
theorem iC(ht:P.underlying t=Qr (.slice e))(hu:P.underlying u=Qr d)(hd:∀k,d≠.int k)(hi:P.info? e=Qr i)(hz:i.zero=Qr z){base:Option Addr}{sLen sCap n:Nat}{x:BE}{news dt:List BE} (hn:F0 P w i.size x n news) (ho:∀w2:BL,w2.heap=w.heap->(DY i.size sLen (.slice base sLen sCap)).run P w2=.ok dt.toArray w2) (ed:sCap<sLen+n) (pc:(sLen+n)*(i.bytes+1)<=1099511627776):(DA #[t,u] ty #[.slice base sLen sCap,x]).run P w = .ok (.slice (Qr ⟨w.heap.size,0,Qs⟩) (sLen+n) (grownCap w (sLen+n) sCap e)) (w.drew.alloc (.cells (dt.toArray++(news.toArray++CD z.cells (grownCap w (sLen+n) sCap e - (sLen+n)))) e)):=by
 have ze:¬(sLen+n<=sCap):=by omega
 have fo:(sLen+n)*i.bytes<=(sLen+n)*(i.bytes+1):=JC _ (by omega);have dp:sLen+n<=(sLen+n)*(i.bytes+1):=IC _ (by omega);have Dt:¬(9223372036854775807<((sLen:Int)+(n:Int))):=by omega
 have Ny:=growslice_fits (need:=sLen+n) (old:=sCap) (bytes:=i.bytes) (by omega) (by omega);have Du:¬(281474976710656<Builtin.nextslicecap (sLen+n) sCap*i.bytes):=by omega
 have hf:=hn.cells w.drew rfl;have k9:=ho w.drew rfl;simp[DA,BH ht,BH hu,sizeOf,typeInfo,zeroValue,hi,hz,hn.len,ze,Dt,Du,Question.forced,hf,k9,newRow,grownCap]
end
theorem bz.append{k:Nat}{r1 r2:List LA}{c1 c2:List BE}(h1:bz g k r1 c1)(h2:bz g k r2 c2):bz g k (r1++r2) (c1++c2):=by
 refine⟨by simp[h1.len,h2.len,CS],fun row hm=>?_,fun i j row c x e1 e2 e3=>?_⟩
 ·rcases AY.1 hm with h | h
  ·exact h1.row row h
  exact h2.row row h
 rw[DG]at e1;have hl:=h1.len;split at e1
 ·rename_i hi;have hj:j<k:=by rw[<- h1.row row (AN e1)];exact (AH.1 e2).1
  have:=eV hi hj;rw[DG,Zy (by omega)]at e3;exact h1.rel i j row c x e1 e2 e3
 rename_i hi;have nj:r1.length*k<=i*k:=BO _ (by omega);rw[DG,Zx (by omega)]at e3;refine h2.rel (i - r1.length) j row c x e1 e2 ?_;rw[IW,show i*k - r1.length*k+j=i*k+j - c1.length by omega];exact e3
end
section
variable {P:CU}{ab:cu}{g:G}{H:LO}{w w':BL}{ρ:LA}{a:Act}
variable {dst:Option Tmp}{type:BP}{pos:String}{after:Array OO}{guard:Option (Nat×Bool)}
theorem bz.js{k:Nat}{rows:List LA}{cells:List BE}(h:bz g k rows cells)(bd:rows.all (fun r=>r.all AV.ak)=Qt):∀x∈cells,x.oneCell'=true:=by
 intro x hx;obtain⟨n,hn⟩:=CO.1 hx;have hlt:n<cells.length:=(AH.1 hn).1;rw[h.len]at hlt;have l6:0<k:=by
  rcases Nat.eq_zero_or_pos k with e | e
  ·subst e;simp at hlt
  exact e
 have hi:n / k<rows.length:=by rw[Nat.div_lt_iff_lt_mul l6];exact hlt
 have hm:n % k<k:=Nat.mod_lt _ l6;have yg:=h.row rows[n / k] (AS hi);have e:n / k*k+n % k=n:=by rw[HJ];exact Nat.div_add_mod n k
 have hv:=h.rel (n / k) (n % k) rows[n / k] (rows[n / k][n % k]'(by omega)) x (by simp[hi]) (by simp[yg,hm]) (by rw[e];exact hn);exact hv.js (AO.1 (AO.1 bd _ (AS hi)) _ (AS _))
theorem aWB{t u e ty:BP}{i:OH}{z:BE}{d:OI}{S X:CA}{s x:aa}(ht:P.underlying t=Qr (.slice e))(hu:P.underlying u=Qr d)(hd:∀k,d≠.int k)(hi:P.info? e=Qr i)(hz:i.zero=Qr z) (hS:fA ab S=Qr s) (hX:fA ab X=Qr x) (su:z.cells.size=i.size) {call:Nat->LA->LO->Out} {site:Option Nat} {av:AV} {H':LO} {wr:LN} (h:evW call H ρ site (.app i.size i.bytes s x)=Qr (av,H',wr)) (hw:WF g H w) (hg:bM P ab g) (hs:aX g ρ a.tmps):aA8 P ⟨dst,.call { callee:=.builtin .append,args := #[S,X],argTypes := #[t,u] },ty,pos,after,guard⟩ a w fun v w'=>∃g',Step g H w g' H' w' wr/\ai g' av v:=by
 have sy:=aQ hS hg hs;have hrx:=aQ hX hg hs;have fin:∀v w',(DA #[t,u] ty #[a.eval S,a.eval X]).run P w=.ok v w'->(∃g',Step g H w g' H' w' wr/\ai g' av v) ->
   aA8 P ⟨dst,.call { callee:=.builtin .append,args := #[S,X],argTypes := #[t,u] },ty,pos,after,guard⟩ a w fun v w'=>∃g',Step g H w g' H' w' wr/\ai g' av v:=fun v w' hr hR=>.inl ⟨v,w',by simp[execOp,resolve,invoke,builtin,hr],hR⟩
 simp only[evW,eX]at h;split at h
 ·cases h
 rename_i new ki;split at h
 ·cases h
 rename_i nq;have xi:dF i.size new=true:=by simpa using nq
 obtain⟨news,hN,hrr,dq⟩:=gN (P:=P) hw ki xi hrx;generalize s.ev ρ=sv at h sy;split at h
 ·split at h
  ·rename_i ja;cases h;have gq:new=[]:=by simpa using ja
   subst gq;have lh:news=[]:=DP (by have:=hN.size;simpa using this);subst lh;generalize th:a.eval S=sval at sy;cases sy;refine fin _ w ?_ ⟨g,.refl hw,.ar⟩;rw[th];exact eY ht hu hd hi hN (by simp) (by simp)
  rename_i ja;split at h
  ·rename_i ed;simp only[bP,decide_eq_true_eq]at ed;split at h
   ·rename_i id;split at h
    ·rename_i hid;cases h;have kj:0<new.length:=by
      cases new with
      |nil=>simp at ja
      |cons _ _=>simp
     generalize th:a.eval S=sval at sy;cases sy;have cl:=iC (w:=w) (P:=P) (ty:=ty) ht hu hd hi hz (base:=Qs) (sLen:=0) (sCap:=0) (dt:=[]) hN (fun _ _=>rfl) (by omega) (by simpa using ed);have cm:=IG w (0+new.length) 0 e;obtain⟨g',h1,h2⟩:=Step.ry (w':=w.drew.alloc (.cells (([]:List BE).toArray++(news.toArray++CD z.cells (grownCap w (0+new.length) 0 e - (0+new.length)))) e)) hw hid (t:=e) rfl
      (k:=i.size) (cap:=grownCap w (0+new.length) 0 e) (rows:=new)
      (by
       have:((([]:List BE).toArray++(news.toArray++CD z.cells (grownCap w (0+new.length) 0 e - (0+new.length)))).toList).take (new.length*i.size)=news:=by simp only[EK,CW];rw[<- hrr.len];exact GU
       rw[this];exact hrr)
      dq (by omega)
      (by
       have h2:=hrr.len;simp only[FP,FT,HF,su,h2,AZ,<- CS,BC];rw[BC]at cm;congr 1;omega)
     rw[BC]at cl h1 h2;exact .inl ⟨_,_,by simp[execOp,resolve,invoke,builtin,th,cl],g',h1,h2⟩
    cases h
   cases h
  cases h
 ·rename_i full rows;split at h
  ·rename_i ja;cases h;have gq:new=[]:=by simpa using ja
   subst gq;have lh:news=[]:=DP (by have:=hN.size;simpa using this);subst lh;rcases sy.ov with⟨er,es⟩ | ⟨b,off,cap,k,es,cm,_⟩
   ·refine fin _ w ?_ ⟨g,.refl hw,es ▸ sy⟩;rw[es];exact eY ht hu hd hi hN (by simp) (by simp)
   refine fin _ w ?_ ⟨g,.refl hw,es ▸ sy⟩;rw[es];exact eY ht hu hd hi hN (by simpa using cm) (by simp[IB])
  rename_i ja;split at h
  ·rename_i hc;simp only[AI]at hc;obtain⟨⟨Dh,O3⟩,ed⟩:=hc;simp only[bP,decide_eq_true_eq]at ed;split at h
   ·rename_i id;split at h
    ·rename_i hid;cases h;have kj:0<new.length:=by
      cases new with
      |nil=>simp at ja
      |cons _ _=>simp
     have key:∀(base:Option Addr) (sCap:Nat) (dt:List BE),a.eval S=.slice base rows.length sCap->sCap=rows.length->bz g i.size rows dt->rows.all (fun r=>r.all AV.ak)=Qt ->
       (∀w2:BL,w2.heap=w.heap->(DY i.size rows.length (.slice base rows.length sCap)).run P w2=.ok dt.toArray w2) ->
       aA8 P ⟨dst,.call { callee:=.builtin .append,args := #[S,X],argTypes := #[t,u] },ty,pos,after,guard⟩ a w fun v w'=>∃g',Step g H w g' (make H id (.vec · i.size (rows++new))) w' [id]/\ai g' (.sr id (bH H id) (rows.length+new.length)) v:=by
      intro base sCap dt es Nz il bd ho;have cl:=iC (ty:=ty) ht hu hd hi hz hN ho (by omega) ed;have cm:=IG w (rows.length+new.length) sCap e;have da:=il.append hrr;have ax:(rows++new).length=rows.length+new.length:=by simp
      have ym:=da.len;obtain⟨g',h1,h2⟩:=Step.ry (w':=w.drew.alloc (.cells (dt.toArray++(news.toArray++CD z.cells (grownCap w (rows.length+new.length) sCap e - (rows.length+new.length)))) e)) hw hid (t:=e) rfl
       (k:=i.size) (cap:=grownCap w (rows.length+new.length) sCap e) (rows:=rows++new)
       (by
        have:(dt.toArray++(news.toArray++CD z.cells (grownCap w (rows.length+new.length) sCap e - (rows.length+new.length)))).toList.take ((rows++new).length*i.size)=dt++news:=by simp only[EK,<- CJ];rw[<- ym];exact GU
        rw[this];exact da)
       (by rw[IL,bd,dq];rfl) (by omega)
       (by
        have h1:=il.len;have h2:=hrr.len;simp only[FP,FT,HF,su,h1,h2,<- CS];congr 1;omega)
      rw[ax]at h2;exact .inl ⟨_,_,by simp[execOp,resolve,invoke,builtin,es,cl],g',h1,h2⟩
     rcases sy.ov with⟨er,es⟩ | ⟨b,off,cap,k,es,cm,jo,hk,bd,hp,dj⟩
     ·subst er;exact key Qs 0 [] es rfl ⟨by simp,fun r hr=>by simp at hr,fun i j r c x h=>by simp at h⟩ rfl (fun _ _=>rfl)
     obtain⟨news',Dv,Dw,Dx⟩:=gN (P:=P) (v:=.sl full rows) hw rfl O3 (es ▸ sy);exact key _ cap news' es (jo Dh) Dw Dx Dv.cells
    cases h
   cases h
  cases h
 ·rename_i o v n;split at h
  ·rename_i v' k' rows hH;split at h
   ·rename_i hc;obtain⟨rfl,ax,rfl,ed⟩:=hc;simp only[bP,decide_eq_true_eq]at ed;generalize th:a.eval S=sval at sy;cases sy with
    |sr o v n l b cap hl hv hn jg hh=>
     have bd:l.st=v':=by have:=hw.st o _ l hH hl;simp only[ah.ver]at this;omega
     have hb:au g H o l (.vec v' i.size rows):=⟨hH,rfl,hl,bd⟩;obtain⟨h0,ow,cm,dr,hk,eh,bc⟩:=hw.obj o l _ hb;obtain⟨rfl,rfl⟩:=hh bd (by omega);split at h
     ·rename_i ja;cases h;have gq:new=[]:=by simpa using ja
      subst gq;have lh:news=[]:=DP (by have:=hN.size;simpa using this);subst lh;refine fin (.slice (Qr ⟨l.b,0,Qs⟩) n l.cap) w ?_ ⟨g,.refl hw,.sr o v' n l _ _ hl hv hn jg hh⟩;rw[th];exact eY ht hu hd hi hN (by simp;omega) (by simp[IB])
     rename_i ja;cases h;have kj:0<new.length:=by
      cases new with
      |nil=>simp at ja
      |cons _ _=>simp
     have O3:dF i.size rows=true:=by
      cases rows with
      |nil=>rfl
      |cons r rs=>simpa [dF]using hk r (by simp)
     have J9:ai g (.sr o v' rows.length) (.slice (Qr ⟨l.b,0,Qs⟩) rows.length l.cap):=by rw[ax];exact .sr o v' n l _ _ hl hv hn jg hh
     obtain⟨dt,hO,il,s9⟩:=gN (P:=P) (v:=.sr o v' rows.length) hw (by simp[cG,dO,hH]) O3 J9;have da:=il.append hrr;have mf:(rows++new).all (fun r=>r.all AV.ak)=true:=by rw[IL,s9,dq];rfl
     have gz:(rows++new).length=n+new.length:=by simp;omega
     by_cases pc:n+new.length<=l.cap
     ·
      have u4:(n+new.length)*i.size<=l.cap*i.size:=BO _ pc;rw[CS]at u4;have O4:=hrr.len;have K1:=il.len;rw[ax]at K1;have iv:∀j,j<news.length->(w.cell? ⟨l.b,n*i.size+j,Qs⟩).isSome=true:=fun j hj=>eh _ (by omega);obtain⟨lq,nu⟩:=lE l.b news (n*i.size) w;have ud:∀y∈news,y.oneCell'=true:=hrr.js dq;have oz:=GH (P:=P) l.b (n*i.size) news 0 w (by simpa using iv) (by intro j hj;exact dr _ (by simpa using iv j hj)) ud;refine fin (.slice (Qr ⟨l.b,0,Qs⟩) (n+new.length) l.cap) (w.setCells l.b (n*i.size) news) ?_ ⟨g.setObj o { l with len:=n+new.length },Step.update hw o _ _ (hw.lt o l hl) (by rw[lq];exact AQ _) (fun b _ bl=>nu b (Ne.symm (bl l _ hb))) (by rw[lq];exact hw.blk o l hl)
        (.inr ⟨l,_,hb,rfl⟩) bd rfl (fun l0 sz=>by rw[hl]at sz;cases sz;exact⟨AQ _,fun _=>⟨by show l.len<=n+new.length;omega,fun e=>by exfalso;have:n+new.length=l.len:=e;omega⟩⟩)
        (fun hle=>⟨gz.symm,ow,by rw[gz];exact pc,fun j hj=>?_,da.row,fun j hj=>?_,fun i' j row c h1 h2=>?_⟩) (nY _ _ _ _),.sr o v' _ { l with len:=n+new.length } _ _ (by simp[G.setObj]) (by show v'<=l.st;omega) (fun _=>AQ _) (by show n+new.length<=l.cap;omega) fun _ _=>⟨rfl,rfl⟩⟩
      ·rw[th];exact eY ht hu hd hi hN pc (by simp only[fZ,BC];simpa using oz)
      ·show (w.setCells l.b (n*i.size) news).frozen? _=Qu;rw[EI];refine dr j ?_;by_cases hr:n*i.size<=j/\j<n*i.size+news.length
       ·have:=iv (j - n*i.size) (by omega)
        rwa [show n*i.size+(j - n*i.size)=j by omega]at this
       have tt:((w.setCells l.b (n*i.size) news).cell? ⟨l.b,j,Qs⟩).isSome=true:=hj
       rwa [BV l.b news (n*i.size) w ⟨l.b,j,Qs⟩ (fun _ _=>by simp;omega)]at tt
      ·show ((w.setCells l.b (n*i.size) news).cell? ⟨l.b,j,Qs⟩).isSome=Qt;by_cases hr:n*i.size<=j/\j<n*i.size+news.length
       ·have:=CQ l.b news (n*i.size) w iv (j - n*i.size) (by omega);rw[show n*i.size+(j - n*i.size)=j by omega]at this;rw[this];rfl
       rw[BV l.b news (n*i.size) w ⟨l.b,j,Qs⟩ (fun _ _=>by simp;omega)];exact eh j hj
      have nr:i'<(rows++new).length:=(AH.1 h1).1;have nh:j<i.size:=by rw[<- da.row row (AN h1)];exact (AH.1 h2).1
      have hlt:=eV nr nh;rw[gz,CS]at hlt;have hs:=AO.1 (AO.1 mf row (AN h1)) c (AN h2);refine⟨hs, ?_⟩;show ∃x,(w.setCells l.b (n*i.size) news).cell? ⟨l.b,i'*i.size+j,Qs⟩=Qr x/\_;rw[DG]at h1;split at h1
      ·rename_i sw;have cr:=eV sw nh;rw[ax]at cr;rw[BV l.b news (n*i.size) w ⟨l.b,i'*i.size+j,Qs⟩ (fun _ _=>by simp;omega)];obtain⟨_,y,hy,hr⟩:=bc i' j row c h1 h2;exact⟨y,hy,hr.mono hle⟩
      rename_i sw;have nj:rows.length*i.size<=i'*i.size:=BO _ (by omega);rw[ax]at nj;have K2:i'*i.size+j - n*i.size<news.length:=by omega
      have:=CQ l.b news (n*i.size) w iv (i'*i.size+j - n*i.size) K2;rw[show n*i.size+(i'*i.size+j - n*i.size)=i'*i.size+j by omega]at this;refine⟨_,this,(hrr.rel (i' - rows.length) j row c _ h1 h2 ?_).mono hle⟩;rw[IW,ax,show i'*i.size - n*i.size+j=i'*i.size+j - n*i.size by omega];simp[K2]
     ·
      have cl:=iC (w:=w) (P:=P) (ty:=ty) ht hu hd hi hz (sLen:=n) (sCap:=l.cap) (base:=Qr ⟨l.b,0,Qs⟩) (dt:=dt) hN (by intro w2 e;have:=hO.cells w2 e;simpa [DY,ax]using this) (by omega) ed;have vk:=IG w (n+new.length) l.cap e;have ym:=da.len;generalize hW:w.drew.alloc (.cells (dt.toArray++(news.toArray++CD z.cells (grownCap w (n+new.length) l.cap e - (n+new.length)))) e)=W at cl;have rf:W.heap=w.heap.push (.cells (dt.toArray++(news.toArray++CD z.cells (grownCap w (n+new.length) l.cap e - (n+new.length)))) e):=by rw[<- hW];rfl
      have u5:W.os=w.os/\W.output=w.output:=by rw[<- hW];exact⟨rfl,rfl⟩
      have gm:(dt.toArray++(news.toArray++CD z.cells (grownCap w (n+new.length) l.cap e - (n+new.length)))).toList.take ((rows++new).length*i.size)=dt++news:=by simp only[EK,<- CJ];rw[<- ym];exact GU
      have gd:(dt.toArray++(news.toArray++CD z.cells (grownCap w (n+new.length) l.cap e - (n+new.length)))).size=grownCap w (n+new.length) l.cap e*i.size:=by have h1:=il.len;have h2:=hrr.len;rw[ax]at h1;simp only[FP,FT,HF,su,h1,h2,<- CS];congr 1;omega
      generalize ru:(dt.toArray++(news.toArray++CD z.cells (grownCap w (n+new.length) l.cap e - (n+new.length))))=C at rf gm gd;refine fin (.slice (Qr ⟨w.heap.size,0,Qs⟩) (n+new.length) (grownCap w (n+new.length) l.cap e)) W (by rw[th];exact cl) ⟨g.setObj o ⟨w.heap.size,v',n+new.length,i.size,grownCap w (n+new.length) l.cap e⟩,Step.update hw o _ _ (hw.lt o l hl) (by rw[rf];simp) (fun b du _=>cK rf du) (by rw[rf];simp)
        (.inl (AQ _)) rfl rfl (fun l0 sz=>by rw[hl]at sz;cases sz;exact⟨by show l.st<=v';omega,fun _=>⟨by show l.len<=n+new.length;omega,fun e=>by exfalso;have:n+new.length=l.len:=e;omega⟩⟩)
        (fun hle=>⟨gz.symm,rfl,by rw[gz];exact vk,wV rf,da.row,fun j hj=>?_,fun i' j row c h1 h2=>?_⟩) u5,.sr o v' _ _ _ _ (by simp[G.setObj];rfl) (AQ _) (fun _=>AQ _) (by show n+new.length<=_;omega) fun _ _=>⟨rfl,rfl⟩⟩
      ·rw[kD rf];have:j<C.size:=by rw[gd];exact hj
       simp[this]
      have nr:i'<(rows++new).length:=(AH.1 h1).1;have nh:j<i.size:=by rw[<- da.row row (AN h1)];exact (AH.1 h2).1
      have hlt:=eV nr nh;have hs:=AO.1 (AO.1 mf row (AN h1)) c (AN h2);have iq:i'*i.size+j<(dt++news).length:=by rw[ym];exact hlt
      refine⟨hs,(dt++news)[i'*i.size+j], ?_,(da.rel i' j row c _ h1 h2 (by simp)).mono hle⟩;rw[kD rf];have:C.toList[i'*i.size+j]? = Qr ((dt++news)[i'*i.size+j]):=by
       have h3:(C.toList.take ((rows++new).length*i.size))[i'*i.size+j]? = (dt++news)[i'*i.size+j]? := by rw[gm]
       rw[CF,Zy hlt]at h3;rw[h3];exact AP iq
      simpa using this
   cases h
  cases h
 ·rename_i o v n ft;split at h
  ·rename_i v' k' rows hH;split at h
   ·rename_i hc;cases h;obtain⟨rfl,ax,rfl,Dy,ed⟩:=hc;simp only[bP,decide_eq_true_eq]at ed;generalize th:a.eval S=sval at sy;cases sy with
    |srw o v n hi l b cap hl hv hn tf hh=>
     have bd:l.st=v':=by have:=hw.st o _ l hH hl;simp only[ah.ver]at this;omega
     have hb:au g H o l (.vec v' i.size rows):=⟨hH,rfl,hl,bd⟩;obtain⟨h0,ow,cm,dr,hk,eh,bc⟩:=hw.obj o l _ hb;obtain⟨rfl,rfl⟩:=hh bd (by omega);have O3:dF i.size (rows.take ft)=true:=by
      cases X3:rows.take ft with
      |nil=>rfl
      |cons r rs=>simpa [dF]using hk r (FA (by rw[X3];simp))
     have J9:ai g (.srw o v' n ft) (.slice (Qr ⟨l.b,0,Qs⟩) ft l.cap):=.srw o v' n ft l _ _ hl hv hn tf (fun _ _=>⟨rfl,rfl⟩);obtain⟨dt,hO,il,s9⟩:=gN (P:=P) (v:=.srw o v' n ft) hw (by simp[cG,dO,hH,ax,Dy]) O3 J9;have da:=il.append hrr;have mf:(rows.take ft++new).all (fun r=>r.all AV.ak)=true:=by rw[IL,s9,dq];rfl
     have hlt:(rows.take ft).length=ft:=by rw[List.length_take];omega
     have gz:(rows.take ft++new).length=ft+new.length:=by rw[List.length_append,hlt]
     have X9:∀l':Loc,l'.st=v'+1->∀l0,g.obj o=Qr l0->l0.st<=l'.st/\(l'.st=l0.st->l0.len<=l'.len/\(l'.len=l0.len->l'=l0)):=fun l' e l0 sz=>by
      rw[hl]at sz;cases sz;exact⟨by omega,fun e2=>by omega⟩
     by_cases pc:ft+new.length<=l.cap
     ·
      have u4:(ft+new.length)*i.size<=l.cap*i.size:=BO _ pc;rw[CS]at u4;have O4:=hrr.len;have K1:=il.len;rw[hlt]at K1;have iv:∀j,j<news.length->(w.cell? ⟨l.b,ft*i.size+j,Qs⟩).isSome=true:=fun j hj=>eh _ (by omega);obtain⟨lq,nu⟩:=lE l.b news (ft*i.size) w;have ud:∀y∈news,y.oneCell'=true:=hrr.js dq;have oz:=GH (P:=P) l.b (ft*i.size) news 0 w (by simpa using iv) (by intro j hj;exact dr _ (by simpa using iv j hj)) ud;refine fin (.slice (Qr ⟨l.b,0,Qs⟩) (ft+new.length) l.cap) (w.setCells l.b (ft*i.size) news) ?_ ⟨g.setObj o { l with len:=ft+new.length,st:=v'+1 },Step.update hw o _ _ (hw.lt o l hl) (by rw[lq];exact AQ _) (fun b _ bl=>nu b (Ne.symm (bl l _ hb))) (by rw[lq];exact hw.blk o l hl)
        (.inr ⟨l,_,hb,rfl⟩) rfl rfl (X9 _ rfl)
        (fun hle=>⟨gz.symm,ow,by rw[gz];exact pc,fun j hj=>?_,da.row,fun j hj=>?_,fun i' j row c h1 h2=>?_⟩) (nY _ _ _ _),.sr o (v'+1) _ { l with len:=ft+new.length,st:=v'+1 } _ _ (by simp[G.setObj]) (AQ _) (fun _=>AQ _) (by show ft+new.length<=l.cap;omega) fun _ _=>⟨rfl,rfl⟩⟩
      ·rw[th];exact eY ht hu hd hi hN pc (by simp only[fZ,BC];simpa using oz)
      ·show (w.setCells l.b (ft*i.size) news).frozen? _=Qu;rw[EI];refine dr j ?_;by_cases hr:ft*i.size<=j/\j<ft*i.size+news.length
       ·have:=iv (j - ft*i.size) (by omega)
        rwa [show ft*i.size+(j - ft*i.size)=j by omega]at this
       have tt:((w.setCells l.b (ft*i.size) news).cell? ⟨l.b,j,Qs⟩).isSome=true:=hj
       rwa [BV l.b news (ft*i.size) w ⟨l.b,j,Qs⟩ (fun _ _=>by simp;omega)]at tt
      ·show ((w.setCells l.b (ft*i.size) news).cell? ⟨l.b,j,Qs⟩).isSome=Qt;by_cases hr:ft*i.size<=j/\j<ft*i.size+news.length
       ·have:=CQ l.b news (ft*i.size) w iv (j - ft*i.size) (by omega);rw[show ft*i.size+(j - ft*i.size)=j by omega]at this;rw[this];rfl
       rw[BV l.b news (ft*i.size) w ⟨l.b,j,Qs⟩ (fun _ _=>by simp;omega)];exact eh j hj
      have nr:i'<(rows.take ft++new).length:=(AH.1 h1).1;have nh:j<i.size:=by rw[<- da.row row (AN h1)];exact (AH.1 h2).1
      have vl:=eV nr nh;rw[gz,CS]at vl;have hs:=AO.1 (AO.1 mf row (AN h1)) c (AN h2);refine⟨hs, ?_⟩;show ∃x,(w.setCells l.b (ft*i.size) news).cell? ⟨l.b,i'*i.size+j,Qs⟩=Qr x/\_;rw[DG]at h1;split at h1
      ·rename_i sw;have cr:=eV sw nh;rw[hlt]at cr sw;rw[BV l.b news (ft*i.size) w ⟨l.b,i'*i.size+j,Qs⟩ (fun _ _=>by simp;omega)];rw[CF,Zy sw]at h1;obtain⟨_,y,hy,hr⟩:=bc i' j row c h1 h2;exact⟨y,hy,hr.mono hle⟩
      rename_i sw;have nj:(rows.take ft).length*i.size<=i'*i.size:=BO _ (by omega);rw[hlt]at nj;have K2:i'*i.size+j - ft*i.size<news.length:=by omega
      have:=CQ l.b news (ft*i.size) w iv (i'*i.size+j - ft*i.size) K2;rw[show ft*i.size+(i'*i.size+j - ft*i.size)=i'*i.size+j by omega]at this;refine⟨_,this,(hrr.rel (i' - (rows.take ft).length) j row c _ h1 h2 ?_).mono hle⟩;rw[IW,hlt,show i'*i.size - ft*i.size+j=i'*i.size+j - ft*i.size by omega];simp[K2]
     ·
      have cl:=iC (w:=w) (P:=P) (ty:=ty) ht hu hd hi hz (sLen:=ft) (sCap:=l.cap) (base:=Qr ⟨l.b,0,Qs⟩) (dt:=dt) hN
       (by intro w2 e;have:=hO.cells w2 e;simpa [DY,hlt]using this) (by omega) ed
      have vk:=IG w (ft+new.length) l.cap e;have ym:=da.len;generalize hW:w.drew.alloc (.cells (dt.toArray++(news.toArray++CD z.cells (grownCap w (ft+new.length) l.cap e - (ft+new.length)))) e)=W at cl;have rf:W.heap=w.heap.push (.cells (dt.toArray++(news.toArray++CD z.cells (grownCap w (ft+new.length) l.cap e - (ft+new.length)))) e):=by rw[<- hW];rfl
      have u5:W.os=w.os/\W.output=w.output:=by rw[<- hW];exact⟨rfl,rfl⟩
      have gm:(dt.toArray++(news.toArray++CD z.cells (grownCap w (ft+new.length) l.cap e - (ft+new.length)))).toList.take ((rows.take ft++new).length*i.size)=dt++news:=by simp only[EK,<- CJ];rw[<- ym];exact GU
      have gd:(dt.toArray++(news.toArray++CD z.cells (grownCap w (ft+new.length) l.cap e - (ft+new.length)))).size=grownCap w (ft+new.length) l.cap e*i.size:=by have h1:=il.len;have h2:=hrr.len;rw[hlt]at h1;simp only[FP,FT,HF,su,h1,h2,<- CS];congr 1;omega
      generalize ru:(dt.toArray++(news.toArray++CD z.cells (grownCap w (ft+new.length) l.cap e - (ft+new.length))))=C at rf gm gd;refine fin (.slice (Qr ⟨w.heap.size,0,Qs⟩) (ft+new.length) (grownCap w (ft+new.length) l.cap e)) W (by rw[th];exact cl) ⟨g.setObj o ⟨w.heap.size,v'+1,ft+new.length,i.size,grownCap w (ft+new.length) l.cap e⟩,Step.update hw o _ _ (hw.lt o l hl) (by rw[rf];simp) (fun b du _=>cK rf du) (by rw[rf];simp)
        (.inl (AQ _)) rfl rfl (X9 _ rfl)
        (fun hle=>⟨gz.symm,rfl,by rw[gz];exact vk,wV rf,da.row,fun j hj=>?_,fun i' j row c h1 h2=>?_⟩) u5,.sr o (v'+1) _ _ _ _ (by simp[G.setObj];rfl) (AQ _) (fun _=>AQ _) (by show ft+new.length<=_;omega) fun _ _=>⟨rfl,rfl⟩⟩
      ·rw[kD rf];have:j<C.size:=by rw[gd];exact hj
       simp[this]
      have nr:i'<(rows.take ft++new).length:=(AH.1 h1).1;have nh:j<i.size:=by rw[<- da.row row (AN h1)];exact (AH.1 h2).1
      have vl:=eV nr nh;have hs:=AO.1 (AO.1 mf row (AN h1)) c (AN h2);have iq:i'*i.size+j<(dt++news).length:=by rw[ym];exact vl
      refine⟨hs,(dt++news)[i'*i.size+j], ?_,(da.rel i' j row c _ h1 h2 (by simp)).mono hle⟩;rw[kD rf];have:C.toList[i'*i.size+j]? = Qr ((dt++news)[i'*i.size+j]):=by
       have h3:(C.toList.take ((rows.take ft++new).length*i.size))[i'*i.size+j]? = (dt++news)[i'*i.size+j]? := by rw[gm]
       rw[CF,Zy vl]at h3;rw[h3];exact AP iq
      simpa using this
   cases h
  cases h
 cases h
theorem aWC{t u e ty:BP}{i:OH}{z:BE}{d:OI}{S X:CA}{s x:aa}(ht:P.underlying t=Qr (.slice e))(hu:P.underlying u=Qr d)(hd:∀k,d≠.int k)(hi:P.info? e=Qr i)(hz:i.zero=Qr z) (hS:fA ab S=Qr s) (hX:fA ab X=Qr x) (su:z.cells.size=i.size) {call:Nat->LA->LO->Out} {site:Option Nat} {av:AV} {H':LO} {wr:LN} (h:evW call H ρ site (.ni e i.size i.bytes s x)=Qr (av,H',wr)) (hw:WF g H w) (hg:bM P ab g) (hs:aX g ρ a.tmps):aA8 P ⟨dst,.call { callee:=.builtin .append,args := #[S,X],argTypes := #[t,u] },ty,pos,after,guard⟩ a w fun v w'=>∃g',Step g H w g' H' w' wr/\ai g' av v:=by
 have sy:=aQ hS hg hs;have hrx:=aQ hX hg hs;have fin:∀v w',(DA #[t,u] ty #[a.eval S,a.eval X]).run P w=.ok v w'->(∃g',Step g H w g' H' w' wr/\ai g' av v) ->
   aA8 P ⟨dst,.call { callee:=.builtin .append,args := #[S,X],argTypes := #[t,u] },ty,pos,after,guard⟩ a w fun v w'=>∃g',Step g H w g' H' w' wr/\ai g' av v:=fun v w' hr hR=>.inl ⟨v,w',by simp[execOp,resolve,invoke,builtin,hr],hR⟩
 simp only[evW,vB]at h;split at h
 ·cases h
 rename_i new ki;split at h
 ·cases h
 rename_i nq;have xi:dF i.size new=true:=by simpa using nq
 obtain⟨news,hN,hrr,dq⟩:=gN (P:=P) hw ki xi hrx;generalize s.ev ρ=sv at h sy;split at h
 ·split at h
  ·rename_i ja;cases h;have gq:new=[]:=by simpa using ja
   subst gq;have lh:news=[]:=DP (by have:=hN.size;simpa using this);subst lh;generalize th:a.eval S=sval at sy;cases sy;refine fin _ w ?_ ⟨g,.refl hw,.ar⟩;rw[th];exact eY ht hu hd hi hN (by simp) (by simp)
  rename_i ja;split at h
  ·rename_i ed;simp only[bP,decide_eq_true_eq]at ed;split at h
   ·rename_i id;split at h
    ·rename_i hid;cases h;have kj:0<new.length:=by
      cases new with
      |nil=>simp at ja
      |cons _ _=>simp
     generalize th:a.eval S=sval at sy;cases sy;have cl:=iC (w:=w) (P:=P) (ty:=ty) ht hu hd hi hz (base:=Qs) (sLen:=0) (sCap:=0) (dt:=[]) hN (fun _ _=>rfl) (by omega) (by simpa using ed);have cm:=IG w (0+new.length) 0 e;obtain⟨g',h1,h2⟩:=Step.yk (w':=w.drew.alloc (.cells (([]:List BE).toArray++(news.toArray++CD z.cells (grownCap w (0+new.length) 0 e - (0+new.length)))) e)) hw hid (t:=e) rfl
      (k:=i.size) (cap:=grownCap w (0+new.length) 0 e) (rows:=new)
      (by
       have:((([]:List BE).toArray++(news.toArray++CD z.cells (grownCap w (0+new.length) 0 e - (0+new.length)))).toList).take (new.length*i.size)=news:=by simp only[EK,CW];rw[<- hrr.len];exact GU
       rw[this];exact hrr)
      dq (by omega)
      (by
       have h2:=hrr.len;simp only[FP,FT,HF,su,h2,AZ,<- CS,BC];rw[BC]at cm;congr 1;omega)
     rw[BC]at cl h1 h2;exact .inl ⟨_,_,by simp[execOp,resolve,invoke,builtin,th,cl],g',h1,h2⟩
    cases h
   cases h
  cases h
 ·rename_i o v n;split at h
  ·rename_i v' ty' k' rows hH;split at h
   ·rename_i hc;obtain⟨rfl,ax,rfl,Oa,ed⟩:=hc;subst ty';simp only[bP,decide_eq_true_eq]at ed;generalize th:a.eval S=sval at sy;cases sy with
    |sr o v n l b cap hl hv hn jg hh=>
     have bd:l.st=v':=by have:=hw.st o _ l hH hl;simp only[ah.ver]at this;omega
     have hb:au g H o l (.gl v' e i.size rows):=⟨hH,rfl,hl,bd⟩;obtain⟨⟨h0,ow,cm,dr,hk,eh,bc⟩,cs0,ld⟩:=hw.obj o l _ hb;obtain⟨rfl,rfl⟩:=hh bd (by omega);split at h
     ·rename_i ja;cases h;have gq:new=[]:=by simpa using ja
      subst gq;have lh:news=[]:=DP (by have:=hN.size;simpa using this);subst lh;refine fin (.slice (Qr ⟨l.b,0,Qs⟩) n l.cap) w ?_ ⟨g,.refl hw,.sr o v' n l _ _ hl hv hn jg hh⟩;rw[th];exact eY ht hu hd hi hN (by simp;omega) (by simp[IB])
     rename_i ja;cases h;have kj:0<new.length:=by
      cases new with
      |nil=>simp at ja
      |cons _ _=>simp
     have O3:dF i.size rows=true:=by
      cases rows with
      |nil=>rfl
      |cons r rs=>simpa [dF]using hk r (by simp)
     have J9:ai g (.sr o v' rows.length) (.slice (Qr ⟨l.b,0,Qs⟩) rows.length l.cap):=by rw[ax];exact .sr o v' n l _ _ hl hv hn jg hh
     obtain⟨dt,hO,il,s9⟩:=gN (P:=P) (v:=.sr o v' rows.length) hw (by simp[cG,dO,hH]) O3 J9;have da:=il.append hrr;have mf:(rows++new).all (fun r=>r.all AV.ak)=true:=by rw[IL,s9,dq];rfl
     have gz:(rows++new).length=n+new.length:=by simp;omega
     by_cases pc:n+new.length<=l.cap
     ·
      have u4:(n+new.length)*i.size<=l.cap*i.size:=BO _ pc;rw[CS]at u4;have O4:=hrr.len;have K1:=il.len;rw[ax]at K1;have iv:∀j,j<news.length->(w.cell? ⟨l.b,n*i.size+j,Qs⟩).isSome=true:=fun j hj=>eh _ (by omega);obtain⟨lq,nu⟩:=lE l.b news (n*i.size) w;have ud:∀y∈news,y.oneCell'=true:=hrr.js dq;have oz:=GH (P:=P) l.b (n*i.size) news 0 w (by simpa using iv) (by intro j hj;exact dr _ (by simpa using iv j hj)) ud;refine fin (.slice (Qr ⟨l.b,0,Qs⟩) (n+new.length) l.cap) (w.setCells l.b (n*i.size) news) ?_ ⟨g.setObj o { l with len:=n+new.length },Step.update hw o _ _ (hw.lt o l hl) (by rw[lq];exact AQ _) (fun b _ bl=>nu b (Ne.symm (bl l _ hb))) (by rw[lq];exact hw.blk o l hl)
        (.inr ⟨l,_,hb,rfl⟩) bd rfl (fun l0 sz=>by rw[hl]at sz;cases sz;exact⟨AQ _,fun _=>⟨by show l.len<=n+new.length;omega,fun e=>by exfalso;have:n+new.length=l.len:=e;omega⟩⟩)
        (fun hle=>⟨⟨gz.symm,ow,by rw[gz];exact pc,fun j hj=>?_,da.row,fun j hj=>?_,fun i' j row c h1 h2=>?_⟩,let ⟨cs',q,_⟩:=tO l.b news (n*i.size) w cs0 _ (0,0) ld;⟨cs',q⟩⟩) (nY _ _ _ _),.sr o v' _ { l with len:=n+new.length } _ _ (by simp[G.setObj]) (by show v'<=l.st;omega) (fun _=>AQ _) (by show n+new.length<=l.cap;omega) fun _ _=>⟨rfl,rfl⟩⟩
      ·rw[th];exact eY ht hu hd hi hN pc (by simp only[fZ,BC];simpa using oz)
      ·show (w.setCells l.b (n*i.size) news).frozen? _=Qu;rw[EI];refine dr j ?_;by_cases hr:n*i.size<=j/\j<n*i.size+news.length
       ·have:=iv (j - n*i.size) (by omega)
        rwa [show n*i.size+(j - n*i.size)=j by omega]at this
       have tt:((w.setCells l.b (n*i.size) news).cell? ⟨l.b,j,Qs⟩).isSome=true:=hj
       rwa [BV l.b news (n*i.size) w ⟨l.b,j,Qs⟩ (fun _ _=>by simp;omega)]at tt
      ·show ((w.setCells l.b (n*i.size) news).cell? ⟨l.b,j,Qs⟩).isSome=Qt;by_cases hr:n*i.size<=j/\j<n*i.size+news.length
       ·have:=CQ l.b news (n*i.size) w iv (j - n*i.size) (by omega);rw[show n*i.size+(j - n*i.size)=j by omega]at this;rw[this];rfl
       rw[BV l.b news (n*i.size) w ⟨l.b,j,Qs⟩ (fun _ _=>by simp;omega)];exact eh j hj
      have nr:i'<(rows++new).length:=(AH.1 h1).1;have nh:j<i.size:=by rw[<- da.row row (AN h1)];exact (AH.1 h2).1
      have hlt:=eV nr nh;rw[gz,CS]at hlt;have hs:=AO.1 (AO.1 mf row (AN h1)) c (AN h2);refine⟨hs, ?_⟩;show ∃x,(w.setCells l.b (n*i.size) news).cell? ⟨l.b,i'*i.size+j,Qs⟩=Qr x/\_;rw[DG]at h1;split at h1
      ·rename_i sw;have cr:=eV sw nh;rw[ax]at cr;rw[BV l.b news (n*i.size) w ⟨l.b,i'*i.size+j,Qs⟩ (fun _ _=>by simp;omega)];obtain⟨_,y,hy,hr⟩:=bc i' j row c h1 h2;exact⟨y,hy,hr.mono hle⟩
      rename_i sw;have nj:rows.length*i.size<=i'*i.size:=BO _ (by omega);rw[ax]at nj;have K2:i'*i.size+j - n*i.size<news.length:=by omega
      have:=CQ l.b news (n*i.size) w iv (i'*i.size+j - n*i.size) K2;rw[show n*i.size+(i'*i.size+j - n*i.size)=i'*i.size+j by omega]at this;refine⟨_,this,(hrr.rel (i' - rows.length) j row c _ h1 h2 ?_).mono hle⟩;rw[IW,ax,show i'*i.size - n*i.size+j=i'*i.size+j - n*i.size by omega];simp[K2]
     ·
      have cl:=iC (w:=w) (P:=P) (ty:=ty) ht hu hd hi hz (sLen:=n) (sCap:=l.cap) (base:=Qr ⟨l.b,0,Qs⟩) (dt:=dt) hN (by intro w2 e;have:=hO.cells w2 e;simpa [DY,ax]using this) (by omega) ed;have vk:=IG w (n+new.length) l.cap e;have ym:=da.len;generalize hW:w.drew.alloc (.cells (dt.toArray++(news.toArray++CD z.cells (grownCap w (n+new.length) l.cap e - (n+new.length)))) e)=W at cl;have rf:W.heap=w.heap.push (.cells (dt.toArray++(news.toArray++CD z.cells (grownCap w (n+new.length) l.cap e - (n+new.length)))) e):=by rw[<- hW];rfl
      have u5:W.os=w.os/\W.output=w.output:=by rw[<- hW];exact⟨rfl,rfl⟩
      have gm:(dt.toArray++(news.toArray++CD z.cells (grownCap w (n+new.length) l.cap e - (n+new.length)))).toList.take ((rows++new).length*i.size)=dt++news:=by simp only[EK,<- CJ];rw[<- ym];exact GU
      have gd:(dt.toArray++(news.toArray++CD z.cells (grownCap w (n+new.length) l.cap e - (n+new.length)))).size=grownCap w (n+new.length) l.cap e*i.size:=by have h1:=il.len;have h2:=hrr.len;rw[ax]at h1;simp only[FP,FT,HF,su,h1,h2,<- CS];congr 1;omega
      generalize ru:(dt.toArray++(news.toArray++CD z.cells (grownCap w (n+new.length) l.cap e - (n+new.length))))=C at rf gm gd;refine fin (.slice (Qr ⟨w.heap.size,0,Qs⟩) (n+new.length) (grownCap w (n+new.length) l.cap e)) W (by rw[th];exact cl) ⟨g.setObj o ⟨w.heap.size,v',n+new.length,i.size,grownCap w (n+new.length) l.cap e⟩,Step.update hw o _ _ (hw.lt o l hl) (by rw[rf];simp) (fun b du _=>cK rf du) (by rw[rf];simp)
        (.inl (AQ _)) rfl rfl (fun l0 sz=>by rw[hl]at sz;cases sz;exact⟨by show l.st<=v';omega,fun _=>⟨by show l.len<=n+new.length;omega,fun e=>by exfalso;have:n+new.length=l.len:=e;omega⟩⟩)
        (fun hle=>⟨⟨gz.symm,rfl,by rw[gz];exact vk,wV rf,da.row,fun j hj=>?_,fun i' j row c h1 h2=>?_⟩,C,by rw[rf];simp⟩) u5,.sr o v' _ _ _ _ (by simp[G.setObj];rfl) (AQ _) (fun _=>AQ _) (by show n+new.length<=_;omega) fun _ _=>⟨rfl,rfl⟩⟩
      ·rw[kD rf];have:j<C.size:=by rw[gd];exact hj
       simp[this]
      have nr:i'<(rows++new).length:=(AH.1 h1).1;have nh:j<i.size:=by rw[<- da.row row (AN h1)];exact (AH.1 h2).1
      have hlt:=eV nr nh;have hs:=AO.1 (AO.1 mf row (AN h1)) c (AN h2);have iq:i'*i.size+j<(dt++news).length:=by rw[ym];exact hlt
      refine⟨hs,(dt++news)[i'*i.size+j], ?_,(da.rel i' j row c _ h1 h2 (by simp)).mono hle⟩;rw[kD rf];have:C.toList[i'*i.size+j]? = Qr ((dt++news)[i'*i.size+j]):=by
       have h3:(C.toList.take ((rows++new).length*i.size))[i'*i.size+j]? = (dt++news)[i'*i.size+j]? := by rw[gm]
       rw[CF,Zy hlt]at h3;rw[h3];exact AP iq
      simpa using this
   cases h
  cases h
 cases h
theorem aTv{α:Type}{l m:List α}{a:Nat}(h:a+m.length<=l.length)(i:Nat):(l.take a++m++l.drop (a+m.length))[i]? = if a<=i/\i<a+m.length then m[i - a]? else l[i]? := by
 have ha:(l.take a).length=a:=by simp;omega
 by_cases h1:i<a
 ·rw[Zx (by omega),CJ,BM (by omega),CF,Zy h1]
 rw[CJ,BU (by omega),ha];by_cases h2:i<a+m.length
 ·rw[Zy ⟨by omega,h2⟩,BM (by omega)]
 rw[Zx (by omega),BU (by omega),List.getElem?_drop];congr 1;omega
theorem bA0{t u e ty:BP}{k:Nat}{X Y:CA}{x y:aa}(ht:P.underlying t=Qr (.slice e))(gd:size? P e=Qr k) (hX:fA ab X=Qr x) (hY:fA ab Y=Qr y) {call:Nat->LA->LO->Out} {site:Option Nat} {av:AV} {H':LO} {wr:LN} (h:evW call H ρ site (.cpy k x y)=Qr (av,H',wr)) (hw:WF g H w) (hg:bM P ab g) (hs:aX g ρ a.tmps):aA8 P ⟨dst,.call { callee:=.builtin .copy,args := #[X,Y],argTypes := #[t,u] },ty,pos,after,guard⟩ a w fun v w'=>∃g',Step g H w g' H' w' wr/\ai g' av v:=by
 have hrx:=aQ hX hg hs;have Hs:=aQ hY hg hs;have fin:∀v w',(KJ #[t,u] ty #[a.eval X,a.eval Y]).run P w=.ok v w'->(∃g',Step g H w g' H' w' wr/\ai g' av v) ->
   aA8 P ⟨dst,.call { callee:=.builtin .copy,args := #[X,Y],argTypes := #[t,u] },ty,pos,after,guard⟩ a w fun v w'=>∃g',Step g H w g' H' w' wr/\ai g' av v:=fun v w' hr hR=>.inl ⟨v,w',by simp[execOp,resolve,invoke,builtin,hr],hR⟩
 simp only[evW]at h;split at h
 ·rename_i o v n k' lo O5;rw[O5]at hrx;split at h
  ·rename_i v' k2 rows hH;split at h
   ·rename_i new ki;generalize th:a.eval X=sval at hrx;cases hrx with
    |srv o v n k' lo l b cap hl hv hn gr hh=>
     by_cases ja:new.isEmpty=Qt
     ·rw[Zy ja]at h;cases h;have gq:new=[]:=by simpa using ja
      subst gq;obtain⟨news,hN,hrr,dq⟩:=gN (P:=P) (k:=k) hw ki rfl Hs;have lh:news=[]:=DP (by have:=hN.size;simpa using this);subst lh;refine fin (.int .i64 0) w ?_ ⟨g,.refl hw,.int _ _⟩;have hc:=hN.cells w rfl;have hm:Nat.min 0 (n - lo)=0:=Nat.zero_min _;rw[th];simp only[AZ]at hN hc;simp[KJ,BH ht,hN.len,fV gd,hm,hc,IB,goInt]
     rw[Zx ja]at h;split at h
     ·rename_i hc;cases h;obtain⟨rfl,ax,rfl,rfl,nq,pc⟩:=hc;obtain⟨news,hN,hrr,dq⟩:=gN (P:=P) hw ki nq Hs;have kj:0<new.length:=by
       cases new with
       |nil=>simp at ja
       |cons _ _=>simp
      have bd:l.st=v':=by have:=hw.st o _ l hH hl;simp only[ah.ver]at this;omega
      have hb:au g H o l (.vec v' k' rows):=⟨hH,rfl,hl,bd⟩;obtain⟨h0,ow,cm,dr,hk,eh,bc⟩:=hw.obj o l _ hb;obtain⟨off,rfl,zd,_⟩:=hh bd (by omega);obtain rfl:=zd (by omega);have O4:=hrr.len;have Y0:lo*k'+new.length*k'<=rows.length*k':=by rw[<- CS];exact BO _ (by omega)
      have u6:rows.length*k'<=l.cap*k':=BO _ cm;have iv:∀j,j<news.length->(w.cell? ⟨l.b,lo*k'+j,Qs⟩).isSome=true:=fun j hj=>eh _ (by omega);have ud:∀y∈news,y.oneCell'=true:=hrr.js dq;have oz:=GH (P:=P) l.b (lo*k') news 0 w (by simpa using iv) (by intro j hj;exact dr _ (by simpa using iv j hj)) ud;refine fin (.int .i64 new.length) (w.setCells l.b (lo*k') news) ?_ ⟨g,Step.write hw hb rfl rfl ⟨?_,ow, ?_,fun j hj=>?_,fun r hr=>?_,fun j hj=>?_,fun i' j r c h1 h2=>?_⟩,.int _ _⟩
      ·have hm:Nat.min new.length (n - lo)=new.length:=Nat.min_eq_left (by omega);have hc:=hN.cells w rfl;rw[th];simp only[DU]at oz;simp[KJ,BH ht,hN.len,fV gd,hm,hc,goInt,oz]
      ·simp;omega
      ·simp;omega
      ·rw[EI];refine dr j ?_;by_cases hr:lo*k'<=j/\j<lo*k'+news.length
       ·have:=iv (j - lo*k') (by omega)
        rwa [show lo*k'+(j - lo*k')=j by omega]at this
       rwa [BV l.b news (lo*k') w ⟨l.b,j,Qs⟩ (fun _ _=>by simp;omega)]at hj
      ·rcases AY.1 hr with hr | hr
       ·rcases AY.1 hr with hr | hr
        ·exact hk r (FA hr)
        exact hrr.row r hr
       exact hk r (List.mem_of_mem_drop hr)
      ·by_cases hr:lo*k'<=j/\j<lo*k'+news.length
       ·have:=CQ l.b news (lo*k') w iv (j - lo*k') (by omega);rw[show lo*k'+(j - lo*k')=j by omega]at this;rw[this];rfl
       rw[BV l.b news (lo*k') w ⟨l.b,j,Qs⟩ (fun _ _=>by simp;omega)];exact eh j hj
      rw[aTv (by omega)]at h1;split at h1
      ·rename_i hi;have nh:j<k':=by rw[<- hrr.row r (AN h1)];exact (AH.1 h2).1
       have hs:=AO.1 (AO.1 dq r (AN h1)) c (AN h2);have hlt:=eV (show i' - lo<new.length by omega) nh;have Kb:(i' - lo)*k'=i'*k' - lo*k':=IW _ _ _;have nj:lo*k'<=i'*k':=BO _ hi.1;have:=CQ l.b news (lo*k') w iv ((i' - lo)*k'+j) (by omega);rw[show lo*k'+((i' - lo)*k'+j)=i'*k'+j by omega]at this;exact⟨hs,_,this,hrr.rel (i' - lo) j r c _ h1 h2 (by simp)⟩
      rename_i hi;obtain⟨hs,y,hy,hr⟩:=bc i' j r c h1 h2;have nh:j<k':=by rw[<- hk r (AN h1)];exact (AH.1 h2).1
      refine⟨hs,y, ?_,hr⟩;rw[BV l.b news (lo*k') w ⟨l.b,i'*k'+j,Qs⟩ (fun _ _=>?_)]
      ·exact hy
      by_cases hlt:i'<lo
      ·have:=eV hlt nh;left;simp;omega
      have:(lo+new.length)*k'<=i'*k':=BO _ (by omega);rw[CS]at this;right;simp;omega
     cases h
   cases h
  cases h
 cases h
end
section
variable {P:CU}{ab:cu}{g:G}{H:LO}{w w':BL}{ρ:LA}{a:Act}
variable {dst:Option Tmp}{type:BP}{pos:String}{after:Array OO}{guard:Option (Nat×Bool)}
theorem aCS{k:Nat}:∀(parts:List (Nat×CA)) (aps:List (Nat×aa)),parts.length=aps.length->∀(g:G) (H:LO),WF g H w->(∀(j:Nat) i X i' x,parts[j]? = Qr (i,X)->aps[j]? = Qr (i',x)->i'=i/\ai g (x.ev ρ) (a.eval X)) ->∀(rows:List LA) (cells:Array BE),bz g k rows cells.toList->rows.all (fun r=>r.all AV.still)=Qt->∀out H' l,nW ρ k H rows aps=Qr (out,H',l) ->∃g' dh,Step g H w g' H' w l/\FZ (fun i=>Qr (i*k,k)) cells (parts.map fun p=>(p.1,a.eval p.2))=Qr dh/\bz g' k out dh.toList/\out.length=rows.length/\out.all (fun r=>r.all AV.still)=Qt
 | [],aps,hl,g,H,hw,_,rows,cells,hr,bd,out,H',l,h=>by
  cases aps with
  |nil=>simp only[nW,AG,BK]at h;obtain⟨rfl,rfl,rfl⟩:=h;exact⟨g,cells,.refl hw,rfl,hr,rfl,bd⟩
  |cons _ _=>simp at hl
 | (i,X)::parts,aps,hl,g,H,hw,hp,rows,cells,hr,bd,out,H',l,h=>by
  cases aps with
  |nil=>simp at hl
  |cons p aps=>
   obtain⟨i',x⟩:=p;simp only[nW]at h;split at h
   ·rename_i v H1 l1 Dz;split at h
    ·rename_i hc;split at h
     ·rename_i bt H'' l' mz;simp only[AG,BK]at h;obtain⟨rfl,rfl,rfl⟩:=h;obtain⟨h1,h2⟩:=hp 0 i X i' x rfl rfl;subst h1;obtain⟨g1,bn,Kc⟩:=qO hw Dz h2;have hv:=Kc.cells (jM hc.2.2);have E4:=hv.1;simp only[DI]at E4;have gj:=hr.mono bn.le;have ax:=hr.len;simp only[DI]at ax;have hb:i'*k+k<=rows.length*k:=by
       have:(i'+1)*k<=rows.length*k:=BO _ hc.2.1
       rwa [CS,Nat.one_mul]at this
      obtain⟨cells1,e1,e2⟩:=aCR (place:=fun i=>Qr (i*k,k)) (cells:=cells) (i:=i') (off:=i'*k) (v:=a.eval X) (rest:=parts.map fun p=>(p.1,a.eval p.2)) (by simp;omega) (by omega);have nv:bz g1 k (rows.set i' v.cells) cells1.toList:=by rw[e1];have:=gj.set hc.2.1 hv hc.1;simpa using this
      have q7:(rows.set i' v.cells).all (fun r=>r.all AV.still)=true:=by
       rw[AO]at bd ⊢;intro r hm;rcases GI hm with oq | rfl
       ·exact bd r oq
       exact hc.2.2
      obtain⟨g',dh,e3,e4,e5,e6,e7⟩:=aCS parts aps (by simpa using hl) g1 H1 bn.wf
       (fun j i X o x h1 h2=>by obtain⟨a1,a2⟩:=hp (j+1) i X o x (by simpa using h1) (by simpa using h2);exact⟨a1,a2.mono bn.le⟩) _ cells1 nv q7 _ _ _ mz
      exact⟨g',dh,bn.trans e3,by simp only[List.map_cons];rw[e2];exact e4,e5,by rw[e6];simp,e7⟩
     cases h
    cases h
   cases h
theorem bA1{t e:BP}{k n:Nat}{parts:Array (Nat×CA)}{zs:LA}{aps:List (Nat×aa)}(ht:P.underlying t=Qr (.slice e))(hk:size? P e=Qr k)(hz:zeroCells? P ab e=Qr zs)(hp:aFK ab n parts.toList=Qr aps) (O1:zs.length=k) (hn:n*k<=16777216) (bd:zs.all AV.still=Qt) {call:Nat->LA->LO->Out} {site:Option Nat} {av:AV} {H':LO} {wr:LN} (h:evW call H ρ site (.bsl k (zs.map AV.aj) n aps)=Qr (av,H',wr)) (hw:WF g H w) (hg:bM P ab g) (hs:aX g ρ a.tmps):aA8 P ⟨dst,.buildSlice t n parts,type,pos,after,guard⟩ a w fun v w'=>∃g',Step g H w g' H' w' wr/\ai g' av v:=by
 simp only[evW]at h;obtain⟨it,z,hi,tq,ub⟩:=zeroCells?_spec hz;obtain⟨i',nr,gd⟩:=size?_info hk;rw[hi]at nr;cases nr;obtain⟨h1,h2⟩:=aC8 hp;have me:bz g k (AX n (zs.map AV.aj)) (((CV (n*k)).map (z.cells[· % z.cells.size]!)).toList):=aFx (ub g).aj (by simpa using O1);have rr:(AX n (zs.map AV.aj)).all (fun r=>r.all AV.still)=true:=by rw[AO];intro r hm;rw[(GS.1 hm).2];exact jN bd
 have cl:∀cells,FZ (fun i=>Qr (i*k,k)) ((CV (n*k)).map (z.cells[· % z.cells.size]!)) (parts.toList.map fun p=>(p.1,a.eval p.2))=Qr cells ->
   (execOp a.eval ⟨dst,.buildSlice t n parts,type,pos,after,guard⟩).run P w=.ok (.value (.slice (Qr ⟨w.heap.size,0,Qs⟩) n n)) (w.alloc (.cells cells e)):=fun cells e1=>by
  have hf:FZ (fun i=>Qr (i*k,k)) ((CV (n*k)).map (z.cells[· % z.cells.size]!)) (parts.map fun p=>(p.1,a.eval p.2)).toList=Qr cells:=by rw[GF];exact e1
  simp only[execOp,BS,aBF ht hi gd tq hn hf,BJ,CB]
 split at h
 ·rename_i id;split at h
  ·rename_i rows hb;split at h
   ·rename_i hid;cases h;obtain⟨cells,e1,e2,e3,e4⟩:=aA6 (g:=g) (a:=a) (ρ:=ρ) parts.toList aps h1 (fun j i X i' x e1 e2=>by
     obtain⟨ho,_,hx⟩:=h2 j i X i' x e1 e2;exact⟨ho,aQ hx hg hs⟩) _ _ me (vF rr) _ hb
    have ax:rows.length=n:=by rw[e3];simp
    have kq:=e2.len;have gm:cells.toList.take (rows.length*k)=cells.toList:=CH (by omega);obtain⟨g',s1,s2⟩:=Step.ry (w':=w.alloc (.cells cells e)) hw hid (c:=cells) (t:=e) rfl (k:=k) (cap:=n) (by rw[gm];exact e2) e4 (by omega) (by simpa [ax]using kq);rw[ax]at s2;exact .inl ⟨_,_,cl cells e1,g',s1,s2⟩
   cases h
  cases h
 split at h
 ·rename_i rows H1 dc my;cases h;obtain⟨g1,cells,bn,e1,e2,e3,e4⟩:=aCS (a:=a) (ρ:=ρ) parts.toList aps h1 g H hw (fun j i X i' x e1 e2=>by
   obtain⟨ho,_,hx⟩:=h2 j i X i' x e1 e2;exact⟨ho,aQ hx hg hs⟩) _ _ me rr _ _ _ my
  have ax:rows.length=n:=by rw[e3];simp
  have kq:=e2.len;have gm:cells.toList.take (rows.length*k)=cells.toList:=CH (by omega);have pz:=Step.ir (w':=w.alloc (.cells cells e)) bn.wf cells e (0,0) rfl;have hv:=ai.rp (g:=g1) (f:=Qt) (cap:=n) (b:=w.heap.size) e4 (by omega) (fun _=>ax.symm) (by rw[gm];exact e2.mono pz.le);rw[ax]at hv;refine .inl ⟨_,_,cl cells e1,_,(bn.trans pz).weaken fun o ho=>by simpa using ho,hv⟩
 cases h
structure xj(g:G)(H:LO)(n0:Nat)(w:BL)(k:Nat)(rows:List LA)(b cap:Nat):Prop where
 ki:n0<=b
 hlt:b<w.heap.size
 cm:rows.length<=cap
 dr:aQV w b
 cn:∀row∈rows,row.length=k
 dq:rows.all (fun r=>r.all AV.still)=Qt
 eh:∀j,j<cap*k->(w.cell? ⟨b,j,Qs⟩).isSome
 dj:∀(i j:Nat) (row:LA) c,rows[i]? = Qr row->row[j]? = Qr c->∃y,w.cell? ⟨b,i*k+j,Qs⟩=Qr y/\ai g c y
 vm:∀j,g.perm b j=Qs
 pd:∀o l x,au g H o l x->l.b≠b
 u7:g.whole b=Qs
def pN(g:G)(H:LO)(n0:Nat)(w:BL)(av:AV)(v:BE):Prop:=
 match av with
 |.own k rows=>∃b cap,v=.slice (Qr ⟨b,0,Qs⟩) rows.length cap/\xj g H n0 w k rows b cap
 |av=>ai g av v
def gS(P:CU)(ab:cu)(call:Nat->LA->LO->Out):Prop:=
 ∀f args H av H' wr,call f args H=Qr (av,H',wr)->∀g w xs,WF g H w->bM P ab g->fU g args xs ->
  (∃F,P.funcs[f]? = Qr F/\(F.name == "runtime.NumGoroutine")=Qu/\F.body.isNone=Qu) /\
  Calls P f xs.toArray w fun e w'=>match e with
   |.returned v=>∃g',Step g H w g' H' w' wr/\pN g' H' w.heap.size w' av v
   |_=>False
def aOS(P:CU)(ab:cu)(call:Nat->LA->LO->Out):Prop:=
 ∀o v Pq H av H' wr,call YF (.own 0 []::.yld o v::Pq) H=Qr (av,H',wr)->∀g w l xs,WF g H w->bM P ab g->ai g (.yld o v) (.func (.yield l) #[] #[])->fU g Pq xs ->
  ∃r,w.heap[l]? = Qr (.loop r)/\r.params.size=xs.length /\
   RoundIn FJ 0 P l r.fn ((r.params.zip xs.toArray).foldl (fun tmps (t,a)=>tmps.setIfInBounds t a) r.tmps) r.assign r.body w fun e w'=>match e with
    |.returned v=>∃g',Step g H w g' H' w' wr/\ai g' av v
    |_=>False
def oT(P:CU)(ab:cu)(call:Nat->LA->LO->Out):Prop:=gS P ab call/\aOS P ab call
theorem aC9:∀(rows:List LA) {g:G} {H:LO},WF g H w->∀{bt:List LA} {H':LO} {l:LN},aLw H rows=Qr (bt,H',l) ->∀(xss:List (List BE)),(rows.length=xss.length/\∀(i:Nat) r xs,rows[i]? = Qr r->xss[i]? = Qr xs->fU g r xs) ->∃g',Step g H w g' H' w l/\bt.length=xss.length/\∀(i:Nat) r xs,bt[i]? = Qr r->xss[i]? = Qr xs->fU g' r xs
 | [],g,H,hw,bt,H',l,h,xss,hx=>by
  cases h;exact⟨g,.refl hw,hx.1,fun i r xs h=>by simp at h⟩
 |r::rs,g,H,hw,bt,H',l,h,xss,hx=>by
  cases xss with
  |nil=>have:=hx.1;simp at this
  |cons xs xss=>
   unfold aLw at h;split at h
   ·rename_i r' H1 l1 hf;split at h
    ·rename_i rs' H2 l2 hr;cases h;have h0:=hx.2 0 r xs rfl rfl;obtain⟨g1,s1,v1⟩:=qO hw hf (fU.agg (vs:=xs.toArray) (by simpa using h0));obtain⟨ys,e1,qe⟩:=v1.fu;cases e1;have O6:fU g1 r' xs:=by simpa using qe
     obtain⟨g2,s2,ax,dj⟩:=aC9 rs s1.wf hr xss ⟨by have:=hx.1;simpa using this,fun i r xs e1 e2=>(hx.2 (i+1) r xs (by simpa using e1) (by simpa using e2)).mono s1.le⟩;refine⟨g2,s1.trans s2,by simpa using ax,fun i r xs e1 e2=>?_⟩;cases i with
     |zero=>simp at e1 e2;subst e1;subst e2;exact O6.mono s2.le
     |succ i=>exact dj i r xs (by simpa using e1) (by simpa using e2)
    cases h
   cases h
theorem aCT(hw:WF g H w){v v':AV}{H':LO}{l:LN}(h:aA3 H v=Qr (v',H',l)){x:BE}(hx:ai g v x):∃g',Step g H w g' H' w l/\ai g' v' x:=by
 unfold aA3 at h;split at h
 ·rename_i o ve n;split at h
  ·rename_i v0 k rows ho;split at h
   ·rename_i hc;obtain⟨rfl,ax⟩:=hc;split at h
    ·rename_i bt H1 l1 hi;split at h
     ·rename_i nc;split at h
      ·rename_i v2 H2 l2 hf;cases h;have hb:∃lc,au g H o lc (.vec v0 k rows):=by
        cases hx with
        |sr _ _ _ lc b cap hl hv hn jg hh=>
         have bd:lc.st=v0:=by have:=hw.st o _ lc ho hl;simp only[ah.ver]at this;omega
         exact⟨lc,ho,rfl,hl,bd⟩
       obtain⟨lc,hb⟩:=hb;obtain⟨h0,ow,cm,dr,hk,eh,bc⟩:=hw.obj o lc _ hb;have cj:∀(i j:Nat),i<rows.length->j<k->∃y,w.cell? ⟨lc.b,i*k+j,Qs⟩=Qr y:=fun i j hi hj=>by
        have yg:=hk rows[i] (AS hi);obtain⟨_,y,hy,_⟩:=bc i j rows[i] (rows[i][j]'(by omega)) (by simp[hi]) (by simp);exact⟨y,hy⟩
       generalize re:((GZ rows.length).map fun i=>(GZ k).map fun j=>(w.cell? ⟨lc.b,i*k+j,Qs⟩).getD EE)=xss;have dj:rows.length=xss.length/\∀(i:Nat) r xs,rows[i]? = Qr r->xss[i]? = Qr xs->fU g r xs:=by subst re;refine⟨by simp,fun i r xs e1 e2=>?_⟩;have hi:i<rows.length:=(AH.1 e1).1;simp[hi]at e2;subst e2;refine⟨by simpa using hk r (AN e1),fun j c y e3 e4=>?_⟩;have hj:j<r.length:=(AH.1 e3).1;rw[hk r (AN e1)]at hj;simp[hj]at e4;obtain⟨_,z,hz,hr⟩:=bc i j r c e1 e3;rw[hz]at e4;simp at e4;subst e4;exact hr
       obtain⟨g1,s1,qe,gj⟩:=aC9 rows hw hi xss dj;have tp:o∉l1:=by have:=nc.1;simpa using this
       have hlt:o<H.length:=hw.lt o lc hb.loc;have fo:au g1 H1 o lc (.vec v0 k rows):=⟨by rw[s1.same o hlt tp];exact ho,rfl,by rw[s1.aq o hlt tp];exact hb.loc,hb.st⟩;have lz:=hx.mono s1.le;have U8:bt.length=rows.length:=by rw[qe,dj.1]
       have s2:Step g1 H1 w g1 (H1.set o (.vec v0 k bt)) w [o]:=by
        refine Step.write (xs:=[]) (off:=0) s1.wf fo rfl rfl ⟨by rw[h0,U8],ow,by rw[U8];exact cm,dr,fun r hr=>?_,eh,fun i j r c e1 e2=>?_⟩
        ·obtain⟨i,hi,he⟩:=MQ hr;have l8:i<xss.length:=by omega
         have:=(gj i r xss[i] (by rw[AP hi,he]) (by simp[l8])).1;rw[this];subst re;simp
        have hi:i<bt.length:=(AH.1 e1).1;have l8:i<xss.length:=by omega
        have hl:=gj i r xss[i] e1 (by simp[l8]);have hj:j<r.length:=(AH.1 e2).1;have Y1:j<xss[i].length:=by rw[<- hl.1];exact hj
        refine⟨AO.1 (AO.1 nc.2 r (AN e1)) c (AN e2),xss[i][j], ?_,hl.2 j c _ e2 (by simp[Y1])⟩;subst re;have nh:j<k:=by simpa using Y1
        obtain⟨y,hy⟩:=cj i j (by omega) nh;show w.cell? _=_;simp[hy]
       obtain⟨g3,s3,v3⟩:=qO s2.wf hf lz;exact⟨g3,s1.trans (s2.trans s3),v3⟩
      cases h
     cases h
    cases h
   cases h
  cases h
 exact qO hw h hx
theorem aIY(hw:WF g H w){v:AV}{H':LO}{l:LN}(h:pE H v=Qr (H',l)){x:BE}(hx:ai g v x):∃g',Step g H w g' H' w l:=by
 unfold pE at h;split at h
 ·cases h;exact⟨g,.refl hw⟩
 ·rename_i o ve n;split at h
  ·rename_i v0 k rows ho;split at h
   ·rename_i hc;obtain⟨rfl,ax⟩:=hc;split at h
    ·rename_i bt H1 l1 hi;split at h
     ·rename_i nc;cases h;have hb:∃lc,au g H o lc (.vec v0 k rows):=by
       cases hx with
       |sr _ _ _ lc b cap hl hv hn jg hh=>
        have bd:lc.st=v0:=by have:=hw.st o _ lc ho hl;simp only[ah.ver]at this;omega
        exact⟨lc,ho,rfl,hl,bd⟩
      obtain⟨lc,hb⟩:=hb;obtain⟨h0,ow,cm,dr,hk,eh,bc⟩:=hw.obj o lc _ hb;have cj:∀(i j:Nat),i<rows.length->j<k->∃y,w.cell? ⟨lc.b,i*k+j,Qs⟩=Qr y:=fun i j hi hj=>by
       have yg:=hk rows[i] (AS hi);obtain⟨_,y,hy,_⟩:=bc i j rows[i] (rows[i][j]'(by omega)) (by simp[hi]) (by simp);exact⟨y,hy⟩
      generalize re:((GZ rows.length).map fun i=>(GZ k).map fun j=>(w.cell? ⟨lc.b,i*k+j,Qs⟩).getD EE)=xss;have dj:rows.length=xss.length/\∀(i:Nat) r xs,rows[i]? = Qr r->xss[i]? = Qr xs->fU g r xs:=by subst re;refine⟨by simp,fun i r xs e1 e2=>?_⟩;have hi:i<rows.length:=(AH.1 e1).1;simp[hi]at e2;subst e2;refine⟨by simpa using hk r (AN e1),fun j c y e3 e4=>?_⟩;have hj:j<r.length:=(AH.1 e3).1;rw[hk r (AN e1)]at hj;simp[hj]at e4;obtain⟨_,z,hz,hr⟩:=bc i j r c e1 e3;rw[hz]at e4;simp at e4;subst e4;exact hr
      obtain⟨g1,s1,qe,gj⟩:=aC9 rows hw hi xss dj;have tp:o∉l1:=by have:=nc.1;simpa using this
      have hlt:o<H.length:=hw.lt o lc hb.loc;have fo:au g1 H1 o lc (.vec v0 k rows):=⟨by rw[s1.same o hlt tp];exact ho,rfl,by rw[s1.aq o hlt tp];exact hb.loc,hb.st⟩;have lz:=hx.mono s1.le;have U8:bt.length=rows.length:=by rw[qe,dj.1]
      have s2:Step g1 H1 w g1 (H1.set o (.vec v0 k bt)) w [o]:=by
       refine Step.write (xs:=[]) (off:=0) s1.wf fo rfl rfl ⟨by rw[h0,U8],ow,by rw[U8];exact cm,dr,fun r hr=>?_,eh,fun i j r c e1 e2=>?_⟩
       ·obtain⟨i,hi,he⟩:=MQ hr;have l8:i<xss.length:=by omega
        have:=(gj i r xss[i] (by rw[AP hi,he]) (by simp[l8])).1;rw[this];subst re;simp
       have hi:i<bt.length:=(AH.1 e1).1;have l8:i<xss.length:=by omega
       have hl:=gj i r xss[i] e1 (by simp[l8]);have hj:j<r.length:=(AH.1 e2).1;have Y1:j<xss[i].length:=by rw[<- hl.1];exact hj
       refine⟨AO.1 (AO.1 nc.2 r (AN e1)) c (AN e2),xss[i][j], ?_,hl.2 j c _ e2 (by simp[Y1])⟩;subst re;have nh:j<k:=by simpa using Y1
       obtain⟨y,hy⟩:=cj i j (by omega) nh;show w.cell? _=_;simp[hy]
      exact⟨g1,s1.trans s2⟩
     cases h
    cases h
   cases h
  cases h
 cases h
theorem aI1(hw:WF g H w){v v':AV}{H':LO}{l:LN}(h:aMD H v=Qr (v',H',l)){x:BE}(hx:ai g v x):∃g',Step g H w g' H' w l/\ai g' v' x:=by
 unfold aMD at h;split at h
 ·rename_i hf;cases h;exact qO hw hf hx
 split at h
 ·split at h
  ·rename_i hf;cases h;obtain⟨ys,rfl,hl⟩:=hx.fu;obtain⟨y,hy⟩:∃y,ys.toList=[y]:=by
    have:=hl.1;simp only[AW,AZ]at this;exact List.length_eq_one_iff.1 this.symm
   obtain⟨g',h1,h2⟩:=aCT hw hf (hl.2 0 _ y rfl (by rw[hy];rfl));refine⟨g',h1, ?_⟩;have:ys = #[y]:=by cases ys;simpa using hy
   subst this;refine ai.agg _ _ rfl fun i a z e1 e2=>?_
   match i with
   |0=>simp at e1 e2;subst e1;subst e2;exact h2
   |i+1=>simp at e1
  cases h
 exact aCT hw h hx
theorem aJY{n0:Nat}(hw:WF g H w){k:Nat}{rows:List LA}{b cap:Nat}(h:xj g H n0 w k rows b cap):∃g',Step g H w g' H w []/\ai g' (.sl Qu rows) (.slice (Qr ⟨b,0,Qs⟩) rows.length cap):=by
 have hle:g.le (g.bh b fun i=>w.cell? ⟨b,i,Qs⟩):=by
  refine⟨fun b' i y hy=>?_,fun o l hl=>⟨l,hl,AQ _,fun _=>⟨AQ _,fun _=>rfl⟩⟩,fun _ _ hx=>hx,rfl,rfl⟩;by_cases e:b'=b
  ·subst e;rw[h.vm i]at hy;cases hy
  simp only[G.bh,e,Zu];exact hy
 have dx:∀o l x,au (g.bh b fun i=>w.cell? ⟨b,i,Qs⟩) H o l x->au g H o l x:=fun o l x hb=>⟨hb.Pr,hb.alive,hb.loc,hb.st⟩;refine⟨g.bh b fun i=>w.cell? ⟨b,i,Qs⟩,⟨hle,⟨fun b' i y hy=>?_,hw.lt,hw.blk,hw.st,fun o l x hb=>(hw.obj o l x (dx _ _ _ hb)).aq hle rfl,fun o l x hb j=>?_,fun o o' l l' x x' hb du=>hw.inj o o' l l' x x' (dx _ _ _ hb) (dx _ _ _ du),
   hw.whole.aq rfl rfl ⟨rfl,rfl⟩ (fun _ _ _=>rfl) fun o l y hl=>.inr ⟨o,l,y,dx _ _ _ hl,rfl⟩⟩,
  aDS.refl _ _ _,fun _ _ _=>rfl,AQ _,fun _ l' hl=>.inr ⟨l',hl,rfl⟩,fun _ _ _=>rfl⟩, ?_⟩
 ·by_cases e:b'=b
  ·subst e;simpa only[G.bh,Zv]using hy
  simp only[G.bh,e,Zu]at hy;exact hw.perm b' i y hy
 ·have bl:=h.pd o l x (dx _ _ _ hb);simp only[G.bh,bl,Zu];exact hw.jh o l x (dx _ _ _ hb) j
 refine .sl Qu rows b 0 cap k h.cm (by simp) h.cn (AO.1 h.dq) (fun i j hi hj=>?_) fun i j row c x h1 h2 h3=>?_
 ·have yg:=h.cn rows[i] (AS hi);obtain⟨y,hy,_⟩:=h.dj i j rows[i] (rows[i][j]'(by omega)) (by simp[hi]) (by simp);simp only[G.bh,Zv,BC,hy];rfl
 obtain⟨y,hy,hr⟩:=h.dj i j row c h1 h2;simp only[G.bh,Zv,BC,hy,AG]at h3;subst h3;exact hr.mono hle
theorem aI2{n0:Nat}(hw:WF g H w){k:Nat}{rows:List LA}{b cap:Nat}(h:xj g H n0 w k rows b cap){id:Nat}(hid:id<H.length):∃g',g'.perm=g.perm/\g.le g'/\WF g' (make H id (.vec · k rows)) w/\(∀o,o≠id->g'.obj o=g.obj o)/\(∀l',g'.obj id=Qr l'->l'.b=b) /\ ai g' (.sr id (bH H id) rows.length) (.slice (Qr ⟨b,0,Qs⟩) rows.length cap):=by
 have hx:H[id]? = Qr H[id]:=by simp[hid]
 have hv:bH H id=H[id].ver+1:=by simp[bH,hid]
 generalize kg:(⟨b,bH H id,rows.length,k,cap⟩:Loc)=l';have hle:g.le (g.setObj id l'):=by
  refine⟨fun _ _ _ hx=>hx,fun o' l hl=>?_,fun _ _ hx=>hx,rfl,rfl⟩;by_cases e:o'=id
  ·subst e;have:=hw.st o' _ l hx hl;exact⟨l',by simp[G.setObj],by rw[<- kg];show l.st<=bH H o';omega,fun e=>by exfalso;rw[<- kg]at e;have:bH H o'=l.st:=e;omega⟩
  exact⟨l,by simp only[G.setObj,e,Zu];exact hl,AQ _,fun _=>⟨AQ _,fun _=>rfl⟩⟩
 have dx:∀o' l x,o'≠id->au (g.setObj id l') (make H id (.vec · k rows)) o' l x->au g H o' l x:=fun o' l x bl hb=>⟨by rw[<- getElem?_set_ne' H _ (Ne.symm bl)];exact hb.Pr,hb.alive,by have:=hb.loc;simpa only[G.setObj,bl,Zu]using this,hb.st⟩;have gy:∀l x,au (g.setObj id l') (make H id (.vec · k rows)) id l x->l=l'/\x=.vec (bH H id) k rows:=fun l x hb=>by
  have h1:=hb.Pr;have h2:=hb.loc;simp[make,hid]at h1;simp[G.setObj]at h2;refine⟨h2.symm, ?_⟩;rw[<- h1,hv]
 refine⟨g.setObj id l',rfl,hle,⟨hw.perm,fun o' l hl=>?_,fun o' l hl=>?_,fun o' x l wz hl=>?_,fun o' l x hb=>?_,fun o' l x hb j=>?_,fun o1 o2 l1 l2 x1 x2 fo dp e=>?_,⟨fun b' x hx=>⟨(hw.whole.blocks b' x hx).1,fun o' l y hl=>by
    by_cases e:o'=id
    ·subst e;obtain⟨rfl,rfl⟩:=gy l y hl;rw[<- kg];intro e2;have e3:b=b':=e2;have h0:=h.u7;have jr:g.whole b'=Qr x:=hx;rw[e3,jr]at h0;cases h0
    exact (hw.whole.blocks b' x hx).2 o' l y (dx o' l y e hl)⟩,hw.whole.io⟩⟩,fun o bl=>by simp[G.setObj,bl],fun l2 iq=>?_, ?_⟩
 ·by_cases e:o'=id
  ·subst e;simpa [make]using hid
  simp only[G.setObj,e,Zu]at hl;simpa [make]using hw.lt o' l hl
 ·by_cases e:o'=id
  ·subst e;simp[G.setObj]at hl;subst hl;rw[<- kg];exact h.hlt
  simp only[G.setObj,e,Zu]at hl;exact hw.blk o' l hl
 ·by_cases e:o'=id
  ·subst e;simp[G.setObj]at hl;simp[make,hid]at wz;subst hl;subst wz;rw[<- kg];show bH H o'<=H[o'].ver+1;omega
  simp only[G.setObj,e,Zu]at hl;rw[make,getElem?_set_ne' H _ (Ne.symm e)]at wz;exact hw.st o' x l wz hl
 ·by_cases e:o'=id
  ·subst e;obtain⟨rfl,rfl⟩:=gy l x hb;rw[<- kg];refine⟨rfl,rfl,h.cm,h.dr,h.cn,h.eh,fun i j row c h1 h2=>⟨aEG (AO.1 (AO.1 h.dq row (AN h1)) c (AN h2)), ?_⟩⟩;obtain⟨y,hy,hr⟩:=h.dj i j row c h1 h2;refine⟨y,hy, ?_⟩;rw[kg];exact hr.mono hle
  exact (hw.obj o' l x (dx o' l x e hb)).aq hle rfl
 ·by_cases e:o'=id
  ·subst e;obtain⟨rfl,rfl⟩:=gy l x hb;rw[<- kg];exact h.vm j
  exact hw.jh o' l x (dx o' l x e hb) j
 ·by_cases e1:o1=id
  ·by_cases e2:o2=id
   ·rw[e1,e2]
   subst e1;obtain⟨rfl,rfl⟩:=gy l1 x1 fo;exact Zw (by rw[<- kg]at e;exact e.symm) (h.pd o2 l2 x2 (dx _ _ _ e2 dp))
  by_cases e2:o2=id
  ·subst e2;obtain⟨rfl,rfl⟩:=gy l2 x2 dp;exact Zw (by rw[<- kg]at e;exact e) (h.pd o1 l1 x1 (dx _ _ _ e1 fo))
  exact hw.inj o1 o2 l1 l2 x1 x2 (dx _ _ _ e1 fo) (dx _ _ _ e2 dp) e
 ·simp[G.setObj]at iq;rw[<- iq,<- kg]
 subst kg;exact .sr id _ _ _ _ _ (by simp[G.setObj];rfl) (AQ _) (fun _=>AQ _) h.cm fun _ _=>⟨rfl,rfl⟩
end
section
variable {P:CU}{ab:cu}{g:G}{H:LO}{w w':BL}{ρ:LA}{a:Act}
variable {dst:Option Tmp}{type:BP}{pos:String}{after:Array OO}{guard:Option (Nat×Bool)}
theorem aTw{t:BP}{call:Nat->LA->LO->Out}{site:Option Nat} {av:AV} {H':LO} {wr:LN} (h:evW call H ρ site .jn=Qr (av,H',wr)) (hw:WF g H w):aA8 P ⟨dst,.makeMap t Qs,type,pos,after,guard⟩ a w fun v w'=>∃g',Step g H w g' H' w' wr/\ai g' av v:=by
 simp only[evW]at h;split at h
 ·rename_i id;split at h
  ·rename_i hid;cases h;have e:(w.alloc (.map #[] 0)).heap=w.heap.push (.map #[] 0):=rfl;have bd:=Step.update (w':=w.alloc (.map #[] 0)) hw id (.map (bH H id) []) ⟨w.heap.size,bH H id,0,0,0⟩ hid (by rw[e];simp) (fun b hb _=>cK e hb) (by rw[e];simp) (.inl (AQ _)) rfl rfl (fun l hl=>by
    have hx:H[id]? = Qr H[id]:=by simp[hid]
    have:=hw.st id _ l hx hl;have hv:bH H id=H[id].ver+1:=by simp[bH,hid]
    exact⟨by show l.st<=bH H id;omega,fun e=>by have e':bH H id=l.st:=e;omega⟩)
    fun hle=>⟨rfl,#[],0,by rw[e];simp,rfl,fun i k v e h=>by simp at h⟩
   refine .inl ⟨.map (Qr w.heap.size),w.alloc (.map #[] 0),by simp[execOp,Instr.makeMap,DL],_,bd, ?_⟩;exact .mp id _ _ _ (by simp[G.setObj];rfl) (AQ _) fun _ _=>rfl
  cases h
 cases h
theorem bA2{t kt et:BP}{K:IntKind}{M X V:CA}{m k v:aa}(ht:P.underlying t=Qr (.map kt et))(hk:P.underlying kt=Qr (.int K)) (hM:fA ab M=Qr m) (hX:fA ab X=Qr k) (hV:fA ab V=Qr v) {call:Nat->LA->LO->Out} {site:Option Nat} {av:AV} {H':LO} {wr:LN} (h:evW call H ρ site (.ins m k v)=Qr (av,H',wr)) (hw:WF g H w) (hg:bM P ab g) (hs:aX g ρ a.tmps):aA8 P ⟨dst,.insert t M X V,type,pos,after,guard⟩ a w fun v w'=>∃g',Step g H w g' H' w' wr/\ai g' av v:=by
 have hm:=aQ hM hg hs;have hx:=aQ hX hg hs;have hv:=(aQ hV hg hs).strip;simp only[evW]at h;split at h
 ·rename_i kk o ver e1;rw[e1]at hm;split at h
  ·rename_i v' es ho;split at h
   ·rename_i hc;obtain⟨nn,Y2,dq⟩:=hc;obtain⟨l,entries,clock,hb,J8,fb,dj,ax⟩:=aFT hw ho nn hm;have E8:∀b,(Instr.checkKey b 10000 kt (a.eval X)).run P w=.ok () w:=fun b=>pG hk b 9999 (a.eval X);have step:∀(es':List (AV×AV)) (xs':Array MapEntry) (clock':Nat),aTs g es' xs'.toList ->
      ∃g',Step g H w g' (H.set o (.map ver es')) { w with heap:=w.heap.setIfInBounds l.b (.map xs' clock') } [o]:=fun es' xs' clock' hr=>by
     have hlt:=hw.blk o l hb.loc;have uj:∀b,b≠l.b->(w.heap.setIfInBounds l.b (.map xs' clock'))[b]? = w.heap[b]? := fun b bl=>by simp[Ne.symm bl]
     refine⟨_,Step.update hw o (.map ver es') l (hw.lt o l hb.loc) (by simp) (fun b _ bl=>uj b fun e=>bl l _ hb e.symm) (by simpa using hlt) (.inr ⟨l,_,hb,rfl⟩) hb.st rfl (fun l2 iq=>?_)
      fun hle=>⟨ax,xs',clock',by simp[hlt],by simpa using hr.1,fun i k v e h1 h2=>?_⟩⟩
     ·have:l2=l:=by have:=hb.loc;rw[iq]at this;exact DZ this
      subst this;exact⟨AQ _,fun _=>⟨AQ _,fun _=>rfl⟩⟩
     have:=hr.2 i k v e h1 (by simpa using h2);exact⟨this.1.mono hle,this.2.mono hle⟩
    split at h
    ·rename_i j x hf;obtain⟨j',e',k',n,h1,h2,h3,h4,h5⟩:=iQ (K:=K) hx es entries.toList 0 _ dj hf;have hj:entries[j']? = Qr e':=by simpa using h2
     simp only[BC]at h1;subst h1;simp only[AG,BK]at h;obtain⟨rfl,rfl,rfl⟩:=h;have O5:a.eval X=.int k' n:=by rw[h4]at hx;cases hh:a.eval X<;>rw[hh]at hx<;>cases hx;rfl
     have Kd:e'.key=.int k' n:=by have:=(dj.2 j _ _ e' h3 h2).1;cases hh:e'.key<;>rw[hh]at this<;>cases this;rfl
     have qo:=LY (w:=w) hk h5;have bd:(MR (.int k' n) (.int k' n)).run P w=.ok (.int k' n) w:=by simp[MR,Instr.sameBits]
     have cl:(IH t (a.eval M) (a.eval X) (a.eval V)).run P w=.ok () { w with heap:=w.heap.setIfInBounds l.b (.map (entries.modify j fun e=>{ e with key:=.int k' n,val:=a.eval V }) clock) }:=by rw[O5]at qo E8;simp[IH,BH ht,J8,O5,FH fb,E8,qo,hj,Kd,bd,LD _ fb,DL]
     obtain⟨g',ml⟩:=step (es.set j (k.ev ρ,(v.ev ρ).strip)) (entries.modify j fun e=>{ e with key:=.int k' n,val:=a.eval V }) clock ⟨by simpa using dj.1,fun i k2 v2 e2 h6 h7=>by
      have zf:(entries.modify j fun e=>{ e with key:=.int k' n,val:=a.eval V })[i]? = Qr e2:=by rw[<- Array.getElem?_toList];exact h7
      rw[DJ]at zf;by_cases e:j=i
      ·subst e;have hlt:j<es.length:=(AH.1 h3).1;simp only[FB,Zv,hlt]at h6;rw[Zy rfl,hj]at zf;simp only[DE,AG]at zf;subst zf;simp only[AG,BK]at h6;obtain⟨rfl,rfl⟩:=h6;exact⟨by rw[<- O5];exact hx,hv⟩
      rw[Zx e]at zf;rw[getElem?_set_ne' _ _ e]at h6;exact dj.2 i k2 v2 e2 h6 (by simpa using zf)⟩
     exact .inr (.inl ⟨_,by simp[execOp,cl],g',ml,.undef _⟩)
    ·rename_i hf;have h5:=iQ (K:=K) hx es entries.toList 0 _ dj hf;simp only[AG,BK]at h;obtain⟨rfl,rfl,rfl⟩:=h;have qo:=LY (w:=w) hk h5;have cl:(IH t (a.eval M) (a.eval X) (a.eval V)).run P w=.ok () { w with heap:=w.heap.setIfInBounds l.b (.map (entries.push { key:=a.eval X,val:=a.eval V,born:=clock }) (clock+1)) }:=by
      simp[IH,BH ht,J8,FH fb,E8,qo,LD _ fb,DL]
     obtain⟨g',ml⟩:=step (es++[(k.ev ρ,(v.ev ρ).strip)]) (entries.push { key:=a.eval X,val:=a.eval V,born:=clock }) (clock+1) ⟨by simpa using dj.1,fun i k2 v2 e2 h6 h7=>by
      have zf:(entries.toList++[{ key:=a.eval X,val:=a.eval V,born:=clock }])[i]? = Qr e2:=by simpa using h7
      by_cases e:i<es.length
      ·rw[BM e]at h6;rw[BM (by rw[<- dj.1];exact e)]at zf;exact dj.2 i k2 v2 e2 h6 zf
      rw[BU (by omega)]at h6;rw[BU (by rw[<- dj.1];omega),<- dj.1]at zf;cases hd:i - es.length with
      |zero=>rw[hd]at h6 zf;simp at h6 zf;obtain⟨rfl,rfl⟩:=h6;subst zf;exact⟨hx,hv⟩
      |succ d=>rw[hd]at h6;simp at h6⟩
     exact .inr (.inl ⟨_,by simp[execOp,cl],g',ml,.undef _⟩)
    cases h
   cases h
  cases h
 cases h
end
section
variable {P:CU}{ab:cu}{g:G}{H:LO}{w w':BL}{ρ:LA}{a:Act}
variable {dst:Option Tmp}{type:BP}{pos:String}{after:Array OO}{guard:Option (Nat×Bool)}
theorem ai.atom{g g':G}{v:AV}{x:BE}(h:ai g v x)(ha:v.atom=Qt):ai g' v x:=by cases h<;>first | (simp[AV.atom]at ha;done) | exact .bool _ | exact .int _ _ | exact .str _ | exact .bx | exact .nilPtr | exact .bj | exact .ar
theorem ai.atomic{g g':G}{v:AV}{x:BE}(h:ai g v x)(ha:v.atomic=Qt):ai g' v x:=by
 have lists:∀{cs:LA} {xs:List BE},fU g cs xs->cs.all AV.atom=Qt->fU g' cs xs:=fun hl hc=>⟨hl.1,fun i c y h1 h2=>(hl.2 i c y h1 h2).atom (AO.1 hc c (AN h1))⟩;unfold AV.atomic at ha;split at ha
 ·obtain⟨vs,rfl,hl⟩:=h.fu;exact (lists hl ha).agg
 ·obtain⟨vs,rfl,hl⟩:=h.np;have:=lists hl ha;exact .tup _ vs (by simpa using this.1) fun i c y h1 h2=>this.2 i c y h1 (by simpa using h2)
 exact h.atom ha
theorem fU.append{Pq bs:LA}{xs ys:List BE}(h1:fU g Pq xs)(h2:fU g bs ys):fU g (Pq++bs) (xs++ys):=by
 refine⟨by simp[h1.1,h2.1],fun i c y hc hy=>?_⟩;rw[DG]at hc hy;have:=h1.1;split at hc
 ·rename_i hi;rw[Zy (by omega)]at hy;exact h1.2 i c y hc hy
 rename_i hi;rw[Zx (by omega)]at hy;exact h2.2 _ c y hc (by rw[this];exact hy)
theorem fU.strip{Pq:LA}{xs:List BE}(h:fU g Pq xs):fU g (Pq.map AV.strip) xs:=by
 refine⟨by simpa using h.1,fun i a x ha hx=>?_⟩;rw[BN]at ha;cases hq:Pq[i]? with
 |none=>simp[hq]at ha
 |some b=>simp[hq]at ha;subst ha;exact (h.2 i b x hq hx).strip
theorem qE{c:Bool}{o id:Nat}{wr:LN}(h:o∈wr):o∈(if c=Qt then wr else id::wr):=by
 cases c
 ·exact BZ _ h
 exact h
theorem aJZ(hw:WF g H w){g1 g2:G}{H1 H2:LO}(h1:g1.io=(w.os,w.output))(h2:Step g1 H1 w g2 H2 w' []):Step g H w g H w' []:=by
 have da:∀b,b<w.heap.size->w'.heap[b]? = w.heap[b]? := fun b hb=>h2.frame.2 b hb fun o ho=>by simp at ho
 have kh:w'.os=w.os/\w'.output=w.output:=by have:=h2.wf.whole.io;rw[h2.le.io,h1]at this;exact⟨(congrArg Prod.fst this).symm,(congrArg Prod.snd this).symm⟩
 refine⟨G.le.refl g,⟨fun b i x hx=>?_,hw.lt,fun o l hl=>FU (hw.blk o l hl) h2.frame.1,hw.st,fun o l x hb=>?_,hw.jh,hw.inj,hw.whole.aq rfl rfl kh (fun b hb _=>da b hb) fun o l y hl=>.inr ⟨o,l,y,hl,rfl⟩⟩,⟨h2.frame.1,fun b hb _=>da b hb⟩,fun _ _ _=>rfl,AQ _,fun _ l' hl=>.inr ⟨l',hl,rfl⟩,fun _ _ _=>rfl⟩
 ·rw[cell_of_heap (da b (hw.ko hx))];exact hw.perm b i x hx
 exact (hw.obj o l x hb).aq (G.le.refl g) (da l.b (hw.blk o l hb.loc))
theorem aDV{o:HP}{fid:Nat}{first ay args:LA}{vf vx vc:List BE}(yo:fU g first vf)(hrx:fU g args vx)(hlc:fU g ay vc){call:Nat->LA->LO->Out}(az:oT P ab call){site:Option Nat} {av:AV} {H':LO} {wr:LN} (h:cX call H site (.fn fid first ay) args=Qr (av,H',wr)) (hw:WF g H w) (hg:bM P ab g) (u9:∀Fn,P.funcs[fid]? = Qr Fn->(Fn.name == "runtime.NumGoroutine")=Qu->Fn.body.isNone=Qu->(execOp a.eval o).run P w=.ok (.enter fid (vf++vx++vc).toArray) w):aA8 P o a w fun v w'=>∃g',Step g H w g' H' w' wr/\ai g' av v:=by
 simp only[cX]at h;split at h
 ·cases h
 rename_i args' lent vn;split at h
 ·cases h
 rename_i v H2 en hc;have hargs:fU g (first++args++ay) (vf++vx++vc):=(yo.append hrx).append hlc;obtain⟨l1,l2⟩:=pU hw vn hargs;obtain⟨g1,jj,vo⟩:=iR lent g H hw fun o ho=>.inl (l1 o ho);have xk:=(l2 g1 vo).strip;obtain⟨⟨Fn,ta,jq,gh⟩,kr⟩:=az.1 fid _ _ v H2 en hc g1 w _ jj.wf (hg.mono jj.le) xk;have cl:=u9 Fn ta jq gh;refine .inr (.inr (.inl ⟨fid,_,w,cl,kr.mono fun e w' he=>?_⟩));cases e with
 |panicked c=>exact he
 |outgrown=>exact he
 |returned rv=>
  obtain⟨g2,uk,rz⟩:=he;split at h
  ·rename_i ja;have sz:lent=[]:=by simpa using ja
   subst sz;have bn:=jj.trans uk;simp only[CW]at bn;split at h
   ·rename_i k rows;obtain⟨b,cap,rfl,xl⟩:=rz;split at h
    ·rename_i id;split at h
     ·rename_i hid;cases h;obtain⟨g3,hp,hle,U9,uj,gy,hv⟩:=aI2 bn.wf xl hid;refine⟨g3,⟨bn.le.trans hle,U9, ?_,fun o ho hn=>?_,by simpa [make]using bn.len,fun o l' kg=>?_,fun o ho hn=>?_⟩,hv⟩
      ·refine bn.frame.weaken fun o ho=>?_;split
       ·exact ho
       exact BZ _ ho
      ·have bl:o≠id:=fun e=>by
        subst e;split at hn
        ·rename_i hc;exact hn (by simpa using hc)
        simp at hn
       have ze:o∉en:=fun hm=>hn (qE hm);rw[make,getElem?_set_ne' _ _ (Ne.symm bl)];exact bn.same o ho ze
      ·by_cases e:o=id
       ·subst e;rw[gy l' kg];exact .inl xl.ki
       rw[uj o e]at kg;exact bn.mc o l' kg
      have bl:o≠id:=fun e=>by
       subst e;split at hn
       ·rename_i hc;exact hn (by simpa using hc)
       simp at hn
      have ze:o∉en:=fun hm=>hn (qE hm);rw[uj o bl];exact bn.aq o ho ze
     cases h
    cases h;obtain⟨g3,F1,hv⟩:=aJY bn.wf xl;exact⟨g3,(bn.trans F1).weaken fun o ho=>by simpa using ho,hv⟩
   cases h;rename_i tp;have:pN g2 H' w.heap.size w' av rv=ai g2 av rv:=by cases av<;>first | rfl | exact Zw rfl (tp _ _)
   rw[this]at rz;exact⟨g2,bn,rz⟩
  split at h
  ·rename_i fj;cases h;simp only[AI]at fj;obtain⟨⟨ma,_⟩,jk⟩:=fj;have Ea:en=[]:=by simpa using ma
   subst Ea;have:pN g2 H2 w.heap.size w' av rv=ai g2 av rv:=by cases av<;>first | rfl | (simp[AV.atomic,AV.atom]at jk)
   rw[this]at rz;exact⟨g,aJZ hw (jj.le.io.trans hw.whole.io) uk,rz.atomic jk⟩
  cases h
theorem aNG{o:HP}{fid:Nat}{first ay args:LA}{vf vx vc:List BE}(yo:fU g first vf)(hrx:fU g args vx)(hlc:fU g ay vc){call:Nat->LA->LO->Out}(az:oT P ab call){site:Option Nat} {av:AV} {H':LO} {wr:LN} (h:iN call H site (.fn fid first ay) args=Qr (av,H',wr)) (hw:WF g H w) (hg:bM P ab g) (u9:∀Fn,P.funcs[fid]? = Qr Fn->(Fn.name == "runtime.NumGoroutine")=Qu->Fn.body.isNone=Qu->(execOp a.eval o).run P w=.ok (.enter fid (vf++vx++vc).toArray) w):aA8 P o a w fun v w'=>∃g',Step g H w g' H' w' wr/\ai g' av v:=by
 simp only[iN]at h;split at h
 ·cases h
 rename_i v H2 en hc;have hargs:fU g (first++args++ay) (vf++vx++vc):=(yo.append hrx).append hlc;obtain⟨⟨Fn,ta,jq,gh⟩,kr⟩:=az.1 fid _ _ v H2 en hc g w _ hw hg hargs;have cl:=u9 Fn ta jq gh;refine .inr (.inr (.inl ⟨fid,_,w,cl,kr.mono fun e w' he=>?_⟩));cases e with
 |panicked c=>exact he
 |outgrown=>exact he
 |returned rv=>
  obtain⟨g2,bn,rz⟩:=he;split at h
  ·rename_i k rows;obtain⟨b,cap,rfl,xl⟩:=rz;split at h
   ·rename_i id;split at h
    ·rename_i hid;cases h;obtain⟨g3,hp,hle,U9,uj,gy,hv⟩:=aI2 bn.wf xl hid;refine⟨g3,⟨bn.le.trans hle,U9, ?_,fun o ho hn=>?_,by simpa [make]using bn.len,fun o l' kg=>?_,fun o ho hn=>?_⟩,hv⟩
     ·refine bn.frame.weaken fun o ho=>?_;split
      ·exact ho
      exact BZ _ ho
     ·have bl:o≠id:=fun e=>by
       subst e;split at hn
       ·rename_i hc;exact hn (by simpa using hc)
       simp at hn
      have ze:o∉en:=fun hm=>hn (qE hm);rw[make,getElem?_set_ne' _ _ (Ne.symm bl)];exact bn.same o ho ze
     ·by_cases e:o=id
      ·subst e;rw[gy l' kg];exact .inl xl.ki
      rw[uj o e]at kg;exact bn.mc o l' kg
     have bl:o≠id:=fun e=>by
      subst e;split at hn
      ·rename_i hc;exact hn (by simpa using hc)
      simp at hn
     have ze:o∉en:=fun hm=>hn (qE hm);rw[uj o bl];exact bn.aq o ho ze
    cases h
   cases h;obtain⟨g3,F1,hv⟩:=aJY bn.wf xl;exact⟨g3,(bn.trans F1).weaken fun o ho=>by simpa using ho,hv⟩
  cases h;rename_i tp;have:pN g2 H' w.heap.size w' av rv=ai g2 av rv:=by cases av<;>first | rfl | exact Zw rfl (tp _ _)
  rw[this]at rz;exact⟨g2,bn,rz⟩
theorem aTx{ty:BP}{ts:Array BP}{F:CA}{X:Array CA}{f:aa}{xs:List aa}(hF:fA ab F=Qr f)(hX:sB ab X.toList=Qr xs){call:Nat->LA->LO->Out}(az:oT P ab call){site:Option Nat} {av:AV} {H':LO} {wr:LN} (h:evW call H ρ site (.ee f xs)=Qr (av,H',wr)) (hw:WF g H w) (hg:bM P ab g) (hs:aX g ρ a.tmps):aA8 P ⟨dst,.call { callee:=.value F,args:=X,argTypes:=ts },ty,pos,after,guard⟩ a w fun v w'=>∃g',Step g H w g' H' w' wr/\ai g' av v:=by
 have w9:=aQ hF hg hs;have hrx:=mJ hX hg hs;simp only[evW]at h;generalize yp:f.ev ρ=fv at h w9;cases fv with
 |fn fid first ay=>
  obtain⟨vf,vc,ef,yo,hlc⟩:=w9.rm;refine aNG yo hrx hlc az h hw hg fun Fn ta jq gh=>?_;have rq:(vf++X.map a.eval++vc)=(vf.toList++X.toList.map a.eval++vc.toList).toArray:=by apply JD;simp
  have hn:¬(Fn.name = "runtime.NumGoroutine"):=by simpa using jq
  have hb:¬(Fn.body=Qs):=fun e=>by rw[e]at gh;simp at gh
  rw[<- rq];simp[execOp,resolve,ef,JF,invoke,callFunc,ta,hn,hb]
 |_=>simp[iN]at h
theorem aTy{ty:BP}{ts:Array BP}{F:CA}{X:Array CA}{f:aa}{xs:List aa}(hF:fA ab F=Qr f)(hX:sB ab X.toList=Qr xs){call:Nat->LA->LO->Out}(az:oT P ab call){site:Option Nat} {av:AV} {H':LO} {wr:LN} (h:evW call H ρ site (.dm f xs)=Qr (av,H',wr)) (hw:WF g H w) (hg:bM P ab g) (hs:aX g ρ a.tmps):aA8 P ⟨dst,.call { callee:=.value F,args:=X,argTypes:=ts },ty,pos,after,guard⟩ a w fun v w'=>∃g',Step g H w g' H' w' wr/\ai g' av v:=by
 have w9:=aQ hF hg hs;have hrx:=mJ hX hg hs;simp only[evW]at h;generalize yp:f.ev ρ=fv at h w9;cases fv with
 |fn fid first ay=>
  obtain⟨vf,vc,ef,yo,hlc⟩:=w9.rm;refine aDV yo hrx hlc az h hw hg fun Fn ta jq gh=>?_;have rq:(vf++X.map a.eval++vc)=(vf.toList++X.toList.map a.eval++vc.toList).toArray:=by apply JD;simp
  have hn:¬(Fn.name = "runtime.NumGoroutine"):=by simpa using jq
  have hb:¬(Fn.body=Qs):=fun e=>by rw[e]at gh;simp at gh
  rw[<- rq];simp[execOp,resolve,ef,JF,invoke,callFunc,ta,hn,hb]
 |yld oy vy=>
  simp only[cX]at h;split at h
  ·cases h
  rename_i args' lent vn;split at h
  ·cases h
  rename_i b H2 en hc;split at h;rotate_left
  ·cases h
  rename_i fj;simp only[AI,NU]at fj;obtain⟨sz,jk⟩:=fj;subst sz;cases h;obtain⟨l1,l2⟩:=pU hw vn hrx;obtain⟨g1,jj,vo⟩:=iR [] g H hw fun o ho=>.inl (l1 o ho);have xk:=(l2 g1 vo).strip;generalize je:a.eval F=fx at w9;cases w9 with
  |yld _ _ ly r hl hv hh=>
   obtain⟨rec,fb,gd,xm⟩:=az.2 oy vy _ _ _ _ _ hc g1 w r _ jj.wf (hg.mono jj.le) ((ai.yld oy vy ly r hl hv hh).mono jj.le) xk;have cl:=run_yield (P:=P) (args:=X.map a.eval) fb (by simpa using gd.symm);have rq:(X.toList.map a.eval).toArray=X.map a.eval:=by apply JD;simp
   refine .inr (.inr (.inr ⟨r,_,_,_,_,w, ?_,xm.mono fun e w' he=>?_⟩))
   ·rw[rq];simp[execOp,resolve,je,JF,invoke,cl]
   cases e with
   |panicked c=>exact he
   |outgrown=>exact he
   |returned rv=>obtain⟨g2,uk,rz⟩:=he;have bn:=jj.trans uk;simp only[CW]at bn;exact⟨g2,bn,rz⟩
 |_=>simp[cX]at h
theorem aNH{m:String}{t:BP}{f:FuncId}(hm:aJL P m t=Qr f)(n:Nat)(v:BE):(method (n+1) t v m).run P w=.ok (f,v) w:=by
 unfold aJL at hm;split at hm
 ·rename_i i e hi hu;split at hm
  ·rename_i r hr;split at hm
   ·rename_i hp;split at hm
    ·rename_i f' hf;cases hm;have xn:r.path = #[]:=by simpa using hp
     simp[method,typeInfo,hi,hr,xn,follow,hf,receiverAt,BH hu,Place.get]
    cases hm
   cases hm
  cases hm
 cases hm
theorem aWD{ty:BP}{ts:Array BP}{F:CA}{m:String}{X:Array CA}{f:aa}{xs:List aa}(hF:fA ab F=Qr f)(hX:sB ab X.toList=Qr xs){call:Nat->LA->LO->Out}(az:oT P ab call){site:Option Nat} {av:AV} {H':LO} {wr:LN} (h:evW call H ρ site (.nb (aIU P m) f xs)=Qr (av,H',wr)) (hw:WF g H w) (hg:bM P ab g) (hs:aX g ρ a.tmps):aA8 P ⟨dst,.call { callee:=.invoke F m,args:=X,argTypes:=ts },ty,pos,after,guard⟩ a w fun v w'=>∃g',Step g H w g' H' w' wr/\ai g' av v:=by
 have w9:=aQ hF hg hs;have hrx:=mJ hX hg hs;simp only[evW]at h;generalize yp:f.ev ρ=fv at h w9;cases fv with
 |ifc t v=>
  dsimp only at h;split at h
  ·rename_i fid hl;generalize mn:a.eval F=ex at w9;cases w9 with
   |ifc t v x hv hx=>
    refine aDV (vf:=[x]) (vc:=[]) ⟨rfl,fun i c y h1 h2=>?_⟩ hrx ⟨rfl,fun i c y h1 h2=>by simp at h1⟩ az h hw hg fun Fn ta jq gh=>?_
    ·cases i with
     |zero=>simp at h1 h2;subst h1;subst h2;exact hx
     |succ i=>simp at h1
    have hn:¬(Fn.name = "runtime.NumGoroutine"):=by simpa using jq
    have hb:¬(Fn.body=Qs):=fun e=>by rw[e]at gh;simp at gh
    have h0:(#[Value.iface t x]++JO a.eval X)[0]? = Qr (.iface t x):=by simp[Array.getElem?_append]
    have rq:(#[x]++(JO a.eval X).extract 0 X.size)=([x]++X.toList.map a.eval++[]).toArray:=by apply JD;simp;exact CH (by simp)
    rw[<- rq];simp[execOp,resolve,invoke,callMethod,mn,h0,callFunc,ta,hn,hb,Made.depth,aNH (aNy P hl) (P.types.size+99)]
  cases h
 |_=>simp at h
theorem aIZ{d:OI}{α:Type}{x:Option α}{y:α}(h:(if (d matches .int _)then Qs else x)=Qr y):(∀k,d≠.int k)/\x=Qr y:=by cases d<;>first | (simp at h;done) | exact⟨fun k e=>(by cases e),by simpa using h⟩
theorem aK0{o:HP}{op:df}(hc:cOp P ab o=Qr op){call:Nat->LA->LO->Out}(az:oT P ab call){site:Option Nat}{av:AV}{H':LO}{wr:LN}(h:evW call H ρ site op=Qr (av,H',wr))(hw:WF g H w)(hg:bM P ab g)(hs:aX g ρ a.tmps):aA8 P o a w fun v w'=>∃g',Step g H w g' H' w' wr/\ai g' av v:=by
 obtain⟨dst,o,type,pos,after,guard⟩:=o;unfold cOp at hc;dsimp only at hc;split at hc
 ·obtain⟨x,hx,rfl⟩:=map_some hc;simp[evW]at h
 ·obtain⟨x,hx,rfl⟩:=map_some hc;simp[evW]at h
 ·split at hc
  ·cases hc;simp[evW]at h
  cases hc
 ·split at hc
  ·obtain⟨zs,hz,rfl⟩:=map_some hc;exact aR3 hz h hw
  obtain⟨zs,hz,rfl⟩:=map_some hc;exact aTu hz h hw
 ·split at hc
  ·rename_i n x h1 h2;split at hc
   ·cases hc;exact aZY h2 h hw hg hs
   cases hc;exact aZX h2 h hw hg hs
  cases hc
 ·repeat' split at hc
  all_goals first | (cases hc;done)|(obtain⟨x,hx,rfl⟩:=map_some hc;simp[evW]at h)
 ·split at hc
  ·rename_i e ht;split at hc
   ·rename_i k zs ps h1 h2 h3;split at hc
    ·rename_i fj;cases hc;exact bA1 ht h1 h2 h3 fj.2.1 fj.2.2.1 fj.2.2.2 h hw hg hs
    cases hc
   cases hc
  cases hc
 ·split at hc
  ·cases hc;simp[evW]at h
  cases hc
 ·split at hc
  ·rename_i n x v h1 h2 h3;cases hc;exact aTt h1 h2 h3 h hw hg hs
  cases hc
 ·obtain⟨x,hx,rfl⟩:=map_some hc;simp[evW]at h
 ·split at hc
  ·split at hc
   ·obtain⟨x,hx,rfl⟩:=map_some hc;simp[evW]at h
   ·obtain⟨x,hx,rfl⟩:=map_some hc;simp[evW]at h
   cases hc
  split at hc
  ·cases hc;simp[evW]at h
  cases hc
 ·obtain⟨x,hx,rfl⟩:=map_some hc;simp[evW]at h
 ·split at hc
  ·cases hc;simp[evW]at h
  cases hc
 ·split at hc
  ·cases hc;simp[evW]at h
  cases hc
 ·split at hc
  ·rename_i e ht;split at hc
   ·rename_i i zs l c h1 h2 h3 h4;split at hc
    ·rename_i fj;cases hc;exact aZZ ht h1 h2 h3 h4 fj.2.1 fj.2.2 h hw hg hs
    cases hc
   cases hc
  cases hc
 ·repeat' split at hc
  all_goals first | (cases hc;done)|(cases hc;simp[evW]at h)
 ·repeat' split at hc
  all_goals first | (cases hc;done)|(cases hc;simp[evW]at h)
 ·repeat' split at hc
  all_goals first | (cases hc;done)|(cases hc;simp[evW]at h)
 ·repeat' split at hc
  all_goals first | (cases hc;done)|(cases hc;simp[evW]at h)
 ·repeat' split at hc
  all_goals first | (cases hc;done)|(cases hc;simp[evW]at h)
 ·obtain⟨x,hx,rfl⟩:=map_some hc;simp[evW]at h
 ·split at hc
  ·cases hc
  ·obtain⟨x,hx,rfl⟩:=map_some hc;simp[evW]at h
  cases hc
 ·cases hc;exact aTw h hw
 ·split at hc
  ·rename_i kt et ht;split at hc
   ·rename_i K m k v hk h1 h2 h3;cases hc;exact bA2 ht hk h1 h2 h3 h hw hg hs
   cases hc
  cases hc
 ·repeat' split at hc
  all_goals first | (cases hc;done)|(cases hc;simp[evW]at h)
 ·split at hc
  ·repeat' split at hc
   all_goals first | (cases hc;done)|(cases hc;simp[evW]at h)
  ·rename_i s x t u h1 h2;obtain⟨S,X,rfl,hS,hX⟩:=aJW h1;cases mX h2;split at hc
   ·rename_i e d ht hu;obtain⟨hd,hc⟩:=aIZ hc;split at hc
    ·rename_i i hi;split at hc
     ·rename_i z hz;split at hc
      ·rename_i fj;split at hc
       ·cases hc;exact aWC ht hu hd hi hz hS hX fj.2 h hw hg hs
       cases hc;exact aWB ht hu hd hi hz hS hX fj.2 h hw hg hs
      cases hc
     cases hc
    cases hc
   cases hc
  ·rename_i x y t u h1 h2;obtain⟨X,Y,rfl,hX,hY⟩:=aJW h1;cases mX h2;split at hc
   ·rename_i e ht;split at hc
    ·rename_i k hk;split at hc
     ·cases hc;exact bA0 ht hk hX hY h hw hg hs
     cases hc
    cases hc
   cases hc
  ·cases hc;simp[evW]at h
  ·cases hc;simp[evW]at h
  cases hc
 ·split at hc
  ·rename_i f xs h1 h2;cases hc;exact aWD h1 h2 az h hw hg hs
  cases hc
 ·split at hc
  ·rename_i f xs h1 h2;cases hc;split at h
   ·exact aTx h1 h2 az h hw hg hs
   exact aTy h1 h2 az h hw hg hs
  cases hc
 cases hc
end
section
variable {P:CU}{ab:cu}{g:G}{H:LO}{w w':BL}{ρ:LA}{a:Act}
theorem aX.put{tmps:Array BE}(h:aX g ρ tmps){v:AV}{x:BE}(hv:ai g v x)(d:Nat):aX g (ρ.set d v) (tmps.setIfInBounds d x):=by
 refine⟨by simpa using h.1,fun t=>?_⟩;by_cases e:t=d
 ·subst e;by_cases hlt:t<ρ.length
  ·have:t<tmps.size:=by have:=h.1;omega
   simp only[FB,hlt,Zv,EN,CR];simpa [this]using hv
  have h1:¬(t<tmps.size):=by have:=h.1;omega
  simp only[FB,hlt,Zu];simp;exact .undef _
 have h1:=h.2 t;rw[getElem?_set_ne' _ _ (Ne.symm e)];simpa [CR,Array.getElem?_setIfInBounds_ne (Ne.symm e)]using h1
theorem aX.bg(h:aX g ρ a.tmps){v:AV}{x:BE}(hv:ai g v x)(d:Option Tmp):aX g (bg ρ d v) (a.put d x).tmps:=by
 cases d with
 |none=>exact h
 |some d=>exact h.put hv d
theorem aDW(a:Act)(d:Option Tmp)(v:BE):(a.put d v).defers=a.defers:=by cases d<;>rfl
theorem aX.bool(h:aX g ρ a.tmps){t:Nat}{b:Bool}(hb:ρ[t]? = Qr (.bool b)):a.tmps[t]? = Qr (.bool b):=by
 have hlt:t<ρ.length:=(AH.1 hb).1;have rn:t<a.tmps.size:=by have:=h.1;omega
 have:=h.2 t;rw[hb]at this;simp only[EN]at this;have:=this.jx;simp[CR,rn]at this;simp[rn,this]
theorem aK1{all:Array HP}{o:HP}{ao:ae}(xg:ao.guard=aFL all.toList o.guard)(h:aX g ρ a.tmps)(hok:pF ρ ao=Qt):OJ o (yielded all a.tmps)=wanted ρ ao:=by
 unfold pF at hok;unfold Go.AM.wanted OJ;rw[xg]at hok ⊢;cases hq:o.guard with
 |none=>simp[aFL]
 |some jw=>
  obtain⟨j,want⟩:=jw;rw[hq]at hok;simp only[aFL]at hok ⊢;cases hd:(all.toList[j]?).bind (·.dst)with
  |none=>rw[hd]at hok;simp at hok
  |some t=>
   rw[hd]at hok;simp only at hok ⊢;have V0:(all[j]?).bind (·.dst)=Qr t:=by rw[<- hd];simp
   cases hb:ρ[t]? with
   |none=>rw[hb]at hok;simp at hok
   |some v=>
    rw[hb]at hok;cases v<;>try (simp at hok;done)
    ·rename_i b;have:=h.bool hb;simp only[yielded,V0,FG,this];cases b<;>cases want<;>rfl
    rename_i vs;cases vs with
    |cons _ _=>simp at hok
    |nil=>
     have hr:=h.2 t;have he:(ρ[t]?).getD .undef=.tup []:=by rw[hb];rfl
     rw[he]at hr;obtain⟨xs,hx,hl⟩:=ai.np hr;have gd:xs = #[]:=by have:=hl.1;apply Array.eq_empty_of_size_eq_zero;simpa using this.symm
     subst gd;simp only[yielded,V0,FG];rw[CR]at hx;cases hq:a.tmps[t]? with
     |none=>rfl
     |some y=>rw[hq]at hx;have C9:y=.tuple #[]:=hx;subst C9;rfl
structure vr(P:CU)(ab:cu)(all:Array HP)(o:HP)(ao:ae):Prop where
 dst:ao.dst=o.dst
 op:ao.op=(cOp P ab o).getD .bad
 guard:ao.guard=aFL all.toList o.guard
theorem cE(base:Nat):∀(l wr:LN),(∀o∈wr,o∈bE base wr l)/\∀o∈l,o<base->o∈bE base wr l
 | [],wr=>⟨fun o h=>h,fun o h=>by simp at h⟩
 |x::l,wr=>by
  unfold bE;split
  ·obtain⟨h1,h2⟩:=cE base l (x::wr);refine⟨fun o h=>h1 o (BZ _ h),fun o h hb=>?_⟩;rcases BD.1 h with rfl | h
   ·exact h1 o (by simp)
   exact h2 o h hb
  rename_i hc;obtain⟨h1,h2⟩:=cE base l wr;refine⟨h1,fun o h hb=>?_⟩;rcases BD.1 h with rfl | h
  ·simp only[not_and,Decidable.not_not,EH]at hc;exact h1 o (hc hb)
  exact h2 o h hb
theorem aNI{all:Array HP}{o:HP}{ao:ae}(hc:vr P ab all o ao){call:Nat->LA->LO->Out}(az:oT P ab call){c:Ctx}{av:AV}{H':LO}{wr:LN} (h:aOI call c Qu H ρ ao=Qr (av,H',wr)) (hw:WF g H w) (hg:bM P ab g) (hs:aX g ρ a.tmps):aA8 P o a w fun v w'=>∃g',Step g H w g' H' w' wr/\ai g' av v:=by
 unfold aOI at h;have wx:∀op,ao.op=op->op≠.bad->cOp P ab o=Qr op:=fun op e hb=>by
  rw[hc.op]at e;cases hq:cOp P ab o with
  |none=>rw[hq]at e;exact Zw e.symm hb
  |some op'=>rw[hq]at e;simp at e;rw[e]
 by_cases F2:ao.op=.bad
 ·rw[F2]at h;simp[isW,evR]at h
 have Ht:=wx _ rfl F2;split at h
 ·exact aK0 Ht az h hw hg hs
 split at h
 ·rename_i v hv;cases h;exact (aJX Ht hv hw hg hs).X8
 cases h
def aA9(P:CU)(ab:cu)(base:Nat)(g:G)(H:LO)(w:BL)(d:List HU)(s':gp)(a':Act)(w':BL):Prop:=
 ∃g' W,Step g H w g' s'.H w' W/\(∀o∈W,o<base->o∈s'.wr)/\aX g' s'.ρ a'.tmps/\a'.defers=d/\bM P ab g'
theorem aA9.refl{base:Nat}{s:gp}(hw:WF g s.H w)(hs:aX g s.ρ a.tmps)(hg:bM P ab g):aA9 P ab base g s.H w a.defers s a w:=⟨g,[],.refl hw,fun o h=>by simp at h,hs,rfl,hg⟩
theorem aJ0{call:Nat->LA->LO->Out}{c:Ctx}:∀(l:List ae) (s s':gp),jL call c l s=Qr s'->∀o∈s.wr,o∈s'.wr
 | [],s,s',h=>by simp only[jL,AG]at h;subst h;exact fun o h=>h
 |o::l,s,s',h=>by
  unfold jL at h;split at h
  ·split at h
   ·split at h
    ·exact fun x hx=>aJ0 l _ s' h x ((cE _ _ _).1 x hx)
    cases h
   exact fun x hx=>aJ0 l _ s' h x hx
  cases h
theorem aCa{all:Array HP}{call:Nat->LA->LO->Out}(az:oT P ab call){c:Ctx}{Q:Exit->Act->BL->Prop}{r:Option Nat}:∀(l:List HP) (al:List ae),l.length=al.length->(∀(i:Nat) o ao,l[i]? = Qr o->al[i]? = Qr ao->vr P ab all o ao)->∀(s s':gp),jL call c al s=Qr s' ->∀(g:G) (a:Act) (w:BL),WF g s.H w->bM P ab g->aX g s.ρ a.tmps->(∀a' w',aA9 P ab c.base g s.H w a.defers s' a' w'->Q .normal a' w')->wpListIn (fr r) 0 P all Q l a w
 | [],al,hl,_,s,s',h,g,a,w,hw,hg,hs,hQ=>by
  cases al with
  |nil=>simp only[jL,AG]at h;subst h;exact hQ a w (.refl hw hs hg)
  |cons _ _=>simp at hl
 |o::l,al,hl,hc,s,s',h,g,a,w,hw,hg,hs,hQ=>by
  cases al with
  |nil=>simp at hl
  |cons ao al=>
   have jg:=hc 0 o ao rfl rfl;have mz:∀(i:Nat) o ao,l[i]? = Qr o->al[i]? = Qr ao->vr P ab all o ao:=fun i o ao h1 h2=>hc (i+1) o ao (by simpa using h1) (by simpa using h2);unfold jL at h;split at h
   ·rename_i hok;have F3:=aK1 jg.guard hs hok;unfold wpListIn;split at h
    ·rename_i Eb;rw[F3,Zy Eb];split at h
     ·rename_i v H' wr je;refine (aNI jg az je hw hg hs).wp fun x w1 ⟨g1,bn,hv⟩=>?_;have lq:aX g1 (bg s.ρ ao.dst v) (a.put o.dst x).tmps:=by rw[jg.dst];exact (hs.mono bn.le).bg hv o.dst
      refine aCa az l al (by simpa using hl) mz _ s' h g1 _ w1 bn.wf (hg.mono bn.le) lq fun a' w' hr=>hQ a' w' ?_;obtain⟨g2,W,h1,h2,h3,h4,h5⟩:=hr;refine⟨g2,wr++W,bn.trans h1,fun o' ho hb=>?_,h3,by rw[h4,aDW],h5⟩;rcases AY.1 ho with ho | ho
      ·exact aJ0 al _ s' h o' ((cE _ _ _).2 o' ho hb)
      exact h2 o' ho hb
     cases h
    rename_i Eb;rw[F3,Zx Eb];refine⟨fun _ _=>trivial, ?_⟩;have lq:aX g (bg s.ρ ao.dst (.tup [])) (a.put o.dst EE).tmps:=by rw[jg.dst];exact hs.bg (.skip g) o.dst
    refine aCa az l al (by simpa using hl) mz _ s' h g _ w hw hg lq fun a' w' hr=>hQ a' w' ?_;obtain⟨g2,W,h1,h2,h3,h4,h5⟩:=hr;exact⟨g2,W,h1,h2,h3,by rw[h4,aDW],h5⟩
   cases h
theorem aCU(all:Array HP):∀(l:List HP) (pres:List LN),(aDQ P ab all.toList l pres).length=l.length /\ ∀(i:Nat) o ao,l[i]? = Qr o->(aDQ P ab all.toList l pres)[i]? = Qr ao->vr P ab all o ao
 | [],pres=>⟨rfl,fun i o ao h=>by simp at h⟩
 |o::l,pres=>by
  obtain⟨h1,h2⟩:=aCU all l (pres++[aJM pres o]);refine⟨by simp[aDQ,h1],fun i o' ao e1 e2=>?_⟩;cases i with
  |zero=>simp[aDQ]at e1 e2;subst e1;subst e2;exact⟨rfl,rfl,rfl⟩
  |succ i=>exact h2 i o' ao (by simpa using e1) (by simpa [aDQ]using e2)
theorem aFW{call:Nat->LA->LO->Out}{c:Ctx}:∀{l:List ae} {s:gp},jL call c (aTn Qu l) s=jL call c l s
 | [],s=>rfl
 |o::r,s=>by
  have ih:∀s,jL call c (r.map fun o=>⟨o.dst,o.op,o.guard,[]⟩) s=jL call c r s:=fun s=>aFW (l:=r);show jL call c (⟨o.dst,o.op,o.guard,[]⟩::r.map fun o=>⟨o.dst,o.op,o.guard,[]⟩) s=_;unfold jL;simp only[ih];rfl
theorem aK2{id:Nat}{ops:Array HP}{call:Nat->LA->LO->Out}(az:oT P ab call){c:Ctx}{s s':gp} (h:jL call c (aDQ P ab ops.toList ops.toList []) s=Qr s') {Q:Exit->Act->BL->Prop} (hw:WF g s.H w) (hg:bM P ab g) (hs:aX g s.ρ a.tmps) (hQ:∀a' w',aA9 P ab c.base g s.H w a.defers s' a' w'->Q .normal a' w') {r:Option Nat}:(Code.region id ops Qu).wpIn (fr r) 0 P Q a w:=by obtain⟨h1,h2⟩:=aCU (P:=P) (ab:=ab) ops ops.toList [];exact wpIn_region_list (aCa az ops.toList _ h1.symm h2 s s' h g a w hw hg hs hQ)
end
theorem aa.fy{ρ ρ':LA}{x:aa}(h:∀t∈x.slot,ρ[t]? = ρ'[t]?):x.ev ρ=x.ev ρ':=by
 cases x with
 |tmp t=>simp only[aa.ev,h t (by simp[aa.slot])]
 |const v=>rfl
theorem aCV{ρ ρ':LA}{xs:List aa}(h:∀t∈xs.flatMap aa.slot,ρ[t]? = ρ'[t]?):xs.map (aa.ev ρ)=xs.map (aa.ev ρ'):=
 List.map_congr_left fun x hx=>aa.fy fun t ht=>h t (IM.2 ⟨x,hx,ht⟩)
theorem aEJ{ρ ρ':LA}{x:Option aa}(h:∀t∈aFI x,ρ[t]? = ρ'[t]?):x.map (aa.ev ρ)=x.map (aa.ev ρ'):=by
 cases x with
 |none=>rfl
 |some x=>simp only[DE];rw[aa.fy h]
theorem zB{ρ ρ':LA}:∀(ps:List (Nat×Nat×aa)) (cs:LA),(∀t∈ps.flatMap (fun p=>p.2.2.slot),ρ[t]? = ρ'[t]?)->iA ρ cs ps=iA ρ' cs ps
 | [],cs,_=>rfl
 | (o,s,x)::ps,cs,h=>by
  have hx:x.ev ρ=x.ev ρ':=aa.fy fun t ht=>h t (by simp[ht]);simp only[iA,hx];split
  ·exact zB ps _ fun t ht=>h t (by simp only[HW,AY];exact .inr ht)
  rfl
theorem aAa{ρ ρ':LA}{k:Nat}:∀(ps:List (Nat×aa)) (rows:List LA),(∀t∈ps.flatMap (fun p=>p.2.slot),ρ[t]? = ρ'[t]?)->lW ρ k rows ps=lW ρ' k rows ps
 | [],rows,_=>rfl
 | (i,x)::ps,rows,h=>by
  have hx:x.ev ρ=x.ev ρ':=aa.fy fun t ht=>h t (by simp[ht]);simp only[lW,hx];split
  ·exact aAa ps _ fun t ht=>h t (by simp only[HW,AY];exact .inr ht)
  rfl
theorem zC{ρ ρ':LA}{k:Nat}:∀(ps:List (Nat×aa)) (rows:List LA),(∀t∈ps.flatMap (fun p=>p.2.slot),ρ[t]? = ρ'[t]?)->jW ρ k rows ps=jW ρ' k rows ps
 | [],rows,_=>rfl
 | (i,x)::ps,rows,h=>by
  have hx:x.ev ρ=x.ev ρ':=aa.fy fun t ht=>h t (by simp[ht]);simp only[jW,hx];split
  ·exact zC ps _ fun t ht=>h t (by simp only[HW,AY];exact .inr ht)
  rfl
theorem aCW{ρ ρ':LA}{k:Nat}:∀(ps:List (Nat×aa)) (H:LO) (rows:List LA),(∀t∈ps.flatMap (fun p=>p.2.slot),ρ[t]? = ρ'[t]?)->nW ρ k H rows ps=nW ρ' k H rows ps
 | [],H,rows,_=>rfl
 | (i,x)::ps,H,rows,h=>by
  have hx:x.ev ρ=x.ev ρ':=aa.fy fun t ht=>h t (by simp[ht]);simp only[nW,hx];split
  ·split
   ·rw[aCW ps _ _ fun t ht=>h t (by simp only[HW,AY];exact .inr ht)]
   rfl
  rfl
theorem aOT{ρ ρ':LA}{H:LO}{op:df}(h:∀t∈op.bm,ρ[t]? = ρ'[t]?):evR H ρ op=evR H ρ' op:=by
 have e1:∀{x:aa},(∀t∈x.slot,t∈op.bm)->x.ev ρ=x.ev ρ':=fun hx=>aa.fy fun t ht=>h t (hx t ht);have e2:∀{x:Option aa},(∀t∈aFI x,t∈op.bm)->x.map (aa.ev ρ)=x.map (aa.ev ρ'):=fun hx=>aEJ fun t ht=>h t (hx t ht);have e3:∀{xs:List aa},(∀t∈xs.flatMap aa.slot,t∈op.bm)->xs.map (aa.ev ρ)=xs.map (aa.ev ρ'):=fun hx=>aCV fun t ht=>h t (hx t ht);cases op with
 |bad=>rfl
 |mov x=>simp only[evR];rw[e1 fun t ht=>ht]
 |pick c a b=>simp only[evR];rw[e1 (x:=c) fun t ht=>by simp[df.bm,ht],e1 (x:=a) fun t ht=>by simp[df.bm,ht],e1 (x:=b) fun t ht=>by simp[df.bm,ht]]
 |alloc zs=>rfl
 |gv t zs=>rfl
 |box k x=>simp only[evR];rw[e1 fun t ht=>ht]
 |build zs ps=>simp only[evR];rw[zB ps zs h]
 |bsl k zs n ps=>simp only[evR];rw[aAa ps _ h]
 |load k agg x=>simp only[evR];rw[e1 fun t ht=>ht]
 |store k x v=>rfl
 |cz x=>simp only[evR];rw[e1 fun t ht=>ht]
 |ky neg x=>simp only[evR];rw[e1 fun t ht=>ht]
 |bin o ek x y=>simp only[evR];rw[e1 (x:=x) fun t ht=>by simp[df.bm,ht],e1 (x:=y) fun t ht=>by simp[df.bm,ht]]
 |un o x=>simp only[evR];rw[e1 fun t ht=>ht]
 |conv c x=>simp only[evR];rw[e1 fun t ht=>ht]
 |mkf f a b=>
  have ha:=e3 (xs:=a) fun t ht=>by simp only[df.bm,AY];exact .inl ht
  have hb:=e3 (xs:=b) fun t ht=>by simp only[df.bm,AY];exact .inr ht
  have Y3:a.map (fun x=>(x.ev ρ).aj)=a.map (fun x=>(x.ev ρ').aj):=by have:=congrArg (DR AV.aj) ha;simpa [PA,MG]using this
  have du:b.map (fun x=>(x.ev ρ).aj)=b.map (fun x=>(x.ev ρ').aj):=by have:=congrArg (DR AV.aj) hb;simpa [PA,MG]using this
  simp only[evR];rw[ha,hb,Y3,du]
 |mks k b zs l c=>simp only[evR];rw[e1 (x:=l) fun t ht=>by simp[df.bm,ht],e1 (x:=c) fun t ht=>by simp[df.bm,ht]]
 |fm x lo hi=>simp only[evR];rw[e1 (x:=x) fun t ht=>by simp[df.bm,ht],e2 (x:=lo) fun t ht=>by simp[df.bm,ht],e2 (x:=hi) fun t ht=>by simp[df.bm,ht]]
 |gw k x lo hi mx=>simp only[evR];rw[e1 (x:=x) fun t ht=>by simp[df.bm,ht],e2 (x:=lo) fun t ht=>by simp[df.bm,ht],e2 (x:=hi) fun t ht=>by simp[df.bm,ht],e2 (x:=mx) fun t ht=>by simp[df.bm,ht]]
 |view k x lo=>simp only[evR];rw[e1 (x:=x) fun t ht=>by simp[df.bm,ht],aEJ (x:=lo) fun t ht=>h t (by simp[df.bm,ht])]
 |na n k x lo hi mx=>simp only[evR];rw[e1 (x:=x) fun t ht=>by simp[df.bm,ht],e2 (x:=lo) fun t ht=>by simp[df.bm,ht],e2 (x:=hi) fun t ht=>by simp[df.bm,ht],e2 (x:=mx) fun t ht=>by simp[df.bm,ht]]
 |fa o x=>simp only[evR];rw[e1 fun t ht=>ht]
 |fld o k agg x=>simp only[evR];rw[e1 fun t ht=>ht]
 |iaV x i k=>simp only[evR];rw[e1 (x:=x) fun t ht=>by simp[df.bm,ht],e1 (x:=i) fun t ht=>by simp[df.bm,ht]]
 |iaA n k x i=>simp only[evR];rw[e1 (x:=x) fun t ht=>by simp[df.bm,ht],e1 (x:=i) fun t ht=>by simp[df.bm,ht]]
 |ixS x i=>simp only[evR];rw[e1 (x:=x) fun t ht=>by simp[df.bm,ht],e1 (x:=i) fun t ht=>by simp[df.bm,ht]]
 |ixA n k agg x i=>simp only[evR];rw[e1 (x:=x) fun t ht=>by simp[df.bm,ht],e1 (x:=i) fun t ht=>by simp[df.bm,ht]]
 |fg x=>simp only[evR];rw[e1 fun t ht=>ht]
 |qk x=>simp only[evR];rw[e1 fun t ht=>ht]
 |zb n=>rfl
 |mm mx xs=>simp only[evR];rw[e3 fun t ht=>ht]
 |app k b s x=>rfl
 |ext i x=>simp only[evR];rw[e1 fun t ht=>ht]
 |km i x=>simp only[evR];rw[e1 fun t ht=>ht]
 |dm f xs=>rfl
 |ee f xs=>rfl
 |ni t k b s x=>rfl
 |tbx t k x=>rfl
 |cpy k x y=>rfl
 |nb t f xs=>rfl
 |jn=>rfl
 |ins m k v=>rfl
 |look z m k ok=>simp only[evR];rw[e1 (x:=m) fun t ht=>by simp[df.bm,ht],e1 (x:=k) fun t ht=>by simp[df.bm,ht]]
theorem aOU{call:Nat->LA->LO->Out}{ρ ρ':LA}{H:LO}{site:Option Nat}{op:df}(h:∀t∈op.bm,ρ[t]? = ρ'[t]?):evW call H ρ site op=evW call H ρ' site op:=by
 have e1:∀{x:aa},(∀t∈x.slot,t∈op.bm)->x.ev ρ=x.ev ρ':=fun hx=>aa.fy fun t ht=>h t (hx t ht);have e3:∀{xs:List aa},(∀t∈xs.flatMap aa.slot,t∈op.bm)->xs.map (aa.ev ρ)=xs.map (aa.ev ρ'):=fun hx=>aCV fun t ht=>h t (hx t ht);cases op with
 |box k x=>simp only[evW];rw[e1 fun t ht=>ht]
 |tbx t k x=>simp only[evW];rw[e1 fun t ht=>ht]
 |bsl k zs n ps=>simp only[evW];rw[aCW ps _ _ h,zC ps _ h]
 |store k x v=>simp only[evW];rw[e1 (x:=x) fun t ht=>by simp[df.bm,ht],e1 (x:=v) fun t ht=>by simp[df.bm,ht]]
 |mks k b zs l c=>simp only[evW];rw[e1 (x:=l) fun t ht=>by simp[df.bm,ht],e1 (x:=c) fun t ht=>by simp[df.bm,ht]]
 |cpy k x y=>simp only[evW];rw[e1 (x:=x) fun t ht=>by simp[df.bm,ht],e1 (x:=y) fun t ht=>by simp[df.bm,ht]]
 |ni t k b s x=>simp only[evW];rw[e1 (x:=s) fun t ht=>by simp[df.bm,ht],e1 (x:=x) fun t ht=>by simp[df.bm,ht]]
 |app k b s x=>simp only[evW];rw[e1 (x:=s) fun t ht=>by simp[df.bm,ht],e1 (x:=x) fun t ht=>by simp[df.bm,ht]]
 |dm f xs=>simp only[evW];rw[e1 (x:=f) fun t ht=>by simp[df.bm,ht],e3 (xs:=xs) fun t ht=>by simp only[df.bm,AY];exact .inr ht]
 |ee f xs=>simp only[evW];rw[e1 (x:=f) fun t ht=>by simp[df.bm,ht],e3 (xs:=xs) fun t ht=>by simp only[df.bm,AY];exact .inr ht]
 |nb tb f xs=>simp only[evW];rw[e1 (x:=f) fun t ht=>by simp[df.bm,ht],e3 (xs:=xs) fun t ht=>by simp only[df.bm,AY];exact .inr ht]
 |ins m k v=>simp only[evW];rw[e1 (x:=m) fun t ht=>by simp[df.bm,ht],e1 (x:=k) fun t ht=>by simp[df.bm,ht],e1 (x:=v) fun t ht=>by simp[df.bm,ht]]
 |_=>rfl
theorem aNJ{ρ ρ':LA}{op:df}(h:∀t∈op.bm,ρ[t]? = ρ'[t]?):aIR ρ op=aIR ρ' op:=by
 cases op with
 |load k agg x=>simp only[aIR];rw[aa.fy h]
 |conv c x=>cases c<;>simp only[aIR];rw[aa.fy h]
 |look z m k ok=>simp only[aIR];rw[aa.fy fun t ht=>h t (by simp[df.bm,ht])]
 |view k x lo=>simp only[aIR];rw[aa.fy fun t ht=>h t (by simp[df.bm,ht])]
 |_=>rfl
theorem aK3{ρ ρ':LA}{o:ae}(h:∀t∈o.names,ρ[t]? = ρ'[t]?):wanted ρ o=wanted ρ' o/\pF ρ o=pF ρ' o:=by
 unfold wanted pF;cases hg:o.guard with
 |none=>exact⟨rfl,rfl⟩
 |some tw=>
  obtain⟨t,want⟩:=tw;cases t with
  |none=>exact⟨rfl,rfl⟩
  |some t=>have:ρ[t]? = ρ'[t]? := h t (by simp[ae.names,hg]);simp only[this,and_self]
def AV.F4:AV->LN
 |.ptr o _ _=>[o]
 |.vp o _ _ _ _ _=>[o]
 |_=>[]
theorem aOV(ρ:LA)(k:Nat)(agg:Bool)(x:aa):aIR ρ (.load k agg x)=(x.ev ρ).F4:=by simp only[aIR];cases x.ev ρ<;>rfl
theorem aHu{H H':LO}{k:Nat}{v:AV}(h:∀o∈v.F4,H[o]? = H'[o]?):bC H k v=bC H' k v:=by
 cases v<;>simp only[bC]
 ·rw[h _ (by simp[AV.F4])]
 rw[h _ (by simp[AV.F4])]
theorem aR4{ρ:LA}{H H':LO}{op:df}(h:∀o∈aIR ρ op,H[o]? = H'[o]?):evR H ρ op=evR H' ρ op:=by
 cases op with
 |load k agg x=>simp only[evR];rw[aHu fun o ho=>h o (by rw[aOV];exact ho)]
 |conv c x=>
  simp only[evR];cases c with
  |b2s=>
   have:dO H (x.ev ρ)=dO H' (x.ev ρ):=by
    have h':∀o v n,x.ev ρ=.sr o v n->H[o]? = H'[o]? := fun o v n e=>h o (by simp[aIR,e]);have zc:∀o v n k lo,x.ev ρ=.srv o v n k lo->H[o]? = H'[o]? := fun o v n k lo e=>h o (by simp[aIR,e]);have D9:∀o v n k,x.ev ρ=.srw o v n k->H[o]? = H'[o]? := fun o v n k e=>h o (by simp[aIR,e]);revert h' zc D9;cases x.ev ρ<;>intro h' zc D9<;>simp only[dO]
    ·rw[h' _ _ _ rfl]
    ·rw[zc _ _ _ _ _ rfl]
    rw[D9 _ _ _ _ rfl]
   cases hx:x.ev ρ<;>rw[hx]at this<;>simp only[pT,this]
  |_=>cases x.ev ρ<;>rfl
 |look z m k ok=>
  simp only[evR];have h':∀o v,m.ev ρ=.mp o v->H[o]? = H'[o]? := fun o v e=>h o (by simp[aIR,e]);revert h';cases m.ev ρ<;>intro h'<;>simp only
  rw[h' _ _ rfl]
 |view k x lo=>
  simp only[evR];have h':∀o v n,x.ev ρ=.sr o v n->H[o]? = H'[o]? := fun o v n e=>h o (by simp[aIR,e]);revert h';cases x.ev ρ<;>intro h'<;>simp only
  rw[h' _ _ _ rfl]
 |_=>rfl
def Fr(H H':LO)(wr:LN):Prop:=H.length<=H'.length/\∀o,o<H.length->o∉wr->H'[o]? = H[o]?
theorem Fr.refl(H:LO)(wr:LN):Fr H H wr:=⟨AQ _,fun _ _ _=>rfl⟩
theorem Fr.trans{H H1 H2:LO}{a b:LN}(h:Fr H H1 a)(h':Fr H1 H2 b):Fr H H2 (a++b):=⟨HX h.1 h'.1,fun o ho hn=>by
  simp only[AY,not_or]at hn;rw[h'.2 o (FU ho h.1) hn.2,h.2 o ho hn.1]⟩
theorem Fr.weaken{H H':LO}{a b:LN}(h:Fr H H' a)(hs:∀o∈a,o∈b):Fr H H' b:=⟨h.1,fun o ho hn=>h.2 o ho fun hm=>hn (hs o hm)⟩
theorem Fr.set(H:LO)(o:Nat)(x:ah):Fr H (H.set o x) [o]:=⟨by simp,fun o' _ hn=>getElem?_set_ne' _ _ (fun e=>hn (by simp[e]))⟩
theorem aDX:∀(l:LN) (H:LO),Fr H (dL H l) l
 | [],H=>.refl H _
 |o::l,H=>by
  have:=(Fr.set H o (.gone ((H[o]?).elim 0 ah.ver))).trans (aDX l _);exact this
theorem aFX{H H':LO}{v v':AV}{l:LN}(h:fix H v=Qr (v',H',l)):Fr H H' l:=by
 unfold fix at h;split at h
 ·cases h;exact aDX _ _
 cases h
theorem aJ1:∀(rows:List LA) {H H':LO} {bt:List LA} {l:LN},aLw H rows=Qr (bt,H',l)->Fr H H' l
 | [],H,H',bt,l,h=>by cases h;exact .refl _ _
 |r::rs,H,H',bt,l,h=>by
  unfold aLw at h;split at h
  ·rename_i r' H1 l1 hf;split at h
   ·rename_i rs' H2 l2 hr;cases h;exact (aFX hf).trans (aJ1 rs hr)
   cases h
  cases h
theorem aI3{H H':LO}{v v':AV}{l:LN}(h:aA3 H v=Qr (v',H',l)):Fr H H' l:=by
 unfold aA3 at h;split at h
 ·split at h
  ·split at h
   ·split at h
    ·rename_i hi;split at h
     ·split at h
      ·rename_i hf;cases h;exact (aJ1 _ hi).trans ((Fr.set _ _ _).trans (aFX hf))
      cases h
     cases h
    cases h
   cases h
  cases h
 exact aFX h
theorem aNK{H H':LO}{v:AV}{l:LN}(h:pE H v=Qr (H',l)):Fr H H' l:=by
 unfold pE at h;split at h
 ·cases h;exact .refl _ _
 ·split at h
  ·split at h
   ·split at h
    ·rename_i hi;split at h
     ·cases h;exact (aJ1 _ hi).trans (Fr.set _ _ _)
     cases h
    cases h
   cases h
  cases h
 cases h
theorem aOW{H H':LO}{v v':AV}{l:LN}(h:aMD H v=Qr (v',H',l)):Fr H H' l:=by
 unfold aMD at h;split at h
 ·rename_i hf;cases h;exact aFX hf
 split at h
 ·split at h
  ·rename_i hf;cases h;exact aI3 hf
  cases h
 exact aI3 h
theorem aI4{ρ:LA}{k:Nat}:∀(ps:List (Nat×aa)) (H:LO) (rows out:List LA) (H':LO) (l:LN),nW ρ k H rows ps=Qr (out,H',l)->Fr H H' l
 | [],H,rows,out,H',l,h=>by simp only[nW,AG,BK]at h;obtain⟨_,rfl,rfl⟩:=h;exact .refl _ _
 | (i,x)::ps,H,rows,out,H',l,h=>by
  simp only[nW]at h;split at h
  ·rename_i hf;split at h
   ·split at h
    ·rename_i hr;simp only[AG,BK]at h;obtain⟨_,rfl,rfl⟩:=h;exact (aFX hf).trans (aI4 ps _ _ _ _ _ hr)
    cases h
   cases h
  cases h
def sQ(call:Nat->LA->LO->Out):Prop:=∀f args H v H' wr,call f args H=Qr (v,H',wr)->Fr H H' wr
theorem aCX{H H':LO}{vs:LA}{p:AV}{wr:LN}(h:storeCells H vs p=Qr (H',wr)):Fr H H' wr:=by
 unfold storeCells at h;split at h
 ·split at h
  ·split at h
   ·cases h;exact Fr.set _ _ _
   cases h
  ·split at h
   ·cases h;exact Fr.set _ _ _
   cases h
  cases h
 ·split at h
  ·split at h
   ·split at h
    ·split at h
     ·cases h;exact Fr.set _ _ _
     cases h
    cases h
   cases h
  cases h
 cases h
theorem aR5{H H':LO}{site:Option Nat}{k b:Nat}{s x v:AV}{wr:LN}(h:eX H site k b s x=Qr (v,H',wr)):Fr H H' wr:=by
 unfold eX at h;split at h
 ·cases h
 split at h
 ·cases h
 split at h
 ·split at h
  ·cases h;exact .refl _ _
  split at h
  ·split at h
   ·split at h
    ·cases h;exact Fr.set _ _ _
    cases h
   cases h
  cases h
 ·split at h
  ·cases h;exact .refl _ _
  split at h
  ·split at h
   ·split at h
    ·cases h;exact Fr.set _ _ _
    cases h
   cases h
  cases h
 ·split at h
  ·split at h
   ·split at h
    ·cases h;exact .refl _ _
    cases h;exact Fr.set _ _ _
   cases h
  cases h
 ·split at h
  ·split at h
   ·cases h;exact Fr.set _ _ _
   cases h
  cases h
 cases h
theorem aOX{H H':LO}{site:Option Nat}{ty k b:Nat}{s x v:AV}{wr:LN}(h:vB H site ty k b s x=Qr (v,H',wr)):Fr H H' wr:=by
 unfold vB at h;split at h
 ·cases h
 split at h
 ·cases h
 split at h
 ·split at h
  ·cases h;exact .refl _ _
  split at h
  ·split at h
   ·split at h
    ·cases h;exact Fr.set _ _ _
    cases h
   cases h
  cases h
 ·split at h
  ·split at h
   ·split at h
    ·cases h;exact .refl _ _
    cases h;exact Fr.set _ _ _
   cases h
  cases h
 cases h
theorem aI5{call:Nat->LA->LO->Out}(hc:sQ call){H H':LO}{site:Option Nat}{f v:AV}{args:LA}{wr:LN}(h:cX call H site f args=Qr (v,H',wr)):Fr H H' wr:=by
 unfold cX at h;split at h
 ·split at h
  ·cases h
  rename_i args' lent hl;split at h
  ·cases h
  rename_i v1 H1 dc az;have h1:=hc _ _ _ _ _ _ az;split at h
  ·rename_i he;have:lent=[]:=by simpa using he
   subst this;have h2:Fr H H1 dc:=h1;split at h
   ·split at h
    ·split at h
     ·cases h;refine (h2.trans (Fr.set _ _ _)).weaken fun o ho=>?_;rcases AY.1 ho with ho | ho
      ·exact qE ho
      simp only[CG]at ho;subst ho;split
      ·rename_i F5;simpa using F5
      simp
     cases h
    cases h;exact h2
   cases h;exact h2
  split at h
  ·cases h;exact .refl _ _
  cases h
 ·split at h
  ·cases h
  rename_i args' lent hl;split at h
  ·cases h
  rename_i v1 H1 dc az;have h1:=hc _ _ _ _ _ _ az;split at h
  ·rename_i he;simp only[AI,NU]at he;have:lent=[]:=he.1;subst this;cases h;exact h1
  cases h
 cases h
theorem aNL{call:Nat->LA->LO->Out}(hc:sQ call){H H':LO}{site:Option Nat}{f v:AV}{args:LA}{wr:LN}(h:iN call H site f args=Qr (v,H',wr)):Fr H H' wr:=by
 unfold iN at h;split at h
 ·split at h
  ·cases h
  rename_i v1 H1 dc az;have h2:=hc _ _ _ _ _ _ az;split at h
  ·split at h
   ·split at h
    ·cases h;refine (h2.trans (Fr.set _ _ _)).weaken fun o ho=>?_;rcases AY.1 ho with ho | ho
     ·exact qE ho
     simp only[CG]at ho;subst ho;split
     ·rename_i F5;simpa using F5
     simp
    cases h
   cases h;exact h2
  cases h;exact h2
 cases h
theorem aSL{call:Nat->LA->LO->Out}(hc:sQ call){H H':LO}{ρ:LA}{site:Option Nat}{op:df}{v:AV}{wr:LN}(h:evW call H ρ site op=Qr (v,H',wr)):Fr H H' wr:=by
 unfold evW at h;split at h
 ·split at h
  ·split at h
   ·cases h;exact Fr.set _ _ _
   cases h
  cases h
 ·split at h
  ·split at h
   ·cases h;exact Fr.set _ _ _
   cases h
  cases h
 ·split at h
  ·split at h
   ·cases h;exact Fr.set _ _ _
   cases h
  cases h
 ·split at h
  ·split at h
   ·cases h;exact Fr.set _ _ _
   cases h
  cases h
 ·split at h
  ·split at h
   ·rename_i hs;cases h;exact aCX hs
   cases h
  cases h
 ·split at h
  ·split at h
   ·split at h
    ·cases h;exact Fr.set _ _ _
    cases h
   cases h
  split at h
  ·rename_i hf;cases h;exact aI4 _ _ _ _ _ _ hf
  cases h
 ·split at h
  ·split at h
   ·split at h
    ·split at h
     ·cases h;exact Fr.set _ _ _
     cases h
    cases h;exact .refl _ _
   split at h
   ·split at h
    ·cases h;exact Fr.set _ _ _
    cases h
   cases h
  cases h
 ·exact aR5 h
 ·exact aOX h
 ·exact aI5 hc h
 ·exact aNL hc h
 ·split at h
  ·split at h
   ·exact aI5 hc h
   cases h
  cases h
 ·split at h
  ·split at h
   ·split at h
    ·split at h
     ·cases h;exact .refl _ _
     split at h
     ·cases h;exact Fr.set _ _ _
     cases h
    cases h
   cases h
  cases h
 ·split at h
  ·split at h
   ·cases h;exact Fr.set _ _ _
   cases h
  cases h
 ·split at h
  ·split at h
   ·split at h
    ·split at h
     ·cases h;exact Fr.set _ _ _
     ·cases h;exact Fr.set _ _ _
     cases h
    cases h
   cases h
  cases h
 cases h
theorem aTz{call:Nat->LA->LO->Out}(hc:sQ call){c:Ctx}{d:Bool}{H H':LO}{ρ:LA}{o:ae}{v:AV}{wr:LN}(h:aOI call c d H ρ o=Qr (v,H',wr)):Fr H H' wr:=by
 unfold aOI at h;split at h
 ·exact aSL hc h
 split at h
 ·cases h;exact .refl _ _
 cases h
theorem aJ2{call:Nat->LA->LO->Out}(hc:sQ call){c:Ctx}{H H':LO}{ρ:LA}{o:ae}{v:AV}{rd:LN}{wr:Option LN}(h:aFJ call c H ρ o=Qr (v,H',rd,wr)):Fr H H' (wr.getD [])/\(wr=Qs->H'=H)/\H'.length=H.length:=by
 unfold aFJ at h;split at h
 ·cases h;exact⟨.refl _ _,fun _=>rfl,rfl⟩
 split at h
 ·split at h
  ·rename_i hw;split at h
   ·rename_i ax;cases h;exact⟨aSL hc hw,fun e=>(by cases e),ax⟩
   cases h
  cases h
 split at h
 ·cases h;exact⟨.refl _ _,fun _=>rfl,rfl⟩
 cases h
def FrB(base:Nat)(s s':gp):Prop:=s.H.length<=s'.H.length/\(∀o∈s.wr,o∈s'.wr)/\∀o,o<s.H.length->o<base->o∉s'.wr->s'.H[o]? = s.H[o]?
theorem FrB.refl(base:Nat)(s:gp):FrB base s s:=⟨AQ _,fun _ h=>h,fun _ _ _ _=>rfl⟩
theorem FrB.trans{base:Nat}{s s1 s2:gp}(h:FrB base s s1)(h':FrB base s1 s2):FrB base s s2:=⟨HX h.1 h'.1,fun o ho=>h'.2.1 o (h.2.1 o ho),fun o ho hb hn=>by
  rw[h'.2.2 o (FU ho h.1) hb hn,h.2.2 o ho hb fun hm=>hn (h'.2.1 o hm)]⟩
theorem FrB.of{base:Nat}{s:gp}{H':LO}{ρ:LA}{wr:LN}(h:Fr s.H H' wr):FrB base s ⟨ρ,H',bE base s.wr wr⟩:=⟨h.1,(cE base wr s.wr).1,fun o ho hb hn=>h.2 o ho fun hm=>hn ((cE base wr s.wr).2 o hm hb)⟩
theorem aJ3{call:Nat->LA->LO->Out}(hc:sQ call){c:Ctx}:∀(l:List ae) (s s':gp),jL call c l s=Qr s'->FrB c.base s s'
 | [],s,s',h=>by simp only[jL,AG]at h;subst h;exact .refl _ _
 |o::l,s,s',h=>by
  unfold jL at h;split at h
  ·split at h
   ·split at h
    ·rename_i je;exact (FrB.of (aTz hc je)).trans (aJ3 hc l _ s' h)
    cases h
   have:=aJ3 hc l _ s' h;exact this
  cases h
theorem aFY{call:Nat->LA->LO->Out}(hc:sQ call){c:Ctx}:∀(l:List ae) (i:Nat) (s s':gp) (log:Log),nT call c i l s=Qr (s',log)->FrB c.base s s'
 | [],i,s,s',log,h=>by simp only[nT,AG,BK]at h;obtain⟨rfl,_⟩:=h;exact .refl _ _
 |o::l,i,s,s',log,h=>by
  unfold nT at h;split at h
  ·split at h
   ·split at h
    ·rename_i je;split at h
     ·rename_i mz;cases h;exact (FrB.of (aJ2 hc je).1).trans (aFY hc l _ _ _ _ mz)
     cases h
    cases h
   have:=aFY hc l _ _ s' log h;exact this
  cases h
theorem aLB{c:Ctx}{d:Option Nat}{id:Nat}(h:c.site d=Qr id):c.base<=id:=by
 unfold Ctx.site at h;split at h
 ·cases h
 obtain⟨i,_,rfl⟩:=map_some h;omega
theorem wW{c:Ctx}:∀(l:List ae) (H H':LO),cS c H l=Qr H'->H.length=H'.length/\∀o,o<c.base->H'[o]? = H[o]?
 | [],H,H',h=>by simp only[cS,AG]at h;subst h;exact⟨rfl,fun _ _=>rfl⟩
 |o::l,H,H',h=>by
  unfold cS at h;split at h
  ·rename_i id hid;split at h
   ·obtain⟨h1,h2⟩:=wW l _ H' h;refine⟨by rw[<- h1];simp[make],fun o' z7=>?_⟩;rw[h2 o' z7,make,getElem?_set_ne' _ _ (by have:=aLB hid;omega)]
   cases h
  exact wW l H H' h
theorem aLC{call:Nat->LA->LO->Out}(hc:sQ call){c:Ctx}{d:Bool}{l:List ae}{s s':gp}(h:iO call c d l s=Qr s'):FrB c.base s s':=by
 unfold iO at h;split at h
 ·split at h
  ·rename_i H0 hp;split at h
   ·rename_i s1 log je;split at h
    ·cases h;obtain⟨h1,h2⟩:=wW _ _ _ hp;have h3:=aFY hc _ _ _ _ _ je;refine⟨?_,h3.2.1,fun o ho hb hn=>?_⟩
     ·rw[h1];exact h3.1
     have:=h3.2.2 o (by rw[<- h1];exact ho) hb hn;rw[this];exact h2 o hb
    cases h
   cases h
  cases h
 split at h
 ·cases h
 exact aJ3 hc l s s' h
theorem sR{c:Ctx}:∀(ts:List (Nat×Nat)) (s s':gp),nX c s ts=Qr s'->FrB c.base s s'
 | [],s,s',h=>by simp only[nX,AG]at h;subst h;exact .refl _ _
 | (0,t)::ts,s,s',h=>by
  unfold nX at h;split at h
  ·rename_i hf;exact (FrB.of (aOW hf)).trans (sR ts _ s' h)
  cases h
 | (k+1,t)::ts,s,s',h=>by
  unfold nX at h;split at h
  ·exact sR ts _ s' h
  split at h
  ·rename_i hk;exact (FrB.of (aNK hk)).trans (sR ts _ s' h)
  split at h
  ·split at h
   ·rename_i hf;split at h
    ·rename_i bd;exact (FrB.of ((aOW hf).trans (aCX bd))).trans (sR ts _ s' h)
    cases h
   cases h
  cases h
structure Rec where
 v:AV
 want:Bool
 rd:LN
 wr:Option LN
 H2:LO
def uZ(p:Nat->Bool):Nat->List (ae×Rec)->LA->LA
 |_,[],ρ=>ρ
 |k,(o,r)::l,ρ=>uZ p (k+1) l (if p k then bg ρ o.dst r.v else ρ)
def cW(H:LO):List (ae×Rec)->Nat->LO
 | [],_=>H
 |_::_,0=>H
 |x::l,m+1=>cW x.2.H2 l m
structure yq(call:Nat->LA->LO->Out)(c:Ctx)(ρ:LA)(H:LO)(o:ae)(r:Rec):Prop where
 guard:pF ρ o=Qt
 want:r.want=wanted ρ o
 yes:r.want=Qt->aFJ call c H ρ o=Qr (r.v,r.H2,r.rd,r.wr)
 no:r.want=Qu->r.v=.tup []/\r.H2=H/\r.rd=[]/\r.wr=Qs
def aFe:Nat->List (ae×Rec)->Log
 |_,[]=>[]
 |i,(_,r)::l=>if r.want then (i,r.rd,r.wr)::aFe (i+1) l else aFe (i+1) l
theorem aDY(p:Nat->Bool):∀(l:List (ae×Rec)) (n:Nat) (ρ:LA),uZ p (n+1) l ρ=uZ (fun j=>p (j+1)) n l ρ
 | [],_,_=>rfl
 | (o,r)::l,n,ρ=>by simp only[uZ];exact aDY p l (n+1) _
theorem aMG(p q:Nat->Bool):∀(l:List (ae×Rec)) (n:Nat) (ρ:LA),(∀k,n<=k->k<n+l.length->p k=q k)->uZ p n l ρ=uZ q n l ρ
 | [],_,_,_=>rfl
 | (o,r)::l,n,ρ,h=>by
  simp only[uZ];rw[h n (AQ _) (by simp)];exact aMG p q l (n+1) _ fun k h1 h2=>h k (by omega) (by simp;omega)
theorem fH(ρ:LA)(d:Option Nat)(v:AV):(bg ρ d v).length=ρ.length:=by cases d<;>simp[bg]
theorem aFZ(ρ:LA)(d:Option Nat)(v:AV)(t:Nat)(h:d≠Qr t):(bg ρ d v)[t]? = ρ[t]? := by
 cases d with
 |none=>rfl
 |some d=>exact getElem?_set_ne' _ _ (fun e=>h (by rw[e]))
theorem aK4(ρ ρ':LA)(d:Option Nat)(v:AV)(t:Nat)(hl:ρ.length=ρ'.length)(h:ρ[t]? = ρ'[t]?):(bg ρ d v)[t]? = (bg ρ' d v)[t]? := by
 cases d with
 |none=>exact h
 |some d=>simp only[bg,FB,hl,h]
theorem aFy(p:Nat->Bool):∀(l:List (ae×Rec)) (n:Nat) (ρ:LA),(uZ p n l ρ).length=ρ.length
 | [],_,_=>rfl
 | (o,r)::l,n,ρ=>by
  simp only[uZ];rw[aFy p l];split
  ·exact fH _ _ _
  rfl
theorem aCY(p q:Nat->Bool)(t:Nat):∀(l:List (ae×Rec)) (n:Nat) (ρ ρ':LA),ρ.length=ρ'.length->ρ[t]? = ρ'[t]? ->(∀(k:Nat) o r,l[k]? = Qr (o,r)->o.dst=Qr t->p (n+k)=q (n+k))->(uZ p n l ρ)[t]? = (uZ q n l ρ')[t]?
 | [],_,ρ,ρ',_,h,_=>h
 | (o,r)::l,n,ρ,ρ',hl,h,hk=>by
  simp only[uZ];refine aCY p q t l (n+1) _ _ ?_ ?_ fun k o' r' h1 h2=>?_
  ·split<;>split<;>simp[fH,hl]
  ·by_cases e:o.dst=Qr t
   ·have:=hk 0 o r rfl e;simp only[DU]at this;rw[this];split
    ·exact aK4 _ _ _ _ _ hl h
    exact h
   have e1:∀(b:Bool) (ρ:LA),(if b=Qt then bg ρ o.dst r.v else ρ)[t]? = ρ[t]? := fun b ρ=>by
    split
    ·exact aFZ _ _ _ _ e
    rfl
   rw[e1,e1,h]
  have:=hk (k+1) o' r' (by simpa using h1) h2
  rwa [show n+(k+1)=n+1+k by omega]at this
theorem aR6(p:Nat->Bool)(i:Nat):∀(l:List (ae×Rec)) (n:Nat) (ρ ρ':LA) (o:ae) (r:Rec),l[i]? = Qr (o,r)->ρ.length=ρ'.length->p (n+i)=Qu ->(∀(k:Nat) o' r',l[k]? = Qr (o',r')->i<k->∀t,o.dst=Qr t->o'.dst=Qr t->p (n+k)=Qu)->∀(t:Nat),ρ[t]? = ρ'[t]? ->(uZ (fun j=>p j || j==n+i) n l ρ)[t]? = (bg (uZ p n l ρ') o.dst r.v)[t]? := by
 intro l n ρ ρ' o r hi hl hp hk t ht;by_cases e:o.dst=Qr t
 ·
  have ax:(uZ p n l ρ').length=ρ'.length:=aFy _ _ _ _;rw[e];simp only[bg,FB,Zv,ax];have sc:∀(l:List (ae×Rec)) (n:Nat) (ρ:LA),uZ (fun _=>Qu) n l ρ=ρ:=by
   intro l
   induction l with
   |nil=>intro n ρ;rfl
   |cons x l ih=>intro n ρ;obtain⟨a,b⟩:=x;simp only[uZ,BX,Zu];exact ih _ _
  have key:∀(q:Nat->Bool) (l:List (ae×Rec)) (n:Nat) (i:Nat) (ρ:LA),l[i]? = Qr (o,r)->q (n+i)=Qt->(∀(k:Nat) o' r',l[k]? = Qr (o',r')->i<k->o'.dst=Qr t->q (n+k)=Qu) ->
    (uZ q n l ρ)[t]? = if t<ρ.length then Qr r.v else none:=by
   intro q l
   induction l with
   |nil=>intro n i ρ h;simp at h
   |cons x l ih=>
    intro n i ρ h hq z8;obtain⟨o1,r1⟩:=x;cases i with
    |zero=>
     simp only[BG,AG,BK]at h;obtain⟨h1,h2⟩:=h;simp only[DU]at hq;simp only[uZ,hq,Zv];have:=aCY q (fun _=>Qu) t l (n+1) (bg ρ o1.dst r1.v) (bg ρ o1.dst r1.v) rfl rfl fun k o' r' h3 h4=>by
      have h5:=z8 (k+1) o' r' (by simpa using h3) (by omega) h4
      rwa [show n+(k+1)=n+1+k by omega]at h5
     rw[this,sc,h1,h2,e];simp[bg,FB]
    |succ i=>
     simp only[uZ];rw[ih (n+1) i _ (by simpa using h) (by rw[show n+1+i=n+(i+1)by omega];exact hq) fun k o' r' h1 h2 h3=>by
      have:=z8 (k+1) o' r' (by simpa using h1) (by omega) h3;rwa [show n+(k+1)=n+1+k by omega]at this]
     split<;>simp[fH]
  rw[key (fun j=>p j || j==n+i) l n i ρ hi (by simp) fun k o' r' h1 h2 h3=>by
   have h4:¬(k=i):=by omega
   simp[hk k o' r' h1 h2 t e h3,h4],hl]
 rw[aFZ _ _ _ _ e];refine aCY _ _ t l n ρ ρ' hl ht fun k o' r' h1 h2=>?_;have:k≠i:=fun ek=>by subst ek;rw[hi]at h1;cases h1;exact e h2
 simp[this]
theorem aEK{call:Nat->LA->LO->Out}{c:Ctx}:∀(al:List ae) (i:Nat) (s s':gp) (log:Log),nT call c i al s=Qr (s',log) ->∃tr:List (ae×Rec),tr.map (·.1)=al/\log=aFe i tr/\s'.ρ=uZ (fun _=>Qt) 0 tr s.ρ/\s'.H=cW s.H tr tr.length /\ (∀(k:Nat) o r,tr[k]? = Qr (o,r)->yq call c (uZ (fun j=>decide (j<k)) 0 tr s.ρ) (cW s.H tr k) o r/\cW s.H tr (k+1)=r.H2/\∀x∈r.wr.getD [],x<c.base->x∈s'.wr) /\ (∀x∈s.wr,x∈s'.wr)
 | [],i,s,s',log,h=>by
  simp only[nT,AG,BK]at h;obtain⟨rfl,rfl⟩:=h;exact⟨[],rfl,rfl,rfl,rfl,fun k o r h=>by simp at h,fun _ h=>h⟩
 |o::al,i,s,s',log,h=>by
  have step:∀(r:Rec) (s1:gp) (log1:Log),yq call c s.ρ s.H o r->s1.ρ=bg s.ρ o.dst r.v->s1.H=r.H2->(∀x∈s.wr,x∈s1.wr)->(∀x∈r.wr.getD [],x<c.base->x∈s1.wr) ->
    nT call c (i+1) al s1=Qr (s',log1)->log=(if r.want then (i,r.rd,r.wr)::log1 else log1) ->
    ∃tr:List (ae×Rec),tr.map (·.1)=o::al/\log=aFe i tr/\s'.ρ=uZ (fun _=>Qt) 0 tr s.ρ/\s'.H=cW s.H tr tr.length /\
     (∀(k:Nat) o r,tr[k]? = Qr (o,r)->yq call c (uZ (fun j=>decide (j<k)) 0 tr s.ρ) (cW s.H tr k) o r/\cW s.H tr (k+1)=r.H2/\∀x∈r.wr.getD [],x<c.base->x∈s'.wr) /\
     (∀x∈s.wr,x∈s'.wr):=by
   intro r s1 log1 hr hρ hH hw gn mz zg;obtain⟨tr,h1,h2,h3,h4,h5,h6⟩:=aEK al (i+1) s1 s' log1 mz;refine⟨(o,r)::tr,by simp[h1],by rw[zg,h2];simp only[aFe], ?_, ?_,fun k o' r' hk=>?_,fun x hx=>h6 x (hw x hx)⟩
   ·simp only[uZ,Zv];rw[aDY,<- hρ];exact h3
   ·simp only[AW,cW];rw[<- hH];exact h4
   cases k with
   |zero=>
    simp only[BG,AG,BK]at hk;obtain⟨rfl,rfl⟩:=hk;have sc:∀(l:List (ae×Rec)) (n:Nat) (ρ:LA),uZ (fun j=>decide (j<0)) n l ρ=ρ:=by
     intro l
     induction l with
     |nil=>intro n ρ;rfl
     |cons x l ih=>intro n ρ;obtain⟨a,b⟩:=x;simp only[uZ,Nat.not_lt_zero,decide_false,BX,Zu];exact ih _ _
    rw[sc];refine⟨hr, ?_,fun x hx hb=>h6 x (gn x hx hb)⟩;simp only[cW];cases tr<;>rfl
   |succ k=>
    have xe:tr[k]? = Qr (o',r'):=by simpa using hk
    obtain⟨a1,a2,a3⟩:=h5 k o' r' xe;refine⟨?_, ?_,a3⟩
    ·have e1:uZ (fun j=>decide (j<k+1)) 0 ((o,r)::tr) s.ρ=uZ (fun j=>decide (j<k)) 0 tr s1.ρ:=by
      simp only[uZ];rw[aDY,hρ];simp
     have e2:cW s.H ((o,r)::tr) (k+1)=cW s1.H tr k:=by simp only[cW];rw[<- hH]
     rw[e1,e2];exact a1
    simp only[cW];rw[<- hH];exact a2
  unfold nT at h;split at h
  ·rename_i hg;split at h
   ·rename_i hw;split at h
    ·rename_i v H' rd wr je;split at h
     ·rename_i s2 log2 mz;cases h;exact step ⟨v,Qt,rd,wr,H'⟩ _ log2 ⟨hg,hw.symm,fun _=>je,fun e=>(by cases e)⟩ rfl rfl (fun x hx=>(cE _ _ _).1 x hx) (fun x hx hb=>(cE _ _ _).2 x hx hb) mz rfl
     cases h
    cases h
   rename_i hw;exact step ⟨.tup [],Qu,[],Qs,s.H⟩ ⟨bg s.ρ o.dst (.tup []),s.H,s.wr⟩ log ⟨hg,(by simpa using hw),fun e=>(by cases e),fun _=>⟨rfl,rfl,rfl,rfl⟩⟩ rfl rfl (fun x hx=>hx) (fun x hx=>by simp at hx) h rfl
  cases h
theorem aK5:∀(tr:List (ae×Rec)) (i k:Nat) (o:ae) (r:Rec),tr[k]? = Qr (o,r)->r.want=Qt->(i+k,r.rd,r.wr)∈aFe i tr
 | [],i,k,o,r,h,_=>by simp at h
 | (o1,r1)::tr,i,k,o,r,h,hw=>by
  cases k with
  |zero=>simp only[BG,AG,BK]at h;obtain⟨rfl,rfl⟩:=h;simp[aFe,hw]
  |succ k=>
   have:=aK5 tr (i+1) k o r (by simpa using h) hw;rw[show i+1+k=i+(k+1)by omega]at this;simp only[aFe];split
   ·exact BZ _ this
   exact this
def bBq(pre:LN)(i:Nat)(r r':Rec):Prop:=
 i∈pre∨(match r.wr,r'.wr with
  |some _,Qr _=>False
  |some ws,Qs=>∀x∈r'.rd,x∉ws
  |none,Qr ws=>∀x∈r.rd,x∉ws
  |none,Qs=>True)
theorem aG0{a b:LN}(h:dG a b=Qt):∀x∈a,x∉b:=by intro x hx hb;have:=AO.1 h x hx;simp[hb]at this
theorem aI6(pre:Nat->LN):∀(tr:List (ae×Rec)) (n:Nat),eH pre (aFe n tr)=Qt->∀(i j:Nat) o r o' r',i<j->tr[i]? = Qr (o,r)->tr[j]? = Qr (o',r')->r.want=Qt->r'.want=Qt ->bBq (pre (n+j)) (n+i) r r'
 | [],n,h,i,j,o,r,o',r',Y4,hi,hj,hw,tv=>by simp at hi
 | (o1,r1)::tr,n,h,i,j,o,r,o',r',Y4,hi,hj,hw,tv=>by
  cases i with
  |zero=>
   simp only[BG,AG,BK]at hi;obtain⟨rfl,rfl⟩:=hi;cases j with
   |zero=>omega
   |succ j=>
    have hm:=aK5 tr (n+1) j o' r' (by simpa using hj) tv;simp only[aFe,hw,Zv,eH,AI]at h;have:=AO.1 h.1 _ hm;rw[show n+1+j=n+(j+1)by omega]at this;simp only[EA,EH]at this;rcases this with this | this
    ·exact .inl this
    refine .inr ?_;cases hq:r1.wr with
    |none=>
     cases wy:r'.wr with
     |none=>trivial
     |some ws=>rw[hq,wy]at this;exact aG0 this
    |some ws=>
     cases wy:r'.wr with
     |none=>rw[hq,wy]at this;exact aG0 this
     |some ws'=>rw[hq,wy]at this;simp at this
  |succ i=>
   cases j with
   |zero=>omega
   |succ j=>
    have h':eH pre (aFe (n+1) tr)=true:=by
     simp only[aFe]at h;split at h
     ·simp only[eH,AI]at h;exact h.2
     exact h
    have:=aI6 pre tr (n+1) h' i j o r o' r' (by omega) (by simpa using hi) (by simpa using hj) hw tv
    rwa [show n+1+j=n+(j+1)by omega,show n+1+i=n+(i+1)by omega]at this
theorem aK6:∀(tr:List (ae×Rec)) (H:LO) (m m':Nat),m<=tr.length->m'<=tr.length ->(∀(k:Nat) o r,tr[k]? = Qr (o,r)->r.wr=Qs->r.H2=cW H tr k)->(∀(k:Nat) o r,tr[k]? = Qr (o,r)->r.wr≠Qs->(k<m↔k<m'))->cW H tr m=cW H tr m':=by
 intro tr H m m' hm oq hR hW;have next:∀(tr:List (ae×Rec)) (H:LO) (k:Nat) o r,tr[k]? = Qr (o,r)->cW H tr (k+1)=r.H2:=by
  intro tr
  induction tr with
  |nil=>intro H k o r h;simp at h
  |cons x tr ih=>
   intro H k o r h;cases k with
   |zero=>simp only[BG,AG]at h;subst h;simp only[cW];cases tr<;>rfl
   |succ k=>simp only[cW];exact ih _ k o r (by simpa using h)
 have walk:∀(d a:Nat),a+d<=tr.length->(∀(k:Nat) o r,tr[k]? = Qr (o,r)->r.wr≠Qs->¬(a<=k/\k<a+d))->cW H tr (a+d)=cW H tr a:=by
  intro d
  induction d with
  |zero=>intro a _ _;rfl
  |succ d ih=>
   intro a hd hn;have hlt:a+d<tr.length:=by omega
   have hk:tr[a+d]? = Qr (tr[a+d].1,tr[a+d].2):=by simp[hlt]
   rw[show a+(d+1)=a+d+1 by omega,next tr H (a+d) _ _ hk,hR (a+d) _ _ hk ?_]
   ·exact ih a (by omega) fun k o r h1 h2 h3=>hn k o r h1 h2 ⟨h3.1,by omega⟩
   cases hq:tr[a+d].2.wr with
   |none=>rfl
   |some w=>exact Zw ⟨by omega,by omega⟩ (hn (a+d) _ _ hk (by rw[hq];simp))
 rcases PI m m' with h | h
 ·obtain⟨d,rfl⟩:=GN h;exact (walk d m oq fun k o r h1 h2 h3=>by have:=hW k o r h1 h2;omega).symm
 obtain⟨d,rfl⟩:=GN h;exact walk d m' hm fun k o r h1 h2 h3=>by have:=hW k o r h1 h2;omega
section
variable {P:CU}{ab:cu}
theorem aMH(all:List HP):∀(l:List HP) (pres:List LN) (i:Nat) o,l[i]? = Qr o ->∃ao,(aDQ P ab all l pres)[i]? = Qr ao/\ao.pre=aJM (pres++((aDQ P ab all l pres).take i).map ae.pre) o
 | [],pres,i,o,h=>by simp at h
 |o1::l,pres,i,o,h=>by
  cases i with
  |zero=>simp at h;subst h;exact⟨_,rfl,by simp[aDQ]⟩
  |succ i=>obtain⟨ao,h1,h2⟩:=aMH all l (pres++[aJM pres o1]) i o (by simpa using h);refine⟨ao,by simpa [aDQ]using h1, ?_⟩;rw[h2];simp[aDQ]
structure K3(ops:Array HP)(al:List ae):Prop where
 len:al.length=ops.size
 back:∀(k:Nat) ao,al[k]? = Qr ao->∀x∈ao.pre,x<k
 of:∀(k:Nat) o ao,ops[k]? = Qr o->al[k]? = Qr ao->∀e∈o.after,LZ .any e=Qt->e.on∈ao.pre
 to:∀(k:Nat) o ao,ops[k]? = Qr o->al[k]? = Qr ao->∀x∈ao.pre,∃e∈o.after,LZ .any e=Qt/\(x=e.on∨∃ao',al[e.on]? = Qr ao'/\x∈ao'.pre)
 ord:∀(i j:Nat) o p,i≠j->al[i]? = Qr o->al[j]? = Qr p->∀t,p.dst=Qr t->t∈o.names->(if i<j then i∈p.pre else j∈o.pre)
theorem aR7{ops:Array HP}(hd:aOK (aDQ P ab ops.toList ops.toList [])=Qt):K3 ops (aDQ P ab ops.toList ops.toList []):=by
 have ax:(aDQ P ab ops.toList ops.toList []).length=ops.size:=by rw[(aCU ops ops.toList []).1];simp
 have da:∀(k:Nat) ao,(aDQ P ab ops.toList ops.toList [])[k]? = Qr ao->ao.pre.all (fun x=>decide (x<k))=Qt /\
   ((aDQ P ab ops.toList ops.toList []).zipIdx.all fun(p,j)=>k==j || aLx k ao j p)=true:=fun k ao h=>by
  have hm:(ao,k)∈(aDQ P ab ops.toList ops.toList []).zipIdx:=by rw[CO];exact⟨k,by simp[ML,h]⟩
  have:=AO.1 hd _ hm;simpa only[AI]using this
 have sd:∀(k:Nat) o ao,ops[k]? = Qr o->(aDQ P ab ops.toList ops.toList [])[k]? = Qr ao->ao.pre=aJM (((aDQ P ab ops.toList ops.toList []).take k).map ae.pre) o:=fun k o ao h1 h2=>by
  obtain⟨ao',h3,h4⟩:=aMH (P:=P) (ab:=ab) ops.toList ops.toList [] k o (by simpa using h1);rw[h2]at h3;cases h3;simpa using h4
 refine⟨ax,fun k ao h x hx=>?_,fun k o ao h1 h2 e he hb=>?_,fun k o ao h1 h2 x hx=>?_,fun i j o p bl h1 h2 t ht hn=>?_⟩
 ·simpa using AO.1 (da k ao h).1 x hx
 ·rw[sd k o ao h1 h2];unfold aJM;rw[aIW,IM];exact⟨e,by simpa using he,by simp[hb]⟩
 ·rw[sd k o ao h1 h2]at hx;unfold aJM at hx;rw[aIW,IM]at hx;obtain⟨e,he,hx⟩:=hx;split at hx
  ·rename_i hb;refine⟨e,by simpa using he,hb, ?_⟩;rcases BD.1 hx with rfl | hx
   ·exact .inl rfl
   refine .inr ?_;rw[BN,CF]at hx;split at hx
   ·cases hq:(aDQ P ab ops.toList ops.toList [])[e.on]? with
    |none=>rw[hq]at hx;simp at hx
    |some ao'=>rw[hq]at hx;exact⟨ao',rfl,by simpa using hx⟩
   simp at hx
  simp at hx
 have hm:(p,j)∈(aDQ P ab ops.toList ops.toList []).zipIdx:=by rw[CO];exact⟨j,by simp[ML,h2]⟩
 have:=AO.1 (da i o h1).2 _ hm;simp only[aLx,ht,EA,beq_iff_eq,bl,false_or,Bool.not_eq_true']at this;rcases this with h | h
 ·have:¬(t∈o.names):=by simpa using h
  exact Zw hn this
 split
 ·rename_i hlt;rw[Zy hlt]at h;simpa using h
 rename_i hlt;rw[Zx hlt]at h;simpa using h
def cnt:Nat->(Nat->Bool)->Nat
 |0,_=>0
 |k+1,p=>cnt k p+(if p k then 0 else 1)
theorem aK7{p q:Nat->Bool}:∀(n:Nat),(∀k,k<n->p k=q k)->cnt n p=cnt n q
 |0,_=>rfl
 |n+1,h=>by simp only[cnt];rw[aK7 n fun k hk=>h k (by omega),h n (by omega)]
theorem aOY{p q:Nat->Bool}{i:Nat}:∀(n:Nat),i<n->p i=Qu->q i=Qt->(∀k,k≠i->q k=p k)->cnt n q+1=cnt n p
 |0,h,_,_,_=>by omega
 |n+1,h,hp,hq,hr=>by
  simp only[cnt];by_cases e:i=n
  ·subst e;rw[aK7 (p:=q) (q:=p) i fun k hk=>hr k (by omega)];simp[hp,hq]
  have:=aOY n (by omega) hp hq hr;rw[hr n (Ne.symm e)];omega
theorem aMI{p:Nat->Bool}:∀(n:Nat),cnt n p=0->∀k,k<n->p k=Qt
 |0,_,k,hk=>by omega
 |n+1,h,k,hk=>by
  simp only[cnt]at h;by_cases e:k=n
  ·subst e;cases hp:p k with
   |true=>rfl
   |false=>simp[hp]at h
  exact aMI n (by omega) k (by omega)
theorem aSM{p:Nat->Bool}:∀(n:Nat),cnt n p<=n
 |0=>AQ _
 |n+1=>by simp only[cnt];have:=aSM (p:=p) n;split<;>omega
end
section
variable {P:CU}{ab:cu}{ops:Array HP}{call:Nat->LA->LO->Out}{c:Ctx}{tr:List (ae×Rec)}{ρ0:LA}{H0:LO}{ba:LN}
structure Env(P:CU)(ab:cu)(ops:Array HP)(call:Nat->LA->LO->Out)(c:Ctx)(tr:List (ae×Rec))(ρ0:LA)(H0:LO)(ba:LN):Prop where
 az:oT P ab call
 fr:sQ call
 pre:K3 ops (tr.map (·.1))
 comp:∀(i:Nat) o ao r,ops[i]? = Qr o->tr[i]? = Qr (ao,r)->vr P ab ops o ao
 ok:∀(k:Nat) o r,tr[k]? = Qr (o,r)->yq call c (uZ (fun j=>decide (j<k)) 0 tr ρ0) (cW H0 tr k) o r
 next:∀(k:Nat) o r,tr[k]? = Qr (o,r)->cW H0 tr (k+1)=r.H2
 wrs:∀(k:Nat) o r,tr[k]? = Qr (o,r)->∀x∈r.wr.getD [],x<c.base->x∈ba
 pair:∀(i j:Nat) o r o' r',i<j->tr[i]? = Qr (o,r)->tr[j]? = Qr (o',r')->r.want=Qt->r'.want=Qt->bBq o'.pre i r r'
 pf:∀(k:Nat) o r zs id,tr[k]? = Qr (o,r)->o.op=.alloc zs->c.site o.dst=Qr id->o.guard=Qs/\o.pre=[]/\id<H0.length/\∃v,H0[id]? = Qr (.box v zs)
theorem zD{k:Nat}{o:ae}{r:Rec}(h:tr[k]? = Qr (o,r)):(tr.map (·.1))[k]? = Qr o:=by simp[h]
theorem Env.quiet(E:Env P ab ops call c tr ρ0 H0 ba){k:Nat}{o:ae}{r:Rec}(h:tr[k]? = Qr (o,r))(hn:r.wr=Qs):r.H2=cW H0 tr k:=by
 have hr:=E.ok k o r h;cases hw:r.want with
 |false=>exact (hr.no hw).2.1
 |true=>exact (aJ2 E.fr (hr.yes hw)).2.1 hn
theorem Env.qg(E:Env P ab ops call c tr ρ0 H0 ba){k:Nat}{o:ae}{r:Rec}(h:tr[k]? = Qr (o,r))(hn:r.wr≠Qs):r.want=true:=by
 have hr:=E.ok k o r h;cases hw:r.want with
 |false=>exact Zw (hr.no hw).2.2.2 hn
 |true=>rfl
theorem Env.step(E:Env P ab ops call c tr ρ0 H0 ba){k:Nat}{o:ae}{r:Rec}(h:tr[k]? = Qr (o,r)):r.H2.length=(cW H0 tr k).length/\∀x,x∉r.wr.getD []->r.H2[x]? = (cW H0 tr k)[x]? := by
 have hr:=E.ok k o r h;cases hw:r.want with
 |false=>rw[(hr.no hw).2.1];exact⟨rfl,fun _ _=>rfl⟩
 |true=>
  obtain⟨h1,_,h3⟩:=aJ2 E.fr (hr.yes hw);refine⟨h3,fun x hx=>?_⟩;by_cases hlt:x<(cW H0 tr k).length
  ·exact h1.2 x hlt hx
  rw[CY (by omega),CY (by omega)]
theorem Env.len(E:Env P ab ops call c tr ρ0 H0 ba):∀m,m<=tr.length->(cW H0 tr m).length=H0.length
 |0,_=>by cases tr<;>rfl
 |m+1,h=>by
  have hk:tr[m]? = Qr (tr[m].1,tr[m].2):=AP (by omega);rw[E.next m _ _ hk,(E.step hk).1];exact E.len m (by omega)
theorem Env.read(E:Env P ab ops call c tr ρ0 H0 ba){x m m':Nat}(hm:m<=tr.length)(oq:m'<=tr.length) (h:∀(k:Nat) o r,tr[k]? = Qr (o,r)->r.wr≠Qs->(k<m↔k<m')∨x∉r.wr.getD []):(cW H0 tr m)[x]? = (cW H0 tr m')[x]? := by
 have walk:∀(d a:Nat),a+d<=tr.length->(∀(k:Nat) o r,tr[k]? = Qr (o,r)->r.wr≠Qs->a<=k->k<a+d->x∉r.wr.getD [])->(cW H0 tr (a+d))[x]? = (cW H0 tr a)[x]? := by
  intro d
  induction d with
  |zero=>intro a _ _;rfl
  |succ d ih=>
   intro a hd hn;have hk:tr[a+d]? = Qr (tr[a+d].1,tr[a+d].2):=AP (by omega);rw[show a+(d+1)=a+d+1 by omega,E.next (a+d) _ _ hk];have:x∉tr[a+d].2.wr.getD []:=by
    cases hq:tr[a+d].2.wr with
    |none=>simp
    |some w=>have:=hn (a+d) _ _ hk (by rw[hq];simp) (by omega) (by omega);rwa [hq]at this
   rw[(E.step hk).2 x this];exact ih a (by omega) fun k o r h1 h2 h3 h4=>hn k o r h1 h2 h3 (by omega)
 rcases PI m m' with hle | hle
 ·obtain⟨d,rfl⟩:=GN hle;exact (walk d m oq fun k o r h1 h2 h3 h4=>(h k o r h1 h2).elim (fun h5=>by omega) id).symm
 obtain⟨d,rfl⟩:=GN hle;exact walk d m' hm fun k o r h1 h2 h3 h4=>(h k o r h1 h2).elim (fun h5=>by omega) id
structure Inv(P:CU)(ab:cu)(c:Ctx)(tr:List (ae×Rec))(ρ0:LA)(H0:LO)(ba:LN)(g0:G)(w0:BL)(d:List HU)(L:Nat->Bool)(g:G)(a:Act)(w:BL):Prop where
 closed:∀(k:Nat) o r,tr[k]? = Qr (o,r)->L k=Qt->∀x∈o.pre,L x=Qt
 pos:∃m,m<=tr.length/\(∀(k:Nat) o r,tr[k]? = Qr (o,r)->r.wr≠Qs->(L k=Qt↔k<m))/\∃W,Step g0 H0 w0 g (cW H0 tr m) w W/\∀o∈W,o<c.base->o∈ba
 bm:aX g (uZ L 0 tr ρ0) a.tmps
 defers:a.defers=d
 ab:bM P ab g
 unb:∀(k:Nat) o r zs id,tr[k]? = Qr (o,r)->o.op=.alloc zs->c.site o.dst=Qr id->L k=Qu->∀l,g.obj id=Qr l->l.st<(H0[id]?).elim 0 ah.ver
variable {g0:G}{w0:BL}{d:List HU}{L:Nat->Bool}{g:G}{a:Act}{w:BL}
theorem Inv.names(E:Env P ab ops call c tr ρ0 H0 ba)(I:Inv P ab c tr ρ0 H0 ba g0 w0 d L g a w){i:Nat}{o:ae}{r:Rec}(hi:tr[i]? = Qr (o,r))(hL:L i=Qu)(hp:∀x∈o.pre,L x=Qt):∀t∈o.names,(uZ L 0 tr ρ0)[t]? = (uZ (fun j=>decide (j<i)) 0 tr ρ0)[t]? := by
 intro t ht;refine aCY _ _ t tr 0 ρ0 ρ0 rfl rfl fun k ok rk hk hd=>?_;simp only[BC];by_cases e:k=i
 ·subst e;rw[hL];simp
 have:=E.pre.ord i k o ok (Ne.symm e) (zD hi) (zD hk) t hd ht;split at this
 ·rename_i hlt;have h1:L k=false:=by
   cases hq:L k with
   |false=>rfl
   |true=>have:=I.closed k ok rk hk hq i this;rw[hL]at this;cases this
  rw[h1];simp;omega
 rename_i hlt;rw[hp k this];simp;omega
theorem Inv.put(E:Env P ab ops call c tr ρ0 H0 ba)(I:Inv P ab c tr ρ0 H0 ba g0 w0 d L g a w){i:Nat}{o:ae}{r:Rec}(hi:tr[i]? = Qr (o,r))(hL:L i=Qu){g':G}(hle:g.le g'){x:BE}(hv:ai g' r.v x):aX g' (uZ (fun j=>L j || j==i) 0 tr ρ0) (a.put o.dst x).tmps:=by
 have h1:=(I.bm.mono hle).bg hv o.dst;refine⟨by rw[aFy];have:=h1.1;rw[fH,aFy]at this;exact this,fun t=>?_⟩;have:=aR6 L i tr 0 ρ0 ρ0 o r hi rfl (by simpa using hL) (fun k o' r' hk hlt t h2 h3=>by
  simp only[BC];have:=E.pre.ord i k o o' (by omega) (zD hi) (zD hk) t h3 (by simp[ae.names,h2]);rw[Zy hlt]at this;cases hq:L k with
  |false=>rfl
  |true=>have:=I.closed k o' r' hk hq i this;rw[hL]at this;cases this) t rfl
 simp only[BC]at this;rw[this];exact h1.2 t
theorem Inv.F6(E:Env P ab ops call c tr ρ0 H0 ba)(I:Inv P ab c tr ρ0 H0 ba g0 w0 d L g a w){i:Nat}{o:ae}{r:Rec}(hi:tr[i]? = Qr (o,r))(hL:L i=Qu)(hp:∀x∈o.pre,L x=Qt)(hw:r.wr≠Qs):∀(k:Nat) ok rk,tr[k]? = Qr (ok,rk)->rk.wr≠Qs->(L k=Qt↔k<i):=by
 intro k ok rk hk pg;rcases NV k i with h | h | h
 ·have:=E.pair k i ok rk o r h hk hi (E.qg hk pg) (E.qg hi hw);rcases this with this | this
  ·simp[hp k this,h]
  cases hq:rk.wr with
  |none=>exact Zw hq pg
  |some a=>cases wy:r.wr with
   |none=>exact Zw wy hw
   |some b=>rw[hq,wy]at this;exact this.elim
 ·subst h;rw[hL];simp
 have:=E.pair i k o r ok rk h hi hk (E.qg hi hw) (E.qg hk pg);rcases this with this | this
 ·have h1:L k=false:=by
   cases hq:L k with
   |false=>rfl
   |true=>have:=I.closed k ok rk hk hq i this;rw[hL]at this;cases this
  rw[h1];simp;omega
 cases hq:r.wr with
 |none=>exact Zw hq hw
 |some a=>cases wy:rk.wr with
  |none=>exact Zw wy pg
  |some b=>rw[hq,wy]at this;exact this.elim
theorem Inv.reads(E:Env P ab ops call c tr ρ0 H0 ba)(I:Inv P ab c tr ρ0 H0 ba g0 w0 d L g a w){i m:Nat}{o:ae}{r:Rec}(hi:tr[i]? = Qr (o,r))(hL:L i=Qu)(hp:∀x∈o.pre,L x=Qt)(hw:r.wr=Qs)(K4:r.want=Qt) (hm:m<=tr.length) (kj:∀(k:Nat) o r,tr[k]? = Qr (o,r)->r.wr≠Qs->(L k=Qt↔k<m)):∀x∈r.rd,(cW H0 tr m)[x]? = (cW H0 tr i)[x]? := by
 intro x hx;have hlt:i<tr.length:=(AH.1 hi).1;refine E.read hm (by omega) fun k ok rk hk pg=>?_;have yr:=kj k ok rk hk pg;obtain⟨ws,zh⟩:=Option.ne_none_iff_exists'.1 pg;rcases NV k i with h | h | h
 ·cases hq:L k with
  |true=>rw[hq]at yr;left;simp at yr;omega
  |false=>
   have:=E.pair k i ok rk o r h hk hi (E.qg hk pg) K4;rcases this with this | this
   ·rw[hp k this]at hq;cases hq
   rw[zh,hw]at this;right;rw[zh];exact this x hx
 ·subst h;rw[hi]at hk;cases hk;exact Zw hw pg
 cases hq:L k with
 |false=>rw[hq]at yr;left;simp at yr;omega
 |true=>
  have:=E.pair i k o r ok rk h hi hk K4 (E.qg hk pg);rcases this with this | this
  ·have:=I.closed k ok rk hk hq i this;rw[hL]at this;cases this
  rw[hw,zh]at this;right;rw[zh];exact this x hx
end
end Go.AM
end
