/- Part 3: lemmas for the last text. -/
import Derived.Test.YtebodiamojfnnaaGreatDoorK02
import Derived.Lib.Bytealg
import Derived.Shelf.Strings.Builder1
import Derived.Shelf.Strings.Builder2
import Derived.Shelf.Strings.OnBuilder
import Derived.Shelf.Small.Strs
import Derived.Shelf.Strconv.Atoi
import Derived.Shelf.Strconv.Itoa0
import Derived.Shelf.Strconv.Itoa1
import Derived.Shelf.LaysM
import Derived.Shelf.Strconv.Itoa2
import Derived.Shelf.Strconv.Itoa3
import Derived.Shelf.Strconv.AtoiErrFast
import Derived.Shelf.Strconv.ParseIntEmpty
import Derived.Shelf.Strconv.AtoiFail
import Derived.Shelf.Strconv.Clone
import Derived.Shelf.Strconv.SyntaxError
import Derived.Shelf.LaysC
import Derived.Shelf.Strconv.ToError
import Derived.Shelf.Strconv.Lower
import Derived.Shelf.Strconv.ParseUint10
import Derived.Shelf.Strconv.ParseUint10Empty
import Derived.Shelf.Strconv.ParseUint10Any
import Derived.Shelf.Strconv.ParseInt10
import Derived.Shelf.Strconv.AtoiLong
import Derived.Shelf.Strconv.AtoiInnerAll
import Derived.Shelf.Strconv.RangeError
import Derived.Shelf.Strconv.ToErrorRange
import Derived.Shelf.Strconv.AtoiAll
import Derived.Shelf.Strings.Search1
import Derived.Shelf.Strings.Search2
import Derived.Shelf.Strings.Search3
import Derived.Shelf.Strings.Count
import Derived.Shelf.Strings.Shaped
import Derived.Shelf.Strconv.AppendUint10
import Derived.Shelf.Unicode.DecodeSlow
import Derived.Test.YtebodiamojfnnaaGreatDoorProg
set_option linter.unusedVariables false
set_option linter.unusedSimpArgs false
set_option maxRecDepth 100000
open Array renaming getD_eq_getD_getElem? -> CR, getElem?_setIfInBounds -> HL, getElem?_eq_getElem -> CM, all_eq_true_iff_forall_mem -> JH, replicate -> NW, ext_getElem? -> MS, getElem?_eq_some_iff -> KM
open Bool renaming or_eq_true -> EA, and_eq_true -> AI, not_eq_true' -> KB, false_eq_true -> BX, true_and -> BR, false_ne_true -> ED, rec -> MM, true -> Qt, false -> Qu
open Go renaming Program -> CU, Oper -> HP, World -> BL, Deferred -> HU, Value -> BE, undef -> EE, Calls -> FV
open Go.Code renaming region -> PJ, roundsIn -> LL
open Go.Exit renaming inBlock -> PB
open Go.Fence renaming wide -> FJ
open Go.Instr renaming enterLoop -> JZ
open Go.Lib renaming indexByte -> EV, countByte -> PC, join -> OT, atoiAll -> LS
open Go.Obj.cells renaming injEq -> Qh
open Go.Region renaming ready -> HO, binds -> LZ
open Go.Result renaming andThen_ok -> BJ, andThen -> DL
open Go.Sem renaming run_bind -> BS
open Go.Shelf renaming Ren -> HK
open Go.World renaming putObj_heap_other -> GK, cell? -> EF, putObj_heap_same -> LR
open List renaming findIdx?_eq_some_iff_getElem -> GW, getElem?_eq_some_iff -> AH, ext_getElem? -> HN, mem_append -> AY, mem_singleton -> CG, getElem?_set -> FB, getElem?_eq_getElem -> AP, getElem?_cons_zero -> BG, mem_filter -> OK, mem_of_getElem? -> AN, all_eq_true -> AO, getElem?_map -> BN, range' -> FM, length_eq_one_iff -> FQ, getElem?_append_left -> BM, length_append -> BA, length_set -> CP, mem_cons -> BD, mem_range'_1 -> FC, replicate -> AX, zipIdx_cons -> NX, mem_cons_of_mem -> BZ, filter_cons -> JV, all_cons -> ES, getElem?_append_right -> BU, getElem?_eq_none -> CY, getElem?_replicate -> IN, rec -> IU, not_mem_nil -> CC
open List.cons renaming injEq -> JG
open Nat renaming zero_le -> FF, le_refl -> AQ, strongRecOn -> KK, zero_add -> BC, sub_zero -> PK, le_max_left -> GJ, le_max_right -> GC, beq -> EY, beq_eq -> NJ, eq_of_beq_eq_true -> ET
open Option renaming elim_some -> HC, map_some -> DE, getD_some -> EN, rec -> JA, some -> Qr, none -> Qs
open Option.some renaming injEq -> AG
open Prod renaming fst -> EM
open Prod.mk renaming injEq -> BK
open UInt8 renaming ofNat -> CN
open Bool renaming not_true -> BT
section
namespace Go.AM
open Go
section
variable {P:CU}{ab:cu}{ops:Array HP}{call:Nat->LA->LO->Out}{c:Ctx}{tr:List (ae×Rec)}{ρ0:LA}{H0:LO}{ba:LN}
variable {g0:G}{w0:BL}{d:List HU}{L:Nat->Bool}{g:G}{a:Act}{w:BL}
theorem aA8.mono{o:HP}{R R':BE->BL->Prop}(h:aA8 P o a w R)(hr:∀v w',R v w'->R' v w'):aA8 P o a w R':=by
 rcases h with⟨v,w',h1,h2⟩ | ⟨w',h1,h2⟩ | ⟨f,args,w1,h1,h2⟩ | ⟨l,f,t,b,c,w1,h1,h2⟩
 ·exact .inl ⟨v,w',h1,hr _ _ h2⟩
 ·exact .inr (.inl ⟨w',h1,hr _ _ h2⟩)
 ·exact .inr (.inr (.inl ⟨f,args,w1,h1,h2.mono fun e w' he=>by cases e<;>first | exact hr _ _ he | exact he⟩))
 exact .inr (.inr (.inr ⟨l,f,t,b,c,w1,h1,h2.mono fun e w' he=>by cases e<;>first | exact hr _ _ he | exact he⟩))
theorem aMJ{c:Ctx}{d1 d2:Option Nat}{id:Nat}(h1:c.site d1=Qr id)(h2:c.site d2=Qr id):d1=d2/\∃t,d1=Qr t:=by
 unfold Ctx.site at h1 h2;cases d1 with
 |none=>simp at h1
 |some t1=>
  cases d2 with
  |none=>simp at h2
  |some t2=>
   simp only at h1 h2;obtain⟨i1,e1,f1⟩:=map_some h1;obtain⟨i2,e2,f2⟩:=map_some h2;have:i1=i2:=by omega
   subst this;obtain⟨x1,y1,_⟩:=GW.1 e1;obtain⟨x2,y2,_⟩:=GW.1 e2;have z1:c.sites[i1]=t1:=by simpa using y1
   have z2:c.sites[i1]=t2:=by simpa using y2
   exact⟨by rw[<- z1,<- z2],t1,rfl⟩
theorem Env.zi(E:Env P ab ops call c tr ρ0 H0 ba){k:Nat}{o:ae}{r:Rec}{zs:LA}{id:Nat}(hk:tr[k]? = Qr (o,r))(ho:o.op=.alloc zs)(hs:c.site o.dst=Qr id):r.want=Qt/\r.rd=[id]/\r.wr=Qs/\r.v=.ptr id (((cW H0 tr k)[id]?).elim 0 ah.ver) 0:=by
 obtain⟨h1,h2,h3,h4⟩:=E.pf k o r zs id hk ho hs;have hr:=E.ok k o r hk;have hw:r.want=true:=by rw[hr.want];unfold wanted;rw[h1]
 have:=hr.yes hw;unfold aFJ at this;rw[ho,hs]at this;simp only[AG,BK]at this;obtain⟨e1,_,e3,e4⟩:=this;exact⟨hw,e3.symm,e4.symm,e1.symm⟩
theorem aCZ{α:Type}{f:α->df}{x:Option α}{y:df}(h:x.map f=Qr y)(hf:∀z,f z≠y):False:=by obtain⟨z,_,hz⟩:=map_some h;exact hf z hz
theorem aOZ{dst op type pos after guard zs}(nw:cOp P ab ⟨dst,op,type,pos,after,guard⟩=Qr (.alloc zs)):∃t,op=.alloc t/\zeroCells? P ab t=Qr zs:=by
 unfold cOp at nw;dsimp only at nw;split at nw
 case h_4=>
  split at nw
  ·exact (aCZ nw fun z hz=>by cases hz).elim
  obtain⟨x,hx,Ke⟩:=map_some nw;cases Ke;exact⟨_,rfl,hx⟩
 all_goals exfalso
 all_goals repeat' split at nw
 all_goals first
  | (exact aCZ nw (fun z hz=>by cases hz))
  | (simp at nw;done)
  |skip
theorem Inv.apart(E:Env P ab ops call c tr ρ0 H0 ba)(I:Inv P ab c tr ρ0 H0 ba g0 w0 d L g a w){k:Nat}{o:ae}{r:Rec}{zs:LA}{id:Nat}(hk:tr[k]? = Qr (o,r))(ho:o.op=.alloc zs)(hs:c.site o.dst=Qr id)(hL:L k=Qu) {i:Nat} {oi:ae} {ri:Rec} (hi:tr[i]? = Qr (oi,ri)) (Kf:L i=Qt∨∀x∈oi.pre,L x=Qt) (hw:ri.wr≠Qs):id∉ri.wr.getD []:=by
 obtain⟨h1,h2,h3,h4⟩:=E.zi hk ho hs;obtain⟨ws,zh⟩:=Option.ne_none_iff_exists'.1 hw;have sd:∀x∈oi.pre,L x=true:=by
  rcases Kf with h | h
  ·exact I.closed i oi ri hi h
  exact h
 rcases Nat.lt_trichotomy k i with h | h | h
 ·have:=E.pair k i o r oi ri h hk hi h1 (E.qg hi hw);rcases this with this | this
  ·rw[sd k this]at hL;cases hL
  rw[h3,zh]at this;rw[zh];exact this id (by rw[h2];simp)
 ·subst h;rw[hk]at hi;cases hi;exact Zw h3 hw
 have:=E.pair i k oi ri o r h hi hk (E.qg hi hw) h1;rcases this with this | this
 ·rw[(E.pf k o r zs id hk ho hs).2.1]at this;simp at this
 rw[h3,zh]at this;rw[zh];exact this id (by rw[h2];simp)
theorem Inv.go(E:Env P ab ops call c tr ρ0 H0 ba)(I:Inv P ab c tr ρ0 H0 ba g0 w0 d L g a w){i:Nat}{o:ae}{r:Rec}(hi:tr[i]? = Qr (o,r))(hL:L i=Qu)(hp:∀x∈o.pre,L x=Qt) {oo:HP} {x:BE} {g':G} {w':BL} (Ec:o.dst=oo.dst) (hle:g.le g') (hv:ai g' r.v x) (kj:∃m,m<=tr.length/\(∀(k:Nat) ok rk,tr[k]? = Qr (ok,rk)->rk.wr≠Qs->((L k || k==i)=Qt↔k<m))/\∃W,Step g0 H0 w0 g' (cW H0 tr m) w' W/\∀o∈W,o<c.base->o∈ba) (F7:∀(k:Nat) ok rk zs id,tr[k]? = Qr (ok,rk)->ok.op=.alloc zs->c.site ok.dst=Qr id->k≠i->L k=Qu->g'.obj id=g.obj id):Inv P ab c tr ρ0 H0 ba g0 w0 d (fun j=>L j || j==i) g' (a.put oo.dst x) w':=by
 refine⟨fun k ok rk hk A2 y hy=>?_,kj, ?_,by rw[aDW,I.defers],I.ab.mono hle,fun k ok rk zs id hk ho hs A2 l hl=>?_⟩
 ·simp only[EA,beq_iff_eq]at A2 ⊢;rcases A2 with h | h
  ·exact .inl (I.closed k ok rk hk h y hy)
  subst h;rw[hi]at hk;cases hk;exact .inl (hp y hy)
 ·rw[<- Ec];exact I.put E hi hL hle hv
 simp only[Bool.or_eq_false_iff,beq_eq_false_iff_ne]at A2;rw[F7 k ok rk zs id hk ho hs A2.2 A2.1]at hl;exact I.unb k ok rk zs id hk ho hs A2.1 l hl
theorem Inv.no(E:Env P ab ops call c tr ρ0 H0 ba)(I:Inv P ab c tr ρ0 H0 ba g0 w0 d L g a w){i:Nat}{o:ae}{r:Rec}(hi:tr[i]? = Qr (o,r))(hL:L i=Qu)(hp:∀x∈o.pre,L x=Qt) {oo:HP} (Ec:o.dst=oo.dst) (hw:r.want=Qu):Inv P ab c tr ρ0 H0 ba g0 w0 d (fun j=>L j || j==i) g (a.put oo.dst EE) w:=by
 obtain⟨h1,h2,h3,h4⟩:=(E.ok i o r hi).no hw;refine I.go E hi hL hp Ec (G.le.refl g) (by rw[h1];exact .skip _) ?_ fun _ _ _ _ _ _ _ _ _ _=>rfl;obtain⟨m,hm,kj,W,hs,hb⟩:=I.pos;refine⟨m,hm,fun k ok rk hk pg=>?_,W,hs,hb⟩;have:k≠i:=fun e=>by subst e;rw[hi]at hk;cases hk;exact pg h4
 simp only[EA,beq_iff_eq,this,or_false];exact kj k ok rk hk pg
theorem Inv.yes(E:Env P ab ops call c tr ρ0 H0 ba)(I:Inv P ab c tr ρ0 H0 ba g0 w0 d L g a w){i:Nat}{o:ae}{r:Rec}(hi:tr[i]? = Qr (o,r))(hL:L i=Qu)(hp:∀x∈o.pre,L x=Qt) {oo:HP} (Ed:ops[i]? = Qr oo) (hw:r.want=Qt):aA8 P oo a w fun x w'=>∃g',Inv P ab c tr ρ0 H0 ba g0 w0 d (fun j=>L j || j==i) g' (a.put oo.dst x) w':=by
 have nx:=E.comp i oo o r Ed hi;have xp:=E.ok i o r hi;have je:=xp.yes hw;have xq:=I.names E hi hL hp;have hlt:i<tr.length:=(AH.1 hi).1;obtain⟨m,hm,kj,W,hs,hb⟩:=I.pos;have se:∀t∈o.op.bm,(uZ L 0 tr ρ0)[t]? = (uZ (fun j=>decide (j<i)) 0 tr ρ0)[t]? := fun t ht=>xq t (by simp[ae.names,ht]);have wx:∀op,o.op=op->op≠.bad->cOp P ab oo=Qr op:=fun op e F2=>by
  rw[nx.op]at e;cases hq:cOp P ab oo with
  |none=>rw[hq]at e;exact Zw e.symm F2
  |some op'=>rw[hq]at e;simp at e;rw[e]
 unfold aFJ at je;split at je
 ·
  rename_i zs id su qh;simp only[AG,BK]at je;obtain⟨Kg,hH2,zj,ma⟩:=je;obtain⟨_,Y5,hid,v,Y6⟩:=E.pf i o r zs id hi su qh;have Hu:(cW H0 tr m)[id]? = Qr (.box v zs):=by
   have h0:cW H0 tr 0=H0:=by cases tr<;>rfl
   have zj:(cW H0 tr m)[id]? = (cW H0 tr 0)[id]? := ?_
   ·rw[zj,h0,Y6]
   refine E.read hm (FF _) fun k ok rk hk pg=>?_;cases hq:L k with
   |false=>left;have:=kj k ok rk hk pg;rw[hq]at this;simp at this;omega
   |true=>right;exact I.apart E hi su qh hL hk (.inl hq) pg
  have Kh:(cW H0 tr i)[id]? = Qr (.box v zs):=by rw[<- I.reads E hi hL hp ma.symm hw hm kj id (by rw[<- zj];simp)];exact Hu
  have O7:id<(cW H0 tr m).length:=by rw[E.len m hm];exact hid
  have nw:=wx _ su (by simp);obtain⟨dst,op,type,pos,after,guard⟩:=oo;have F7:=I.unb i o r zs id hi su qh hL;rw[Y6]at F7;have lg:(cW H0 tr m).set id (.box v zs)=cW H0 tr m:=by
   apply HN;intro j;by_cases e:j=id
   ·subst e;simp[O7];have:=Hu;simp[O7]at this;exact this.symm
   rw[getElem?_set_ne' _ _ (Ne.symm e)]
  have j8:=aOZ nw;obtain⟨t,rfl,hz⟩:=j8;obtain⟨it,z,Y7,tq,ub⟩:=zeroCells?_spec hz;have bn:Step g (cW H0 tr m) w (g.setObj id ⟨w.heap.size,v,0,0,0⟩) ((cW H0 tr m).set id (.box v zs)) (w.alloc (.cells z.cells t)) [id]:=by
   refine Step.update hs.wf id (.box v zs) ⟨w.heap.size,v,0,0,0⟩ O7 (by simp) (fun b du _=>cK (o:=.cells z.cells t) rfl du) (by simp) (.inl (AQ _)) rfl rfl (fun l hl=>?_) fun hle=>⟨rfl,wV (t:=t) rfl,fun j c hj=>?_⟩
   ·have:=F7 l hl;simp only[HC,ah.ver]at this;exact⟨Nat.le_of_lt this,fun e=>by have e':v=l.st:=e;omega⟩
   have hl:=ub g;have tt:j<zs.length:=(AH.1 hj).1;have ax:=hl.1;simp at ax;rw[kD (t:=t) rfl];exact⟨z.cells[j]'(by omega),by simp,(hl.2 j c _ hj (by simp)).mono hle⟩
  rw[lg]at bn;refine .inl ⟨.pointer (Qr ⟨w.heap.size,0,Qs⟩),w.alloc (.cells z.cells t),by simp[execOp,Instr.alloc,zeroValue,typeInfo,Y7,tq,newVar,newRow],_,I.go E hi hL hp nx.dst bn.le ?_ ?_ ?_⟩
  ·rw[<- Kg,Kh];exact .ptr id v 0 _ _ (by simp[G.setObj];rfl) (AQ _) fun _ _=>rfl
  ·refine⟨m,hm,fun k ok rk hk pg=>?_,W++[id],hs.trans bn,fun o' ho du=>?_⟩
   ·have:k≠i:=fun e=>by subst e;rw[hi]at hk;cases hk;exact pg ma.symm
    simp only[EA,beq_iff_eq,this,or_false];exact kj k ok rk hk pg
   rcases AY.1 ho with ho | ho
   ·exact hb o' ho du
   simp only[CG]at ho;subst ho;have:=aLB qh;omega
  intro k ok rk zs' id' hk z7 ml bl A2;have:id'≠id:=fun e=>by
   subst e;obtain⟨e1,t1,e2⟩:=aMJ ml qh;have:=E.pre.ord i k o ok (Ne.symm bl) (zD hi) (zD hk) t1 e2 (by simp[ae.names,show o.dst=Qr t1 from e1 ▸ e2]);split at this
   ·rw[(E.pf k ok rk zs' id' hk z7 ml).2.1]at this;simp at this
   rw[Y5]at this;simp at this
  simp[G.setObj,this]
 rename_i op site xr;have bl:o.op≠.bad:=fun e=>by
  rw[e]at je;simp[isW,evR]at je
 have nw:=wx _ rfl bl;split at je
 ·
  split at je
  ·rename_i v H' wr Y8;split at je
   ·simp only[AG,BK]at je;obtain⟨rfl,rfl,zj,ma⟩:=je;have K5:r.wr≠none:=by rw[<- ma];simp
    have Y9:=I.F6 E hi hL hp K5;have Ee:cW H0 tr m=cW H0 tr i:=aK6 tr H0 m i hm (by omega) (fun k ok rk hk hn=>E.quiet hk hn) fun k ok rk hk pg=>by rw[<- kj k ok rk hk pg];exact Y9 k ok rk hk pg
    rw[<- Ee,<- aOU se]at Y8;have Ef:=aK0 nw E.az Y8 hs.wf I.ab I.bm;have Z0:cW H0 tr (i+1)=r.H2:=E.next i o r hi
    refine aA8.mono Ef fun x w' ⟨g',bd,hv⟩=>⟨g',I.go E hi hL hp nx.dst bd.le hv ⟨i+1,by omega,fun k ok rk hk pg=>?_,W++wr,by rw[Z0];exact hs.trans bd,fun o' ho du=>?_⟩ fun k ok rk zs id hk z7 ml bl A2=>?_⟩
    ·by_cases e:k=i
     ·subst e;simp
     simp only[EA,beq_iff_eq,e,or_false];rw[Y9 k ok rk hk pg];omega
    ·rcases AY.1 ho with ho | ho
     ·exact hb o' ho du
     exact E.wrs i o r hi o' (by rw[<- ma];exact ho) du
    have:=I.apart E hk z7 ml A2 hi (.inr hp) K5;rw[<- ma]at this;exact bd.aq id (by rw[E.len m hm];exact (E.pf k ok rk zs id hk z7 ml).2.2.1) this
   cases je
  cases je
 ·
  split at je
  ·rename_i v Z1;simp only[AG,BK]at je;obtain⟨rfl,hH2,zj,ma⟩:=je;have A3:=I.reads E hi hL hp ma.symm hw hm kj;rw[<- zj,<- aNJ se]at A3;rw[<- aOT se,<- aR4 A3]at Z1;have Ef:=(aJX nw Z1 hs.wf I.ab I.bm).X8;refine aA8.mono Ef fun x w' ⟨g',bd,hv⟩=>⟨g',I.go E hi hL hp nx.dst bd.le hv ⟨m,hm,fun k ok rk hk pg=>?_,W++[],hs.trans bd,fun o' ho du=>hb o' (by simpa using ho) du⟩ fun k ok rk zs id hk z7 ml bl A2=>?_⟩
   ·have:k≠i:=fun e=>by subst e;rw[hi]at hk;cases hk;exact pg ma.symm
    simp only[EA,beq_iff_eq,this,or_false];exact kj k ok rk hk pg
   exact bd.aq id (by rw[E.len m hm];exact (E.pf k ok rk zs id hk z7 ml).2.2.1) (by simp)
  cases je
end
section
variable {P:CU}{ab:cu}{g:G}{H:LO}{w:BL}{a:Act}
theorem Step.laid(hw:WF g H w){id:Nat}(f:Nat->ah)(hf:∀n,(f n).ver=n)(hid:id<H.length):Step g H w g (make H id f) w [id]:=by
 have xr:∀l x,au g (make H id f) id l x->False:=fun l x hb=>by
  have h1:=hb.Pr;simp only[make,FB,Zv,hid]at h1;injection h1 with h1;have h2:=hw.st id _ l (AP hid) hb.loc;have h3:=hb.st;rw[<- h1,hf]at h3;simp only[AP hid,HC]at h3;omega
 have hold:∀o l x,au g (make H id f) o l x->o≠id/\au g H o l x:=fun o l x hb=>by
  have bl:o≠id:=fun e=>by subst e;exact xr l x hb
  exact⟨bl,⟨by have:=hb.Pr;rwa [make,getElem?_set_ne' _ _ (Ne.symm bl)]at this,hb.alive,hb.loc,hb.st⟩⟩
 refine⟨G.le.refl g,⟨hw.perm,fun o l hl=>by simpa [make]using hw.lt o l hl,hw.blk,fun o x l hx hl=>?_,fun o l x hb=>hw.obj o l x (hold o l x hb).2,fun o l x hb=>hw.jh o l x (hold o l x hb).2,
  fun o o' l l' x x' h1 h2=>hw.inj o o' l l' x x' (hold _ _ _ h1).2 (hold _ _ _ h2).2,hw.whole.aq rfl rfl ⟨rfl,rfl⟩ (fun _ _ _=>rfl) fun o l y hl=>.inr ⟨o,l,y,(hold _ _ _ hl).2,rfl⟩⟩,aDS.refl g _ w,fun o _ ho=>?_,by simp[make],fun _ l' hl=>.inr ⟨l',hl,rfl⟩,fun _ _ _=>rfl⟩
 ·by_cases e:o=id
  ·subst e;simp only[make,FB,Zv,hid]at hx;injection hx with hx;rw[<- hx,hf];have:=hw.st o _ l (AP hid) hl;simp only[AP hid,HC];omega
  rw[make,getElem?_set_ne' _ _ (Ne.symm e)]at hx;exact hw.st o x l hx hl
 rw[make,getElem?_set_ne' _ _ (fun e=>ho (by simp[e]))]
theorem wY{c:Ctx}:∀(l:List ae) (H H':LO),WF g H w->cS c H l=Qr H'->∃W,Step g H w g H' w W/\∀o∈W,c.base<=o
 | [],H,H',hw,h=>by simp only[cS,AG]at h;subst h;exact⟨[],.refl hw,fun _ h=>by simp at h⟩
 |o::l,H,H',hw,h=>by
  unfold cS at h;split at h
  ·rename_i zs id su hid;split at h
   ·rename_i hc;have h1:=Step.laid hw (ah.box · zs) (fun _=>rfl) hc.1;obtain⟨W,h2,h3⟩:=wY l _ H' h1.wf h;refine⟨_,h1.trans h2,fun o' ho=>?_⟩;rcases AY.1 ho with ho | ho
    ·simp only[CG]at ho;subst ho;exact aLB hid
    exact h3 o' ho
   cases h
  exact wY l H H' hw h
theorem aAb{c:Ctx}{id:Nat}:∀(l:List ae) (H H':LO),cS c H l=Qr H'->(∀(k:Nat) o zs,l[k]? = Qr o->o.op=.alloc zs->c.site o.dst≠Qr id)->H'[id]? = H[id]?
 | [],H,H',h,_=>by simp only[cS,AG]at h;subst h;rfl
 |o::l,H,H',h,hn=>by
  unfold cS at h;have ze:∀(k:Nat) o zs,l[k]? = Qr o->o.op=.alloc zs->c.site o.dst≠Qr id:=fun k o' zs h1=>hn (k+1) o' zs (by simpa using h1);split at h
  ·rename_i zs id' su hid;split at h
   ·rw[aAb l _ H' h ze,make,getElem?_set_ne' _ _ (fun e=>by subst e;exact hn 0 o zs rfl su hid)]
   cases h
  exact aAb l H H' h ze
theorem aAc{c:Ctx}:∀(l:List ae) (H H':LO),cS c H l=Qr H'->∀(k:Nat) o zs id,l[k]? = Qr o->o.op=.alloc zs->c.site o.dst=Qr id->o.pre=[]
 | [],H,H',h=>fun k o zs id hk=>by simp at hk
 |o::l,H,H',h=>fun k o' zs id hk ho hs=>by
  unfold cS at h;split at h
  ·split at h
   ·rename_i hc;cases k with
    |zero=>simp only[BG,AG]at hk;subst hk;simpa using hc.2.2
    |succ k=>exact aAc l _ H' h k o' zs id (by simpa using hk) ho hs
   cases h
  rename_i xr;cases k with
  |zero=>simp only[BG,AG]at hk;subst hk;exact Zw hs (fun hs=>xr _ _ ho hs)
  |succ k=>exact aAc l H H' h k o' zs id (by simpa using hk) ho hs
theorem wZ{c:Ctx}:∀(l:List ae) (H H':LO),WF g H w->cS c H l=Qr H' ->(∀(i j:Nat) o p zs zs' id,i<j->l[i]? = Qr o->l[j]? = Qr p->o.op=.alloc zs->p.op=.alloc zs'->c.site o.dst=Qr id->c.site p.dst≠Qr id) ->∀(k:Nat) o zs id,l[k]? = Qr o->o.op=.alloc zs->c.site o.dst=Qr id->o.guard=Qs/\o.pre=[]/\id<H'.length/\∃v,H'[id]? = Qr (.box v zs)/\∀lc,g.obj id=Qr lc->lc.st<v
 | [],H,H',hw,h,_=>fun k o zs id hk=>by simp at hk
 |o::l,H,H',hw,h,hd=>fun k o' zs id hk ho hs=>by
  unfold cS at h;have V0:∀(i j:Nat) o p zs zs' id,i<j->l[i]? = Qr o->l[j]? = Qr p->o.op=.alloc zs->p.op=.alloc zs'->c.site o.dst=Qr id->c.site p.dst≠Qr id:=
   fun i j o p zs zs' id h1 h2 h3=>hd (i+1) (j+1) o p zs zs' id (by omega) (by simpa using h2) (by simpa using h3)
  split at h
  ·rename_i zs1 id1 Z2 Z3;split at h
   ·rename_i hc;have h1:=Step.laid hw (ah.box · zs1) (fun _=>rfl) hc.1;cases k with
    |zero=>simp only[BG,AG]at hk;subst hk;rw[Z2]at ho;cases ho;rw[Z3]at hs;injection hs with hs;subst hs;have hg:=aAb (id:=id1) l _ H' h fun k p zs' xe hp=>hd 0 (k+1) o p zs zs' id1 (by omega) rfl (by simpa using xe) Z2 hp Z3;have hl:=(wW _ _ _ h).1;refine⟨by simpa using hc.2.1,by simpa using hc.2.2,by rw[<- hl];simp[make];exact hc.1,bH H id1,by rw[hg];simp[make,hc.1,bH],fun lc hlc=>?_⟩;have:=hw.st id1 _ lc (AP hc.1) hlc;simp only[bH,AP hc.1,HC];omega
    |succ k=>exact wZ l _ H' h1.wf h V0 k o' zs id (by simpa using hk) ho hs
   cases h
  rename_i xr;cases k with
  |zero=>simp only[BG,AG]at hk;subst hk;exact Zw hs (fun hs=>xr _ _ ho hs)
  |succ k=>exact wZ l _ H' hw h V0 k o' zs id (by simpa using hk) ho hs
def aAd(listed:Array Bool)(i:Nat):Bool:=listed.getD i Qu
theorem aG1{listed:Array Bool}{i:Nat}(hi:i<listed.size):(fun j=>aAd listed j || j==i)=aAd (listed.setIfInBounds i Qt):=by
 funext j;unfold aAd;simp only[CR,HL];by_cases e:i=j
 ·subst e;simp[hi]
 have:¬(j=i):=fun h=>e h.symm;simp[e,this]
section
variable {ops:Array HP}{call:Nat->LA->LO->Out}{c:Ctx}{tr:List (ae×Rec)}{ρ0:LA}{H0:LO}{ba:LN}{g0:G}{w0:BL}{d:List HU}
theorem aG2{listed:Array Bool}(hs:listed.size=ops.size){i:Nat}:i∈HO .any ops listed↔i<ops.size/\aAd listed i=Qu/\∀o,ops[i]? = Qr o->∀e∈o.after,LZ .any e=Qt->aAd listed e.on=true:=by
 unfold HO aAd;simp only[OK,List.mem_range,AI,KB];constructor
 ·rintro⟨h1,h2,h3⟩;refine⟨h1, ?_,fun o ho e he hb=>?_⟩
  ·rw[CR,CM (by omega)]at h2 ⊢;simpa using h2
  rw[ho]at h3;simp only[DE,EN,JH]at h3;have:=h3 e he;simpa [hb]using this
 rintro⟨h1,h2,h3⟩;refine⟨h1, ?_, ?_⟩
 ·rw[CR,CM (by omega)]at h2 ⊢;simpa using h2
 rw[CM h1];simp only[DE,EN,JH];intro e he;cases hb:LZ .any e with
 |false=>simp
 |true=>simpa using h3 _ (CM h1) e he hb
theorem aP0(E:Env P ab ops call c tr ρ0 H0 ba){listed:Array Bool}(hs:listed.size=ops.size)(h:HO .any ops listed=[]):∀i,i<ops.size->aAd listed i=true:=by
 intro i
 induction i using KK with
 |_ i ih=>
  intro hi;cases hq:aAd listed i with
  |true=>rfl
  |false=>
   have:i∈HO .any ops listed:=by rw[aG2 hs];refine⟨hi,hq,fun o ho e he hb=>?_⟩;have ax:=E.pre.len;have hk:(tr.map (·.1))[i]? = Qr ((tr.map (·.1))[i]'(by omega)):=AP (by omega);have h1:=E.pre.of i o _ ho hk e he hb;have h2:=E.pre.back i _ hk _ h1;exact ih _ h2 (by omega)
   rw[h]at this;simp at this
theorem aK8(E:Env P ab ops call c tr ρ0 H0 ba){Q:Exit->Act->BL->Prop}{r:Option Nat} (hQ:∀g a w L,Inv P ab c tr ρ0 H0 ba g0 w0 d L g a w->(∀i,i<ops.size->L i=Qt)->Q .normal a w):∀(fuel:Nat) (listed:Array Bool) (g:G) (a:Act) (w:BL),listed.size=ops.size->cnt ops.size (aAd listed)<=fuel->Inv P ab c tr ρ0 H0 ba g0 w0 d (aAd listed) g a w ->wpAnyIn (fr r) 0 P .any ops Q fuel listed a w
 |0,listed,g,a,w,hs,hc,I=>by
  have da:=aMI ops.size (Nat.le_zero.1 hc);refine⟨?_,hQ g a w _ I da⟩;cases hr:HO .any ops listed with
  |nil=>rfl
  |cons i l=>
   have:i∈HO .any ops listed:=by rw[hr];simp
   rw[aG2 hs]at this;rw[da i this.1]at this;simp at this
 |fuel+1,listed,g,a,w,hs,hc,I=>by
  refine⟨fun h=>hQ g a w _ I (aP0 E hs h),fun i hi=>?_⟩;rw[aG2 hs]at hi;obtain⟨hlt,hL,O8⟩:=hi;have ax:tr.length=ops.size:=by have:=E.pre.len;simpa using this
  have ho:ops[i]? = Qr ops[i]:=CM hlt;have hi:tr[i]? = Qr (tr[i].1,tr[i].2):=AP (by omega);have hp:∀x∈tr[i].1.pre,aAd listed x=true:=fun x hx=>by
   obtain⟨e,he,hb,h⟩:=E.pre.to i _ _ ho (zD hi) x hx;have h1:=O8 _ ho e he hb;rcases h with rfl | ⟨ao',h2,h3⟩
   ·exact h1
   have rn:e.on<tr.length:=by have:=(AH.1 h2).1;simpa using this
   have h4:tr[e.on]? = Qr (tr[e.on].1,tr[e.on].2):=AP rn;have h5:=zD h4;rw[h2]at h5;injection h5 with h5;exact I.closed e.on _ _ h4 h1 x (h5 ▸ h3)
  have nx:=E.comp i _ _ _ ho hi;have xp:=E.ok i _ _ hi;have xq:=I.names E hi hL hp;have next:∀g' a' w',Inv P ab c tr ρ0 H0 ba g0 w0 d (fun j=>aAd listed j || j==i) g' a' w'->wpAnyIn (fr r) 0 P .any ops Q fuel (listed.setIfInBounds i Qt) a' w':=fun g' a' w' I'=>by
   rw[aG1 (by omega)]at I';refine aK8 E hQ fuel _ g' a' w' (by simpa using hs) ?_ I';have:=aOY (p:=aAd listed) (q:=aAd (listed.setIfInBounds i Qt)) ops.size hlt hL (by rw[<- aG1 (by omega)];simp) fun k hk=>by rw[<- aG1 (by omega)];simp[hk]
   omega
  have F3:Region.wanted ops[i] (yielded ops a.tmps)=tr[i].2.want:=by have Hv:=aK3 (o:=tr[i].1) (ρ:=uZ (aAd listed) 0 tr ρ0) (ρ':=uZ (fun j=>decide (j<i)) 0 tr ρ0) fun t ht=>xq t ht;rw[xp.want,<- Hv.1];exact aK1 nx.guard I.bm (by rw[Hv.2];exact xp.guard)
  unfold wpOpIn;rw[ho];simp only;rw[F3];cases hw:tr[i].2.want with
  |false=>simp only[BX,Zu];exact⟨fun _ _=>trivial,next g _ w (I.no E hi hL hp nx.dst hw)⟩
  |true=>simp only[Zv];refine (I.yes E hi hL hp ho hw).wp fun v w' hR=>?_;obtain⟨g',I'⟩:=hR;exact next g' _ w' I'
end
theorem aNM{id:Nat}{ops:Array HP}(hm:P.follows .mixedOrders=Qt){call:Nat->LA->LO->Out}(az:oT P ab call)(my:sQ call){c:Ctx}{s s':gp} (h:iO call c Qt (aDQ P ab ops.toList ops.toList []) s=Qr s') {Q:Exit->Act->BL->Prop} (hw:WF g s.H w) (hg:bM P ab g) (hs:aX g s.ρ a.tmps) (hQ:∀a' w',aA9 P ab c.base g s.H w a.defers s' a' w'->Q .normal a' w') {r:Option Nat}:(PJ id ops Qt).wpIn (fr r) 0 P Q a w:=by
 unfold iO at h;split at h
 ·rename_i hd;simp only[BR]at hd;split at h
  ·rename_i H0 sd;split at h
   ·rename_i s1 log je;split at h
    ·rename_i zg;simp only[AG]at h;subst h;have PO:=aR7 (P:=P) (ab:=ab) hd;obtain⟨tr,h1,h2,h3,h4,h5,h6⟩:=aEK _ _ _ _ _ je;have qh:∀(i j:Nat) o p zs zs' id,i<j->(aDQ P ab ops.toList ops.toList [])[i]? = Qr o->(aDQ P ab ops.toList ops.toList [])[j]? = Qr p->o.op=.alloc zs->p.op=.alloc zs'->c.site o.dst=Qr id->c.site p.dst≠Qr id:=by
      intro i j o p zs zs' id Y4 hi hj ho hp Ki l9;obtain⟨e1,t,e2⟩:=aMJ Ki l9;have:=PO.ord i j o p (by omega) hi hj t (e1 ▸ e2) (by simp[ae.names,e2]);rw[Zy Y4,aAc _ _ _ sd j p zs' id hj hp l9]at this;simp at this
     obtain⟨W,bn,hW⟩:=wY _ _ _ hw sd;have K6:=wZ _ _ _ hw sd qh;have E:Env P ab ops call c tr s.ρ H0 s1.wr:=by
      refine⟨az,my,h1 ▸ PO,fun i o ao r ho hi=>?_,fun k o r hk=>(h5 k o r hk).1,fun k o r hk=>(h5 k o r hk).2.1,fun k o r hk=>(h5 k o r hk).2.2,fun i j o r o' r' Y4 hi hj V1 Kj=>?_,fun k o r zs id hk ho hs=>?_⟩
      ·exact (aCU ops ops.toList []).2 i o ao (by simpa using ho) (by rw[<- h1];exact zD hi)
      ·rw[h2]at zg;have:=aI6 _ tr 0 zg i j o r o' r' Y4 hi hj V1 Kj;simp only[BC]at this;have e:(aDQ P ab ops.toList ops.toList [])[j]? = Qr o':=by rw[<- h1];exact zD hj
       rw[e]at this;exact this
      obtain⟨a1,a2,a3,v,a4,a5⟩:=K6 k o zs id (by rw[<- h1];exact zD hk) ho hs;exact⟨a1,a2,a3,v,a4⟩
     have V2:aAd (NW ops.size Qu)=fun _=>false:=by funext i;simp[aAd,CR,Array.getElem?_replicate];split<;>rfl
     have sc:∀(l:List (ae×Rec)) (n:Nat) (ρ:LA),uZ (fun _=>Qu) n l ρ=ρ:=by
      intro l
      induction l with
      |nil=>intro n ρ;rfl
      |cons x l ih=>intro n ρ;obtain⟨a,b⟩:=x;simp only[uZ,BX,Zu];exact ih _ _
     have Kk:cW H0 tr 0=H0:=by cases tr<;>rfl
     have ax:tr.length=ops.size:=by have:=E.pre.len;simpa using this
     refine wpIn_region_any hm (aK8 (g0:=g) (w0:=w) (d:=a.defers) E (fun g' a' w' L I da=>hQ a' w' ?_) ops.size _ g a _ (by simp) (aSM _) ?_)
     ·obtain⟨m,oq,kj,W',bd,hb⟩:=I.pos;have e1:cW H0 tr m=s1.H:=by
       rw[h4];refine aK6 tr H0 m _ oq (AQ _) (fun k o r hk hn=>E.quiet hk hn) fun k o r hk hn=>?_;have xe:=(AH.1 hk).1;have:=kj k o r hk hn;rw[da k (by omega)]at this;simp at this;omega
      have e2:uZ L 0 tr s.ρ=s1.ρ:=by rw[h3];exact aMG _ _ _ _ _ fun k _ hk=>da k (by omega)
      rw[e1]at bd;refine⟨g',W++W',bn.trans bd,fun o ho du=>?_,e2 ▸ I.bm,I.defers,I.ab⟩;rcases AY.1 ho with ho | ho
      ·have:=hW o ho;omega
      exact hb o ho du
     rw[V2];refine⟨fun k o r _ h=>(by cases h),⟨0,FF _,fun k o r _ _=>by simp,[],by rw[Kk];exact Step.of_heap bn.wf rfl,fun o ho=>by simp at ho⟩,by rw[sc];exact hs,rfl,hg,fun k o r zs id hk ho ml _ l hl=>?_⟩;obtain⟨a1,a2,a3,v,a4,a5⟩:=K6 k o zs id (by rw[<- h1];exact zD hk) ho ml;rw[a4];exact a5 l hl
    cases h
   cases h
  cases h
 simp at h
end
theorem dS(n:Nat):∀(l:LA),dJ n l=Qt↔∀a∈l,a.under n=Qt
 | []=>by simp[dJ]
 |v::r=>by simp[dJ,dS n r]
theorem kK(n:Nat):∀(l:List LA),eR n l=Qt↔∀row∈l,∀a∈row,a.under n=Qt
 | []=>by simp[eR]
 |v::r=>by simp[eR,kK n r,dS]
def G.cut(g:G)(n:Nat):G:={ g with obj:=fun o=>if o<n then g.obj o else Qs }
theorem kL{α:Type}{l:List α}{a:α}(h:a∈l):∃i,i<l.length/\l[i]? = Qr a:=by obtain⟨i,hi,he⟩:=List.getElem_of_mem h;exact⟨i,hi,by rw[AP hi,he]⟩
theorem ai.under{g:G}{n:Nat}(hg:∀o l,g.obj o=Qr l->o<n){a:AV}{x:BE}(h:ai g a x):a.under n=true:=by
 induction h with
 |undef x=>rfl
 |bool b=>rfl
 |int k n=>rfl
 |str s=>rfl
 |fn f first ay vf vc hf hc h1 h2 ih1 ih2=>
  simp only[AV.under,AI,dS];refine⟨fun a ha=>?_,fun a ha=>?_⟩
  ·obtain⟨i,hi,he⟩:=kL ha;exact ih1 i a _ he (CM (by omega))
  obtain⟨i,hi,he⟩:=kL ha;exact ih2 i a _ he (CM (by omega))
 |bx=>rfl
 |ptr o v off l a hl hv h=>simp[AV.under,hg o l hl]
 |vp o v n k i off l a hl hv hn h=>simp[AV.under,hg o l hl]
 |nilPtr=>rfl
 |bj=>rfl
 |ifc t v x hv h ih=>simpa [AV.under]using ih
 |ep row off b base bd hp h ih=>
  simp only[AV.under,dS];intro a ha;obtain⟨j,hj,he⟩:=kL ha;have:=hp j hj;cases hq:g.perm b (base+j)with
  |none=>rw[hq]at this;cases this
  |some y=>exact ih j a y he hq
 |kn full=>rfl
 |sl full rows b off cap k cm jo hk bd hp h ih=>
  simp only[AV.under,kK];intro row hr a ha;obtain⟨i,hi,he⟩:=kL hr;obtain⟨j,hj,K7⟩:=kL ha;have:=hp i j hi (by rw[<- hk row hr];exact hj);cases hq:g.perm b (off+i*k+j)with
  |none=>rw[hq]at this;cases this
  |some y=>exact ih i j row a y he K7 hq
 |sr o v n l a cap hl hv hn jg h=>simp[AV.under,hg o l hl]
 |srv o v n k lo l a cap hl hv hn gr h=>simp[AV.under,hg o l hl]
 |srw o v n hi l a cap hl hv hn tf h=>simp[AV.under,hg o l hl]
 |ar=>rfl
 |mp o v l r hl hv h=>simp[AV.under,hg o l hl]
 |yld o v l r hl hv h=>simp[AV.under,hg o l hl]
 |fmp ks vs r entries clock xs hw hp hk hv h1 h2 ih1 ih2=>
  simp only[AV.under,AI,dS];refine⟨fun a ha=>?_,fun a ha=>?_⟩
  ·obtain⟨i,hi,he⟩:=kL ha;exact ih1 i a _ he (AP (by omega))
  obtain⟨i,hi,he⟩:=kL ha;exact ih2 i a _ he (AP (by omega))
 |agg cs vs hs h ih=>simp only[AV.under,dS];intro a ha;obtain⟨i,hi,he⟩:=kL ha;exact ih i a _ he (CM (by omega))
 |tup cs vs hs h ih=>simp only[AV.under,dS];intro a ha;obtain⟨i,hi,he⟩:=kL ha;exact ih i a _ he (CM (by omega))
theorem ai.cut{g:G}{n:Nat}{a:AV}{x:BE}(h:ai g a x):a.under n=Qt->ai (g.cut n) a x:=by
 have la:∀o l,g.obj o=Qr l->o<n->(g.cut n).obj o=Qr l:=fun o l h1 h2=>by simp[G.cut,h1,h2]
 induction h with
 |undef x=>exact fun _=>.undef x
 |bool b=>exact fun _=>.bool b
 |int k n=>exact fun _=>.int k n
 |str s=>exact fun _=>.str s
 |fn f first ay vf vc hf hc h1 h2 ih1 ih2=>intro hu;simp only[AV.under,AI,dS]at hu;exact .fn f first ay vf vc hf hc (fun i a x e1 e2=>ih1 i a x e1 e2 (hu.1 a (AN e1))) (fun i a x e1 e2=>ih2 i a x e1 e2 (hu.2 a (AN e1)))
 |bx=>exact fun _=>.bx
 |ptr o v off l a hl hv h=>intro hu;exact .ptr o v off l a (la o l hl (by simpa [AV.under]using hu)) hv h
 |vp o v n k i off l a hl hv hn h=>intro hu;exact .vp o v n k i off l a (la o l hl (by simpa [AV.under]using hu)) hv hn h
 |nilPtr=>exact fun _=>.nilPtr
 |bj=>exact fun _=>.bj
 |ifc t v x hv h ih=>exact fun hu=>.ifc t v x hv (ih (by simpa [AV.under]using hu))
 |ep row off b base bd hp h ih=>intro hu;simp only[AV.under,dS]at hu;exact .ep row off b base bd hp fun j a x e1 e2=>ih j a x e1 e2 (hu a (AN e1))
 |kn full=>exact fun _=>.kn full
 |sl full rows b off cap k cm jo hk bd hp h ih=>intro hu;simp only[AV.under,kK]at hu;exact .sl full rows b off cap k cm jo hk bd hp fun i j row a x e1 e2 e3=>ih i j row a x e1 e2 e3 (hu row (AN e1) a (AN e2))
 |sr o v n l a cap hl hv hn jg h=>intro hu;exact .sr o v n l a cap (la o l hl (by simpa [AV.under]using hu)) hv hn jg h
 |srv o v n k lo l a cap hl hv hn gr h=>intro hu;exact .srv o v n k lo l a cap (la o l hl (by simpa [AV.under]using hu)) hv hn gr h
 |srw o v n hi l a cap hl hv hn tf h=>intro hu;exact .srw o v n hi l a cap (la o l hl (by simpa [AV.under]using hu)) hv hn tf h
 |ar=>exact fun _=>.ar
 |mp o v l r hl hv h=>intro hu;exact .mp o v l r (la o l hl (by simpa [AV.under]using hu)) hv h
 |yld o v l r hl hv h=>intro hu;exact .yld o v l r (la o l hl (by simpa [AV.under]using hu)) hv h
 |fmp ks vs r entries clock xs hw hp hk hv h1 h2 ih1 ih2=>intro hu;simp only[AV.under,AI,dS]at hu;exact .fmp ks vs r entries clock xs hw hp hk hv (fun i a e e1 e2=>ih1 i a e e1 e2 (hu.1 a (AN e1))) fun i a e e1 e2=>ih2 i a e e1 e2 (hu.2 a (AN e1))
 |agg cs vs hs h ih=>intro hu;simp only[AV.under,dS]at hu;exact .agg cs vs hs fun i a x e1 e2=>ih i a x e1 e2 (hu a (AN e1))
 |tup cs vs hs h ih=>intro hu;simp only[AV.under,dS]at hu;exact .tup cs vs hs fun i a x e1 e2=>ih i a x e1 e2 (hu a (AN e1))
theorem aBw.under{g:G}{n:Nat}(hg:∀o l,g.obj o=Qr l->o<n){w:BL}{l:Loc}{x:ah}(h:aBw g w l x):x.under n=true:=by
 cases x with
 |gone v=>rfl
 |box v cells=>obtain⟨h1,h2,h3⟩:=h;simp only[ah.under,dS];intro a ha;obtain⟨j,hj,he⟩:=kL ha;obtain⟨y,hy,hr⟩:=h3 j a he;exact hr.under hg
 |cw v ty cells=>obtain⟨h1,h2,h3⟩:=h;simp only[ah.under,dS];intro a ha;obtain⟨j,hj,he⟩:=kL ha;obtain⟨y,hy,hr⟩:=h3 j a he;exact hr.under hg
 |vec v k rows=>obtain⟨h1,h2,h3,h4,h5,h6,h7⟩:=h;simp only[ah.under,kK];intro row hr a ha;obtain⟨i,hi,he⟩:=kL hr;obtain⟨j,hj,K7⟩:=kL ha;obtain⟨_,y,hy,hv⟩:=h7 i j row a he K7;exact hv.under hg
 |gl v ty k rows=>obtain⟨⟨h1,h2,h3,h4,h5,h6,h7⟩,h8⟩:=h;simp only[ah.under,kK];intro row hr a ha;obtain⟨i,hi,he⟩:=kL hr;obtain⟨j,hj,K7⟩:=kL ha;obtain⟨_,y,hy,hv⟩:=h7 i j row a he K7;exact hv.under hg
 |map v es=>obtain⟨h1,entries,clock,h2,h3,h4⟩:=h;simp only[ah.under,AO];rintro⟨k,v⟩ hm;obtain⟨i,hi,he⟩:=kL hm;have:=h4 i k v _ he (CM (by omega));simp[this.1.under hg,this.2.under hg]
 |rnd v base sites ps body ρ busy pend=>obtain⟨h1,r,h2,h3,h4,h5,h6,h7,h8,h9⟩:=h;simp only[ah.under,dS];intro a ha;obtain⟨j,hj,he⟩:=kL ha;have:=h9 j;rw[he]at this;exact this.under hg
theorem aBw.cut{g:G}{n:Nat}{w:BL}{l:Loc}{x:ah}(h:aBw g w l x)(hu:x.under n=Qt):aBw (g.cut n) w l x:=by
 cases x with
 |gone v=>trivial
 |box v cells=>obtain⟨h1,h2,h3⟩:=h;simp only[ah.under,dS]at hu;refine⟨h1,h2,fun j a ha=>?_⟩;obtain⟨y,hy,hr⟩:=h3 j a ha;exact⟨y,hy,hr.cut (hu a (AN ha))⟩
 |cw v ty cells=>obtain⟨h1,h2,h3⟩:=h;simp only[ah.under,dS]at hu;refine⟨h1,h2,fun j a ha=>?_⟩;obtain⟨y,hy,hr⟩:=h3 j a ha;exact⟨y,hy,hr.cut (hu a (AN ha))⟩
 |vec v k rows=>obtain⟨h1,h2,h3,h4,h5,h6,h7⟩:=h;simp only[ah.under,kK]at hu;refine⟨h1,h2,h3,h4,h5,h6,fun i j row a hr ha=>?_⟩;obtain⟨hs,y,hy,hv⟩:=h7 i j row a hr ha;exact⟨hs,y,hy,hv.cut (hu row (AN hr) a (AN ha))⟩
 |gl v ty k rows=>obtain⟨⟨h1,h2,h3,h4,h5,h6,h7⟩,h8⟩:=h;simp only[ah.under,kK]at hu;refine⟨?_,h8⟩;refine⟨h1,h2,h3,h4,h5,h6,fun i j row a hr ha=>?_⟩;obtain⟨hs,y,hy,hv⟩:=h7 i j row a hr ha;exact⟨hs,y,hy,hv.cut (hu row (AN hr) a (AN ha))⟩
 |map v es=>obtain⟨h1,entries,clock,h2,h3,h4⟩:=h;simp only[ah.under,AO]at hu;refine⟨h1,entries,clock,h2,h3,fun i k v e hk he=>?_⟩;have:=hu (k,v) (AN hk);simp only[AI]at this;exact⟨(h4 i k v e hk he).1.cut this.1,(h4 i k v e hk he).2.cut this.2⟩
 |rnd v base sites ps body ρ busy pend=>
  obtain⟨h1,r,h2,h3,h4,h5,h6,h7,h8,h9⟩:=h;simp only[ah.under,dS]at hu;refine⟨h1,r,h2,h3,h4,h5,h6,h7,h8,fun t=>(h9 t).cut ?_⟩;cases he:ρ[t]? with
  |none=>rfl
  |some a=>exact hu a (AN he)
section
variable {g g':G}{H H':LO}{w w':BL}{wr W:LN}
theorem Step.narrow(hlt:∀o l,g.obj o=Qr l->o<H.length)(h:Step g H w g' H' w' W)(hs:∀o∈W,o<H.length->o∈wr):Step g H w g' H' w' wr:=⟨h.le,h.wf,⟨h.frame.1,fun b hb ho=>h.frame.2 b hb fun o hm l hl=>ho o (hs o hm (hlt o l hl)) l hl⟩,fun o hl ho=>h.same o hl fun hm=>ho (hs o hm hl),h.len,h.mc,fun o hl ho=>h.aq o hl fun hm=>ho (hs o hm hl)⟩
theorem Step.cut(hw:WF g H w)(h:Step g H w g' H' w' wr)(hu:∀o∈wr,∀x,H'[o]? = Qr x->x.under H.length=Qt):Step g H w (g'.cut H.length) (H'.take H.length) w' wr:=by
 have gm:∀o,o<H.length->(H'.take H.length)[o]? = H'[o]? := fun o ho=>by simp[ho]
 have dx:∀o l x,au (g'.cut H.length) (H'.take H.length) o l x->o<H.length/\au g' H' o l x:=fun o l x hb=>by
  have hlt:o<H.length:=by have:=(AH.1 hb.Pr).1;simp at this;omega
  refine⟨hlt,⟨by rw[<- gm o hlt];exact hb.Pr,hb.alive, ?_,hb.st⟩⟩;have:=hb.loc;simpa [G.cut,hlt]using this
 have la:∀o l,(g'.cut H.length).obj o=Qr l->o<H.length/\g'.obj o=Qr l:=fun o l hl=>by
  simp only[G.cut]at hl;split at hl
  ·exact⟨‹_›,hl⟩
  cases hl
 have ax:=h.len;refine⟨⟨fun b i x hx=>h.le.perm b i x hx,fun o l hl=>?_,h.le.whole,h.le.io,h.le.code⟩,⟨h.wf.perm,fun o l hl=>?_,fun o l hl=>h.wf.blk o l (la o l hl).2,fun o x l hx hl=>?_,fun o l x hb=>?_,fun o l x hb=>h.wf.jh o l x (dx o l x hb).2,
  fun o o' l l' x x' h1 h2=>h.wf.inj o o' l l' x x' (dx _ _ _ h1).2 (dx _ _ _ h2).2,h.wf.whole.aq rfl rfl ⟨rfl,rfl⟩ (fun _ _ _=>rfl) fun o l y hl=>.inr ⟨o,l,y,(dx _ _ _ hl).2,rfl⟩⟩,h.frame,fun o ho hn=>?_,by simp;omega,fun o l hl=>h.mc o l (la o l hl).2,fun o ho hn=>?_⟩
 ·obtain⟨l',h1,h2⟩:=h.le.obj o l hl;exact⟨l',by simp[G.cut,hw.lt o l hl,h1],h2⟩
 ·have:=(la o l hl).1;simp;omega
 ·obtain⟨h1,h2⟩:=la o l hl;rw[gm o h1]at hx;exact h.wf.st o x l hx h2
 ·obtain⟨h1,h2⟩:=dx o l x hb;refine (h.wf.obj o l x h2).cut ?_;by_cases hm:o∈wr
  ·exact hu o hm x h2.Pr
  have qw:au g H o l x:=⟨by rw[<- h.same o h1 hm];exact h2.Pr,h2.alive,by rw[<- h.aq o h1 hm];exact h2.loc,h2.st⟩;exact (hw.obj o l x qw).under hw.lt
 ·rw[gm o ho];exact h.same o ho hn
 simp only[G.cut,ho,Zv];exact h.aq o ho hn
theorem pN.cut{n n0:Nat}{av:AV}{v:BE}(h:pN g' H' n0 w' av v)(hu:av.under n=Qt):pN (g'.cut n) (H'.take n) n0 w' av v:=by
 cases av with
 |own k rows=>
  obtain⟨b,cap,e,ho⟩:=h;simp only[AV.under,kK]at hu;refine⟨b,cap,e,⟨ho.ki,ho.hlt,ho.cm,ho.dr,ho.cn,ho.dq,ho.eh,fun i j row c hr hc=>?_,ho.vm,fun o l x hb=>?_,ho.u7⟩⟩
  ·obtain⟨y,hy,hv⟩:=ho.dj i j row c hr hc;exact⟨y,hy,hv.cut (hu row (AN hr) c (AN hc))⟩
  have hlt:o<n:=by have:=(AH.1 hb.Pr).1;simp at this;omega
  refine ho.pd o l x ⟨?_,hb.alive, ?_,hb.st⟩
  ·have:=hb.Pr;simpa [List.getElem?_take,hlt]using this
  have:=hb.loc;simpa [G.cut,hlt]using this
 |_=>exact ai.cut h hu
end
section
variable {P:CU}{ab:cu}{g:G}{H:LO}{w w':BL}{ρ:LA}
theorem Step.drop(h:WF g H w){o:Nat}{l:Loc}{x:ah}(hb:au g H o l x):Step g H w g (H.set o (.gone x.ver)) w [o]/\∀o' l' x',au g (H.set o (.gone x.ver)) o' l' x'->l'.b≠l.b:=by
 have ho:o<H.length:=h.lt o l hb.loc;have dx:∀o' l' x',au g (H.set o (.gone x.ver)) o' l' x'->o'≠o/\au g H o' l' x':=fun o' l' x' du=>by
  have bl:o'≠o:=fun e=>by
   subst e;have h1:=du.Pr;simp[ho]at h1;have h2:=du.alive;subst h1;simp[ah.alive]at h2
  exact⟨bl,⟨by rw[<- getElem?_set_ne' H (.gone x.ver) (Ne.symm bl)];exact du.Pr,du.alive,du.loc,du.st⟩⟩
 refine⟨⟨G.le.refl g,⟨h.perm,fun o' l' hl=>by simpa using h.lt o' l' hl,h.blk,fun o' x' l' hx hl=>?_,fun o' l' x' du=>h.obj o' l' x' (dx _ _ _ du).2,fun o' l' x' du=>h.jh o' l' x' (dx _ _ _ du).2,
  fun o1 o2 l1 l2 x1 x2 fo dp e=>h.inj o1 o2 l1 l2 x1 x2 (dx _ _ _ fo).2 (dx _ _ _ dp).2 e,h.whole.aq rfl rfl ⟨rfl,rfl⟩ (fun _ _ _=>rfl) fun o l y hl=>.inr ⟨o,l,y,(dx _ _ _ hl).2,rfl⟩⟩,
  aDS.refl _ _ _,fun o' hl hm=>?_,by simp,fun o' l' hl=>.inr ⟨l',hl,rfl⟩,fun _ _ _=>rfl⟩,fun o' l' x' du e=>?_⟩
 ·by_cases e:o'=o
  ·subst e;simp[ho]at hx;subst hx;exact h.st o' x l' hb.Pr hl
  rw[getElem?_set_ne' H (.gone x.ver) (Ne.symm e)]at hx;exact h.st o' x' l' hx hl
 ·simp only[CG]at hm;exact getElem?_set_ne' H (.gone x.ver) (Ne.symm hm)
 obtain⟨bl,qw⟩:=dx _ _ _ du;exact bl (h.inj o' o l' l x' x qw hb e)
theorem aP1(hw:WF g H w){o v n v' k:Nat}{rows:List LA}(ho:H[o]? = Qr (.vec v' k rows))(hv:v'=v)(hn:rows.length=n){x:BE}(hx:ai g (.sr o v n) x):∃l,au g H o l (.vec v k rows)/\x=.slice (Qr ⟨l.b,0,Qs⟩) n l.cap:=by
 subst hv;cases hx with
 |sr _ _ _ l a cap hl hv ze jg h=>
  have bd:l.st=v':=by have:=hw.st o _ l ho hl;simp only[ah.ver]at this;omega
  have hb:au g H o l (.vec v' k rows):=⟨ho,rfl,hl,bd⟩;obtain⟨h0,_⟩:=hw.obj o l _ hb;obtain⟨e1,e2⟩:=h bd (by omega);exact⟨l,hb,by rw[e1,e2]⟩
theorem aI7{base n0:Nat}(ki:∀o l,base<=o->g.obj o=Qr l->n0<=l.b)(hw:WF g H w){v v':AV}{H':LO}{l:LN}(h:aDR base H v=Qr (v',H',l)){x:BE}(hx:ai g v x):∃g',Step g H w g' H' w l/\pN g' H' n0 w v' x:=by
 unfold aDR at h;split at h
 ·rename_i o v n;split at h
  ·cases h;exact⟨g,.refl hw,hx⟩
  split at h
  ·rename_i v1 k rows ho;split at h
   ·rename_i hc;obtain⟨mj,nc,Z4,Cj⟩:=hc;simp only[AG,BK]at h;obtain⟨rfl,rfl,rfl⟩:=h;obtain⟨lc,hb,rfl⟩:=aP1 hw ho mj nc hx;obtain⟨h0,ow,cm,dr,hk,eh,bc⟩:=hw.obj o lc _ hb;obtain⟨h1,h2⟩:=Step.drop hw hb;have he:dL H [o]=H.set o (.gone (ah.vec v k rows).ver):=by simp only[dL,hb.Pr];rfl
    rw[he];refine⟨g,h1,lc.b,lc.cap,by rw[nc],⟨ki o lc Z4 hb.loc,hw.blk o lc hb.loc,cm,dr,hk, ?_,eh,fun i j row c hr hj=>?_,hw.jh o lc _ hb,h2, ?_⟩⟩
    ·exact Cj
    ·obtain⟨_,y,hy,hv⟩:=bc i j row c hr hj;exact⟨y,hy,hv⟩
    cases Dn:g.whole lc.b with
    |none=>rfl
    |some z=>exact Zw rfl ((hw.whole.blocks lc.b z Dn).2 o lc _ hb)
   cases h
  cases h
 ·rename_i o v;split at h
  ·rename_i v1 es ho;split at h
   ·rename_i hc;simp only[AG,BK]at h;obtain⟨rfl,rfl,rfl⟩:=h;obtain⟨lc,entries,clock,hb,rfl,fb,dj,_⟩:=aFT hw ho hc.1 hx;obtain⟨h1,h2⟩:=Step.drop hw hb;have hle:g.le { g with whole:=fun b=>if b=lc.b then Qr (.map entries clock)else g.whole b }:=by
     refine⟨fun _ _ _ hx=>hx,fun o l hl=>⟨l,hl,AQ _,fun _=>⟨AQ _,fun _=>rfl⟩⟩,fun b x hx=>?_,rfl,rfl⟩;by_cases e:b=lc.b
     ·subst e;exact Zw rfl ((hw.whole.blocks lc.b x hx).2 o lc _ hb)
     simp only[e,Zu];exact hx
    have dx:∀o' l' x',au { g with whole:=fun b=>if b=lc.b then Qr (.map entries clock)else g.whole b } (H.set o (.gone v)) o' l' x'->au g (H.set o (.gone v)) o' l' x':=fun o' l' x' du=>⟨du.Pr,du.alive,du.loc,du.st⟩;have pj:=h1.wf;refine⟨{ g with whole:=fun b=>if b=lc.b then Qr (.map entries clock)else g.whole b },⟨hle,⟨pj.perm,pj.lt,pj.blk,pj.st,fun o' l' x' du=>(pj.obj o' l' x' (dx _ _ _ du)).aq hle rfl,fun o' l' x' du=>pj.jh o' l' x' (dx _ _ _ du),fun o1 o2 l1 l2 x1 x2 fo dp=>pj.inj o1 o2 l1 l2 x1 x2 (dx _ _ _ fo) (dx _ _ _ dp),⟨fun b x hx=>?_,hw.whole.io⟩⟩,h1.frame,h1.same,h1.len,fun o' l' hl=>.inr ⟨l',hl,rfl⟩,fun _ _ _=>rfl⟩, ?_⟩
    ·by_cases e:b=lc.b
     ·subst e;simp only[Zv,AG]at hx;subst hx;exact⟨fb,fun o' l' y du=>h2 o' l' y (dx _ _ _ du)⟩
     simp only[e,Zu]at hx;exact⟨(pj.whole.blocks b x hx).1,fun o' l' y du=>(pj.whole.blocks b x hx).2 o' l' y (dx _ _ _ du)⟩
    refine ai.fmp _ _ lc.b entries clock entries.toList (by simp) (.inl rfl) (by simpa using dj.1) (by simpa using dj.1) (fun i a e h5 h6=>?_) fun i a e h5 h6=>?_
    ·rw[BN]at h5;cases hq:es[i]? with
     |none=>simp[hq]at h5
     |some kv=>simp[hq]at h5;subst h5;exact (dj.2 i kv.1 kv.2 e hq (by simpa using h6)).1.mono hle
    rw[BN]at h5;cases hq:es[i]? with
    |none=>simp[hq]at h5
    |some kv=>simp[hq]at h5;subst h5;exact (dj.2 i kv.1 kv.2 e hq (by simpa using h6)).2.mono hle
   cases h;exact⟨g,.refl hw,hx⟩
  cases h;exact⟨g,.refl hw,hx⟩
 obtain⟨g',h1,h2⟩:=qO hw h hx;refine⟨g',h1, ?_⟩;cases v' with
 |own k rows=>cases h2
 |_=>exact h2
theorem aG3:∀{vs vs':LA} {g:G} {H H':LO} {l:LN},WF g H w->aBv H vs=Qr (vs',H',l)->∀{xs:List BE},fU g vs xs->∃g',Step g H w g' H' w l/\fU g' vs' xs
 | [],vs',g,H,H',l,hw,h,xs,hx=>by
  simp only[aBv,AG,BK]at h;obtain⟨rfl,rfl,rfl⟩:=h;exact⟨g,.refl hw,hx⟩
 |v::vs,vs',g,H,H',l,hw,h,xs,hx=>by
  unfold aBv at h;split at h
  ·cases h
  rename_i v1 H1 l1 hf;split at h
  ·cases h
  rename_i r1 H2 l2 hr;simp only[AG,BK]at h;obtain⟨rfl,rfl,rfl⟩:=h;cases xs with
  |nil=>have:=hx.1;simp at this
  |cons x xs=>
   obtain⟨g1,h1,h2⟩:=qO hw hf (hx.2 0 v x rfl rfl);have re:fU g1 vs xs:=⟨by simpa using hx.1,fun i a y ha hy=>(hx.2 (i+1) a y (by simpa using ha) (by simpa using hy)).mono h1.le⟩;obtain⟨g2,h3,h4⟩:=aG3 h1.wf hr re;refine⟨g2,h1.trans h3,by simp[h4.1],fun i a y ha hy=>?_⟩;cases i with
   |zero=>simp at ha hy;subst ha;subst hy;exact h2.mono h3.le
   |succ i=>exact h4.2 i a y (by simpa using ha) (by simpa using hy)
def xA(tmps:Array BE)(rs:List ResultVar):Sem (List BE):=
 rs.mapM fun
  |.tmp t=>pure (tmps.getD t EE)
  |.cell a t=>do loadVar t (<- asAddr (tmps.getD a EE))
theorem vH(hw:WF g H w){tmps:Array BE}(hs:aX g ρ tmps):∀(rs:List ResultVar) (Pq:List ou) (vs:LA),aNz P rs=Qr Pq->aIS H ρ Pq=Qr vs ->∃xs,(xA tmps rs).run P w=.ok xs w/\fU g vs xs
 | [],Pq,vs,h,hv=>by
  simp only[aNz,AG]at h;subst h;simp only[aIS,AG]at hv;subst hv;exact⟨[],by simp[xA],rfl,fun i a x h=>by simp at h⟩
 |r::rs,Pq,vs,h,hv=>by
  unfold aNz at h;split at h
  ·rename_i a as' ha has;simp only[AG]at h;subst h;unfold aIS at hv;split at hv
   ·cases hv
   rename_i v qy;split at hv
   ·cases hv
   rename_i vs' C8;simp only[AG]at hv;subst hv;obtain⟨xs,h1,h2⟩:=vH hw hs rs as' vs' has C8;have key:∃x,(match r with | .tmp t=>pure (tmps.getD t EE) | .cell a t=>do loadVar t (<- asAddr (tmps.getD a EE)):Sem BE).run P w=.ok x w/\ai g v x:=by
    cases r with
    |tmp t=>simp only[aZL,AG]at ha;subst ha;simp only[aYq,AG]at qy;subst qy;exact⟨_,by simp,hs.2 t⟩
    |cell t ty=>
     simp only[aZL]at ha;obtain⟨⟨n,agg⟩,vg,rfl⟩:=map_some ha;simp only[aYq]at qy;split at qy
     ·rename_i cs hr;obtain⟨b,off,ys,e,ax,hl,hc⟩:=eI hw hr (hs.2 t);have cl:=aEF (P:=P) vg w b off ys (by rw[<- hl.1];exact ax) hc;exact⟨_,by
       show (do loadVar ty (<- asAddr (tmps.getD t EE)):Sem BE).run P w=_;rw[e,BS,show (asAddr (Value.pointer (Qr ⟨b,off,Qs⟩))).run P w=.ok ⟨b,off,Qs⟩ w from rfl];exact cl,wQ qy hl⟩
     cases qy
   obtain⟨x,lz,C9⟩:=key;refine⟨x::xs, ?_,by simp[h2.1],fun i a' y Y3 hy=>?_⟩
   ·unfold xA at h1 ⊢;rw[List.mapM_cons];rw[BS,lz];simp only[BJ];rw[BS,h1];simp
   cases i with
   |zero=>simp at Y3 hy;subst Y3;subst hy;exact C9
   |succ i=>exact h2.2 i a' y (by simpa using Y3) (by simpa using hy)
  cases h
def aR8:List BE->BE
 | [x]=>x
 |xs=>.tuple xs.toArray
theorem aLD{fn:Func}{tmps:Array BE}{xs:List BE}(h:(xA tmps fn.results.toList).run P w=.ok xs w):(results fn tmps).run P w=.ok (aR8 xs) w:=by
 unfold results;rw[Array.mapM_eq_mapM_toList];have h':((fn.results.toList.mapM fun | .tmp t=>pure (tmps.getD t EE) | .cell a t=>do loadVar t (<- asAddr (tmps.getD a EE)):Sem (List BE))).run P w=.ok xs w:=h;rw[map_eq_pure_bind];simp only[bind_assoc,pure_bind];rw[BS];refine (congrArg (fun r=>DL r _) h').trans ?_;simp only[BJ,List.size_toArray];clear h h';cases xs with
 |nil=>rfl
 |cons x r=>cases r with
  |nil=>rfl
  |cons y r=>rfl
end
section
variable {A:af}{n:Nat}{c:Ctx}{s:gp}
theorem gT{x:ag}:cY A 0 c x s=none:=rfl
theorem xB:cY A (n+1) c .skip s=Qr (.normal,s):=rfl
theorem qG:cY A (n+1) c .bad s=none:=rfl
theorem iS{d:Bool}{ops:List ae}:cY A (n+1) c (.region d ops) s=match iO (dD A n) c d ops s with | some s'=>Qr (.normal,s') | none=>none:=rfl
theorem iD{x y:ag}:cY A (n+1) c (.seq x y) s=match cY A n c x s with | some (.normal,s')=>cY A n c y s' | r=>r:=rfl
theorem iT{t:aa}{x y:ag}:cY A (n+1) c (.cond t x y) s=match t.ev s.ρ with | .bool Qt=>cY A n c x s | .bool Qu=>cY A n c y s | _=>none:=rfl
theorem eP{id:Nat}{x:ag}:cY A (n+1) c (.block id x) s=match cY A n c x s with
  |some (.exit id',s')=>if id'=id then Qr (.normal,s')else Qr (.exit id',s')
  |r=>r:=rfl
theorem gU{x:ag}:cY A (n+1) c (.loop x) s=match cY A n c x s with | some (.normal,s')=>cY A n c (.loop x) s' | r=>r:=rfl
theorem aCb{id:Nat}:cY A (n+1) c (.exit id) s=Qr (.exit id,s):=rfl
theorem aDZ:cY A (n+1) c .ret s=Qr (.ret,s):=rfl
theorem vI{ts:List (Nat×Nat)}:cY A (n+1) c (.frz ts) s=match nX c s ts with | some s'=>Qr (.normal,s') | none=>none:=rfl
theorem iU{x:aa}{ps:LN}{body:ag}:cY A (n+1) c (.dz x ps body) s=match x.ev s.ρ,c.site ps.head? with
   |.fn f first ay,Qr id=>
    if id<s.H.length/\eZ c s.H=Qt then
     match dD A n f (first++.yld id (bH s.H id)::ay) (make s.H id fun v=>.rnd v c.base c.sites ps body s.ρ Qu Qs)with
     |some (_,H2,wr)=>match H2[id]? with
      |some (.rnd v _ _ _ _ _ Qu pend)=>if v=bH s.H id/\eZ c H2=Qt then Qr (pend.getD .normal,⟨s.ρ,H2.set id (.gone v),bE c.base s.wr (id::wr)⟩)else Qs
      |_=>Qs
     |none=>Qs
    else Qs
   |_,_=>none:=rfl
theorem oK{ev:Ctx->ag->gp->Option (bf×gp)}{H:LO}{args:LA}{r:AV×LO×LN}(h:sO ev H args=Qr r):∃o v xs base sites ps asg body ρ s0 b1 t1 p1 c1 r1 e s,args=.own 0 []::.yld o v::xs/\H[o]? = Qr (.rnd v base sites ps (.seq asg body) ρ Qu Qs)/\xs.length=ps.length /\ ev ⟨base,sites++[YF+o,YF+v]⟩ asg ⟨dH ρ ps xs,H,[]⟩=Qr (.normal,s0)/\s0.H[o]? = Qr (.rnd v b1 t1 p1 c1 r1 Qu Qs) /\ ev ⟨base,sites++[YF+o,YF+v]⟩ body ⟨s0.ρ,s0.H.set o (.rnd v b1 t1 p1 c1 r1 Qt Qs),s0.wr⟩=Qr (e,s) /\ ∃b' s' p' c' r',s.H[o]? = Qr (.rnd v b' s' p' c' r' Qt Qs) /\ r=(.bool (decide (e=.normal)),s.H.set o (.rnd v b' s' p' c' r' Qu (if e=.normal then Qs else Qr e)),FM base (H.length - base)++(o::s.wr)):=by
 unfold sO at h;split at h
 ·rename_i o v xs;split at h
  ·rename_i v' base sites ps asg body ρ hH;split at h
   ·rename_i hc;obtain⟨rfl,ax⟩:=hc;split at h
    ·rename_i s0 xt;split at h
     ·rename_i v1 b1 t1 p1 c1 r1 xu;split at h
      ·rename_i qy;subst qy;split at h
       ·rename_i e s je;split at h
        ·rename_i v2 b' s' p' c' r' hs;split at h
         ·rename_i hv;subst hv;cases h;exact⟨o,_,xs,base,sites,ps,asg,body,ρ,s0,b1,t1,p1,c1,r1,e,s,rfl,hH,ax,xt,xu,je,_,_,_,_,_,hs,rfl⟩
         cases h
        cases h
       cases h
      cases h
     cases h
    cases h
   cases h
  cases h
 cases h
theorem sS{f:Nat}{args:LA}{H:LO}{r:AV×LO×LN}(h:dD A n f args H=Qr r):(∃p v,A.bq f=Qr p/\p args H=Qr v/\r=cT H v) ∨ (∃fn s' e r',A.fn f=Qr fn/\cY A n ⟨H.length,fn.sites⟩ fn.body (nF fn args H)=Qr (e,s')/\(e=.normal∨e=.ret)/\aA4 H.length fn s'=Qr r'/\r=cJ H.length r'/\args.length<=fn.ntmps) ∨ (A.fn f=Qs/\sO (cY A n) H args=Qr r):=by
 unfold dD qL at h;split at h
 ·rename_i v hv;cases h;cases hp:A.bq f with
  |none=>rw[hp]at hv;cases hv
  |some p=>rw[hp]at hv;exact .inl ⟨p,v,rfl,hv,rfl⟩
 split at h
 ·rename_i hf;exact .inr (.inr ⟨hf,h⟩)
 rename_i fn hf;split at h;rotate_left
 ·cases h
 rename_i hN;split at h
 ·rename_i s' he;split at h
  ·rename_i r' hr;cases h;exact .inr (.inl ⟨fn,s',_,r',hf,he,.inl rfl,hr,rfl,hN⟩)
  cases h
 ·rename_i s' he;split at h
  ·rename_i r' hr;cases h;exact .inr (.inl ⟨fn,s',_,r',hf,he,.inr rfl,hr,rfl,hN⟩)
  cases h
 cases h
theorem aTA{base:Nat}{H H':LO}{v v':AV}{l:LN}(h:aDR base H v=Qr (v',H',l)):Fr H H' l:=by
 unfold aDR at h;split at h
 ·split at h
  ·cases h;exact .refl _ _
  split at h
  ·split at h
   ·cases h;exact aDX _ _
   cases h
  cases h
 ·split at h
  ·split at h
   ·cases h;exact Fr.set _ _ _
   cases h;exact .refl _ _
  cases h;exact .refl _ _
 exact aFX h
theorem aMK:∀{vs vs':LA} {H H':LO} {l:LN},aBv H vs=Qr (vs',H',l)->Fr H H' l
 | [],vs',H,H',l,h=>by simp only[aBv,AG,BK]at h;obtain⟨_,rfl,rfl⟩:=h;exact .refl _ _
 |v::vs,vs',H,H',l,h=>by
  unfold aBv at h;split at h
  ·cases h
  rename_i hf;split at h
  ·cases h
  rename_i hr;cases h;exact (aFX hf).trans (aMK hr)
theorem aEL{base:Nat}{fn:bw}{s:gp}{r:AV×LO×LN}(h:aA4 base fn s=Qr r):∃vs,aIS s.H s.ρ fn.results=Qr vs /\ ((∃v v' H' l,vs=[v]/\aDR base s.H v=Qr (v',H',l)/\r=(v',H',bE base s.wr l)) ∨ (∃vs' H' l,vs.length≠1/\aBv s.H vs=Qr (vs',H',l)/\r=(.tup vs',H',bE base s.wr l))):=by
 unfold aA4 at h;split at h
 ·cases h
 ·rename_i v hv;split at h
  ·rename_i v' H' l hf;cases h;exact⟨[v],hv,.inl ⟨v,v',H',l,rfl,hf,rfl⟩⟩
  cases h
 rename_i vs bl hv;split at h
 ·rename_i vs' H' l hf;cases h;refine⟨vs,hv,.inr ⟨vs',H',l,fun e=>?_,hf,rfl⟩⟩;obtain⟨x,rfl⟩:=FQ.1 e;exact bl x rfl
 cases h
theorem aP2{base:Nat}{fn:bw}{s:gp}{r:AV×LO×LN}(h:aA4 base fn s=Qr r):FrB base s ⟨s.ρ,r.2.1,r.2.2⟩:=by
 obtain⟨vs,_,⟨v,v',H',l,rfl,hf,rfl⟩ | ⟨vs',H',l,_,hf,rfl⟩⟩:=aEL h
 ·exact FrB.of (aTA hf)
 exact FrB.of (aMK hf)
theorem aK9:∀(l:List (Nat×ah)) (H:LO),Fr H (eU H l) (l.map EM)
 | [],H=>.refl _ _
 | (o,x)::r,H=>(Fr.set H o x).trans (aK9 r (H.set o x))
theorem Fr.more{H H':LO}{wr:LN}(h:Fr H H' wr)(l:LO):Fr H (H'++l) wr:=⟨by have:=h.1;simp;omega,fun o ho hn=>by rw[BM (by have:=h.1;omega)];exact h.2 o ho hn⟩
theorem aEM(jz:∀(c:Ctx) (x:ag) (s:gp) e s',cY A n c x s=Qr (e,s')->FrB c.base s s'):sQ (dD A n):=by
 intro f args H v H' wr h;rcases sS h with⟨p,v1,_,_,hr⟩ | ⟨fn,s',e,r',_,he,_,hf,hr,_⟩ | ⟨_,hr⟩
 ·cases hr;exact (aK9 _ _).more _
 ·have h1:=jz _ _ _ _ _ he;have h2:=h1.trans (aP2 hf);obtain⟨v1,H1,dc⟩:=r';have h3:Fr H H1 dc:=by
   refine⟨?_,fun o ho hn=>?_⟩
   ·have:=h2.1;simp only[nF,BA]at this;omega
   have:=h2.2.2 o (by simp only[nF,BA];omega) ho hn;rw[this];simp only[nF];rw[BM ho]
  simp only[cJ]at hr;split at hr
  ·cases hr;refine⟨by have:=h3.1;simp;omega,fun o ho hn=>?_⟩;rw[<- h3.2 o ho hn];simp[ho]
  cases hr;exact h3
 obtain⟨o,ve,xs,base,sites,ps,asg,body,ρ,s0,b1,t1,p1,c1,r1,e,s1,rfl,hH,ax,xt,xu,je,b',s',p',c',r',hs,pw⟩:=oK hr;simp only[BK]at pw;obtain⟨_,rfl,rfl⟩:=pw;have h0:=jz _ _ _ _ _ xt;have h1:=jz _ _ _ _ _ je;refine⟨by have a0:=h0.1;have a1:=h1.1;simp only[CP]at a0 a1 ⊢;omega,fun q hq hn=>?_⟩;simp only[AY,BD,not_or,FC]at hn;obtain⟨lx,xh,Ck⟩:=hn;rw[getElem?_set_ne' _ _ (Ne.symm xh)];have h2:=h1.2.2 q (by have a0:=h0.1;simp only[CP]at a0 ⊢;omega) (by show q<base;omega) Ck;rw[h2];have h3:=h0.2.2 q hq (by show q<base;omega) fun hm=>Ck (h1.2.1 q hm);rw[<- h3];exact getElem?_set_ne' _ _ (Ne.symm xh)
theorem fJ:∀(n:Nat) (c:Ctx) (x:ag) (s:gp) e s',cY A n c x s=Qr (e,s')->FrB c.base s s'
 |0,c,x,s,e,s',h=>by rw[gT]at h;cases h
 |n+1,c,x,s,e,s',h=>by
  have az:sQ (dD A n):=aEM (fJ n);cases x with
  |skip=>rw[xB]at h;cases h;exact .refl _ _
  |bad=>rw[qG]at h;cases h
  |region d ops=>
   rw[iS]at h;split at h
   ·rename_i s1 hr;cases h;exact aLC az hr
   cases h
  |seq a b=>
   rw[iD]at h;split at h
   ·rename_i s1 hr;exact (fJ n _ _ _ _ _ hr).trans (fJ n _ _ _ _ _ h)
   exact fJ n _ _ _ _ _ h
  |cond t a b=>
   rw[iT]at h;split at h
   ·exact fJ n _ _ _ _ _ h
   ·exact fJ n _ _ _ _ _ h
   cases h
  |block id b=>
   rw[eP]at h;split at h
   ·rename_i hr;split at h<;>(cases h;exact fJ n _ _ _ _ _ hr)
   exact fJ n _ _ _ _ _ h
  |loop b=>
   rw[gU]at h;split at h
   ·rename_i s1 hr;exact (fJ n _ _ _ _ _ hr).trans (fJ n _ _ _ _ _ h)
   exact fJ n _ _ _ _ _ h
  |exit id=>rw[aCb]at h;cases h;exact .refl _ _
  |ret=>rw[aDZ]at h;cases h;exact .refl _ _
  |frz ts=>
   rw[vI]at h;split at h
   ·rename_i s1 hr;cases h;exact sR _ _ _ hr
   cases h
  |dz x ps body=>
   rw[iU]at h;split at h
   ·rename_i f first ay id hx hid
    split at h
    ·rename_i hc;split at h
     ·rename_i v2 H2 wr kq;split at h
      ·rename_i v b' s' p' c' r' pend hH2;split at h
       ·cases h;have h1:=az _ _ _ _ _ _ kq;have h2:Fr s.H (H2.set id (.gone v)) (id::wr):=by
         refine⟨by have:=h1.1;simp only[make,CP]at this ⊢;exact this,fun q hq hn=>?_⟩;simp only[BD,not_or]at hn;rw[getElem?_set_ne' _ _ (Ne.symm hn.1),h1.2 q (by simpa [make]using hq) hn.2,make,getElem?_set_ne' _ _ (Ne.symm hn.1)]
        exact FrB.of h2
       cases h
      cases h
     cases h
    cases h
   cases h
theorem aKa(n:Nat):sQ (dD A n):=aEM (fJ n)
end
abbrev bN:=Nat->AV
def upd(ρ:bN)(d:Nat)(v:AV):bN:=fun t=>if t=d then v else ρ t
def zX(ρ:bN):Option Nat->AV->bN
 |some d,v=>upd ρ d v
 |none,_=>ρ
def ck(l:LA):bN:=fun t=>(l[t]?).getD .undef
def aa.at(ρ:bN):aa->AV
 |.tmp t=>ρ t
 |.const v=>v
theorem aa.ka(l:LA)(x:aa):x.ev l=x.at (ck l):=by cases x<;>rfl
theorem aa.A4(l:LA):aa.ev l=aa.at (ck l):=funext fun x=>x.ka l
def mK(ρ:bN)(cells:LA):List (Nat×Nat×aa)->Option LA
 | []=>Qr cells
 | (off,size,x)::r=>
  let vs:=(x.at ρ).cells
  if vs.length=size/\off+size<=cells.length/\vs.all AV.ak then mK ρ (nV cells off vs) r else Qs
def nZ(ρ:bN)(k:Nat)(rows:List LA):List (Nat×aa)->Option (List LA)
 | []=>Qr rows
 | (i,x)::r=>
  let vs:=(x.at ρ).strip.cells
  if vs.length=k/\i<rows.length/\vs.all AV.still then nZ ρ k (rows.set i vs) r else Qs
def mM(ρ:bN)(k:Nat)(rows:List LA):List (Nat×aa)->Option (List LA)
 | []=>Qr rows
 | (i,x)::r=>
  let vs:=(x.at ρ).strip.cells
  if vs.length=k/\i<rows.length/\vs.all AV.ak then mM ρ k (rows.set i vs) r else Qs
def vA(H:LO)(ρ:bN):df->Option AV
 |.mov x=>Qr (x.at ρ)
 |.pick c a b=>match c.at ρ with
  |.bool t=>Qr (if t then a.at ρ else b.at ρ)
  |_=>Qs
 |.alloc zs=>if zs.all AV.still then Qr (.ep (zs.map AV.aj) 0)else Qs
 |.box k x=>
  let vs:=(x.at ρ).strip.cells
  if vs.length=k/\vs.all AV.still then Qr (.ep vs 0)else Qs
 |.build zs parts=>(mK ρ zs parts).map .agg
 |.bsl k zs n parts=>(nZ ρ k (AX n zs) parts).map (.sl Qt)
 |.mks _ bytes zs len cap=>match len.at ρ,cap.at ρ with
  |.int _ n,.int _ c=>if 0<=n/\n=c/\bP n.toNat bytes then Qr (.sl Qt (AX n.toNat (zs.map AV.aj)))else Qs
  |_,_=>Qs
 |.load k agg x=>match bC H k (x.at ρ)with
  |some cs=>eD agg cs
  |none=>Qs
 |.cz x=>match x.at ρ with
  |.ptr o v off=>Qr (.ptr o v off)
  |.vp o v n k i off=>Qr (.vp o v n k i off)
  |.ep row off=>Qr (.ep row off)
  |.fn f a b=>Qr (.fn f a b)
  |_=>Qs
 |.ky neg x=>match x.at ρ with
  |.sl _ (_::_) | .sr ..=>Qr (.bool neg)
  |.ar=>Qr (.bool !neg)
  |_=>Qs
 |.bin op ek x y=>kJ op ek (x.at ρ) (y.at ρ)
 |.un op x=>unV op (x.at ρ)
 |.conv c x=>pT H c (x.at ρ)
 |.mkf f first ay=>if (first.map (aa.at ρ)).all AV.still&&(ay.map (aa.at ρ)).all AV.still then Qr (.fn f (first.map fun x=>(x.at ρ).aj) (ay.map fun x=>(x.at ρ).aj))else Qs
 |.fm x lo hi=>match x.at ρ with
  |.str s=>match dU s.length (lo.map (aa.at ρ)) (hi.map (aa.at ρ)) Qs with
   |some (l,h,_)=>Qr (.str ((s.take h).drop l))
   |none=>Qs
  |_=>Qs
 |.gw k x lo hi mx=>match x.at ρ with
  |.sl full rows=>match dU rows.length (lo.map (aa.at ρ)) (hi.map (aa.at ρ)) (mx.map (aa.at ρ))with
   |some (l,h,m)=>if dF k rows&&(!mx.isSome || hi.isSome)then Qr (.sl (decide (m=h)&&(mx.isSome || full)) ((rows.take h).drop l))else Qs
   |none=>Qs
  |.sr o v n=>if mx.isSome then Qs else match dU n (lo.map (aa.at ρ)) (hi.map (aa.at ρ)) Qs with
   |some (l,h,_)=>if hi.isSome&&decide (l=0)then Qr (.srw o v n h)else if h=n then Qr (.srv o v n k l)else Qs
   |none=>Qs
  |_=>Qs
 |.view k x lo=>match x.at ρ with
  |.sl full rows=>match dU rows.length (lo.map (aa.at ρ)) Qs Qs with
   |some (l,h,m)=>if dF k rows then Qr (.sl (decide (m=h)&&full) ((rows.take h).drop l))else Qs
   |none=>Qs
  |.sr o v n=>match H[o]? with
   |some (.vec v' _ rows)=>if v'=v/\rows.length=n then match iL 0 n (lo.map (aa.at ρ))with
     |some l=>Qr (.srv o v n k l)
     |none=>Qs
    else Qs
   |_=>Qs
  |_=>Qs
 |.na n k x lo hi mx=>match x.at ρ with
  |.ep row off=>if off+n*k<=row.length then
    let rows:=aFH k n (row.drop off)
    match dU n (lo.map (aa.at ρ)) (hi.map (aa.at ρ)) (mx.map (aa.at ρ))with
    |some (l,h,m)=>if !mx.isSome || hi.isSome then Qr (.sl (decide (m=h)) ((rows.take h).drop l))else Qs
    |none=>Qs
   else Qs
  |_=>Qs
 |.fa off x=>match x.at ρ with
  |.ptr o v off0=>Qr (.ptr o v (off0+off))
  |.vp o v n k i off0=>Qr (.vp o v n k i (off0+off))
  |.ep row off0=>Qr (.ep row (off0+off))
  |_=>Qs
 |.fld off k agg x=>match x.at ρ with
  |.agg cs=>if off+k<=cs.length then eD agg ((cs.drop off).take k)else Qs
  |_=>Qs
 |.iaV x i k=>match x.at ρ,i.at ρ with
  |.sl _ rows,.int _ n=>if 0<=n then match rows[n.toNat]? with
    |some row=>if row.length=k then Qr (.ep row 0)else Qs
    |none=>Qs
   else Qs
  |.sr o v len,.int _ n=>if 0<=n/\n<len then Qr (.vp o v len k n.toNat 0)else Qs
  |_,_=>Qs
 |.iaA len k x i=>match x.at ρ,i.at ρ with
  |.ptr o v off,.int _ n=>if 0<=n/\n<len then Qr (.ptr o v (off+n.toNat*k))else Qs
  |.ep row off,.int _ n=>if 0<=n/\n<len then Qr (.ep row (off+n.toNat*k))else Qs
  |_,_=>Qs
 |.ixS x i=>match x.at ρ,i.at ρ with
  |.str s,.int _ n=>if 0<=n then match s[n.toNat]? with
    |some b=>Qr (.int .u8 b.toNat)
    |none=>Qs
   else Qs
  |_,_=>Qs
 |.ixA len k agg x i=>match x.at ρ,i.at ρ with
  |.agg cs,.int _ n=>if 0<=n/\n<len/\n.toNat*k+k<=cs.length then eD agg ((cs.drop (n.toNat*k)).take k)else Qs
  |_,_=>Qs
 |.fg x=>match x.at ρ with
  |.str s=>Qr (.int .i64 s.length)
  |_=>Qs
 |.qk x=>match x.at ρ with
  |.sl _ rows=>Qr (.int .i64 rows.length)
  |.sr _ _ n=>Qr (.int .i64 n)
  |.ar=>Qr (.int .i64 0)
  |_=>Qs
 |.zb n=>Qr (.int .i64 n)
 |.mm mx xs=>mmV mx (xs.map (aa.at ρ))
 |.ext i x=>match x.at ρ with
  |.tup vs=>vs[i]?
  |_=>Qs
 |.km t x=>if (x.at ρ).tn then Qr (.ifc t (x.at ρ))else Qs
 |.look zero m k ok=>match m.at ρ with
  |.mp o v=>match H[o]? with
   |some (.map v' es)=>if v'=v then
     match iB (k.at ρ) es 0 with
     |some (Qr (_,x))=>if ok then Qr (.tup [x,.bool Qt])else Qr x
     |some Qs=>if ok then Qr (.tup [zero,.bool Qu])else Qr zero
     |none=>Qs
    else Qs
   |_=>Qs
  |.fmp ks vs=>match iB (k.at ρ) (ks.zip vs) 0 with
   |some (Qr (_,x))=>if ok then Qr (.tup [x,.bool Qt])else Qr x
   |some Qs=>if ok then Qr (.tup [zero,.bool Qu])else Qr zero
   |none=>Qs
  |_=>Qs
 |_=>Qs
def aCc(ρ:bN):df->LN
 |.load _ _ x=>match x.at ρ with
  |.ptr o _ _=>[o]
  |.vp o _ _ _ _ _=>[o]
  |_=>[]
 |.conv .b2s x=>match x.at ρ with
  |.sr o _ _=>[o]
  |.srv o _ _ _ _=>[o]
  |.srw o _ _ _=>[o]
  |_=>[]
 |.look _ m _ _=>match m.at ρ with
  |.mp o _=>[o]
  |_=>[]
 |.view _ x _=>match x.at ρ with
  |.sr o _ _=>[o]
  |_=>[]
 |_=>[]
def xC(ρ:bN)(k:Nat)(H:LO)(rows:List LA):List (Nat×aa)->Option (List LA×LO×LN)
 | []=>Qr (rows,H,[])
 | (i,x)::r=>
  match fix H (x.at ρ)with
  |some (v,H',l)=>
   if v.cells.length=k/\i<rows.length/\v.cells.all AV.still then
    match xC ρ k H' (rows.set i v.cells) r with
    |some (bt,H'',l')=>Qr (bt,H'',l++l')
    |none=>Qs
   else Qs
  |none=>Qs
def aD0(call:Nat->LA->LO->Out)(H:LO)(ρ:bN)(site:Option Nat):df->Out
 |.alloc zs=>match site with
  |some id=>if id<H.length then Qr (.ptr id (bH H id) 0,make H id (.box · zs),[id])else Qs
  |none=>Qs
 |.gv ty zs=>match site with
  |some id=>if id<H.length then Qr (.ptr id (bH H id) 0,make H id (.cw · ty zs),[id])else Qs
  |none=>Qs
 |.box k x=>match site with
  |some id=>if id<H.length/\(x.at ρ).cells.length=k/\(x.at ρ).cells.all AV.ak then Qr (.ptr id (bH H id) 0,make H id (.box · (x.at ρ).cells),[id])else Qs
  |none=>Qs
 |.tbx ty k x=>match site with
  |some id=>if id<H.length/\(x.at ρ).cells.length=k/\(x.at ρ).cells.all AV.ak then Qr (.ptr id (bH H id) 0,make H id (.cw · ty (x.at ρ).cells),[id])else Qs
  |none=>Qs
 |.store k x v=>if (v.at ρ).cells.length=k/\(v.at ρ).cells.all AV.ak then
   match storeCells H (v.at ρ).cells (x.at ρ)with
   |some (H',wr)=>Qr (.undef,H',wr)
   |none=>Qs
  else Qs
 |.bsl k zs n parts=>match site with
  |some id=>match mM ρ k (AX n zs) parts with
   |some rows=>if id<H.length then Qr (.sr id (bH H id) n,make H id (.vec · k rows),[id])else Qs
   |none=>Qs
  |none=>match xC ρ k H (AX n zs) parts with
   |some (rows,H',wr)=>Qr (.sl Qt rows,H',wr)
   |none=>Qs
 |.mks k bytes zs len cap=>match len.at ρ,cap.at ρ with
  |.int _ n,.int _ c=>
   if 0<=n/\n=c/\bP n.toNat bytes then
    match site with
    |some id=>if id<H.length then Qr (.sr id (bH H id) n.toNat,make H id (.vec · k (AX n.toNat (zs.map AV.aj))),[id])else Qs
    |none=>Qr (.sl Qt (AX n.toNat (zs.map AV.aj)),H,[])
   else match site with
    |some id=>if n=0/\0<c/\bP c.toNat bytes/\id<H.length then Qr (.sr id (bH H id) 0,make H id (.vec · k []),[id])else Qs
    |none=>Qs
  |_,_=>Qs
 |.app k bytes s x=>eX H site k bytes (s.at ρ) (x.at ρ)
 |.ni ty k bytes s x=>vB H site ty k bytes (s.at ρ) (x.at ρ)
 |.dm f args=>cX call H site (f.at ρ) (args.map (aa.at ρ))
 |.ee f args=>iN call H site (f.at ρ) (args.map (aa.at ρ))
 |.nb tab x args=>match x.at ρ with
  |.ifc t v=>match tab.lookup t with
   |some f=>cX call H site (.fn f [v] []) (args.map (aa.at ρ))
   |none=>Qs
  |_=>Qs
 |.cpy k x y=>match x.at ρ with
  |.srv o v n k' lo=>match H[o]? with
   |some (.vec v' k2 rows)=>match cG H (y.at ρ)with
    |some new=>if new.isEmpty then Qr (.int .i64 0,H,[])else if v'=v/\rows.length=n/\k2=k/\k'=k/\dF k new/\lo+new.length<=n then
      Qr (.int .i64 (new.length:Nat),H.set o (.vec v k (rows.take lo++new++rows.drop (lo+new.length))),[o])
     else Qs
    |none=>Qs
   |_=>Qs
  |_=>Qs
 |.jn=>match site with
  |some id=>if id<H.length then Qr (.mp id (bH H id),make H id (.map · []),[id])else Qs
  |none=>Qs
 |.ins m k v=>match m.at ρ,k.at ρ with
  |.mp o ver,key=>match H[o]? with
   |some (.map v' es)=>
    if v'=ver/\(aJK key key).isSome/\(v.at ρ).strip.cells.all AV.still then
     match iB key es 0 with
     |some (Qr (i,_))=>Qr (.undef,H.set o (.map ver (es.set i (key,(v.at ρ).strip))),[o])
     |some Qs=>Qr (.undef,H.set o (.map ver (es++[(key,(v.at ρ).strip)])),[o])
     |none=>Qs
    else Qs
   |_=>Qs
  |_,_=>Qs
 |_=>Qs
theorem aD1(l:LA):∀(ps:List (Nat×Nat×aa)) (cells:LA),iA l cells ps=mK (ck l) cells ps
 | [],_=>rfl
 | (off,size,x)::r,cells=>by
  unfold iA mK;simp only[aa.ka,aD1 l r]
theorem aEN(l:LA)(k:Nat):∀(ps:List (Nat×aa)) (rows:List LA),lW l k rows ps=nZ (ck l) k rows ps
 | [],_=>rfl
 | (i,x)::r,rows=>by
  unfold lW nZ;simp only[aa.ka,aEN l k r]
theorem aD2(l:LA)(k:Nat):∀(ps:List (Nat×aa)) (rows:List LA),jW l k rows ps=mM (ck l) k rows ps
 | [],_=>rfl
 | (i,x)::r,rows=>by
  unfold jW mM;simp only[aa.ka,aD2 l k r]
theorem aI8(l:LA)(k:Nat):∀(ps:List (Nat×aa)) (H:LO) (rows:List LA),nW l k H rows ps=xC (ck l) k H rows ps
 | [],_,_=>rfl
 | (i,x)::r,H,rows=>by
  unfold nW xC;simp only[aa.ka,aI8 l k r];rfl
theorem aSN(H:LO)(l:LA)(o:df):evR H l o=vA H (ck l) o:=by cases o<;>simp only[evR,vA,aa.ka,aa.A4,aD1,aEN]<;>rfl
theorem aTB(l:LA)(o:df):aIR l o=aCc (ck l) o:=by
 cases o with
 |conv c x=>cases c<;>simp only[aIR,aCc,aa.ka]<;>rfl
 |_=>first | rfl | (simp only[aIR,aCc,aa.ka];done)|(simp only[aIR,aCc,aa.ka];rfl)
theorem aSO(call:Nat->LA->LO->Out)(H:LO)(l:LA)(site:Option Nat)(o:df):evW call H l site o=aD0 call H (ck l) site o:=by cases o<;>simp only[evW,aD0,aa.ka,aa.A4,aD2,aI8]<;>rfl
def aP3(c1 c2:Nat->LA->LO->Out):Prop:=∀f args H r,c1 f args H=Qr r->c2 f args H=Qr r
section
variable {c1 c2:Nat->LA->LO->Out}(hle:aP3 c1 c2)
include hle
theorem aEO{H:LO}{site:Option Nat}{f:AV}{args:LA}{r}(h:cX c1 H site f args=Qr r):cX c2 H site f args=Qr r:=by
 unfold cX at h ⊢;split at h
 ·split at h
  ·cases h
  split at h
  ·cases h
  rename_i hc;rw[hle _ _ _ _ hc];exact h
 ·split at h
  ·cases h
  split at h
  ·cases h
  rename_i hc;rw[hle _ _ _ _ hc];exact h
 cases h
theorem aKb{H:LO}{site:Option Nat}{f:AV}{args:LA}{r}(h:iN c1 H site f args=Qr r):iN c2 H site f args=Qr r:=by
 unfold iN at h ⊢;split at h
 ·split at h
  ·cases h
  rename_i hc;rw[hle _ _ _ _ hc];exact h
 cases h
theorem aML{H:LO}{ρ:LA}{site:Option Nat}{o:df}{r}(h:evW c1 H ρ site o=Qr r):evW c2 H ρ site o=Qr r:=by
 cases o<;>first | exact h | skip
 ·exact aEO hle h
 ·exact aKb hle h
 rename_i tab x args;simp only[evW]at h ⊢;generalize aa.ev ρ x=y at h ⊢;cases y with
 |ifc t v=>
  dsimp only at h ⊢;generalize tab.lookup t=z at h ⊢;cases z with
  |none=>cases h
  |some f=>exact aEO hle h
 |_=>cases h
theorem aKc{c:Ctx}{d:Bool}{H:LO}{ρ:LA}{o:ae}{r}(h:aOI c1 c d H ρ o=Qr r):aOI c2 c d H ρ o=Qr r:=by
 unfold aOI at h ⊢;split at h
 ·rename_i hw;rw[Zy hw];exact aML hle h
 rename_i hw;rw[Zx hw];exact h
theorem aBa{c:Ctx}:∀{ops:List ae} {s s':gp},jL c1 c ops s=Qr s'->jL c2 c ops s=Qr s'
 | [],_,_,h=>h
 |o::r,s,s',h=>by
  unfold jL at h ⊢;split at h
  ·rename_i hg;rw[Zy hg];split at h
   ·rename_i hw;rw[Zy hw];split at h
    ·rename_i he;rw[aKc hle he];exact aBa h
    cases h
   rename_i hw;rw[Zx hw];exact aBa h
  cases h
theorem aI9{c:Ctx}{H:LO}{ρ:LA}{o:ae}{r}(h:aFJ c1 c H ρ o=Qr r):aFJ c2 c H ρ o=Qr r:=by
 unfold aFJ at h ⊢;split at h
 ·exact h
 split at h
 ·rename_i hw;rw[Zy hw];split at h
  ·rename_i he;rw[aML hle he];exact h
  cases h
 rename_i hw;rw[Zx hw];exact h
theorem xD{c:Ctx}:∀{i:Nat} {ops:List ae} {s:gp} {r},nT c1 c i ops s=Qr r->nT c2 c i ops s=Qr r
 |_,[],_,_,h=>h
 |i,o::r,s,s',h=>by
  unfold nT at h ⊢;split at h
  ·rename_i hg;rw[Zy hg];split at h
   ·rename_i hw;rw[Zy hw];split at h
    ·rename_i he;rw[aI9 hle he];dsimp only;split at h
     ·rename_i hr;rw[xD hr];exact h
     cases h
    cases h
   rename_i hw;rw[Zx hw];exact xD h
  cases h
theorem aJ4{c:Ctx}{d:Bool}{ops:List ae}{s s':gp}(h:iO c1 c d ops s=Qr s'):iO c2 c d ops s=Qr s':=by
 unfold iO at h ⊢;split at h
 ·rename_i hd;rw[Zy hd];split at h
  ·rename_i hp;split at h
   ·rename_i hr;rw[xD hle hr];exact h
   cases h
  cases h
 rename_i hd;rw[Zx hd];split at h
 ·cases h
 rename_i O9;rw[Zx O9];exact aBa hle h
end
section
variable {A:af}
theorem oU{n f:Nat}{args:LA}{H:LO}{fn:bw}{s':gp}{e:bf}{r}(hp:(A.bq f).bind (· args H)=Qs)(hf:A.fn f=Qr fn) (hc:cY A n ⟨H.length,fn.sites⟩ fn.body (nF fn args H)=Qr (e,s')) (he:e=.normal∨e=.ret) (hr:aA4 H.length fn s'=Qr r) (hN:args.length<=fn.ntmps):dD A n f args H=Qr (cJ H.length r):=by unfold dD qL;rw[hp,hf];dsimp only;rw[Zy hN,hc];rcases he with rfl | rfl<;>(dsimp only;rw[hr])
theorem aAe{ev:Ctx->ag->gp->Option (bf×gp)}{H:LO}{o v:Nat}{xs:LA}:sO ev H (.own 0 []::.yld o v::xs)=match H[o]? with
  |some (.rnd v' base sites ps (.seq asg body) ρ Qu Qs)=>
   if v'=v/\xs.length=ps.length then
    match ev ⟨base,sites++[YF+o,YF+v]⟩ asg ⟨dH ρ ps xs,H,[]⟩ with
    |some (.normal,s0)=>match s0.H[o]? with
     |some (.rnd v1 b1 t1 p1 c1 r1 Qu Qs)=>
      if v1=v then
       match ev ⟨base,sites++[YF+o,YF+v]⟩ body ⟨s0.ρ,s0.H.set o (.rnd v b1 t1 p1 c1 r1 Qt Qs),s0.wr⟩ with
       |some (e,s)=>match s.H[o]? with
        |some (.rnd v2 b2 s2 p2 c2 r2 Qt Qs)=>if v2=v then Qr (.bool (decide (e=.normal)),s.H.set o (.rnd v b2 s2 p2 c2 r2 Qu (if e=.normal then Qs else Qr e)),FM base (H.length - base)++(o::s.wr))else Qs
        |_=>Qs
       |none=>Qs
      else Qs
     |_=>Qs
    |_=>Qs
   else Qs
  |_=>none:=rfl
theorem aJ5{e1 e2:Ctx->ag->gp->Option (bf×gp)}(he:∀c x s r,e1 c x s=Qr r->e2 c x s=Qr r){H:LO}{args:LA}{r}(h:sO e1 H args=Qr r):sO e2 H args=Qr r:=by obtain⟨o,v,xs,base,sites,ps,asg,body,ρ,s0,b1,t1,p1,c1,r1,e,s,rfl,hH,hl,xt,xu,je,b',s',p',c',r',hs,rfl⟩:=oK h;rw[aAe,hH];dsimp only;rw[Zy ⟨rfl,hl⟩,he _ _ _ _ xt];dsimp only;rw[xu];dsimp only;rw[Zy rfl,he _ _ _ _ je];dsimp only;rw[hs];dsimp only;rw[Zy rfl]
theorem tQ{n m:Nat}(jz:∀c x s r,cY A n c x s=Qr r->cY A m c x s=Qr r):aP3 (dD A n) (dD A m):=by
 intro f args H r h;unfold dD qL at h;split at h
 ·rename_i v hv;cases h;unfold dD qL;rw[hv]
 rename_i hv;split at h
 ·rename_i hf;unfold dD qL;rw[hv,hf];exact aJ5 jz h
 rename_i fn hf;split at h;rotate_left
 ·cases h
 rename_i hN;split at h
 ·rename_i s' he;split at h
  ·rename_i r' hr;cases h;exact oU hv hf (jz _ _ _ _ he) (.inl rfl) hr hN
  cases h
 ·rename_i s' he;split at h
  ·rename_i r' hr;cases h;exact oU hv hf (jz _ _ _ _ he) (.inr rfl) hr hN
  cases h
 cases h
theorem eJ:∀{n m:Nat},n<=m->∀(c:Ctx) (x:ag) (s:gp) r,cY A n c x s=Qr r->cY A m c x s=Qr r
 |0,_,_,c,x,s,r,h=>by rw[gT]at h;cases h
 |n+1,0,hn,_,_,_,_,_=>by omega
 |n+1,m+1,hn,c,x,s,r,h=>by
  have ih:=eJ (n:=n) (m:=m) (by omega);cases x with
  |skip=>exact h
  |bad=>exact h
  |region d ops=>
   rw[iS]at h ⊢;split at h
   ·rename_i hr;rw[aJ4 (tQ ih) hr];exact h
   cases h
  |seq a b=>
   rw[iD]at h ⊢;split at h
   ·rename_i hr;rw[ih _ _ _ _ hr];exact ih _ _ _ _ h
   rename_i bl;rw[ih _ _ _ _ h];split
   ·rename_i D0;exact (bl _ (h.trans D0)).elim
   rfl
  |cond t a b=>
   rw[iT]at h ⊢;split at h
   ·exact ih _ _ _ _ h
   ·exact ih _ _ _ _ h
   cases h
  |block id b=>
   rw[eP]at h ⊢;split at h
   ·rename_i hr;rw[ih _ _ _ _ hr];exact h
   rename_i bl;rw[ih _ _ _ _ h];split
   ·rename_i D0;exact (bl _ _ (h.trans D0)).elim
   rfl
  |loop b=>
   rw[gU]at h ⊢;split at h
   ·rename_i hr;rw[ih _ _ _ _ hr];exact ih _ _ _ _ h
   rename_i bl;rw[ih _ _ _ _ h];split
   ·rename_i D0;exact (bl _ (h.trans D0)).elim
   rfl
  |exit id=>exact h
  |ret=>exact h
  |frz ts=>exact h
  |dz x ps body=>
   rw[iU]at h ⊢;split at h
   ·split at h
    ·rename_i hc;rw[Zy hc];split at h
     ·rename_i kq;rw[tQ ih _ _ _ _ kq];exact h
     cases h
    cases h
   cases h
theorem oA{n m:Nat}(h:n<=m):aP3 (dD A n) (dD A m):=tQ (eJ h)
noncomputable def aG(A:af)(f:Nat)(args:LA)(H:LO):Out:=
 open Classical in if h:∃n r,dD A n f args H=Qr r then Qr h.choose_spec.choose else Qs
theorem oL{n f:Nat}{args:LA}{H:LO}{r}(h:dD A n f args H=Qr r):aG A f args H=Qr r:=by
 have mn:∃n r,dD A n f args H=Qr r:=⟨n,r,h⟩;unfold aG;rw[dif_pos mn];have h2:=mn.choose_spec.choose_spec;rcases Nat.le_total n mn.choose with hn | hn
 ·exact h2.symm.trans (oA hn _ _ _ _ h)
 have h3:=oA hn _ _ _ _ h2;exact h3.symm.trans h
theorem oM{f:Nat}{args:LA}{H:LO}{r}(h:aG A f args H=Qr r):∃n,dD A n f args H=Qr r:=by
 unfold aG at h;split at h
 ·rename_i mn;cases h;exact⟨_,mn.choose_spec.choose_spec⟩
 cases h
end
theorem nG{l:LA}{d:Nat}{v:AV}(h:d<l.length):ck (l.set d v)=upd (ck l) d v:=by
 funext t;unfold ck upd;by_cases e:t=d
 ·subst e;simp[h]
 rw[Zx e,List.getElem?_set_ne (Ne.symm e)]
def zE(ρ:bN):Option (Option Nat×Bool)->Option Bool
 |none=>Qr Qt
 |some (Qs,_)=>Qs
 |some (Qr t,want)=>match ρ t with
  |.bool b=>Qr (b==want)
  |.tup []=>Qr Qu
  |_=>Qs
theorem aKd(l:LA)(o:ae):zE (ck l) o.guard=if pF l o then Qr (wanted l o)else none:=by
 unfold zE pF wanted ck;cases hg:o.guard with
 |none=>simp
 |some p=>
  obtain⟨t,want⟩:=p;cases t with
  |none=>simp
  |some t=>
   simp only;cases ht:l[t]? with
   |none=>simp
   |some v=>cases v with
    |tup vs=>cases vs<;>simp
    |_=>simp
def nB(call:Nat->LA->LO->Out)(site:Option Nat)(inDraw:Bool)(ρ:bN)(H:LO)(op:df):Out:=
 if isW site inDraw op then aD0 call H ρ site op
 else match vA H ρ op with
  |some v=>Qr (v,H,[])
  |none=>Qs
theorem aR9(call:Nat->LA->LO->Out)(c:Ctx)(d:Bool)(H:LO)(l:LA)(o:ae):aOI call c d H l o=nB call (c.site o.dst) d (ck l) H o.op:=by unfold aOI nB;rw[aSO,aSN];rfl
def aP4(N:Nat)(o:ae):Bool:=match o.dst with
 |some d=>decide (d<N)
 |none=>Qt
theorem sT{l:LA}{o:ae}{v:AV}(h:aP4 l.length o=Qt):ck (bg l o.dst v)=zX (ck l) o.dst v:=by
 unfold aP4 at h;unfold bg zX;cases hd:o.dst with
 |none=>rfl
 |some d=>rw[hd]at h;simp only[decide_eq_true_eq]at h;exact nG h
section
variable (call:Nat->LA->LO->Out)(c:Ctx)
def aD3:List ae->bN->LO->LN->(bN->LO->LN->Prop)->Prop | [],ρ,H,wr,K=>K ρ H wr | o::r,ρ,H,wr,K=>match zE ρ o.guard with | none=>False | some Qu=>aD3 r (zX ρ o.dst (.tup [])) H wr K | some Qt=>match nB call (c.site o.dst) Qu ρ H o.op with | none=>False | some (v,H',w)=>aD3 r (zX ρ o.dst v) H' (bE c.base wr w) K
def oB(site:Option Nat)(ρ:bN)(H:LO)(op:df):Option (AV×LO×LN×Option LN):=
 match op,site with
 |.alloc _,Qr id=>Qr (.ptr id ((H[id]?).elim 0 ah.ver) 0,H,[id],Qs)
 |op,site=>
  if isW site Qt op then
   match aD0 call H ρ site op with
   |some (v,H',wr)=>if H'.length=H.length then Qr (v,H',[],Qr wr)else Qs
   |none=>Qs
  else match vA H ρ op with
   |some v=>Qr (v,H,aCc ρ op,Qs)
   |none=>Qs
theorem aRa(H:LO)(l:LA)(o:ae):aFJ call c H l o=oB call (c.site o.dst) (ck l) H o.op:=by unfold aFJ oB;simp only[aTB,aSN,aSO];rfl
def wpD(aq:LN):Nat->List ae->bN->LO->LN->(bN->LO->LN->Log->Prop)->Prop
 |_,[],ρ,H,wr,K=>K ρ H wr []
 |i,o::r,ρ,H,wr,K=>match zE ρ o.guard with
  |none=>False
  |some Qu=>wpD aq (i+1) r (zX ρ o.dst (.tup [])) H wr K
  |some Qt=>match oB call (c.site o.dst) ρ H o.op with
   |none=>False
   |some (v,H',rd,w)=>wpD aq (i+1) r (zX ρ o.dst v) H' (bE c.base wr (w.getD []))
    (if aq.contains i then fun ρ H wr log=>K ρ H wr ((i,rd,w)::log)else K)
end
def looks(site:Option Nat):df->Bool
 |.load .. | .look .. | .conv .. | .view ..=>Qt
 |.alloc _=>site.isSome
 |_=>Qu
def aBG(c:Ctx)(o:ae):Bool:=match o.op,c.site o.dst with
 |.alloc _,Qr _=>Qt
 |_,site => !isW site Qt o.op
def aG4(c:Ctx)(aq:LN)(o:ae)(i:Nat)(p:ae)(j:Nat):Bool:=
 p.pre.contains i || (aq.contains i&&aq.contains j) ||
 (aBG c o&&aBG c p) ||
 (aBG c o && !looks (c.site o.dst) o.op) || (aBG c p && !looks (c.site p.dst) p.op)
def aCd(c:Ctx)(aq:LN):Nat->List ae->Bool
 |_,[]=>Qt
 |i,o::r=>((r.zipIdx (i+1)).all fun(p,j)=>aG4 c aq o i p j)&&aCd c aq (i+1) r
theorem aLE{ρ:bN}{op:df}{site:Option Nat}(h:looks site op=Qu):aCc ρ op=[]:=by cases op<;>first | rfl | (simp[looks]at h)
def Ent(c:Ctx)(e:Nat×LN×Option LN)(o:ae):Prop:=
 (aBG c o=Qt->e.2.2=Qs)/\(aBG c o=Qt->looks (c.site o.dst) o.op=Qu->e.2.1=[])
theorem aP5{call:Nat->LA->LO->Out}{c:Ctx}{ρ:bN}{H:LO}{o:ae}{v H' rd w}(i:Nat)(h:oB call (c.site o.dst) ρ H o.op=Qr (v,H',rd,w)):Ent c (i,rd,w) o:=by
 unfold oB at h;unfold Ent aBG;split at h
 ·rename_i h1 h2;cases h;refine⟨fun _=>rfl,fun _ hl=>?_⟩;rw[h2]at hl;simp[h1,looks]at hl
 split at h
 ·rename_i hw;constructor
  ·intro hh;simp[hw]at hh
  intro hh;simp[hw]at hh
 split at h
 ·cases h;refine⟨fun _=>rfl,fun _ hl=>aLE hl⟩
 cases h
def tR(c:Ctx):Nat->List ae->Log->Prop
 |_,[],log=>log=[]
 |i,o::r,log=>tR c (i+1) r log∨∃rd w log',log=(i,rd,w)::log'/\Ent c (i,rd,w) o/\tR c (i+1) r log'
theorem tR.mem{c:Ctx}:∀{i:Nat} {ops:List ae} {log:Log},tR c i ops log->∀e∈log,∃o,(o,e.1)∈ops.zipIdx i/\Ent c e o
 |_,[],_,h,e,he=>by rw[tR]at h;subst h;cases he
 |i,o::r,log,h,e,he=>by
  unfold tR at h;rw[NX];rcases h with h | ⟨rd,w,log',rfl,h1,h2⟩
  ·obtain⟨p,hp,hq⟩:=h.mem e he;exact⟨p,BZ _ hp,hq⟩
  rcases BD.1 he with rfl | he
  ·exact⟨o,List.mem_cons_self,h1⟩
  obtain⟨p,hp,hq⟩:=h2.mem e he;exact⟨p,BZ _ hp,hq⟩
theorem aNN{ops:List ae}{p:ae}{j:Nat}(h:(p,j)∈ops.zipIdx):((ops[j]?).map ae.pre).getD []=p.pre:=by have:=List.mem_zipIdx h;simp only[FF,PK,BC,true_and]at this;obtain⟨h1,h2⟩:=this;rw[AP h1,<- h2];rfl
theorem xE{c:Ctx}{aq:LN}{all:List ae}:∀{i:Nat} {ops:List ae} {log:Log},tR c i ops log->aCd c aq i ops=Qt ->(∀p∈ops.zipIdx i,p∈all.zipIdx) ->eH (fun j=>((all[j]?).map ae.pre).getD []) (log.filter fun e=>aq.contains e.1)=Qt ->eH (fun j=>((all[j]?).map ae.pre).getD []) log=Qt
 |_,[],log,h,_,_,_=>by rw[tR]at h;subst h;rfl
 |i,o::r,log,h,hp,iv,hk=>by
  unfold aCd at hp;rw[AI]at hp;unfold tR at h;rw[NX]at iv;rcases h with h | ⟨rd,w,log',rfl,h1,h2⟩
  ·exact xE h hp.2 (fun p hp=>iv p (BZ _ hp)) hk
  unfold eH;rw[AI];constructor
  ·rw[AO];rintro⟨j,rd',w'⟩ he;obtain⟨p,Hw,Cl⟩:=h2.mem _ he;have Eg:=aNN (iv _ (BZ _ Hw));have V3:=(AO.1 hp.1) _ Hw;dsimp only at Eg V3 ⊢;rw[Eg];unfold aG4 at V3;simp only[EA,AI,KB]at V3;rcases V3 with (((h | ⟨hi,hj⟩) | ⟨ho,hq⟩) | ⟨ho,hl⟩) | ⟨hq,hl⟩
   ·simp only[h,Bool.true_or]
   ·have z8:eH (fun j=>((all[j]?).map ae.pre).getD []) ((i,rd,w)::log'.filter fun e=>aq.contains e.1)=true:=by
     rw[JV]at hk;simp only[hi,Zv]at hk;exact hk
    unfold eH at z8;rw[AI]at z8;have:=(AO.1 z8.1) (j,rd',w') (by rw[OK];exact⟨he,hj⟩);dsimp only at this;rw[Eg]at this;exact this
   ·have e1:w=none:=h1.1 ho;have e2:w'=none:=Cl.1 hq;subst e1;subst e2;simp
   ·have e1:w=none:=h1.1 ho;have e2:rd=[]:=h1.2 ho hl;subst e1;subst e2;cases w'<;>simp[dG]
   have e1:w'=none:=Cl.1 hq;have e2:rd'=[]:=Cl.2 hq hl;subst e1;subst e2;cases w<;>simp[dG]
  refine xE h2 hp.2 (fun p hp=>iv p (BZ _ hp)) ?_;rw[JV]at hk;split at hk
  ·unfold eH at hk;rw[AI]at hk;exact hk.2
  exact hk
section
variable {A:af}
theorem aIa{H:LO}{site:Option Nat}{f:AV}{args:LA}{r}(h:cX (aG A) H site f args=Qr r):∃n,cX (dD A n) H site f args=Qr r:=by
 unfold cX at h;split at h
 ·rename_i fid first ay
  split at h
  ·cases h
  rename_i args' lent hl;split at h
  ·cases h
  rename_i v H' wr hc;obtain⟨n,hn⟩:=oM hc;refine⟨n, ?_⟩;unfold cX;dsimp only;rw[hl];dsimp only;rw[hn];exact h
 ·rename_i o v;split at h
  ·cases h
  rename_i args' lent hl;split at h
  ·cases h
  rename_i b H' wr hc;obtain⟨n,hn⟩:=oM hc;refine⟨n, ?_⟩;unfold cX;dsimp only;rw[hl];dsimp only;rw[hn];exact h
 cases h
theorem aNO{H:LO}{site:Option Nat}{f:AV}{args:LA}{r}(h:iN (aG A) H site f args=Qr r):∃n,iN (dD A n) H site f args=Qr r:=by
 unfold iN at h;split at h
 ·rename_i fid first ay
  split at h
  ·cases h
  rename_i v H' wr hc;obtain⟨n,hn⟩:=oM hc;refine⟨n, ?_⟩;unfold iN;dsimp only;rw[hn];exact h
 cases h
theorem aP6{H:LO}{ρ:bN}{site:Option Nat}{o:df}{r}(h:aD0 (aG A) H ρ site o=Qr r):∃n,aD0 (dD A n) H ρ site o=Qr r:=by
 cases o<;>first | exact⟨0,h⟩ | skip
 ·exact aIa h
 ·exact aNO h
 rename_i tab x args;simp only[aD0]at h ⊢;generalize aa.at ρ x=y at h ⊢;cases y with
 |ifc t v=>
  dsimp only at h ⊢;generalize tab.lookup t=z at h ⊢;cases z with
  |none=>cases h
  |some f=>exact aIa h
 |_=>cases h
theorem aRb{site:Option Nat}{d:Bool}{H:LO}{ρ:bN}{o:df}{r}(h:nB (aG A) site d ρ H o=Qr r):∃n,nB (dD A n) site d ρ H o=Qr r:=by
 unfold nB at h;split at h
 ·rename_i hw;obtain⟨n,hn⟩:=aP6 h;exact⟨n,by unfold nB;rw[Zy hw];exact hn⟩
 rename_i hw;exact⟨0,by unfold nB;rw[Zx hw];exact h⟩
theorem aRc{site:Option Nat}{H:LO}{ρ:bN}{o:df}{r}(h:oB (aG A) site ρ H o=Qr r):∃n,oB (dD A n) site ρ H o=Qr r:=by
 unfold oB at h;split at h
 ·exact⟨0,h⟩
 rename_i bl;split at h
 ·rename_i hw;split at h
  ·rename_i he;obtain⟨n,hn⟩:=aP6 he;refine⟨n, ?_⟩;unfold oB;split
   ·exact (bl _ _ rfl rfl).elim
   rw[Zy hw,hn];exact h
  cases h
 rename_i hw;refine⟨0, ?_⟩;unfold oB;split
 ·exact (bl _ _ rfl rfl).elim
 rw[Zx hw];exact h
theorem aCe{c:Ctx}:∀{ops:List ae} {l:LA} {H:LO} {wr:LN} {K},aD3 (aG A) c ops (ck l) H wr K->(ops.all (aP4 l.length))=Qt ->∃n s',jL (dD A n) c ops ⟨l,H,wr⟩=Qr s'/\s'.ρ.length=l.length/\K (ck s'.ρ) s'.H s'.wr
 | [],l,H,wr,K,h,_=>⟨0,⟨l,H,wr⟩,rfl,rfl,h⟩
 |o::r,l,H,wr,K,h,hd=>by
  rw[ES,AI]at hd;unfold aD3 at h;rw[aKd]at h;split at h
  ·cases h
  ·rename_i hg;split at hg
   ·rename_i hok;rw[AG]at hg;rw[<- sT hd.1]at h;obtain⟨n,s',h1,h2,h3⟩:=aCe h (by rw[fH];exact hd.2);refine⟨n,s', ?_,by rw[h2,fH],h3⟩;unfold jL;rw[Zy hok,Zx (by rw[hg];exact ED)];exact h1
   cases hg
  rename_i hg;split at hg
  ·rename_i hok;rw[AG]at hg;split at h
   ·cases h
   rename_i v H' w hs;obtain⟨n1,lx⟩:=aRb hs;rw[<- sT hd.1]at h;obtain⟨n2,s',h1,h2,h3⟩:=aCe h (by rw[fH];exact hd.2);refine⟨max n1 n2,s', ?_,by rw[h2,fH],h3⟩;unfold jL;rw[Zy hok,Zy hg];have e1:=aKc (oA (GJ n1 n2)) ((aR9 (dD A n1) c Qu H l o).trans lx);dsimp only;rw[e1];exact aBa (oA (GC n1 n2)) h1
  cases hg
theorem aG5{c:Ctx}{aq:LN}:∀{ops:List ae} {i:Nat} {l:LA} {H:LO} {wr:LN} {K},wpD (aG A) c aq i ops (ck l) H wr K->(ops.all (aP4 l.length))=Qt ->∃n s' log,nT (dD A n) c i ops ⟨l,H,wr⟩=Qr (s',log)/\s'.ρ.length=l.length/\tR c i ops log/\K (ck s'.ρ) s'.H s'.wr (log.filter fun e=>aq.contains e.1)
 | [],i,l,H,wr,K,h,_=>⟨0,⟨l,H,wr⟩,[],rfl,rfl,rfl,h⟩
 |o::r,i,l,H,wr,K,h,hd=>by
  rw[ES,AI]at hd;unfold wpD at h;rw[aKd]at h;split at h
  ·cases h
  ·rename_i hg;split at hg
   ·rename_i hok;rw[AG]at hg;rw[<- sT hd.1]at h;obtain⟨n,s',log,h1,h2,h3,h4⟩:=aG5 h (by rw[fH];exact hd.2);refine⟨n,s',log, ?_,by rw[h2,fH],.inl h3,h4⟩;unfold nT;rw[Zy hok,Zx (by rw[hg];exact ED)];exact h1
   cases hg
  rename_i hg;split at hg
  ·rename_i hok;rw[AG]at hg;split at h
   ·cases h
   rename_i v H' rd w hs;obtain⟨n1,lx⟩:=aRc hs;rw[<- sT hd.1]at h;obtain⟨n2,s',log,h1,h2,h3,h4⟩:=aG5 h (by rw[fH];exact hd.2);refine⟨max n1 n2,s',(i,rd,w)::log, ?_,by rw[h2,fH],.inr ⟨rd,w,log,rfl,aP5 i hs,h3⟩, ?_⟩
   ·unfold nT;rw[Zy hok,Zy hg];have e1:=aI9 (oA (GJ n1 n2)) ((aRa (dD A n1) c H l o).trans lx);dsimp only;rw[e1];dsimp only;rw[xD (oA (GC n1 n2)) h1]
   rw[JV];dsimp only;split at h4
   ·rename_i hk;rw[Zy hk];exact h4
   rename_i hk;rw[Zx hk];exact h4
  cases hg
def Wp(A:af)(N:Nat)(c:Ctx)(x:ag)(ρ:bN)(H:LO)(wr:LN)(Q:bf->bN->LO->LN->Prop):Prop:=
 ∀l:LA,l.length=N->ck l=ρ->∃n e s',cY A n c x ⟨l,H,wr⟩=Qr (e,s')/\s'.ρ.length=N/\Q e (ck s'.ρ) s'.H s'.wr
def aVH(H:LO)(v:AV):Option (AV×LO×LN):=match fix H v with
 |some r=>Qr r
 |none=>aA3 H v
def aD4(H:LO)(k:Nat)(v:AV):Option (LO×LN):=match pE H v with
 |some r=>Qr r
 |none=>match bC H k v with
  |some cs=>match fix H (.agg cs)with
   |some (.agg cs',H',l)=>match storeCells H' cs' v with
    |some (H'',l')=>Qr (H'',l++l')
    |none=>Qs
   |_=>Qs
  |none=>Qs
def aD5(c:Ctx):List (Nat×Nat)->bN->LO->LN->(bN->LO->LN->Prop)->Prop
 | [],ρ,H,wr,K=>K ρ H wr
 | (k+1,t)::r,ρ,H,wr,K=>
  if (ρ t).iy then aD5 c r ρ H wr K else
  match aD4 H (k+1) (ρ t)with
  |some (H',l)=>aD5 c r ρ H' (bE c.base wr l) K
  |none=>False
 | (0,t)::r,ρ,H,wr,K=>
  match aVH H (ρ t)with
  |some (v,H',l)=>aD5 c r (upd ρ t v) H' (bE c.base wr l) K
  |none=>False
theorem aTC{H:LO}{v:AV}{r}(h:fix H v=Qr r):aMD H v=Qr r:=by unfold aMD;rw[h]
theorem aTD{H:LO}{v:AV}{r}(h:aVH H v=Qr r):aMD H v=Qr r:=by
 unfold aVH at h;unfold aMD;cases hf:fix H v with
 |some x=>rw[hf]at h;exact h
 |none=>
  rw[hf]at h;dsimp only at h ⊢;split
  ·unfold aA3 at h;dsimp only at h;rw[hf]at h;cases h
  exact h
theorem qP{c:Ctx}:∀{ts:List (Nat×Nat)} {l:LA} {H:LO} {wr:LN} {K},aD5 c ts (ck l) H wr K->(ts.all fun p=>decide (p.2<l.length))=Qt ->∃s',nX c ⟨l,H,wr⟩ ts=Qr s'/\s'.ρ.length=l.length/\K (ck s'.ρ) s'.H s'.wr
 | [],l,H,wr,K,h,_=>⟨⟨l,H,wr⟩,rfl,rfl,h⟩
 | (k+1,t)::r,l,H,wr,K,h,hd=>by
  rw[ES,AI]at hd;unfold aD5 at h;have e:ck l t=(l[t]?).getD .undef:=rfl;rw[e]at h;split at h
  ·rename_i hc;obtain⟨s',h1,h2,h3⟩:=qP h hd.2;refine⟨s', ?_,h2,h3⟩;unfold nX;rw[Zy hc];exact h1
  rename_i hc;unfold aD4 at h;cases hk:pE H ((l[t]?).getD .undef)with
  |some x=>rw[hk]at h;obtain⟨s',h1,h2,h3⟩:=qP h hd.2;refine⟨s', ?_,h2,h3⟩;unfold nX;rw[Zx hc];dsimp only;rw[hk];exact h1
  |none=>
   rw[hk]at h;dsimp only at h;cases hr:bC H (k+1) ((l[t]?).getD .undef)with
   |none=>rw[hr]at h;exact h.elim
   |some cs=>
    rw[hr]at h;dsimp only at h;cases hf:fix H (.agg cs)with
    |none=>rw[hf]at h;exact h.elim
    |some x=>
     obtain⟨v,H',l1⟩:=x;rw[hf]at h;cases v<;>try exact h.elim
     rename_i cs';dsimp only at h;cases hs:storeCells H' cs' ((l[t]?).getD .undef)with
     |none=>rw[hs]at h;exact h.elim
     |some y=>rw[hs]at h;obtain⟨s',h1,h2,h3⟩:=qP h hd.2;refine⟨s', ?_,h2,h3⟩;unfold nX;rw[Zx hc];dsimp only;rw[hk];dsimp only;rw[hr];dsimp only;rw[aTC hf];dsimp only;rw[hs];exact h1
 | (0,t)::r,l,H,wr,K,h,hd=>by
  rw[ES,AI]at hd;unfold aD5 at h;have e:ck l t=(l[t]?).getD .undef:=rfl;rw[e]at h;split at h
  ·rename_i v H' l1 hf;have ht:t<l.length:=by simpa using hd.1
   rw[<- nG ht]at h;obtain⟨s',h1,h2,h3⟩:=qP h (by simpa using hd.2);refine⟨s', ?_,by rw[h2];simp,h3⟩;unfold nX;dsimp only;rw[aTD hf];exact h1
  exact h.elim
def aBH(c:Ctx)(ops:List ae):LN:=
 let z:=ops.zipIdx
 z.filterMap fun(o,i)=>if z.all fun(p,j)=>if i<j then aG4 c [] o i p j else if j<i then aG4 c [] p j o i else Qt then Qs else Qr i
def wpc(A:af)(N:Nat)(c:Ctx):ag->bN->LO->LN->(bf->bN->LO->LN->Prop)->Prop
 |.skip,ρ,H,wr,Q=>Q .normal ρ H wr
 |.bad,_,_,_,_=>False
 |.region Qu ops,ρ,H,wr,Q=>aD3 (aG A) c ops ρ H wr (Q .normal)
 |.region Qt ops,ρ,H,wr,Q=>match cS c H ops with
  |some H0=>wpD (aG A) c (aBH c ops) 0 ops ρ H0 wr fun ρ H wr log=>eH (fun j=>((ops[j]?).map ae.pre).getD []) log=Qt/\Q .normal ρ H wr
  |none=>False
 |.seq a b,ρ,H,wr,Q=>wpc A N c a ρ H wr fun e ρ H wr=>match e with
  |.normal=>wpc A N c b ρ H wr Q
  |e=>Q e ρ H wr
 |.cond t a b,ρ,H,wr,Q=>match t.at ρ with
  |.bool Qt=>wpc A N c a ρ H wr Q
  |.bool Qu=>wpc A N c b ρ H wr Q
  |_=>False
 |.block id b,ρ,H,wr,Q=>wpc A N c b ρ H wr fun e ρ H wr=>match e with
  |.exit id'=>if id'=id then Q .normal ρ H wr else Q (.exit id') ρ H wr
  |e=>Q e ρ H wr
 |.loop b,ρ,H,wr,Q=>Wp A N c (.loop b) ρ H wr Q
 |.exit id,ρ,H,wr,Q=>Q (.exit id) ρ H wr
 |.ret,ρ,H,wr,Q=>Q .ret ρ H wr
 |.frz ts,ρ,H,wr,Q=>aD5 c ts ρ H wr (Q .normal)
 |.dz x ps b,ρ,H,wr,Q=>Wp A N c (.dz x ps b) ρ H wr Q
def dK(N:Nat)(c:Ctx):ag->Bool
 |.region d ops=>ops.all (aP4 N)&&(!d || (aOK ops&&aCd c (aBH c ops) 0 ops))
 |.seq a b=>dK N c a&&dK N c b
 |.cond _ a b=>dK N c a&&dK N c b
 |.block _ b=>dK N c b
 |.loop b=>dK N c b
 |.frz ts=>ts.all fun p=>decide (p.2<N)
 |_=>Qt
theorem kM{N:Nat}{c:Ctx}:∀{x:ag} {ρ:bN} {H:LO} {wr:LN} {Q},wpc A N c x ρ H wr Q->dK N c x=Qt->Wp A N c x ρ H wr Q
 |.skip,ρ,H,wr,Q,h,_=>fun l hl he=>⟨1,.normal,⟨l,H,wr⟩,rfl,hl,by rw[wpc]at h;subst he;exact h⟩
 |.bad,_,_,_,_,h,_=>by rw[wpc]at h;exact h.elim
 |.region Qu ops,ρ,H,wr,Q,h,hok=>fun l hl he=>by
  subst he;rw[wpc]at h;simp only[dK,AI]at hok;obtain⟨n,s',h1,h2,h3⟩:=aCe h (by rw[hl];exact hok.1);refine⟨n+1,.normal,s', ?_,by rw[h2,hl],h3⟩;rw[iS];have:iO (dD A n) c Qu ops ⟨l,H,wr⟩=Qr s':=h1;rw[this]
 |.region Qt ops,ρ,H,wr,Q,h,hok=>fun l hl he=>by
  subst he;rw[wpc]at h;simp only[dK,AI,BT,Bool.false_or]at hok;split at h
  ·rename_i H0 hp;obtain⟨n,s',log,h1,h2,h3,h4,h5⟩:=aG5 h (by rw[hl];exact hok.1);refine⟨n+1,.normal,s', ?_,by rw[h2,hl],h5⟩;rw[iS];have zg:=xE h3 hok.2.2 (fun p hp=>hp) h4;have:iO (dD A n) c Qt ops ⟨l,H,wr⟩=Qr s':=by
    unfold iO;simp only[BR,hok.2.1,Zv];rw[hp];dsimp only;rw[h1];dsimp only;rw[Zy zg]
   rw[this]
  exact h.elim
 |.seq a b,ρ,H,wr,Q,h,hok=>fun l hl he=>by
  rw[wpc]at h;simp only[dK,AI]at hok;obtain⟨n,e,s',h1,h2,h3⟩:=kM h hok.1 l hl he;by_cases hn:e=.normal
  ·subst hn;obtain⟨m,e',s'',g1,g2,g3⟩:=kM h3 hok.2 s'.ρ h2 rfl;refine⟨max n m+1,e',s'', ?_,g2,g3⟩;rw[iD,eJ (GJ n m) _ _ _ _ h1];exact eJ (GC n m) _ _ _ _ g1
  refine⟨n+1,e,s', ?_,h2, ?_⟩
  ·rw[iD,h1];cases e<;>first | rfl | exact Zw rfl hn
  cases e<;>first | exact h3 | exact Zw rfl hn
 |.cond t a b,ρ,H,wr,Q,h,hok=>fun l hl he=>by
  rw[wpc]at h;simp only[dK,AI]at hok;have ht:t.ev l=t.at ρ:=by rw[<- he];exact t.ka l
  split at h
  ·rename_i hb;obtain⟨n,e,s',h1,h2⟩:=kM h hok.1 l hl he;exact⟨n+1,e,s',by rw[iT];dsimp only;rw[ht,hb];exact h1,h2⟩
  ·rename_i hb;obtain⟨n,e,s',h1,h2⟩:=kM h hok.2 l hl he;exact⟨n+1,e,s',by rw[iT];dsimp only;rw[ht,hb];exact h1,h2⟩
  exact h.elim
 |.block id b,ρ,H,wr,Q,h,hok=>fun l hl he=>by
  rw[wpc]at h;simp only[dK]at hok;obtain⟨n,e,s',h1,h2,h3⟩:=kM h hok l hl he;cases e with
  |normal=>exact⟨n+1,.normal,s',by rw[eP,h1],h2,h3⟩
  |ret=>exact⟨n+1,.ret,s',by rw[eP,h1],h2,h3⟩
  |exit id'=>
   dsimp only at h3;split at h3
   ·rename_i hid;exact⟨n+1,.normal,s',by rw[eP,h1];dsimp only;rw[Zy hid],h2,h3⟩
   rename_i hid;exact⟨n+1,.exit id',s',by rw[eP,h1];dsimp only;rw[Zx hid],h2,h3⟩
 |.loop b,ρ,H,wr,Q,h,_=>by rw[wpc]at h;exact h
 |.dz x ps b,ρ,H,wr,Q,h,_=>by rw[wpc]at h;exact h
 |.exit id,ρ,H,wr,Q,h,_=>fun l hl he=>⟨1,.exit id,⟨l,H,wr⟩,rfl,hl,by rw[wpc]at h;subst he;exact h⟩
 |.ret,ρ,H,wr,Q,h,_=>fun l hl he=>⟨1,.ret,⟨l,H,wr⟩,rfl,hl,by rw[wpc]at h;subst he;exact h⟩
 |.frz ts,ρ,H,wr,Q,h,hok=>fun l hl he=>by
  rw[wpc]at h;subst he;obtain⟨s',h1,h2,h3⟩:=qP h (by rw[hl];exact hok);exact⟨1,.normal,s',by rw[vI,h1],by rw[h2,hl],h3⟩
theorem Wp.mono{N:Nat}{c:Ctx}{x:ag}{ρ:bN}{H:LO}{wr:LN}{Q Q'}(hk:∀e ρ H wr,Q e ρ H wr->Q' e ρ H wr)(h:Wp A N c x ρ H wr Q):Wp A N c x ρ H wr Q':=fun l hl he=>by
 obtain⟨n,e,s',h1,h2,h3⟩:=h l hl he;exact⟨n,e,s',h1,h2,hk _ _ _ _ h3⟩
def aNP(H:LO)(ρ:bN):ou->Option AV
 |.tmp t=>Qr (ρ t)
 |.cell t k agg=>match bC H k (ρ t)with
  |some cs=>eD agg cs
  |none=>Qs
def aEP(H:LO)(ρ:bN):List ou->Option LA
 | []=>Qr []
 |r::rs=>match aNP H ρ r with
  |none=>Qs
  |some v=>match aEP H ρ rs with
   |none=>Qs
   |some vs=>Qr (v::vs)
theorem aJ6(H:LO)(l:LA):∀rs,aIS H l rs=aEP H (ck l) rs
 | []=>rfl
 |r::rs=>by
  unfold aIS aEP;have:aYq H l r=aNP H (ck l) r:=by cases r<;>rfl
  rw[this,aJ6 H l rs];rfl
def iE(base:Nat)(rs:List ou)(ρ:bN)(H:LO)(wr:LN):Out:=
 match aEP H ρ rs with
 |none=>Qs
 |some [v]=>match aDR base H v with
  |some (v',H',l)=>Qr (v',H',bE base wr l)
  |none=>Qs
 |some vs=>match aBv H vs with
  |some (vs',H',l)=>Qr (.tup vs',H',bE base wr l)
  |none=>Qs
def aVI(base:Nat)(rs:List ou)(K:AV->LO->LN->Prop):bf->bN->LO->LN->Prop
 |.exit _,_,_,_=>False
 |_,ρ,H,wr=>match iE base rs ρ H wr with
  |some r=>K (cJ base r).1 (cJ base r).2.1 (cJ base r).2.2
  |none=>False
def pO(args:LA):bN:=fun t=>(args[t]?).getD .undef
theorem aE0(args:LA)(k:Nat):ck (args++AX k .undef)=pO args:=by
 funext t;unfold ck pO;by_cases h:t<args.length
 ·rw[BM h]
 rw[BU (by omega),CY (by omega:args.length<=t),IN];split<;>rfl
theorem aE1{f:Nat}{args:LA}{H:LO}{fn:bw}{K:AV->LO->LN->Prop}(hf:A.fn f=Qr fn)(hp:(A.bq f).bind (· args H)=Qs) (hN:args.length<=fn.ntmps) (hok:dK fn.ntmps ⟨H.length,fn.sites⟩ fn.body=Qt) (h:wpc A fn.ntmps ⟨H.length,fn.sites⟩ fn.body (pO args) (H++AX fn.sites.length (.gone 0)) [] (aVI H.length fn.results K)):∃v H' wr,aG A f args H=Qr (v,H',wr)/\K v H' wr:=by
 obtain⟨n,e,s',h1,h2,h3⟩:=kM h hok (args++AX (fn.ntmps - args.length) .undef) (by simp;omega) (aE0 _ _);have key:∀r,iE H.length fn.results (ck s'.ρ) s'.H s'.wr=Qr r->aA4 H.length fn s'=Qr r:=by intro r hr;unfold iE at hr;unfold aA4;rw[aJ6];exact hr
 cases e with
 |exit id=>exact h3.elim
 |normal=>
  unfold aVI at h3;dsimp only at h3;split at h3
  ·rename_i r hr;exact⟨_,_,_,oL (oU hp hf h1 (.inl rfl) (key _ hr) hN),h3⟩
  exact h3.elim
 |ret=>
  unfold aVI at h3;dsimp only at h3;split at h3
  ·rename_i r hr;exact⟨_,_,_,oL (oU hp hf h1 (.inr rfl) (key _ hr) hN),h3⟩
  exact h3.elim
end
def aWE(x:aa)(H:LO)(ρ:bN):Option AV:=Qr (x.at ρ)
def aTE(c:aa)(a:aa)(b:aa)(H:LO)(ρ:bN):Option AV:=match c.at ρ with
  |.bool t=>Qr (if t then a.at ρ else b.at ρ)
  |_=>Qs
def aRd(zs:LA)(H:LO)(ρ:bN):Option AV:=if zs.all AV.still then Qr (.ep (zs.map AV.aj) 0)else Qs
def aWF(k:Nat)(x:aa)(H:LO)(ρ:bN):Option AV:=
  let vs:=(x.at ρ).strip.cells
  if vs.length=k/\vs.all AV.still then Qr (.ep vs 0)else Qs
def aRe(zs:LA)(parts:List (Nat×Nat×aa))(H:LO)(ρ:bN):Option AV:=(mK ρ zs parts).map .agg
def aWG(k:Nat)(zs:LA)(n:Nat)(parts:List (Nat×aa))(H:LO)(ρ:bN):Option AV:=(nZ ρ k (AX n zs) parts).map (.sl Qt)
def aWH(u0:Nat)(bytes:Nat)(zs:LA)(len:aa)(cap:aa)(H:LO)(ρ:bN):Option AV:=match len.at ρ,cap.at ρ with
  |.int _ n,.int _ c=>if 0<=n/\n=c/\bP n.toNat bytes then Qr (.sl Qt (AX n.toNat (zs.map AV.aj)))else Qs
  |_,_=>Qs
def aTF(k:Nat)(agg:Bool)(x:aa)(H:LO)(ρ:bN):Option AV:=match bC H k (x.at ρ)with
  |some cs=>eD agg cs
  |none=>Qs
def aRf(x:aa)(H:LO)(ρ:bN):Option AV:=match x.at ρ with
  |.ptr o v off=>Qr (.ptr o v off)
  |.vp o v n k i off=>Qr (.vp o v n k i off)
  |.ep row off=>Qr (.ep row off)
  |.fn f a b=>Qr (.fn f a b)
  |_=>Qs
def aRg(neg:Bool)(x:aa)(H:LO)(ρ:bN):Option AV:=match x.at ρ with
  |.sl _ (_::_) | .sr ..=>Qr (.bool neg)
  |.ar=>Qr (.bool !neg)
  |_=>Qs
def aWI(op:BinOp)(ek:vd)(x:aa)(y:aa)(H:LO)(ρ:bN):Option AV:=kJ op ek (x.at ρ) (y.at ρ)
def bA3(op:UnOp)(x:aa)(H:LO)(ρ:bN):Option AV:=unV op (x.at ρ)
def aTG(c:tm)(x:aa)(H:LO)(ρ:bN):Option AV:=pT H c (x.at ρ)
def aWJ(f:Nat)(first:List aa)(ay:List aa)(H:LO)(ρ:bN):Option AV:=if (first.map (aa.at ρ)).all AV.still&&(ay.map (aa.at ρ)).all AV.still then Qr (.fn f (first.map fun x=>(x.at ρ).aj) (ay.map fun x=>(x.at ρ).aj))else Qs
def aP7(x:aa)(lo:Option aa)(hi:Option aa)(H:LO)(ρ:bN):Option AV:=match x.at ρ with
  |.str s=>match dU s.length (lo.map (aa.at ρ)) (hi.map (aa.at ρ)) Qs with
   |some (l,h,_)=>Qr (.str ((s.take h).drop l))
   |none=>Qs
  |_=>Qs
def aP8(k:Nat)(x:aa)(lo:Option aa)(hi:Option aa)(mx:Option aa)(H:LO)(ρ:bN):Option AV:=match x.at ρ with
  |.sl full rows=>match dU rows.length (lo.map (aa.at ρ)) (hi.map (aa.at ρ)) (mx.map (aa.at ρ))with
   |some (l,h,m)=>if dF k rows&&(!mx.isSome || hi.isSome)then Qr (.sl (decide (m=h)&&(mx.isSome || full)) ((rows.take h).drop l))else Qs
   |none=>Qs
  |.sr o v n=>if mx.isSome then Qs else match dU n (lo.map (aa.at ρ)) (hi.map (aa.at ρ)) Qs with
   |some (l,h,_)=>if hi.isSome&&decide (l=0)then Qr (.srw o v n h)else if h=n then Qr (.srv o v n k l)else Qs
   |none=>Qs
  |_=>Qs
def aTH(k:Nat)(x:aa)(lo:Option aa)(H:LO)(ρ:bN):Option AV:=match x.at ρ with
  |.sl full rows=>match dU rows.length (lo.map (aa.at ρ)) Qs Qs with
   |some (l,h,m)=>if dF k rows then Qr (.sl (decide (m=h)&&full) ((rows.take h).drop l))else Qs
   |none=>Qs
  |.sr o v n=>match H[o]? with
   |some (.vec v' _ rows)=>if v'=v/\rows.length=n then match iL 0 n (lo.map (aa.at ρ))with
     |some l=>Qr (.srv o v n k l)
     |none=>Qs
    else Qs
   |_=>Qs
  |_=>Qs
def aP9(n:Nat)(k:Nat)(x:aa)(lo:Option aa)(hi:Option aa)(mx:Option aa)(H:LO)(ρ:bN):Option AV:=match x.at ρ with
  |.ep row off=>if off+n*k<=row.length then
    let rows:=aFH k n (row.drop off)
    match dU n (lo.map (aa.at ρ)) (hi.map (aa.at ρ)) (mx.map (aa.at ρ))with
    |some (l,h,m)=>if !mx.isSome || hi.isSome then Qr (.sl (decide (m=h)) ((rows.take h).drop l))else Qs
    |none=>Qs
   else Qs
  |_=>Qs
def bA4(off:Nat)(x:aa)(H:LO)(ρ:bN):Option AV:=match x.at ρ with
  |.ptr o v off0=>Qr (.ptr o v (off0+off))
  |.vp o v n k i off0=>Qr (.vp o v n k i (off0+off))
  |.ep row off0=>Qr (.ep row (off0+off))
  |_=>Qs
def aWK(off:Nat)(k:Nat)(agg:Bool)(x:aa)(H:LO)(ρ:bN):Option AV:=match x.at ρ with
  |.agg cs=>if off+k<=cs.length then eD agg ((cs.drop off).take k)else Qs
  |_=>Qs
def aWL(x:aa)(i:aa)(k:Nat)(H:LO)(ρ:bN):Option AV:=match x.at ρ,i.at ρ with
  |.sl _ rows,.int _ n=>if 0<=n then match rows[n.toNat]? with
    |some row=>if row.length=k then Qr (.ep row 0)else Qs
    |none=>Qs
   else Qs
  |.sr o v len,.int _ n=>if 0<=n/\n<len then Qr (.vp o v len k n.toNat 0)else Qs
  |_,_=>Qs
def aWM(len:Nat)(k:Nat)(x:aa)(i:aa)(H:LO)(ρ:bN):Option AV:=match x.at ρ,i.at ρ with
  |.ptr o v off,.int _ n=>if 0<=n/\n<len then Qr (.ptr o v (off+n.toNat*k))else Qs
  |.ep row off,.int _ n=>if 0<=n/\n<len then Qr (.ep row (off+n.toNat*k))else Qs
  |_,_=>Qs
def aWN(x:aa)(i:aa)(H:LO)(ρ:bN):Option AV:=match x.at ρ,i.at ρ with
  |.str s,.int _ n=>if 0<=n then match s[n.toNat]? with
    |some b=>Qr (.int .u8 b.toNat)
    |none=>Qs
   else Qs
  |_,_=>Qs
def aWO(len:Nat)(k:Nat)(agg:Bool)(x:aa)(i:aa)(H:LO)(ρ:bN):Option AV:=match x.at ρ,i.at ρ with
  |.agg cs,.int _ n=>if 0<=n/\n<len/\n.toNat*k+k<=cs.length then eD agg ((cs.drop (n.toNat*k)).take k)else Qs
  |_,_=>Qs
def aTI(x:aa)(H:LO)(ρ:bN):Option AV:=match x.at ρ with
  |.str s=>Qr (.int .i64 s.length)
  |_=>Qs
def aTJ(x:aa)(H:LO)(ρ:bN):Option AV:=match x.at ρ with
  |.sl _ rows=>Qr (.int .i64 rows.length)
  |.sr _ _ n=>Qr (.int .i64 n)
  |.ar=>Qr (.int .i64 0)
  |_=>Qs
def aTK(n:Nat)(H:LO)(ρ:bN):Option AV:=Qr (.int .i64 n)
def bA5(mx:Bool)(xs:List aa)(H:LO)(ρ:bN):Option AV:=mmV mx (xs.map (aa.at ρ))
def aWP(i:Nat)(x:aa)(H:LO)(ρ:bN):Option AV:=match x.at ρ with
  |.tup vs=>vs[i]?
  |_=>Qs
def aRh(t:Nat)(x:aa)(H:LO)(ρ:bN):Option AV:=if (x.at ρ).tn then Qr (.ifc t (x.at ρ))else Qs
def aTL(zero:AV)(m:aa)(k:aa)(ok:Bool)(H:LO)(ρ:bN):Option AV:=match m.at ρ with
  |.mp o v=>match H[o]? with
   |some (.map v' es)=>if v'=v then
     match iB (k.at ρ) es 0 with
     |some (Qr (_,x))=>if ok then Qr (.tup [x,.bool Qt])else Qr x
     |some Qs=>if ok then Qr (.tup [zero,.bool Qu])else Qr zero
     |none=>Qs
    else Qs
   |_=>Qs
  |.fmp ks vs=>match iB (k.at ρ) (ks.zip vs) 0 with
   |some (Qr (_,x))=>if ok then Qr (.tup [x,.bool Qt])else Qr x
   |some Qs=>if ok then Qr (.tup [zero,.bool Qu])else Qr zero
   |none=>Qs
  |_=>Qs
def rOp:df->LO->bN->Option AV:=fun op=>match op with
 |.mov a0=>aWE a0
 |.pick a0 a1 a2=>aTE a0 a1 a2
 |.alloc a0=>aRd a0
 |.box a0 a1=>aWF a0 a1
 |.build a0 a1=>aRe a0 a1
 |.bsl a0 a1 a2 a3=>aWG a0 a1 a2 a3
 |.mks a0 a1 a2 a3 a4=>aWH a0 a1 a2 a3 a4
 |.load a0 a1 a2=>aTF a0 a1 a2
 |.cz a0=>aRf a0
 |.ky a0 a1=>aRg a0 a1
 |.bin a0 a1 a2 a3=>aWI a0 a1 a2 a3
 |.un a0 a1=>bA3 a0 a1
 |.conv a0 a1=>aTG a0 a1
 |.mkf a0 a1 a2=>aWJ a0 a1 a2
 |.fm a0 a1 a2=>aP7 a0 a1 a2
 |.gw a0 a1 a2 a3 a4=>aP8 a0 a1 a2 a3 a4
 |.view a0 a1 a2=>aTH a0 a1 a2
 |.na a0 a1 a2 a3 a4 a5=>aP9 a0 a1 a2 a3 a4 a5
 |.fa a0 a1=>bA4 a0 a1
 |.fld a0 a1 a2 a3=>aWK a0 a1 a2 a3
 |.iaV a0 a1 a2=>aWL a0 a1 a2
 |.iaA a0 a1 a2 a3=>aWM a0 a1 a2 a3
 |.ixS a0 a1=>aWN a0 a1
 |.ixA a0 a1 a2 a3 a4=>aWO a0 a1 a2 a3 a4
 |.fg a0=>aTI a0
 |.qk a0=>aTJ a0
 |.zb a0=>aTK a0
 |.mm a0 a1=>bA5 a0 a1
 |.ext a0 a1=>aWP a0 a1
 |.km a0 a1=>aRh a0 a1
 |.look a0 a1 a2 a3=>aTL a0 a1 a2 a3
 |_=>fun _ _=>Qs
theorem aSP(op:df)(H:LO)(ρ:bN):rOp op H ρ=vA H ρ op:=by cases op<;>rfl
def aRi(zs:LA)(H:LO)(ρ:bN)(site:Option Nat):Out:=match site with
  |some id=>if id<H.length then Qr (.ptr id (bH H id) 0,make H id (.box · zs),[id])else Qs
  |none=>Qs
def aPa(ty:Nat)(zs:LA)(H:LO)(ρ:bN)(site:Option Nat):Out:=match site with
  |some id=>if id<H.length then Qr (.ptr id (bH H id) 0,make H id (.cw · ty zs),[id])else Qs
  |none=>Qs
def aWQ(k:Nat)(x:aa)(H:LO)(ρ:bN)(site:Option Nat):Out:=match site with
  |some id=>if id<H.length/\(x.at ρ).cells.length=k/\(x.at ρ).cells.all AV.ak then Qr (.ptr id (bH H id) 0,make H id (.box · (x.at ρ).cells),[id])else Qs
  |none=>Qs
def aWR(ty:Nat)(k:Nat)(x:aa)(H:LO)(ρ:bN)(site:Option Nat):Out:=match site with
  |some id=>if id<H.length/\(x.at ρ).cells.length=k/\(x.at ρ).cells.all AV.ak then Qr (.ptr id (bH H id) 0,make H id (.cw · ty (x.at ρ).cells),[id])else Qs
  |none=>Qs
def aRj(k:Nat)(x:aa)(v:aa)(H:LO)(ρ:bN)(site:Option Nat):Out:=if (v.at ρ).cells.length=k/\(v.at ρ).cells.all AV.ak then
   match storeCells H (v.at ρ).cells (x.at ρ)with
   |some (H',wr)=>Qr (.undef,H',wr)
   |none=>Qs
  else Qs
def aWS(k:Nat)(zs:LA)(n:Nat)(parts:List (Nat×aa))(H:LO)(ρ:bN)(site:Option Nat):Out:=match site with
  |some id=>match mM ρ k (AX n zs) parts with
   |some rows=>if id<H.length then Qr (.sr id (bH H id) n,make H id (.vec · k rows),[id])else Qs
   |none=>Qs
  |none=>match xC ρ k H (AX n zs) parts with
   |some (rows,H',wr)=>Qr (.sl Qt rows,H',wr)
   |none=>Qs
def aWT(k:Nat)(bytes:Nat)(zs:LA)(len:aa)(cap:aa)(H:LO)(ρ:bN)(site:Option Nat):Out:=match len.at ρ,cap.at ρ with
  |.int _ n,.int _ c=>
   if 0<=n/\n=c/\bP n.toNat bytes then
    match site with
    |some id=>if id<H.length then Qr (.sr id (bH H id) n.toNat,make H id (.vec · k (AX n.toNat (zs.map AV.aj))),[id])else Qs
    |none=>Qr (.sl Qt (AX n.toNat (zs.map AV.aj)),H,[])
   else match site with
    |some id=>if n=0/\0<c/\bP c.toNat bytes/\id<H.length then Qr (.sr id (bH H id) 0,make H id (.vec · k []),[id])else Qs
    |none=>Qs
  |_,_=>Qs
def aWU(k:Nat)(bytes:Nat)(s:aa)(x:aa)(H:LO)(ρ:bN)(site:Option Nat):Out:=eX H site k bytes (s.at ρ) (x.at ρ)
def aTM(ty:Nat)(k:Nat)(bytes:Nat)(s:aa)(x:aa)(H:LO)(ρ:bN)(site:Option Nat):Out:=vB H site ty k bytes (s.at ρ) (x.at ρ)
def aWV(k:Nat)(x:aa)(y:aa)(H:LO)(ρ:bN)(site:Option Nat):Out:=match x.at ρ with
  |.srv o v n k' lo=>match H[o]? with
   |some (.vec v' k2 rows)=>match cG H (y.at ρ)with
    |some new=>if new.isEmpty then Qr (.int .i64 0,H,[])else if v'=v/\rows.length=n/\k2=k/\k'=k/\dF k new/\lo+new.length<=n then
      Qr (.int .i64 (new.length:Nat),H.set o (.vec v k (rows.take lo++new++rows.drop (lo+new.length))),[o])
     else Qs
    |none=>Qs
   |_=>Qs
  |_=>Qs
def aRk (H:LO)(ρ:bN)(site:Option Nat):Out:=match site with
  |some id=>if id<H.length then Qr (.mp id (bH H id),make H id (.map · []),[id])else Qs
  |none=>Qs
def aWW(m:aa)(k:aa)(v:aa)(H:LO)(ρ:bN)(site:Option Nat):Out:=match m.at ρ,k.at ρ with
  |.mp o ver,key=>match H[o]? with
   |some (.map v' es)=>
    if v'=ver/\(aJK key key).isSome/\(v.at ρ).strip.cells.all AV.still then
     match iB key es 0 with
     |some (Qr (i,_))=>Qr (.undef,H.set o (.map ver (es.set i (key,(v.at ρ).strip))),[o])
     |some Qs=>Qr (.undef,H.set o (.map ver (es++[(key,(v.at ρ).strip)])),[o])
     |none=>Qs
    else Qs
   |_=>Qs
  |_,_=>Qs
def wOp:df->LO->bN->Option Nat->Out:=fun op=>match op with
 |.alloc a0=>aRi a0
 |.gv a0 a1=>aPa a0 a1
 |.box a0 a1=>aWQ a0 a1
 |.tbx a0 a1 a2=>aWR a0 a1 a2
 |.store a0 a1 a2=>aRj a0 a1 a2
 |.bsl a0 a1 a2 a3=>aWS a0 a1 a2 a3
 |.mks a0 a1 a2 a3 a4=>aWT a0 a1 a2 a3 a4
 |.app a0 a1 a2 a3=>aWU a0 a1 a2 a3
 |.ni a0 a1 a2 a3 a4=>aTM a0 a1 a2 a3 a4
 |.cpy a0 a1 a2=>aWV a0 a1 a2
 |.jn=>aRk
 |.ins a0 a1 a2=>aWW a0 a1 a2
 |_=>fun _ _ _=>Qs
theorem aRl{call:Nat->LA->LO->Out}{op:df}{H:LO}{ρ:bN}{site:Option Nat}{r}(h:wOp op H ρ site=Qr r):aD0 call H ρ site op=Qr r:=by cases op<;>first | exact h | (simp[wOp]at h;done)
inductive KT where
 |e
 |n (v:AV) (l r:KT)
def aIb:Nat->Nat->List Bool
 |0,_=>[]
 |k+1,t=>if t=0 then [] else EY (t % 2) 1::aIb k ((t - 1) / 2)
def aG6(t:Nat):List Bool:=aIb t t
noncomputable def aIc(p:List Bool):KT->AV:=
 IU (motive:=fun _=>KT->AV) (fun t=>KT.casesOn t .undef fun v _ _=>v) (fun b _ ih t=>KT.casesOn t .undef fun _ l r=>ih (MM r l b)) p
noncomputable def aTN(p:List Bool)(v:AV):KT->KT:=
 IU (motive:=fun _=>KT->KT) (fun t=>KT.casesOn t (.n v .e .e) fun _ l r=>.n v l r)
  (fun b _ ih t=>KT.casesOn t (MM (.n .undef .e (ih .e)) (.n .undef (ih .e) .e) b) fun x l r=>MM (.n x l (ih r)) (.n x (ih l) r) b) p
noncomputable def toF(t:KT):bN:=fun i=>aIc (aG6 i) t
noncomputable def aLF(d:Option Nat)(v:AV)(t:KT):KT:=match d with
 |none=>t
 |some d=>aTN (aG6 d) v t
theorem aMM:∀p,aIc p .e=.undef
 | []=>rfl
 |_::_=>rfl
theorem aKe(v:AV):∀(p q:List Bool) (t:KT),aIc p (aTN q v t)=if p=q then v else aIc p t
 | [],[],t=>by cases t<;>rfl
 |b::p,[],t=>by
  cases t with
  |e=>show aIc p (MM KT.e KT.e b)=_;cases b<;>simp[aMM]
  |n x l r=>simp;rfl
 | [],c::q,t=>by cases t<;>cases c<;>(simp;rfl)
 |b::p,c::q,t=>by
  have ih:=aKe v p q;cases t with
  |e=>cases b<;>cases c<;>first | (show aIc p (aTN q v .e)=_;rw[ih];by_cases h:p=q<;>simp[h,aMM]) | (show aIc p .e=_;simp[aMM])
  |n x l r=>cases b<;>cases c<;>first
   | (show aIc p (aTN q v r)=_;rw[ih];by_cases h:p=q<;>simp[h]<;>rfl)
   | (show aIc p (aTN q v l)=_;rw[ih];by_cases h:p=q<;>simp[h]<;>rfl)
   | (simp;rfl)
theorem xF:∀(k t:Nat),t<=k->aIb k t=aG6 t
 |0,t,h=>by
  have:t=0:=by omega
  subst this;rfl
 |k+1,t,h=>by
  cases t with
  |zero=>rfl
  |succ t=>show (if t+1=0 then [] else EY ((t+1) % 2) 1::aIb k (t / 2))=(if t+1=0 then [] else EY ((t+1) % 2) 1::aIb t (t / 2));rw[xF k (t / 2) (by omega),xF t (t / 2) (by omega)]
theorem vJ(t:Nat):aG6 (t+1)=EY ((t+1) % 2) 1::aG6 (t / 2):=by show (if t+1=0 then [] else EY ((t+1) % 2) 1::aIb t (t / 2))=_;rw[Zx (by omega),xF t (t / 2) (by omega)]
theorem aKf:∀(n s t:Nat),s<=n->aG6 s=aG6 t->s=t
 |0,s,t,hs,h=>by
  have:s=0:=by omega
  subst this;cases t with
  |zero=>rfl
  |succ t=>rw[vJ]at h;cases h
 |n+1,s,t,hs,h=>by
  cases s with
  |zero=>
   cases t with
   |zero=>rfl
   |succ t=>rw[vJ]at h;cases h
  |succ s=>
   cases t with
   |zero=>rw[vJ]at h;cases h
   |succ t=>
    rw[vJ,vJ]at h;injection h with h1 h2;have h3:=aKf n (s / 2) (t / 2) (by omega) h2;have h4:((s+1) % 2=1)↔((t+1) % 2=1):=by rw[<- NJ,<- NJ,h1]
    omega
theorem aBb(d:Option Nat)(v:AV)(t:KT):toF (aLF d v t)=zX (toF t) d v:=by
 cases d with
 |none=>rfl
 |some d=>
  funext i;show aIc (aG6 i) (aTN (aG6 d) v t)=if i=d then v else aIc (aG6 i) t
  rw[aKe];by_cases h:i=d
  ·rw[Zy h,Zy (by rw[h])]
  rw[Zx h,Zx fun hp=>h (aKf i i d (AQ _) hp)]
abbrev pV:=Nat->LA->LO->(AV->LO->LN->Bool)->Bool
def KOk(A:af)(K:pV):Prop:=∀f args H k,K f args H k=Qt->∃v H' wr,aG A f args H=Qr (v,H',wr)/\k v H' wr=Qt
def aSQ(H:LO)(site:Option Nat)(quiet:Bool)(v:AV)(H':LO)(wr:LN):Out:=
 if quiet then
  match v with
  |.own k rows=>
   match site with
   |some id=>if id<H'.length then Qr (.sr id (bH H' id) rows.length,make H' id (.vec · k rows),if wr.contains id then wr else id::wr)else Qs
   |none=>Qr (.sl Qu rows,H',wr)
  |v=>Qr (v,H',wr)
 else if wr.isEmpty&&decide (H'.length=H.length)&&v.atomic then Qr (v,H,[])else Qs
noncomputable def aFz{α:Type}(o:Option α)(k:α->Bool):Bool:=JA Qu k o
theorem fX{α:Type}{o:Option α}{k:α->Bool}(h:aFz o k=Qt):∃a,o=Qr a/\k a=true:=by
 cases o with
 |none=>cases h
 |some a=>exact⟨a,rfl,h⟩
noncomputable def aMN(K:pV)(H:LO)(site:Option Nat)(f:AV)(args:LA)(k:AV->LO->LN->Bool):Bool:=
 match f with
 |.fn f first ay=>aFz (kA H (first++args++ay)) fun p=>K f (p.1.map AV.strip) (dL H p.2) fun v H' wr=>aFz (aSQ H site p.2.isEmpty v H' wr) fun r=>k r.1 r.2.1 r.2.2
 |.yld o v=>aFz (kA H args) fun p=>K YF (.own 0 []::.yld o v::p.1.map AV.strip) (dL H p.2) fun b H' wr=>bif p.2.isEmpty&&b.atomic then k b H' wr else Qu
 |_=>Qu
theorem aEQ{A:af}{K:pV}(hK:KOk A K){H:LO}{site:Option Nat}{f:AV}{args:LA}{k}(h:aMN K H site f args k=Qt):∃r,cX (aG A) H site f args=Qr r/\k r.1 r.2.1 r.2.2=true:=by
 unfold aMN at h;split at h
 ·rename_i f first ay
  obtain⟨p,h1,h2⟩:=fX h;obtain⟨v,H',wr,h3,h4⟩:=hK _ _ _ _ h2;obtain⟨r,h5,h6⟩:=fX h4;refine⟨r, ?_,h6⟩;obtain⟨args',lent⟩:=p;simp only[cX,h1];simp only at h3;rw[h3];exact h5
 ·rename_i o v;obtain⟨p,h1,h2⟩:=fX h;obtain⟨b,H',wr,h3,h4⟩:=hK _ _ _ _ h2;obtain⟨args',lent⟩:=p;cases hc:lent.isEmpty&&b.atomic with
  |false=>simp only[hc,cond_false]at h4;cases h4
  |true=>simp only[hc,cond_true]at h4;refine⟨(b,H',wr), ?_,h4⟩;simp only[cX,h1];simp only at h3;rw[h3];dsimp only;rw[Zy hc]
 cases h
noncomputable def aPb(K:pV)(H:LO)(site:Option Nat)(f:AV)(args:LA)(k:AV->LO->LN->Bool):Bool:=
 match f with
 |.fn f first ay=>K f (first++args++ay) H fun v H' wr=>aFz (aSQ H site Qt v H' wr) fun r=>k r.1 r.2.1 r.2.2
 |_=>Qu
theorem aKg{A:af}{K:pV}(hK:KOk A K){H:LO}{site:Option Nat}{f:AV}{args:LA}{k}(h:aPb K H site f args k=Qt):∃r,iN (aG A) H site f args=Qr r/\k r.1 r.2.1 r.2.2=true:=by
 unfold aPb at h;split at h
 ·rename_i f first ay
  obtain⟨v,H',wr,h3,h4⟩:=hK _ _ _ _ h;obtain⟨r,h5,h6⟩:=fX h4;refine⟨r, ?_,h6⟩;simp only[iN];rw[h3];exact h5
 cases h
def aTO:df->Bool
 |.alloc _ | .gv .. | .box .. | .tbx .. | .bsl .. | .mks .. | .store .. | .app .. | .ni .. | .dm .. | .ee .. | .nb .. | .cpy .. | .jn | .ins ..=>Qt
 |_=>Qu
noncomputable def aMO(K:pV)(site:Option Nat)(inDraw:Bool)(op:df)(H:LO)(ρ:bN)(k:AV->LO->LN->Bool):Bool:=
 match op with
 |.dm f xs=>aMN K H site (f.at ρ) (xs.map (aa.at ρ)) k
 |.ee f xs=>aPb K H site (f.at ρ) (xs.map (aa.at ρ)) k
 |.nb tab x xs=>match x.at ρ with
  |.ifc t v=>aFz (tab.lookup t) fun f=>aMN K H site (.fn f [v] []) (xs.map (aa.at ρ)) k
  |_=>Qu
 |op=>if isW site inDraw op then aFz (wOp op H ρ site) fun r=>k r.1 r.2.1 r.2.2 else Qu
noncomputable def aRm(K:pV)(c:Ctx)(o:ae)(tr:KT)(H:LO)(k:AV->LO->LN->Bool):Bool:=
 bif aTO o.op then
  (bif isW (c.site o.dst) Qu o.op then aMO K (c.site o.dst) Qu o.op H (toF tr) k else aFz (rOp o.op H (toF tr)) fun v=>k v H [])
 else aFz (rOp o.op H (toF tr)) fun v=>k v H []
theorem aMP{site:Option Nat}{d:Bool}{op:df}(h:aTO op=Qu):isW site d op=false:=by cases op<;>first | rfl | (cases h)
theorem aER{A:af}{K:pV}(hK:KOk A K){site:Option Nat}{d:Bool}{op:df}{H:LO}{ρ:bN}{k}(h:aMO K site d op H ρ k=Qt):isW site d op=Qt/\∃r,aD0 (aG A) H ρ site op=Qr r/\k r.1 r.2.1 r.2.2=true:=by
 unfold aMO at h;split at h
 ·obtain⟨r,h1,h2⟩:=aEQ hK h;exact⟨rfl,r,h1,h2⟩
 ·obtain⟨r,h1,h2⟩:=aKg hK h;exact⟨rfl,r,h1,h2⟩
 ·rename_i tab x xs;split at h
  ·rename_i t v hx;obtain⟨f,h0,h⟩:=fX h;obtain⟨r,h1,h2⟩:=aEQ hK h;refine⟨rfl,r, ?_,h2⟩;simp only[aD0,hx,h0];exact h1
  cases h
 split at h
 ·rename_i hw;obtain⟨r,h1,h2⟩:=fX h;exact⟨hw,r,aRl h1,h2⟩
 cases h
theorem aLG{A:af}{K:pV}(hK:KOk A K){c:Ctx}{o:ae}{tr:KT}{H:LO}{k}(h:aRm K c o tr H k=Qt):∃r,nB (aG A) (c.site o.dst) Qu (toF tr) H o.op=Qr r/\k r.1 r.2.1 r.2.2=true:=by
 have viaR:isW (c.site o.dst) Qu o.op=Qu->aFz (rOp o.op H (toF tr)) (fun v=>k v H [])=Qt->∃r,nB (aG A) (c.site o.dst) Qu (toF tr) H o.op=Qr r/\k r.1 r.2.1 r.2.2=true:=by intro hw h;obtain⟨v,h1,h2⟩:=fX h;rw[aSP]at h1;refine⟨(v,H,[]), ?_,h2⟩;unfold nB;rw[Zx (by rw[hw];simp),h1]
 unfold aRm at h;cases hm:aTO o.op with
 |false=>rw[hm]at h;exact viaR (aMP hm) h
 |true=>
  rw[hm]at h;simp only[cond_true]at h;cases hw:isW (c.site o.dst) Qu o.op with
  |false=>rw[hw]at h;exact viaR hw h
  |true=>rw[hw]at h;simp only[cond_true]at h;obtain⟨_,r,h1,h2⟩:=aER hK h;refine⟨r, ?_,h2⟩;unfold nB;rw[Zy hw];exact h1
abbrev KQ:=KT->LO->LN->Bool
noncomputable def aId(g:Option (Option Nat×Bool))(ρ:bN)(a b:Bool):Bool:=match g with
 |none=>a
 |some (Qr t,want)=>match ρ t with
  |.bool x=>bif x==want then a else b
  |.tup []=>b
  |_=>Qu
 |some (Qs,_)=>Qu
theorem aG7{g:Option (Option Nat×Bool)}{ρ:bN}{a b:Bool}(h:aId g ρ a b=Qt):(zE ρ g=Qr Qt/\a=Qt)∨(zE ρ g=Qr Qu/\b=Qt):=by
 unfold aId at h;unfold zE;split at h
 ·exact .inl ⟨rfl,h⟩
 ·rename_i t want;split at h
  ·rename_i x hx;simp only[hx];cases hw:x==want with
   |true=>rw[hw]at h;exact .inl ⟨rfl,h⟩
   |false=>rw[hw]at h;exact .inr ⟨rfl,h⟩
  ·rename_i hx;simp only[hx];exact .inr ⟨trivial,h⟩
  cases h
 cases h
noncomputable def aYt(K:pV)(c:Ctx)(ops:List ae):KT->LO->LN->KQ->Bool:=
 IU (motive:=fun _=>KT->LO->LN->KQ->Bool) (fun tr H wr k=>k tr H wr)
  (fun o _ ih tr H wr k=>aId o.guard (toF tr) (aRm K c o tr H fun v H' w=>ih (aLF o.dst v tr) H' (bE c.base wr w) k) (ih (aLF o.dst (.tup []) tr) H wr k)) ops
theorem aE2{A:af}{K:pV}(hK:KOk A K){c:Ctx}:∀(ops:List ae) {tr:KT} {H:LO} {wr:LN} {k:KQ},aYt K c ops tr H wr k=Qt ->aD3 (aG A) c ops (toF tr) H wr fun ρ H wr=>∃tr,ρ=toF tr/\k tr H wr=Qt
 | [],tr,H,wr,k,h=>⟨tr,rfl,h⟩
 |o::ops,tr,H,wr,k,h=>by
  have h':aId o.guard (toF tr) (aRm K c o tr H fun v H' w=>aYt K c ops (aLF o.dst v tr) H' (bE c.base wr w) k) (aYt K c ops (aLF o.dst (.tup []) tr) H wr k)=true:=h;unfold aD3;rcases aG7 h' with⟨h1,h2⟩ | ⟨h1,h2⟩
  ·rw[h1];obtain⟨r,h3,h4⟩:=aLG hK h2;dsimp only;rw[h3];dsimp only;rw[<- aBb];exact aE2 hK ops h4
  rw[h1];dsimp only;rw[<- aBb];exact aE2 hK ops h2
abbrev KL:=KT->LO->LN->Log->Bool
noncomputable def aMQ(K:pV)(c:Ctx)(o:ae)(tr:KT)(H:LO)(k:AV->LO->LN->Option LN->Bool):Bool:=
 match o.op,c.site o.dst with
 |.alloc _,Qr id=>k (.ptr id ((H[id]?).elim 0 ah.ver) 0) H [id] Qs
 |op,site=>bif aTO op&&isW site Qt op then aMO K site Qt op H (toF tr) fun v H' w=>EY H'.length H.length&&k v H' [] (Qr w)
  else aFz (rOp op H (toF tr)) fun v=>k v H (aCc (toF tr) op) Qs
theorem aKh{A:af}{K:pV}(hK:KOk A K){c:Ctx}{o:ae}{tr:KT}{H:LO}{k}(h:aMQ K c o tr H k=Qt):∃r,oB (aG A) (c.site o.dst) (toF tr) H o.op=Qr r/\k r.1 r.2.1 r.2.2.1 r.2.2.2=true:=by
 unfold aMQ at h;unfold oB;generalize o.op=op at h ⊢;generalize c.site o.dst=site at h ⊢;split at h
 ·exact⟨_,rfl,h⟩
 rename_i bl;have key:∃r,(if isW site Qt op then
   match aD0 (aG A) H (toF tr) site op with
   |some (v,H',wr)=>if H'.length=H.length then Qr (v,H',[],Qr wr)else Qs
   |none=>Qs
  else match vA H (toF tr) op with
   |some v=>Qr (v,H,aCc (toF tr) op,Qs)
   |none=>Qs)=Qr r/\k r.1 r.2.1 r.2.2.1 r.2.2.2=true:=by
  by_cases hm:(aTO op&&isW site Qt op)=Qt
  ·rw[hm]at h;simp only[cond_true]at h;obtain⟨hw,r,h3,h4⟩:=aER hK h;simp only[AI,NJ]at h4;refine⟨(r.1,r.2.1,[],Qr r.2.2), ?_,h4.2⟩;rw[Zy hw,h3];dsimp only;rw[Zy h4.1]
  have oq:(aTO op&&isW site Qt op)=false:=by simpa using hm
  rw[oq]at h;simp only[cond_false]at h;have hw:isW site Qt op=false:=by
   cases hq:aTO op with
   |false=>exact aMP hq
   |true=>rw[hq]at oq;simpa using oq
  obtain⟨v,h3,h4⟩:=fX h;rw[aSP]at h3;refine⟨(v,H,aCc (toF tr) op,Qs), ?_,h4⟩;rw[Zx (by rw[hw];simp),h3]
 obtain⟨r,h1,h2⟩:=key;refine⟨r, ?_,h2⟩
 first
  |exact h1
  | (split<;>first | exact h1 | (rename_i zs id;exact (bl zs id rfl rfl).elim))
noncomputable def aRn(K:pV)(c:Ctx)(aq:LN)(ops:List ae):Nat->KT->LO->LN->KL->Bool:=
 IU (motive:=fun _=>Nat->KT->LO->LN->KL->Bool) (fun _ tr H wr k=>k tr H wr [])
  (fun o _ ih i tr H wr k=>aId o.guard (toF tr) (aMQ K c o tr H fun v H' rd w=>ih (i+1) (aLF o.dst v tr) H' (bE c.base wr (w.getD [])) (bif aq.contains i then fun tr H wr log=>k tr H wr ((i,rd,w)::log)else k))
   (ih (i+1) (aLF o.dst (.tup []) tr) H wr k)) ops
theorem aCf{A:af}{K:pV}(hK:KOk A K){c:Ctx}{aq:LN}:∀(ops:List ae) {i:Nat} {tr:KT} {H:LO} {wr:LN} {k:KL} {k':bN->LO->LN->Log->Prop},(∀tr H wr log,k tr H wr log=Qt->k' (toF tr) H wr log)->aRn K c aq ops i tr H wr k=Qt->wpD (aG A) c aq i ops (toF tr) H wr k'
 | [],i,tr,H,wr,k,k',hk,h=>hk _ _ _ _ h
 |o::ops,i,tr,H,wr,k,k',hk,h=>by
  have h':aId o.guard (toF tr) (aMQ K c o tr H fun v H' rd w=>aRn K c aq ops (i+1) (aLF o.dst v tr) H' (bE c.base wr (w.getD [])) (bif aq.contains i then fun tr H wr log=>k tr H wr ((i,rd,w)::log)else k))
   (aRn K c aq ops (i+1) (aLF o.dst (.tup []) tr) H wr k)=true:=h
  unfold wpD;rcases aG7 h' with⟨h1,h2⟩ | ⟨h1,h2⟩
  ·rw[h1];obtain⟨r,h3,h4⟩:=aKh hK h2;dsimp only;rw[h3];obtain⟨v,H',rd,w⟩:=r;dsimp only at h4 ⊢;rw[<- aBb];refine aCf hK ops (fun tr H wr log hh=>?_) h4;cases hc:aq.contains i with
   |true=>rw[hc]at hh;rw[Zy rfl];exact hk _ _ _ _ hh
   |false=>rw[hc]at hh;rw[Zx (by simp)];exact hk _ _ _ _ hh
  rw[h1];dsimp only;rw[<- aBb];exact aCf hK ops hk h2
noncomputable def aTP(c:Ctx)(ts:List (Nat×Nat)):KT->LO->LN->KQ->Bool:=
 IU (motive:=fun _=>KT->LO->LN->KQ->Bool) (fun tr H wr k=>k tr H wr)
  (fun p _ ih tr H wr k=>match p with
   | (0,t)=>aFz (aMD H (toF tr t)) fun r=>ih (aLF (Qr t) r.1 tr) r.2.1 (bE c.base wr r.2.2) k
   | (n+1,t)=>bif (toF tr t).iy then ih tr H wr k else match pE H (toF tr t)with
    |some r=>ih tr r.1 (bE c.base wr r.2) k
    |none=>aFz (bC H (n+1) (toF tr t)) fun cs=>aFz (aMD H (.agg cs)) fun r=>match r with
     | (.agg cs',H',l)=>aFz (storeCells H' cs' (toF tr t)) fun q=>ih tr q.1 (bE c.base wr (l++q.2)) k
     |_=>Qu) ts
theorem vK{c:Ctx}:∀(ts:List (Nat×Nat)) {tr:KT} {l:LA} {H:LO} {wr:LN} {k:KQ},ck l=toF tr->aTP c ts tr H wr k=Qt->(ts.all fun p=>decide (p.2<l.length))=Qt ->∃s' tr',nX c ⟨l,H,wr⟩ ts=Qr s'/\s'.ρ.length=l.length/\ck s'.ρ=toF tr'/\k tr' s'.H s'.wr=Qt
 | [],tr,l,H,wr,k,he,h,_=>⟨⟨l,H,wr⟩,tr,rfl,rfl,he,h⟩
 | (0,t)::ts,tr,l,H,wr,k,he,h,hd=>by
  rw[ES,AI]at hd;have h':aFz (aMD H (toF tr t)) (fun r=>aTP c ts (aLF (Qr t) r.1 tr) r.2.1 (bE c.base wr r.2.2) k)=true:=h;obtain⟨⟨v,H',l1⟩,h1,h2⟩:=fX h';have ht:t<l.length:=by simpa using hd.1
  have hf:ck (l.set t v)=toF (aLF (Qr t) v tr):=by rw[nG ht,he,aBb];rfl
  obtain⟨s',tr',g1,g2,g3,g4⟩:=vK ts hf h2 (by simpa using hd.2);refine⟨s',tr', ?_,by rw[g2];simp,g3,g4⟩;unfold nX;dsimp only;rw[show (l[t]?).getD .undef=toF tr t by rw[<- he];rfl,h1];exact g1
 | (n+1,t)::ts,tr,l,H,wr,k,he,h,hd=>by
  rw[ES,AI]at hd;have e1:(l[t]?).getD .undef=toF tr t:=by rw[<- he];rfl
  have h':(bif (toF tr t).iy then aTP c ts tr H wr k else match pE H (toF tr t)with
    |some r=>aTP c ts tr r.1 (bE c.base wr r.2) k
    |none=>aFz (bC H (n+1) (toF tr t)) fun cs=>aFz (aMD H (.agg cs)) fun r=>match r with
     | (.agg cs',H',l)=>aFz (storeCells H' cs' (toF tr t)) fun q=>aTP c ts tr q.1 (bE c.base wr (l++q.2)) k
     |_=>Qu)=true:=h
  cases hu:(toF tr t).iy with
  |true=>rw[hu]at h';obtain⟨s',tr',g1,g2,g3,g4⟩:=vK ts he h' hd.2;refine⟨s',tr', ?_,g2,g3,g4⟩;unfold nX;rw[Zy (by rw[e1];exact hu)];exact g1
  |false=>
   rw[hu]at h';simp only[cond_false]at h';cases hk:pE H (toF tr t)with
   |some r=>rw[hk]at h';obtain⟨s',tr',g1,g2,g3,g4⟩:=vK ts he h' hd.2;refine⟨s',tr', ?_,g2,g3,g4⟩;unfold nX;rw[Zx (by rw[e1,hu];simp)];dsimp only;rw[e1,hk];exact g1
   |none=>
   rw[hk]at h';dsimp only at h';obtain⟨cs,h1,h2⟩:=fX h';obtain⟨r,h3,h4⟩:=fX h2;split at h4
   ·rename_i cs' H' l1;obtain⟨⟨H2,l2⟩,h5,h6⟩:=fX h4;obtain⟨s',tr',g1,g2,g3,g4⟩:=vK ts he h6 hd.2;refine⟨s',tr', ?_,g2,g3,g4⟩;unfold nX;rw[Zx (by rw[e1,hu];simp)];dsimp only;rw[e1,hk];dsimp only;rw[h1];dsimp only;rw[h3];dsimp only;rw[h5];exact g1
   cases h4
theorem aG8(b:Nat)(s:LN)(d:Option Nat):((Ctx.mk b s).site d).isSome=((Ctx.mk 0 s).site d).isSome:=by
 unfold Ctx.site;cases d with
 |none=>rfl
 |some t=>cases h:s.idxOf? t<;>simp[h]
theorem aES{s s':Option Nat}(h:s.isSome=s'.isSome)(op:df):looks s op=looks s' op:=by cases op<;>first | rfl | (simp only[looks,h])
theorem aG9(b:Nat)(s:LN)(o:ae):aBG ⟨b,s⟩ o=aBG ⟨0,s⟩ o:=by
 have h:=aG8 b s o.dst;unfold aBG;generalize (Ctx.mk b s).site o.dst=x at h ⊢;generalize (Ctx.mk 0 s).site o.dst=y at h ⊢;cases x<;>cases y<;>simp at h
 ·rfl
 cases o.op<;>rfl
theorem aGa(b:Nat)(s:LN)(aq:LN)(o:ae)(i:Nat)(p:ae)(j:Nat):aG4 ⟨b,s⟩ aq o i p j=aG4 ⟨0,s⟩ aq o i p j:=by unfold aG4;rw[aG9 b,aG9 b,aES (aG8 b s o.dst),aES (aG8 b s p.dst)]
theorem aGb(b:Nat)(s:LN)(ops:List ae):aBH ⟨b,s⟩ ops=aBH ⟨0,s⟩ ops:=by unfold aBH;simp only[aGa b]
theorem aET(b:Nat)(s:LN)(aq:LN):∀(ops:List ae) (i:Nat),aCd ⟨b,s⟩ aq i ops=aCd ⟨0,s⟩ aq i ops
 | [],_=>rfl
 |o::r,i=>by
  unfold aCd;simp only[aGa b];rw[aET b s aq r]
theorem iV(N b:Nat)(s:LN):∀x:ag,dK N ⟨b,s⟩ x=dK N ⟨0,s⟩ x
 |.region d ops=>by simp only[dK,aGb b,aET b]
 |.seq x y=>by simp only[dK,iV N b s x,iV N b s y]
 |.cond _ x y=>by simp only[dK,iV N b s x,iV N b s y]
 |.block _ x=>by simp only[dK,iV N b s x]
 |.loop x=>by simp only[dK,iV N b s x]
 |.frz _ | .skip | .bad | .exit _ | .ret | .dz _ _ _=>rfl
abbrev KE:=bf->KT->LO->LN->Bool
noncomputable def aRo(ih:KT->LO->LN->KE->Bool)(m:Nat):KT->LO->LN->KE->Bool:=
 Nat.rec (motive:=fun _=>KT->LO->LN->KE->Bool) (fun _ _ _ _=>Qu)
  (fun _ again tr H wr Q=>ih tr H wr fun e tr H wr=>bf.casesOn (motive:=fun _=>Bool) e (again tr H wr Q) (fun id=>Q (.exit id) tr H wr) (Q .ret tr H wr)) m
noncomputable def aTQ(x:aa)(ρ:bN)(a b:Bool):Bool:=match x.at ρ with
 |.bool t=>bif t then a else b
 |_=>Qu
noncomputable def aLH(K:pV)(c:Ctx)(d:Bool)(ops:List ae)(tr:KT)(H:LO)(wr:LN)(Q:KE):Bool:=
 bif d then aFz (cS c H ops) fun H0=>aRn K c (aBH ⟨0,c.sites⟩ ops) ops 0 tr H0 wr fun tr H wr log=>eH (fun j=>((ops[j]?).map ae.pre).getD []) log&&Q .normal tr H wr
 else aYt K c ops tr H wr (Q .normal)
def aPc(N:Nat)(ρ:bN):LA:=(List.range N).map ρ
theorem aPd{N:Nat}{l:LA}(hl:l.length=N):aPc N (ck l)=l:=by
 subst hl;apply HN;intro i;unfold aPc;rw[BN];by_cases h:i<l.length
 ·rw[List.getElem?_range h];simp[ck,h]
 rw[CY (by simpa using h),CY (by omega)];rfl
noncomputable def aPe(K:pV)(N:Nat)(c:Ctx)(x:aa)(ps:LN)(body:ag)(tr:KT)(H:LO)(wr:LN)(Q:KE):Bool:=
 match x.at (toF tr)with
 |.fn f first ay=>aFz (c.site ps.head?) fun id=>bif decide (id<H.length)&&eZ c H then
   K f (first++.yld id (bH H id)::ay) (make H id fun v=>.rnd v c.base c.sites ps body (aPc N (toF tr)) Qu Qs) fun _ H2 ba=>
    match H2[id]? with
    |some (.rnd v _ _ _ _ _ Qu pend)=>bif EY v (bH H id)&&eZ c H2 then Q (pend.getD .normal) tr (H2.set id (.gone v)) (bE c.base wr (id::ba))else Qu
    |_=>Qu
  else Qu
 |_=>Qu
noncomputable def aHv(K:pV)(m N:Nat)(c:Ctx)(x:ag):KT->LO->LN->KE->Bool:=
 ag.rec (motive:=fun _=>KT->LO->LN->KE->Bool)
  (fun tr H wr Q=>Q .normal tr H wr)
  (fun _ _ _ _=>Qu)
  (fun d ops tr H wr Q=>aLH K c d ops tr H wr Q)
  (fun _ _ iha ihb tr H wr Q=>iha tr H wr fun e tr H wr=>bf.casesOn (motive:=fun _=>Bool) e (ihb tr H wr Q) (fun id=>Q (.exit id) tr H wr) (Q .ret tr H wr))
  (fun x _ _ iha ihb tr H wr Q=>aTQ x (toF tr) (iha tr H wr Q) (ihb tr H wr Q))
  (fun id _ ih tr H wr Q=>ih tr H wr fun e tr H wr=>bf.casesOn (motive:=fun _=>Bool) e (Q .normal tr H wr) (fun id'=>bif EY id' id then Q .normal tr H wr else Q (.exit id') tr H wr) (Q .ret tr H wr))
  (fun _ ih tr H wr Q=>aRo ih m tr H wr Q)
  (fun id tr H wr Q=>Q (.exit id) tr H wr)
  (fun tr H wr Q=>Q .ret tr H wr)
  (fun ts tr H wr Q=>aTP c ts tr H wr (Q .normal))
  (fun x ps body _ tr H wr Q=>aPe K N c x ps body tr H wr Q) x
section
variable {A:af}{K:pV}{m:Nat}{c:Ctx}{N:Nat}
def toQ(Q:KE):bf->bN->LO->LN->Prop:=fun e ρ H wr=>∃tr,ρ=toF tr/\Q e tr H wr=Qt
theorem aGc{b:ag}{ih:KT->LO->LN->KE->Bool}(hok:dK N c b=Qt) (hb:∀{tr:KT} {H:LO} {wr:LN} {Q:KE},ih tr H wr Q=Qt->Wp A N c b (toF tr) H wr (toQ Q)):∀(m:Nat) {tr:KT} {H:LO} {wr:LN} {Q:KE},aRo ih m tr H wr Q=Qt->Wp A N c (.loop b) (toF tr) H wr (toQ Q)
 |0,tr,H,wr,Q,h=>by cases h
 |m+1,tr,H,wr,Q,h=>by
  have h1:=hb (show ih tr H wr (fun e tr H wr=>bf.casesOn (motive:=fun _=>Bool) e (aRo ih m tr H wr Q) (fun id=>Q (.exit id) tr H wr) (Q .ret tr H wr))=Qt from h);intro l hl he;obtain⟨n,e,s',g1,g2,tr1,g3,g4⟩:=h1 l hl he;cases e with
  |normal=>obtain⟨n2,e',s'',k1,k2,k3⟩:=aGc hok hb m g4 s'.ρ g2 g3;refine⟨max n n2+1,e',s'', ?_,k2,k3⟩;rw[gU,eJ (GJ n n2) _ _ _ _ g1];exact eJ (GC n n2) _ _ _ _ k1
  |exit id=>exact⟨n+1,.exit id,s',by rw[gU,g1],g2,tr1,g3,g4⟩
  |ret=>exact⟨n+1,.ret,s',by rw[gU,g1],g2,tr1,g3,g4⟩
theorem iW(hK:KOk A K):∀(x:ag) {tr:KT} {H:LO} {wr:LN} {Q:KE},dK N c x=Qt->aHv K m N c x tr H wr Q=Qt->Wp A N c x (toF tr) H wr (toQ Q)
 |.skip,tr,H,wr,Q,hok,h=>fun l hl he=>⟨1,.normal,⟨l,H,wr⟩,rfl,hl,tr,he,h⟩
 |.bad,tr,H,wr,Q,hok,h=>by cases h
 |.region d ops,tr,H,wr,Q,hok,h=>by
  have h':aLH K c d ops tr H wr Q=true:=h;refine kM ?_ hok;unfold aLH at h';cases d with
  |false=>simp only[cond_false]at h';rw[wpc];exact aE2 hK ops h'
  |true=>simp only[cond_true]at h';obtain⟨H0,h1,h2⟩:=fX h';rw[wpc,h1];dsimp only;have e:c=⟨c.base,c.sites⟩:=rfl;rw[show aBH c ops=aBH ⟨0,c.sites⟩ ops from aGb c.base c.sites ops];refine aCf hK ops (fun tr H wr log hh=>?_) h2;rw[AI]at hh;exact⟨hh.1,tr,rfl,hh.2⟩
 |.seq a b,tr,H,wr,Q,hok,h=>by
  simp only[dK,AI]at hok;have h':aHv K m N c a tr H wr (fun e tr H wr=>bf.casesOn (motive:=fun _=>Bool) e (aHv K m N c b tr H wr Q) (fun id=>Q (.exit id) tr H wr) (Q .ret tr H wr))=true:=h;intro l hl he;obtain⟨n,e,s',g1,g2,tr1,g3,g4⟩:=iW hK a hok.1 h' l hl he;cases e with
  |normal=>obtain⟨n2,e',s'',k1,k2,k3⟩:=iW hK b hok.2 g4 s'.ρ g2 g3;refine⟨max n n2+1,e',s'', ?_,k2,k3⟩;rw[iD,eJ (GJ n n2) _ _ _ _ g1];exact eJ (GC n n2) _ _ _ _ k1
  |exit id=>exact⟨n+1,.exit id,s',by rw[iD,g1],g2,tr1,g3,g4⟩
  |ret=>exact⟨n+1,.ret,s',by rw[iD,g1],g2,tr1,g3,g4⟩
 |.cond x a b,tr,H,wr,Q,hok,h=>by
  simp only[dK,AI]at hok;have h':aTQ x (toF tr) (aHv K m N c a tr H wr Q) (aHv K m N c b tr H wr Q)=true:=h;unfold aTQ at h';split at h'
  ·rename_i t hx;intro l hl he;have ht:x.ev l=x.at (toF tr):=by rw[<- he];exact x.ka l
   cases t with
   |true=>obtain⟨n,e,s',g1,g2⟩:=iW hK a hok.1 h' l hl he;exact⟨n+1,e,s',by rw[iT];dsimp only;rw[ht,hx];exact g1,g2⟩
   |false=>obtain⟨n,e,s',g1,g2⟩:=iW hK b hok.2 h' l hl he;exact⟨n+1,e,s',by rw[iT];dsimp only;rw[ht,hx];exact g1,g2⟩
  cases h'
 |.block id b,tr,H,wr,Q,hok,h=>by
  simp only[dK]at hok;have h':aHv K m N c b tr H wr (fun e tr H wr=>bf.casesOn (motive:=fun _=>Bool) e (Q .normal tr H wr) (fun id'=>bif EY id' id then Q .normal tr H wr else Q (.exit id') tr H wr) (Q .ret tr H wr))=true:=h;intro l hl he;obtain⟨n,e,s',g1,g2,tr1,g3,g4⟩:=iW hK b hok h' l hl he;cases e with
  |normal=>exact⟨n+1,.normal,s',by rw[eP,g1],g2,tr1,g3,g4⟩
  |ret=>exact⟨n+1,.ret,s',by rw[eP,g1],g2,tr1,g3,g4⟩
  |exit id'=>
   dsimp only at g4;cases hb:EY id' id with
   |true=>rw[hb]at g4;exact⟨n+1,.normal,s',by rw[eP,g1];dsimp only;rw[Zy (ET hb)],g2,tr1,g3,g4⟩
   |false=>rw[hb]at g4;exact⟨n+1,.exit id',s',by rw[eP,g1];dsimp only;rw[Zx (Nat.ne_of_beq_eq_false hb)],g2,tr1,g3,g4⟩
 |.loop b,tr,H,wr,Q,hok,h=>by
  simp only[dK]at hok;exact aGc hok (fun h=>iW hK b hok h) m (show aRo (aHv K m N c b) m tr H wr Q=Qt from h)
 |.exit id,tr,H,wr,Q,hok,h=>fun l hl he=>⟨1,.exit id,⟨l,H,wr⟩,rfl,hl,tr,he,h⟩
 |.ret,tr,H,wr,Q,hok,h=>fun l hl he=>⟨1,.ret,⟨l,H,wr⟩,rfl,hl,tr,he,h⟩
 |.frz ts,tr,H,wr,Q,hok,h=>fun l hl he=>by
  have h':aTP c ts tr H wr (Q .normal)=true:=h;obtain⟨s',tr',h1,h2,h3,h4⟩:=vK ts he h' (by rw[hl];exact hok);exact⟨1,.normal,s',by rw[vI,h1],by rw[h2,hl],tr',h3,h4⟩
 |.dz x ps body,tr,H,wr,Q,hok,h=>fun l hl he=>by
  have h':aPe K N c x ps body tr H wr Q=true:=h;unfold aPe at h';have hx:x.ev l=x.at (toF tr):=by rw[<- he];exact x.ka l
  split at h'
  ·rename_i f first ay ta
   obtain⟨id,hid,h1⟩:=fX h';cases hc:decide (id<H.length)&&eZ c H with
   |false=>simp only[hc,cond_false]at h1;cases h1
   |true=>
    simp only[hc,cond_true]at h1;rw[AI,decide_eq_true_eq]at hc;obtain⟨v,H2,ba,h2,h3⟩:=hK _ _ _ _ h1;obtain⟨n,hn⟩:=oM h2;rw[<- he,aPd hl]at hn;split at h3
    ·rename_i v2 b' s' p' c' r' pend hH2;cases hv:EY v2 (bH H id)&&eZ c H2 with
     |false=>simp only[hv,cond_false]at h3;cases h3
     |true=>simp only[hv,cond_true]at h3;rw[AI]at hv;have qy:=ET hv.1;refine⟨n+1,pend.getD .normal,⟨l,H2.set id (.gone v2),bE c.base wr (id::ba)⟩, ?_,hl,tr,he,h3⟩;rw[iU];dsimp only;rw[hx,ta,hid];dsimp only;rw[Zy hc,hn];dsimp only;rw[hH2];dsimp only;rw[Zy ⟨qy,hv.2⟩]
    cases h3
  cases h'
end
noncomputable def aIe(args:LA):Nat->KT->KT:=
 IU (motive:=fun _=>Nat->KT->KT) (fun _ t=>t) (fun a _ ih i t=>ih (i+1) (aTN (aG6 i) a t)) args
theorem aIf:∀(args:LA) (i:Nat) (t:KT),toF (aIe args i t)=fun j=>if i<=j/\j<i+args.length then (args[j - i]?).getD .undef else toF t j
 | [],i,t=>by
  funext j;show toF t j=_;rw[Zx (by simp)]
 |a::r,i,t=>by
  have h:toF (aIe r (i+1) (aLF (Qr i) a t))=_:=aIf r (i+1) (aLF (Qr i) a t);show toF (aIe r (i+1) (aLF (Qr i) a t))=_;rw[h,aBb];funext j;simp only[zX,upd,List.length_cons];by_cases h1:i+1<=j/\j<i+1+r.length
  ·rw[Zy h1,Zy (by omega),show j - i=(j - (i+1))+1 by omega,List.getElem?_cons_succ]
  rw[Zx h1];by_cases h2:j=i
  ·subst h2;rw[Zy rfl,Zy (by omega),Nat.sub_self];rfl
  rw[Zx h2,Zx (by omega)]
theorem aKi(args:LA):toF (aIe args 0 .e)=pO args:=by
 rw[aIf];funext j;unfold pO;by_cases h:j<args.length
 ·rw[Zy (by omega),PK]
 rw[Zx (by omega),CY (by omega)];exact aMM _
noncomputable def aMR{α:Type}(l:List α)(k:List α->Bool):Bool:=
 IU (motive:=fun _=>(List α->Bool)->Bool) (fun k=>k []) (fun a _ ih k=>ih fun r=>k (a::r)) l k
theorem aKj{α:Type}:∀(l:List α) (k:List α->Bool),aMR l k=k l
 | [],_=>rfl
 |a::r,k=>aKj r fun r=>k (a::r)
noncomputable def bA6(base:Nat)(rs:List ou)(k:AV->LO->LN->Bool):KE:=fun e tr H wr=>
 bf.casesOn (motive:=fun _=>Bool) e (aFz (iE base rs (toF tr) H wr) fun r=>aMR (cJ base r).2.1 fun H'=>k (cJ base r).1 H' (cJ base r).2.2) (fun _=>Qu)
  (aFz (iE base rs (toF tr) H wr) fun r=>aMR (cJ base r).2.1 fun H'=>k (cJ base r).1 H' (cJ base r).2.2)
noncomputable def kFn(K:pV)(m:Nat)(fn:bw)(args:LA)(H:LO)(k:AV->LO->LN->Bool):Bool:=
 dK fn.ntmps ⟨0,fn.sites⟩ fn.body&&Nat.ble args.length fn.ntmps &&
  aHv K m fn.ntmps ⟨H.length,fn.sites⟩ fn.body (aIe args 0 .e) (H++AX fn.sites.length (.gone 0)) [] (bA6 H.length fn.results k)
def aPf:bf->Bool
 |.normal=>Qt
 |_=>Qu
def aWX:bf->Option bf
 |.normal=>Qs
 |e=>Qr e
noncomputable def aMS(K:pV)(m:Nat)(args:LA)(H:LO)(k:AV->LO->LN->Bool):Bool:=match args with
 |.own 0 []::.yld o v::xs=>match H[o]? with
  |some (.rnd v' base sites ps (.seq asg body) ρ Qu Qs)=>
   bif EY v' v&&EY xs.length ps.length&&(dK ρ.length ⟨0,sites++[YF+o,YF+v]⟩ asg&&dK ρ.length ⟨0,sites++[YF+o,YF+v]⟩ body)then
    aHv K m ρ.length ⟨base,sites++[YF+o,YF+v]⟩ asg (aIe (dH ρ ps xs) 0 .e) H [] fun e0 tr0 H0 wr0=>bif aPf e0 then match H0[o]? with
     |some (.rnd v1 b1 t1 p1 c1 r1 Qu Qs)=>bif EY v1 v then
      aHv K m ρ.length ⟨base,sites++[YF+o,YF+v]⟩ body tr0 (H0.set o (.rnd v b1 t1 p1 c1 r1 Qt Qs)) wr0 fun e tr H' wr=>match H'[o]? with
       |some (.rnd v2 b2 s2 p2 c2 r2 Qt Qs)=>bif EY v2 v then k (.bool (aPf e)) (H'.set o (.rnd v b2 s2 p2 c2 r2 Qu (aWX e))) (FM base (H.length - base)++(o::wr))else Qu
       |_=>Qu
      else Qu
     |_=>Qu
     else Qu
   else Qu
  |_=>Qu
 |_=>Qu
theorem aAf:∀(ps:LN) (xs ρ:LA),(dH ρ ps xs).length=ρ.length
 | [],_,_=>by simp[dH]
 |_::_,[],_=>by simp[dH]
 |t::ps,x::xs,ρ=>by rw[dH,aAf ps xs];simp
theorem aKk{A:af}{K:pV}(hK:KOk A K){m:Nat}{f:Nat}{args:LA}{H:LO}{k}(hp:(A.bq f).bind (· args H)=Qs)(hf:A.fn f=Qs)(h:aMS K m args H k=Qt):∃v H' wr,aG A f args H=Qr (v,H',wr)/\k v H' wr=true:=by
 unfold aMS at h;split at h
 ·rename_i o v xs;split at h
  ·rename_i v' base sites ps asg body ρ hH;cases hc:EY v' v&&EY xs.length ps.length&&(dK ρ.length ⟨0,sites++[YF+o,YF+v]⟩ asg&&dK ρ.length ⟨0,sites++[YF+o,YF+v]⟩ body)with
   |false=>rw[hc]at h;cases h
   |true=>
    rw[hc,cond_true]at h;simp only[AI]at hc;obtain⟨⟨c1,c2⟩,c0,c3⟩:=hc;have e1:=ET c1;have e2:=ET c2;subst e1;have hok:dK ρ.length ⟨base,sites++[YF+o,YF+v']⟩ body=true:=by rw[iV];exact c3
    have Eh:dK ρ.length ⟨base,sites++[YF+o,YF+v']⟩ asg=true:=by rw[iV];exact c0
    have hw:=iW (N:=ρ.length) hK asg Eh h;rw[aKi]at hw;have Ei:ck (dH ρ ps xs)=pO (dH ρ ps xs):=by have:=aE0 (dH ρ ps xs) 0;simpa using this
    obtain⟨n0,e0,s0,a1,a2,tr0,a3,a4⟩:=hw (dH ρ ps xs) (aAf _ _ _) Ei;cases e0 with
    |exit id=>cases a4
    |ret=>cases a4
    |normal=>
    dsimp only[aPf,cond_true]at a4;split at a4;rotate_left
    ·cases a4
    rename_i v1 b1 t1 p1 c1' r1 xu;cases qy:EY v1 v' with
    |false=>rw[qy]at a4;cases a4
    |true=>
    rw[qy,cond_true]at a4;have:=ET qy;subst this;obtain⟨n1,e,s',h1,h2,tr,h3,h4⟩:=iW (N:=ρ.length) hK body hok a4 s0.ρ a2 a3;dsimp only at h4;split at h4
    ·rename_i v2 b2 s2 p2 c2' r2 hs;cases hv:EY v2 v1 with
     |false=>rw[hv]at h4;cases h4
     |true=>rw[hv,cond_true]at h4;have:=ET hv;subst this;refine⟨_,_,_,oL (n:=max n0 n1) ?_,h4⟩;unfold dD qL;rw[hp,hf];dsimp only;rw[aAe,hH];dsimp only;rw[Zy ⟨rfl,e2⟩,eJ (GJ n0 n1) _ _ _ _ a1];dsimp only;rw[xu];dsimp only;rw[Zy rfl,eJ (GC n0 n1) _ _ _ _ h1];dsimp only;rw[hs];dsimp only;rw[Zy rfl];cases e<;>rfl
    cases h4
  cases h
 cases h
noncomputable def aE3(A:af)(m n:Nat):pV:=
 Nat.rec (motive:=fun _=>pV) (fun _ _ _ _=>Qu)
  (fun _ K f args H k=>JA (JA (aMS K m args H k) (fun fn=>kFn K m fn args H k) (A.fn f)) (fun r=>k (cT H r).1 (cT H r).2.1 (cT H r).2.2) ((A.bq f).bind (· args H))) n
theorem xG(A:af)(m:Nat):∀n,KOk A (aE3 A m n)
 |0,f,args,H,k,h=>by cases h
 |n+1,f,args,H,k,h=>by
  have h':(JA (JA (aMS (aE3 A m n) m args H k) (fun fn=>kFn (aE3 A m n) m fn args H k) (A.fn f)) (fun r=>k (cT H r).1 (cT H r).2.1 (cT H r).2.2) ((A.bq f).bind (· args H)):Bool)=true:=h;cases hp:(A.bq f).bind (· args H)with
  |some r=>rw[hp]at h';refine⟨_,_,_,oL (n:=0) ?_,h'⟩;unfold dD qL;rw[hp]
  |none=>
   rw[hp]at h';cases hf:A.fn f with
   |none=>rw[hf]at h';exact aKk (xG A m n) hp hf h'
   |some fn=>
    rw[hf]at h';have h2:kFn (aE3 A m n) m fn args H k=true:=h';unfold kFn at h2;simp only[AI]at h2;obtain⟨⟨hok,hN⟩,hc⟩:=h2;have Ej:dK fn.ntmps ⟨H.length,fn.sites⟩ fn.body=true:=by rw[iV];exact hok
    have Dv:args.length<=fn.ntmps:=Nat.le_of_ble_eq_true hN;have hw:=iW (N:=fn.ntmps) (xG A m n) fn.body Ej hc;rw[aKi]at hw;obtain⟨n1,e,s',h1,h2,tr,h3,h4⟩:=hw (args++AX (fn.ntmps - args.length) .undef) (by simp;omega) (aE0 _ _);have key:∀r,iE H.length fn.results (toF tr) s'.H s'.wr=Qr r->aA4 H.length fn s'=Qr r:=by intro r hr;rw[<- h3]at hr;unfold iE at hr;unfold aA4;rw[aJ6];exact hr
    have fin:(e=.normal∨e=.ret)->aFz (iE H.length fn.results (toF tr) s'.H s'.wr) (fun r=>aMR (cJ H.length r).2.1 fun H'=>k (cJ H.length r).1 H' (cJ H.length r).2.2)=Qt ->
      ∃v H' wr,aG A f args H=Qr (v,H',wr)/\k v H' wr=true:=by
     intro he hk;obtain⟨r,hr,hk⟩:=fX hk;rw[aKj]at hk;exact⟨_,_,_,oL (oU hp hf h1 he (key _ hr) Dv),hk⟩
    cases e with
    |normal=>exact fin (.inl rfl) h4
    |ret=>exact fin (.inr rfl) h4
    |exit id=>cases h4
section
variable {P:CU}{ab:cu}{g g':G}{H H':LO}{w w':BL}{W:LN}
theorem aCg{l0:Nat}{r0:Loop}(h:w.heap[l0]? = Qr (.loop r0))(fn:FuncId)(tmps:Array BE)(ps:Array Tmp)(assign body:Code):(JZ fn tmps ps assign body (Qr l0)).run P w = .ok (w.heap.size,[]) (w.alloc (.loop { state:=.ready,pending:=Qs,fn,tmps,params:=ps,assign,body,defers:=r0.defers })):=by unfold JZ;simp only[BS,run_newObj_alloc,DL,Sem.run_pure,run_getLoop h]
theorem Step.xw(h:WF g H w)(x:Obj):Step g H w { g with whole:=fun b=>if b=w.heap.size then Qr x else g.whole b } H (w.alloc x) []:=by
 have e:(w.alloc x).heap=w.heap.push x:=rfl;have hle:g.le { g with whole:=fun b=>if b=w.heap.size then Qr x else g.whole b }:=by
  refine⟨fun _ _ _ hx=>hx,fun o l hl=>⟨l,hl,AQ _,fun _=>⟨AQ _,fun _=>rfl⟩⟩,fun b y hy=>?_,rfl,rfl⟩;have:=h.whole.lt hy;have bl:b≠w.heap.size:=by omega
  simp only[bl,Zu];exact hy
 have dx:∀o l y,au { g with whole:=fun b=>if b=w.heap.size then Qr x else g.whole b } H o l y->au g H o l y:=fun o l y hb=>⟨hb.Pr,hb.alive,hb.loc,hb.st⟩;refine⟨hle,⟨fun b i y hy=>?_,h.lt,fun o l hl=>?_,h.st,fun o l y hb=>?_,fun o l y hb=>h.jh o l y (dx o l y hb),fun o o' l l' y y' hb du=>h.inj o o' l l' y y' (dx _ _ _ hb) (dx _ _ _ du),⟨fun b y hy=>?_,h.whole.io⟩⟩,⟨by rw[e];simp,fun b hb _=>cK e hb⟩,fun _ _ _=>rfl,AQ _,fun _ l' hl=>.inr ⟨l',hl,rfl⟩,fun _ _ _=>rfl⟩
 ·rw[cell_of_heap (cK e (h.ko hy))];exact h.perm b i y hy
 ·have:=h.blk o l hl;rw[e];simp;omega
 ·exact (h.obj o l y (dx o l y hb)).aq hle (cK e (h.blk o l hb.loc))
 by_cases hb:b=w.heap.size
 ·subst hb;simp only[Zv,AG]at hy;subst hy;refine⟨by rw[e];simp,fun o l z hz hE=>?_⟩;have:=h.blk o l hz.loc;omega
 simp only[hb,Zu]at hy;obtain⟨h1,h2⟩:=h.whole.blocks b y hy;exact⟨by rw[cK e (h.whole.lt hy)];exact h1,fun o l z hz=>h2 o l z (dx o l z hz)⟩
theorem Step.put(h:WF g H w){o:Nat}{l:Loc}{x x':ah}(hb:au g H o l x)(hv:x'.ver=x.ver)(j8:x'.alive=Qt)(ob:Obj) (la:g.le (g.setObj o l)->aBw (g.setObj o l) (w.putObj l.b ob) l x'):Step g H w (g.setObj o l) (H.set o x') (w.putObj l.b ob) [o]:=by refine Step.update h o x' l (h.lt o l hb.loc) (by simp) (fun b _ bl=>GK (Ne.symm (bl l x hb))) (by simpa using h.blk o l hb.loc) (.inr ⟨l,x,hb,rfl⟩) (by rw[hv];exact hb.st) j8 (fun l0 sz=>?_) la;rw[hb.loc]at sz;cases sz;exact⟨AQ _,fun _=>⟨AQ _,fun _=>rfl⟩⟩
theorem Step.F8(h:WF g H w){o:Nat}{l:Loc}{x:ah}(hb:au g H o l x)(ob:Obj):Step g H w g (H.set o (.gone x.ver)) (w.putObj l.b ob) [o]:=by
 obtain⟨h1,h2⟩:=Step.drop h hb;have hh:∀b,b≠l.b->(w.putObj l.b ob).heap[b]? = w.heap[b]? := fun b bl=>GK bl;have pj:=h1.wf;refine⟨G.le.refl g,⟨fun b i y hy=>?_,pj.lt,fun o' l' hl=>by simpa using pj.blk o' l' hl,pj.st,fun o' l' y du=>(pj.obj o' l' y du).aq (G.le.refl g) (hh _ (h2 o' l' y du)),pj.jh,pj.inj,⟨fun b y hy=>?_,pj.whole.io⟩⟩,⟨by simp,fun b du hw=>hh b fun e=>hw o (by simp) l hb.loc e.symm⟩,h1.same,h1.len,fun o' l' hl=>.inr ⟨l',hl,rfl⟩,fun _ _ _=>rfl⟩
 ·have bl:b≠l.b:=fun e=>by
   have:=h.jh o l x hb i;rw[<- e,hy]at this;cases this
  rw[cell_of_heap (hh b bl)];exact pj.perm b i y hy
 have bl:b≠l.b:=fun e=>(h.whole.blocks b y hy).2 o l x hb e.symm;obtain⟨a1,a2⟩:=pj.whole.blocks b y hy;exact⟨by rw[hh b bl];exact a1,a2⟩
def oV(w:BL):LN->BL
 | []=>w
 |b::bs=>oV (w.putObj b (.deferred Qs)) bs
theorem oW:∀(bs:LN) (w:BL) {b:Nat},b∉bs->(oV w bs).heap[b]? = w.heap[b]?
 | [],_,_,_=>rfl
 |c::bs,w,b,h=>by
  simp only[BD,not_or]at h;rw[oV,oW bs _ h.2,GK h.1]
theorem aCh:∀(bs:LN) (w:BL),(oV w bs).heap.size=w.heap.size
 | [],_=>rfl
 |c::bs,w=>by rw[oV,aCh bs];simp
theorem aGd:∀(bs:LN) (w:BL),(oV w bs).os=w.os/\(oV w bs).output=w.output
 | [],_=>⟨rfl,rfl⟩
 |c::bs,w=>by rw[oV];exact aGd bs _
def G.jb(g:G)(bs:LN):G:={ g with whole:=fun b=>if b∈bs then Qs else g.whole b }
theorem ai.jb{bs:LN}(ss:∀b∈bs,g.whole b=Qr (.deferred (Qr []))){a:AV}{x:BE}(h:ai g a x):ai (g.jb bs) a x:=by
 induction h with
 |undef x=>exact .undef x
 |bool b=>exact .bool b
 |int k n=>exact .int k n
 |str s=>exact .str s
 |fn f first ay vf vc hf hc h1 h2 ih1 ih2=>exact .fn f first ay vf vc hf hc ih1 ih2
 |bx=>exact .bx
 |ptr o v off l a hl hv h=>exact .ptr o v off l a hl hv h
 |vp o v n k i off l a hl hv hn h=>exact .vp o v n k i off l a hl hv hn h
 |nilPtr=>exact .nilPtr
 |bj=>exact .bj
 |ifc t v x hv h ih=>exact .ifc t v x hv ih
 |ep row off b base bd hp h ih=>exact .ep row off b base bd hp ih
 |kn full=>exact .kn full
 |sl full rows b off cap k cm jo hk bd hp h ih=>exact .sl full rows b off cap k cm jo hk bd hp ih
 |sr o v n l a cap hl hv hn jg h=>exact .sr o v n l a cap hl hv hn jg h
 |srv o v n k lo l a cap hl hv hn gr h=>exact .srv o v n k lo l a cap hl hv hn gr h
 |srw o v n hi l a cap hl hv hn tf h=>exact .srw o v n hi l a cap hl hv hn tf h
 |ar=>exact .ar
 |mp o v l r hl hv h=>exact .mp o v l r hl hv h
 |fmp ks vs r entries clock xs hw hp hk hv h1 h2 ih1 ih2=>refine .fmp ks vs r entries clock xs ?_ hp hk hv ih1 ih2;show (if r∈bs then Qs else g.whole r)=_;rw[Zx fun hm=>by rw[ss r hm]at hw;cases hw];exact hw
 |yld o v l r hl hv h=>exact .yld o v l r hl hv h
 |agg cs vs hs h ih=>exact .agg cs vs hs ih
 |tup cs vs hs h ih=>exact .tup cs vs hs ih
theorem aBw.jb{bs:LN}(ss:∀b∈bs,g.whole b=Qr (.deferred (Qr []))){l:Loc}{x:ah}(hb:w'.heap[l.b]? = w.heap[l.b]?)(h:aBw g w l x):aBw (g.jb bs) w' l x:=by
 cases x with
 |gone v=>trivial
 |box v cells=>obtain⟨h1,h2,h3⟩:=h;refine⟨h1,h2.of_heap hb,fun j a ha=>?_⟩;obtain⟨y,hy,hr⟩:=h3 j a ha;exact⟨y,by rw[cell_of_heap hb];exact hy,hr.jb ss⟩
 |cw v ty cells=>obtain⟨h1,⟨cs,h2,zc⟩,h3⟩:=h;refine⟨h1,⟨cs,by rw[hb];exact h2,zc⟩,fun j a ha=>?_⟩;obtain⟨y,hy,hr⟩:=h3 j a ha;exact⟨y,by rw[cell_of_heap hb];exact hy,hr.jb ss⟩
 |vec v k rows=>obtain⟨h1,h2,h3,h4,h5,h6,h7⟩:=h;refine⟨h1,h2,h3,h4.of_heap hb,h5,fun j hj=>by rw[cell_of_heap hb];exact h6 j hj,fun i j row a hr ha=>?_⟩;obtain⟨hs,y,hy,hv⟩:=h7 i j row a hr ha;exact⟨hs,y,by rw[cell_of_heap hb];exact hy,hv.jb ss⟩
 |gl v ty k rows=>obtain⟨⟨h1,h2,h3,h4,h5,h6,h7⟩,cs,h8⟩:=h;refine⟨?_,cs,by rw[hb];exact h8⟩;refine⟨h1,h2,h3,h4.of_heap hb,h5,fun j hj=>by rw[cell_of_heap hb];exact h6 j hj,fun i j row a hr ha=>?_⟩;obtain⟨hs,y,hy,hv⟩:=h7 i j row a hr ha;exact⟨hs,y,by rw[cell_of_heap hb];exact hy,hv.jb ss⟩
 |map v es=>obtain⟨h1,entries,clock,h2,h3,h4⟩:=h;exact⟨h1,entries,clock,by rw[hb];exact h2,h3,fun i k v e hk he=>⟨(h4 i k v e hk he).1.jb ss,(h4 i k v e hk he).2.jb ss⟩⟩
 |rnd v base sites ps body ρ busy pend=>obtain⟨h1,r,h2,h3,h4,h5,h6,h7,h8,h9⟩:=h;exact⟨h1,r,by rw[hb];exact h2,h3,h4,h5,h6,h7,h8,fun t=>(h9 t).jb ss⟩
theorem Step.marks{g0:G}{H0:LO}{w0:BL}(h0:WF g0 H0 w0)(h:Step g0 H0 w0 g H w W){bs:LN}(ss:∀b∈bs,w0.heap.size<=b/\g.whole b=Qr (.deferred (Qr []))):Step g0 H0 w0 (g.jb bs) H (oV w bs) W:=by
 have dp:∀b∈bs,g.whole b=Qr (.deferred (Qr [])):=fun b hb=>(ss b hb).2;have dx:∀o l y,au (g.jb bs) H o l y->au g H o l y:=fun o l y hb=>⟨hb.Pr,hb.alive,hb.loc,hb.st⟩;have yh:∀o l y,au g H o l y->l.b∉bs:=fun o l y hb hm=>(h.wf.whole.blocks l.b _ (dp _ hm)).2 o l y hb rfl;refine⟨⟨fun b i x hx=>h.le.perm b i x hx,fun o l hl=>h.le.obj o l hl,fun b x hx=>?_,h.le.io,h.le.code⟩,⟨fun b i y hy=>?_,h.wf.lt,fun o l hl=>by rw[aCh];exact h.wf.blk o l hl,h.wf.st,fun o l y hb=>?_,fun o l y hb=>h.wf.jh o l y (dx _ _ _ hb),fun o o' l l' y y' hb du=>h.wf.inj o o' l l' y y' (dx _ _ _ hb) (dx _ _ _ du),⟨fun b y hy=>?_, ?_⟩⟩,⟨by rw[aCh];exact h.frame.1,fun b hb hw=>?_⟩,h.same,h.len,h.mc,h.aq⟩
 ·have:=h0.whole.lt hx;show (if b∈bs then Qs else g.whole b)=_;rw[Zx fun hm=>by have:=(ss b hm).1;omega];exact h.le.whole b x hx
 ·have hp:=h.wf.perm b i y hy;have bl:b∉bs:=fun hm=>by
   have:=(h.wf.whole.blocks b _ (dp b hm)).1;simp[EF,this]at hp
  rw[cell_of_heap (oW bs w bl)];exact hp
 ·exact (h.wf.obj o l y (dx _ _ _ hb)).jb dp (oW bs w (yh o l y (dx _ _ _ hb)))
 ·have Ek:(if b∈bs then Qs else g.whole b)=Qr y:=hy;split at Ek
  ·cases Ek
  rename_i bl;obtain⟨a1,a2⟩:=h.wf.whole.blocks b y Ek;exact⟨by rw[oW bs w bl];exact a1,fun o l z hz=>a2 o l z (dx o l z hz)⟩
 ·have:=h.wf.whole.io;rw[(aGd bs w).1,(aGd bs w).2];exact this
 rw[oW bs w fun hm=>by have:=(ss b hm).1;omega];exact h.frame.2 b hb hw
theorem aEU{fn:Func}{tmps:Array BE}{R:Ending->BL->Prop}:∀(bs:LN) (w:BL),bs.Nodup->(∀b∈bs,w.heap[b]? = Qr (.deferred (Qr []))) ->(∃v,(results fn tmps).run P (oV w bs)=.ok v (oV w bs)/\R (.returned v) (oV w bs)) ->LeavesInM FJ 0 P fn tmps R (bs.map fun b=>⟨.collected b,#[]⟩) .returning w
 | [],w,_,_,h=>h
 |b::bs,w,hn,hb,h=>by
  refine⟨by simp,.inl ⟨b,_,rfl,run_takeDeferred (hb b (by simp)), ?_⟩⟩;rw[List.nodup_cons]at hn;exact aEU bs _ hn.2 (fun c hc=>by
   have bl:c≠b:=fun e=>hn.1 (e ▸ hc);rw[GK bl];exact hb c (by simp[hc])) h
theorem aEV:∀(ps:LN) (xs:LA) (vs:List BE) {ρ:LA} {tmps:Array BE},aX g ρ tmps->fU g xs vs->xs.length=ps.length ->aX g (dH ρ ps xs) ((ps.zip vs).foldl (fun t (p:Nat×BE)=>t.setIfInBounds p.1 p.2) tmps)
 | [],[],vs,ρ,tmps,hs,hx,_=>by simpa [dH]using hs
 |t::ps,x::xs,[],ρ,tmps,hs,hx,_=>by have:=hx.1;simp at this
 |t::ps,x::xs,v::vs,ρ,tmps,hs,hx,hl=>by
  simp only[dH,List.zip_cons_cons,List.foldl_cons];refine aEV ps xs vs ⟨by simpa using hs.1,fun t'=>?_⟩ ⟨by have:=hx.1;simpa using this,fun i a y e1 e2=>hx.2 (i+1) a y (by simpa using e1) (by simpa using e2)⟩ (by simpa using hl);have h1:=hs.1;by_cases e:t=t'
  ·subst e;by_cases hlt:t<ρ.length
   ·have:=hx.2 0 x v rfl rfl;simpa [hlt,h1 ▸ hlt,CR,HL]using this
   have:(ρ.set t x)[t]? = none:=CY (by simp;omega);rw[this];exact .undef _
  rw[getElem?_set_ne' _ _ e];have:=hs.2 t';simpa [CR,HL,e]using this
 | [],x::xs,vs,_,_,_,_,hl=>by simp at hl
 |t::ps,[],vs,_,_,_,_,hl=>by simp at hl
end
section
variable {P:CU}{ab:cu}{A:af}
def aMT(P:CU)(ab:cu)(f:Nat)(fn:bw):Prop:=
 ∃F body frz nl ty rs,P.funcs[f]? = Qr F/\(F.name == "runtime.NumGoroutine")=Qu/\F.body=Qr body /\
  fn.body=nR P { ab with nl:=nl,typed:=ty,refs:=rs } frz body/\fn.ntmps=F.ntmps/\aNz P F.results.toList=Qr fn.results
def aWY(P:CU)(ab:cu)(A:af)(f:Nat):Prop:=
 ∀n,(∀m,m<n->oT P ab (dD A m))->gS P ab fun f' args H=>if f'=f then dD A n f args H else Qs
structure Good(P:CU)(ab:cu)(A:af):Prop where
 mixed:P.follows .mixedOrders=Qt
 A5:A.fn YF=Qs/\A.bq YF=Qs
 fn:∀f fn,A.fn f=Qr fn->aMT P ab f fn∨aWY P ab A f
 bq:∀f p,A.bq f=Qr p->gS P ab fun f' args H=>if f'=f then (p args H).map (cT H)else Qs
def bf.real:bf->Exit
 |.normal=>.normal
 |.exit id=>.exit id
 |.ret=>.ret
def aHw(g:G)(n0:Nat)(ds d:List HU):Prop:=
 ∃bs:LN,ds=bs.map (fun b=>⟨.collected b,#[]⟩)++d/\(∀b∈bs,n0<=b/\g.whole b=Qr (.deferred (Qr [])))/\bs.Nodup
theorem aHw.refl{g:G}{n0:Nat}{d:List HU}:aHw g n0 d d:=⟨[],rfl,fun b h=>by simp at h,List.nodup_nil⟩
theorem aHw.trans{g1 g2:G}{n0 n1:Nat}{d1 d2 d:List HU}(h1:aHw g1 n0 d1 d)(hle:g1.le g2)(hn:n0<=n1)(hlt:∀b x,g1.whole b=Qr x->b<n1)(h2:aHw g2 n1 d2 d1):aHw g2 n0 d2 d:=by
 obtain⟨b1,e1,f1,u1⟩:=h1;obtain⟨b2,e2,f2,u2⟩:=h2;refine⟨b2++b1,by rw[e2,e1,List.map_append,List.append_assoc],fun b hb=>?_,List.nodup_append.2 ⟨u2,u1,fun x hx y hy e=>?_⟩⟩
 ·rcases AY.1 hb with hb | hb
  ·exact⟨Nat.le_trans hn (f2 b hb).1,(f2 b hb).2⟩
  exact⟨(f1 b hb).1,hle.whole _ _ (f1 b hb).2⟩
 subst e;have:=(f2 x hx).1;have:=hlt x _ (f1 x hy).2;omega
def aGe(P:CU)(ab:cu)(base:Nat)(g:G)(H:LO)(w:BL)(d:List HU)(s':gp)(a':Act)(w':BL):Prop:=
 ∃g' W,Step g H w g' s'.H w' W/\(∀o∈W,o<base->o∈s'.wr)/\aX g' s'.ρ a'.tmps/\aHw g' w.heap.size a'.defers d/\bM P ab g'
theorem aA9.to{base:Nat}{g:G}{H:LO}{w:BL}{d:List HU}{s':gp}{a':Act}{w':BL}(h:aA9 P ab base g H w d s' a' w'):aGe P ab base g H w d s' a' w':=by obtain⟨g',W,h1,h2,h3,h4,h5⟩:=h;exact⟨g',W,h1,h2,h3,h4 ▸ aHw.refl,h5⟩
theorem aGe.refl{base:Nat}{g:G}{w:BL}{a:Act}{s:gp}(hw:WF g s.H w)(hs:aX g s.ρ a.tmps)(hg:bM P ab g):aGe P ab base g s.H w a.defers s a w:=(aA9.refl hw hs hg).to
theorem aGe.join{base:Nat}{g g1:G}{H:LO}{w:BL}{d:List HU}{s1 s2:gp}{a1 a2:Act}{w1 w2:BL}{W:LN} (h1:Step g H w g1 s1.H w1 W) (h2:∀o∈W,o<base->o∈s1.wr) (h4:aHw g1 w.heap.size a1.defers d) (ma:∀o∈s1.wr,o∈s2.wr) (h:aGe P ab base g1 s1.H w1 a1.defers s2 a2 w2):aGe P ab base g H w d s2 a2 w2:=by
 obtain⟨g2,W',i1,i2,i3,i4,i5⟩:=h;refine⟨g2,W++W',h1.trans i1,fun o ho hb=>?_,i3,h4.trans i1.le h1.frame.1 (fun b x hx=>h1.wf.whole.lt hx) i4,i5⟩;rcases AY.1 ho with ho | ho
 ·exact ma o (h2 o ho hb)
 exact i2 o ho hb
theorem aKl{w:BL}{b off:Nat}{x:BE}(h:w.cell? ⟨b,off,Qs⟩=Qr x):w.setCell ⟨b,off,Qs⟩ x=w:=by
 have key:(w.heap.modify b fun
   |.cells c elem frozen=>.cells (c.setIfInBounds off x) elem frozen
   |o=>o)=w.heap:=by
  apply MS;intro i;rw[Array.getElem?_modify];by_cases e:b=i
  ·subst e;rw[Zy rfl];simp only[EF]at h;cases hb:w.heap[b]? with
   |none=>rfl
   |some o=>
    rw[hb]at h;cases o with
    |cells c elem fz=>
     simp at h;have hlt:=(KM.1 h).1;have hx:=(KM.1 h).2;simp only[DE,AG,Qh,and_self,and_true];apply MS;intro j;by_cases ej:off=j
     ·subst ej;simp[hlt,hx]
     simp[ej]
    |_=>rfl
  rw[Zx e]
 simp only[World.setCell,Option.isSome_none,BX,Zu];exact congrArg (fun h=>{ w with heap:=h }) key
theorem aD6{w:BL}{b:Nat}:∀(vs:List BE) (off:Nat),(∀(j:Nat) v,vs[j]? = Qr v->w.cell? ⟨b,off+j,Qs⟩=Qr v)->w.setCells b off vs=w
 | [],_,_=>rfl
 |v::vs,off,h=>by
  have h0:=h 0 v rfl;simp only[Nat.add_zero]at h0;simp only[World.setCells];rw[aKl h0];exact aD6 vs (off+1) fun j x hx=>by
   have:=h (j+1) x (by simpa using hx)
   rwa [show off+(j+1)=off+1+j by omega]at this
theorem aAg{c:Ctx}{w:BL}{a:Act}:∀(ts:List (Nat×Nat)) (s s':gp),nX c s ts=Qr s'->∀(g:G),WF g s.H w->bM P ab g->aX g s.ρ a.tmps->aA9 P ab c.base g s.H w a.defers s' a w
 | [],s,s',h,g,hw,hg,hs=>by simp only[nX,AG]at h;subst h;exact .refl hw hs hg
 | (0,t)::ts,s,s',h,g,hw,hg,hs=>by
  unfold nX at h;split at h
  ·rename_i v H' l hf;obtain⟨g1,h1,h2⟩:=aI1 hw hf (hs.2 t);have lq:aX g1 (s.ρ.set t v) a.tmps:=by
    refine⟨by simpa using hs.1,fun t'=>?_⟩;by_cases e:t=t'
    ·subst e;by_cases hlt:t<s.ρ.length
     ·simpa [hlt]using h2
     have:(s.ρ.set t v)[t]? = none:=CY (by simp;omega);rw[this];exact .undef _
    rw[getElem?_set_ne' _ _ e];exact (hs.2 t').mono h1.le
   have h3:=aAg ts _ s' h g1 h1.wf (hg.mono h1.le) lq;obtain⟨g2,W,i1,i2,i3,i4,i5⟩:=h3;refine⟨g2,l++W,h1.trans i1,fun o ho hb=>?_,i3,i4,i5⟩;rcases AY.1 ho with ho | ho
   ·exact (sR ts _ s' h).2.1 o ((cE _ _ _).2 o ho hb)
   exact i2 o ho hb
  cases h
 | (k+1,t)::ts,s,s',h,g,hw,hg,hs=>by
  unfold nX at h;split at h
  ·exact aAg ts _ s' h g hw hg hs
  split at h
  ·rename_i H' l hk;obtain⟨g1,h1⟩:=aIY hw hk (hs.2 t);have h3:=aAg ts _ s' h g1 h1.wf (hg.mono h1.le) (hs.mono h1.le);obtain⟨g2,W,i1,i2,i3,i4,i5⟩:=h3;refine⟨g2,l++W,h1.trans i1,fun o ho hb=>?_,i3,i4,i5⟩;rcases AY.1 ho with ho | ho
   ·exact (sR ts _ s' h).2.1 o ((cE _ _ _).2 o ho hb)
   exact i2 o ho hb
  split at h
  ·rename_i cs hr;split at h
   ·rename_i cs' H' l hf;split at h
    ·rename_i H2 l2 bd;obtain⟨b,off,vs,e,ax,hl,hc⟩:=eI hw hr (hs.2 t);obtain⟨g1,h1,h2⟩:=aI1 hw hf (fU.agg (vs:=vs.toArray) (by simpa using hl));obtain⟨ys,e1,qe⟩:=h2.fu;cases e1;have O6:fU g1 cs' vs:=by simpa using qe
     obtain⟨b',off',e',_,_,h3⟩:=fF h1.wf bd ((hs.2 t).mono h1.le) O6;rw[e]at e';cases e';have Z5:w.setCells b off vs=w:=aD6 vs off fun j v hv=>hc j v hv;rw[Z5]at h3;have h4:=aAg ts _ s' h g1 h3.wf (hg.mono h1.le) (hs.mono h1.le);obtain⟨g2,W,i1,i2,i3,i4,i5⟩:=h4;refine⟨g2,(l++l2)++W,(h1.trans h3).trans i1,fun o ho hb=>?_,i3,i4,i5⟩;rcases AY.1 ho with ho | ho
     ·exact (sR ts _ s' h).2.1 o ((cE _ _ _).2 o ho hb)
     exact i2 o ho hb
    cases h
   cases h
  cases h
theorem WF.more{g:G}{H:LO}{w:BL}(h:WF g H w)(k:Nat):Step g H w g (H++AX k (.gone 0)) w []:=by
 have jk:∀o l x,au g (H++AX k (.gone 0)) o l x->au g H o l x:=fun o l x hb=>⟨by rw[<- BM (h.lt o l hb.loc)];exact hb.Pr,hb.alive,hb.loc,hb.st⟩;refine⟨G.le.refl g,⟨h.perm,fun o l hl=>by have:=h.lt o l hl;simp;omega,h.blk,fun o x l hx hl=>?_,fun o l x hb=>h.obj o l x (jk o l x hb),fun o l x hb=>h.jh o l x (jk o l x hb),
  fun o o' l l' x x' h1 h2=>h.inj o o' l l' x x' (jk _ _ _ h1) (jk _ _ _ h2),h.whole.aq rfl rfl ⟨rfl,rfl⟩ (fun _ _ _=>rfl) fun o l y hl=>.inr ⟨o,l,y,jk _ _ _ hl,rfl⟩⟩,aDS.refl _ _ _,fun o ho _=>BM ho,by simp,fun _ l' hl=>.inr ⟨l',hl,rfl⟩,fun _ _ _=>rfl⟩
 rw[BM (h.lt o l hl)]at hx;exact h.st o x l hx hl
def aE4(r:Option Nat)(c:Ctx)(g:G):Prop:=∀l,r=Qr l->∃o v,c.rd=Qr (o,v)/\ai g (.yld o v) (.func (.yield l) #[] #[])
theorem aE4.mono{r:Option Nat}{c:Ctx}{g g':G}(h:aE4 r c g)(hg:g.le g'):aE4 r c g':=fun l e=>let ⟨o,v,h1,h2⟩:=h l e;⟨o,v,h1,h2.mono hg⟩
theorem vL{g:G}{H:LO}{w:BL}(hw:WF g H w){o v:Nat}{l:Nat}(hx:ai g (.yld o v) (.func (.yield l) #[] #[])){base:Nat}{sites ps:LN}{body:ag}{ρ:LA}{busy:Bool}{pend:Option bf} (ho:H[o]? = Qr (.rnd v base sites ps body ρ busy pend)):∃lc,au g H o lc (.rnd v base sites ps body ρ busy pend)/\lc.b=l:=by
 cases hx with
 |yld _ _ lc r hl hv h=>
  have bd:lc.st=v:=by have:=hw.st o _ lc ho hl;simp only[ah.ver]at this;omega
  have hb:au g H o lc (.rnd v base sites ps body ρ busy pend):=⟨ho,rfl,hl,bd⟩;obtain⟨h0,_⟩:=hw.obj o lc _ hb;exact⟨lc,hb,(h bd h0).symm⟩
def aPg(P:CU)(ab:cu)(A:af)(n:Nat):Prop:=
 ∀(nl:Bool) (ty rs:LN) (c:Ctx) (frz:Nat->List (Nat×Nat)) (x:Code) (s:gp) e s',cY A n c (nR P { ab with nl:=nl,typed:=ty,refs:=rs } frz x) s=Qr (e,s')->∀(g:G) (a:Act) (w:BL),WF g s.H w->bM P ab g->aX g s.ρ a.tmps ->
  ∀Q:Exit->Act->BL->Prop,(∀a' w',aGe P ab c.base g s.H w a.defers s' a' w'->Q e.real a' w')->∀r:Option Nat,aE4 r c g->x.wpIn (fr r) 0 P Q a w/\∀b,x=.loop b->LL (fr r) 0 P b Q n a w
theorem aLI(A0:Good P ab A){n:Nat}(jz:aPg P ab A n):aOS P ab (dD A n):=by
 intro o v Pq H av H' wr h g w l xs hw hg hy hx;rcases sS h with⟨p,v1,hp,hv,hr⟩ | ⟨fn,s',e,r',hf,_⟩ | ⟨_,hr⟩
 ·rw[A0.A5.2]at hp;cases hp
 ·rw[A0.A5.1]at hf;cases hf
 obtain⟨o',v',as',base,sites,ps,asg,body,ρ,s0,b1,t1,p1,c1,r1,e,s,e1,hH,ax,xt,xu,je,b2,s2,p2,c2,r2,nu,pw⟩:=oK hr;simp only[JG,AV.yld.injEq,true_and]at e1;obtain⟨⟨rfl,rfl⟩,rfl⟩:=e1;simp only[BK]at pw;obtain⟨rfl,rfl,rfl⟩:=pw;obtain⟨lc,hb,rfl⟩:=vL hw hy hH;obtain⟨h0,rec,fb,bd,Cl,Hx,⟨ca,cb,Z6,Kl,ig⟩,_,gd,qt⟩:=hw.obj o lc _ hb;simp only[ag.seq.injEq]at Z6;obtain⟨rfl,rfl⟩:=Z6;have n9:=hx.1;have El:rec.params.size=xs.length:=by rw[<- Array.length_toList,Hx];omega
 refine⟨rec,fb,El, ?_⟩;obtain⟨nlA,tyA,rsA,frzA,rfl⟩:=(hg.code asg rec.assign).1 Kl;obtain⟨nlB,tyB,rsB,frzB,rfl⟩:=(hg.code body rec.body).1 ig;have zj:(Ctx.mk base (sites++[YF+o,YF+v])).rd=Qr (o,v):=by simp[Ctx.rd]
 have F9:aE4 (Qr lc.b) ⟨base,sites++[YF+o,YF+v]⟩ g:=fun l' e=>by
  cases e;exact⟨o,v,zj,hy⟩
 have se:aX g (dH ρ ps Pq) ((rec.params.zip xs.toArray).foldl (fun tmps (t,a)=>tmps.setIfInBounds t a) rec.tmps):=by have h1:=aEV (g:=g) ps Pq xs (tmps:=rec.tmps) ⟨gd,qt⟩ hx ax;rw[<- Array.foldl_toList,Array.toList_zip,Hx];exact h1
 refine roundIn_of_wpIn (F:=FJ) trivial ?_;refine (jz nlA tyA rsA _ frzA rec.assign _ .normal s0 xt g { tmps:=_,defers:=[] } w hw hg se _ (fun a1 w1 G1=>?_) (Qr lc.b) F9).1;obtain⟨g1,W1,j1,j2,j3,j4,j5⟩:=G1;obtain⟨lc1,fo,Em⟩:=vL j1.wf (hy.mono j1.le) xu;obtain⟨z0,rec1,zheap,zst,zpe,zps,zas,_,zsz,ztm⟩:=j1.wf.obj o lc1 _ fo;have s1:=Step.put (x':=.rnd v b1 t1 p1 c1 r1 Qt Qs) j1.wf fo rfl rfl (.loop { rec1 with state:=.busy }) fun hle=>⟨z0,{ rec1 with state:=.busy },LR (j1.wf.blk o lc1 fo.loc),by simp,zpe,zps,zas,trivial,zsz,fun t=>(ztm t).mono hle⟩;rw[Em]at zheap s1;refine⟨_,run_beginRound zheap (by simpa using zst), ?_⟩;have xm:aE4 (Qr lc.b) ⟨base,sites++[YF+o,YF+v]⟩ (g1.setObj o lc1):=fun l' e=>by
  cases e;exact⟨o,v,zj,(hy.mono j1.le).mono s1.le⟩
 refine (jz nlB tyB rsB _ frzB rec.body _ e s je _ a1 _ s1.wf (j5.mono s1.le) (j3.mono s1.le) (roundPost P lc.b _) (fun a' w' ku=>?_) (Qr lc.b) xm).1;obtain⟨g2,W,i1,i2,i3,i4,i5⟩:=ku;obtain⟨lc2,dp,P0⟩:=vL i1.wf (((hy.mono j1.le).mono s1.le).mono i1.le) nu;obtain⟨q0,rec2,qheap,qst,qpe,qps,qas,qcd,qsz,qtm⟩:=i1.wf.obj o lc2 _ dp;rw[P0]at qheap;have fin:∀(jump:Option Code) (pend:Option bf),jump=pend.map aIT->(decide (e=.normal))=jump.isNone->pend=(if e=.normal then Qs else Qr e) ->
   ∃v' w'',(Instr.endRound lc.b jump).run P w'=.ok v' w''/\∃g',Step g H w g' (s.H.set o (.rnd v b2 s2 p2 c2 r2 Qu (if e=.normal then Qs else Qr e))) w'' (FM base (H.length - base)++(o::s.wr))/\ai g' (.bool (decide (e=.normal))) v':=by
  intro jump pend hj hd hp;refine⟨_,_,run_endRound jump qheap, ?_⟩;have s3:=Step.put (x':=.rnd v b2 s2 p2 c2 r2 Qu pend) i1.wf dp rfl rfl (.loop { rec2 with state:=if jump.isNone then .ready else .done,pending:=jump }) fun hle=>⟨q0,{ rec2 with state:=if jump.isNone then .ready else .done,pending:=jump },LR (i1.wf.blk o lc2 dp.loc),by subst hj;cases pend<;>simp,hj,qps,qas,qcd,qsz,fun t=>(qtm t).mono hle⟩;rw[P0]at s3;rw[<- hp];refine⟨_,(((j1.trans s1).trans i1).trans s3).narrow hw.lt fun q hq hlt=>?_,by rw[hd];exact .bool _⟩;simp only[AY,BD,CC,or_false]at hq;simp only[AY,BD,FC];rcases hq with ((hq | rfl) | hq) | rfl
  ·by_cases P1:q<base
   ·exact .inr (.inr ((fJ _ _ _ _ _ _ je).2.1 q (j2 q hq P1)))
   exact .inl ⟨by omega,by omega⟩
  ·exact .inr (.inl rfl)
  ·by_cases P1:q<base
   ·exact .inr (.inr (i2 q hq P1))
   exact .inl ⟨by omega,by omega⟩
  exact .inr (.inl rfl)
 cases e with
 |normal=>exact fin Qs Qs rfl rfl rfl
 |ret=>exact fin (Qr .ret) (Qr .ret) rfl rfl rfl
 |exit id=>exact fin (Qr (.exit id)) (Qr (.exit id)) rfl rfl rfl
theorem aE5(A0:Good P ab A):∀(n:Nat),(∀m,m<=n->aPg P ab A m)->oT P ab (dD A n):=by
 intro n
 induction n using KK with
 |_ n ihc=>
 intro da;have jz:=da n (AQ _);refine⟨?_,aLI A0 jz⟩;intro f args H av H' wr h g w xs hw hg hx;rcases sS h with⟨p,v1,hp,hv,hr⟩ | ⟨fn,s',e,r',hf,he,vt,zk,hr,_⟩ | ⟨_,hrr⟩
 rotate_left 2
 ·obtain⟨o,v,Pq,_,_,_,_,_,_,_,_,_,_,_,_,_,_,rfl,_⟩:=oK hrr;obtain⟨y,hy⟩:∃y,xs[0]? = Qr y:=⟨xs[0]'(by have:=hx.1;simp at this;omega),AP _⟩;have:=hx.2 0 _ y rfl hy;cases this
 ·cases hr;exact A0.bq f p hp f args H _ _ _ (by simp[hv];rfl) g w xs hw hg hx
 rcases A0.fn f fn hf with nx | halt;rotate_left
 ·exact halt n (fun m hm=>ihc m hm fun k hk=>da k (by omega)) f args H av H' wr (by simpa using h) g w xs hw hg hx
 obtain⟨F,body,frz,nl,ty,rs,e1,e2,e3,e4,e5,e6⟩:=nx;refine⟨⟨F,e1,e2,by simp[e3]⟩,callsIn_wide.1 (callsIn_of_wp_marks (F:=FJ) (n:=0) e1 e3 trivial ?_)⟩;rw[e4]at he;have bd:=hw.more fn.sites.length;refine (jz nl ty rs _ frz body _ e s' he g _ w bd.wf hg ?_ _ (fun a' w' ku=>?_) Qs (fun l e=>by cases e)).1
 ·
  have ax:=hx.1;refine⟨by simp[nF,ax,e5],fun t=>?_⟩;simp only[nF];by_cases ht:t<args.length
  ·rw[BM ht,AP ht];have h1:(xs.toArray++NW (F.ntmps - xs.toArray.size) EE).getD t EE=xs[t]'(by omega):=by
    simp[CR,Array.getElem?_append,show t<xs.length by omega]
   rw[h1];exact hx.2 t _ _ (AP ht) (AP (by omega))
  rw[BU (by omega),IN];split<;>exact .undef _
 obtain⟨g0,W,j1,i2,j3,⟨bs,En,Z7,Eo⟩,j5⟩:=ku;have xu:Step g H w g0 s'.H w' W:=by simpa using bd.trans j1
 have Z8:∀b∈bs,g0.whole b=Qr (.deferred (Qr [])):=fun b hb=>(Z7 b hb).2;have lq:=Step.marks hw xu Z7;have i1:=lq;have i3:aX (g0.jb bs) s'.ρ a'.tmps:=⟨j3.1,fun t=>(j3.2 t).jb Z8⟩;generalize V4:g0.jb bs=g1 at lq i1 i3;have A6:(∃v,(results F a'.tmps).run P (oV w' bs)=.ok v (oV w' bs)/\(match Ending.returned v with | .returned v=>∃g',Step g H w g' H' (oV w' bs) wr/\pN g' H' w.heap.size (oV w' bs) av v | _=>False)) ->
   LeavesInM FJ 0 P F a'.tmps (fun e w'=>match e with | .returned v=>∃g',Step g H w g' H' w' wr/\pN g' H' w.heap.size w' av v | _=>False) a'.defers .returning w':=fun hh=>by
  rw[En,List.append_nil];exact aEU bs w' Eo (fun b hb=>(xu.wf.whole.blocks b _ (Z8 b hb)).1) hh
 generalize gn:oV w' bs=w2 at lq i1 A6;obtain⟨vs,C8,r9⟩:=aEL zk;obtain⟨ys,tc,Cm⟩:=vH (P:=P) i1.wf i3 F.results.toList fn.results vs e6 C8;have cl:=aLD tc;have vu:∃g2,Step g H w g2 r'.2.1 w2 r'.2.2/\pN g2 r'.2.1 w.heap.size w2 r'.1 (aR8 ys):=by
  rcases r9 with⟨v,v',H2,l,rfl,yp,rfl⟩ | ⟨vs',H2,l,bl,yp,rfl⟩
  ·have hl:ys.length=1:=by have:=Cm.1;simpa using this.symm
   obtain⟨y,rfl⟩:=FQ.1 hl;have ki:∀o l,H.length<=o->g1.obj o=Qr l->w.heap.size<=l.b:=fun o l ho hl=>by
    rcases lq.mc o l hl with h1 | ⟨l0,h0,_⟩
    ·exact h1
    have:=hw.lt o l0 h0;omega
   obtain⟨g2,j1,j2⟩:=aI7 ki i1.wf yp (Cm.2 0 v y rfl rfl);refine⟨g2,(lq.trans j1).narrow hw.lt fun o ho hb=>?_,j2⟩;rcases AY.1 ho with ho | ho
   ·exact (cE _ _ _).1 o (i2 o ho hb)
   exact (cE _ _ _).2 o ho hb
  obtain⟨g2,j1,j2⟩:=aG3 i1.wf yp Cm;have ht:aR8 ys=.tuple ys.toArray:=by
   have:=Cm.1;cases ys with
   |nil=>rfl
   |cons y r=>cases r with
    |nil=>simp at this;omega
    |cons z r=>rfl
  rw[ht];refine⟨g2,(lq.trans j1).narrow hw.lt fun o ho hb=>?_, ?_⟩
  ·rcases AY.1 ho with ho | ho
   ·exact (cE _ _ _).1 o (i2 o ho hb)
   exact (cE _ _ _).2 o ho hb
  exact ai.tup vs' ys.toArray (by simpa using j2.1) fun i a x ha hx=>j2.2 i a x ha (by simpa using hx)
 have P3:∃g2,Step g H w g2 H' w2 wr/\pN g2 H' w.heap.size w2 av (aR8 ys):=by
  obtain⟨g2,k1,k2⟩:=vu;obtain⟨v3,H3,wr3⟩:=r';simp only[cJ]at hr;split at hr
  ·rename_i zl;simp only[AI]at zl;cases hr;refine⟨g2.cut H.length,Step.cut hw k1 fun o ho x hx=>?_,pN.cut k2 zl.1⟩;have:=AO.1 zl.2 o ho;rw[hx]at this;exact this
  cases hr;exact⟨g2,k1,k2⟩
 have hb:=A6 ⟨_,cl,P3⟩;rcases vt with rfl | rfl
 ·exact hb
 exact hb
theorem aNQ(A0:Good P ab A)(n:Nat):aPg P ab A n:=by
 induction n using KK with
 |_ n ihs=>
 cases n with
 |zero=>exact fun nl ty rs c frz x s e s' h=>by rw[gT]at h;cases h
 |succ n=>
  have ih:=ihs n (Nat.lt_succ_self n);have az:=aE5 A0 n fun k hk=>ihs k (by omega);have my:sQ (dD A n):=aKa n;intro nl ty rs c frz x s e s' h g a w hw hg hs Q hQ r hR;have region:∀(m:Nat) (id:Nat) (ops:Array HP) (d:Bool) (s s':gp) (g:G) (e:bf),oT P ab (dD A m)->WF g s.H w->aX g s.ρ a.tmps->bM P ab g->cY A (m+1) c (.region d (aTn d (aDQ P { ab with nl:=nl,typed:=ty,refs:=rs } ops.toList ops.toList []))) s=Qr (e,s') ->
    ∀Q:Exit->Act->BL->Prop,(∀a' w',aGe P ab c.base g s.H w a.defers s' a' w'->Q e.real a' w')->(PJ id ops d).wpIn (fr r) 0 P Q a w:=by
   intro m id ops d s s' g e hc hw hs hg h Q hQ;rw[iS]at h;split at h
   ·rename_i s1 hr;cases h;cases d with
    |true=>exact aNM (ab:={ ab with nl:=nl,typed:=ty,refs:=rs }) A0.mixed hc (aKa m) hr hw hg hs fun a' w' h0=>hQ a' w' (aA9.to h0)
    |false=>simp only[iO,Bool.false_and,BX,Zu,aFW]at hr;exact aK2 (ab:={ ab with nl:=nl,typed:=ty,refs:=rs }) hc hr hw hg hs fun a' w' h0=>hQ a' w' (aA9.to h0)
   cases h
  have noloop:∀{y:Code},(∀b,y≠.loop b)->y.wpIn (fr r) 0 P Q a w->y.wpIn (fr r) 0 P Q a w/\∀b,y=.loop b->LL (fr r) 0 P b Q (n+1) a w:=fun bl Km=>⟨Km,fun b hb=>Zw hb (bl b)⟩;cases x with
  |skip=>refine noloop (fun b=>by simp) (wpIn_skip ?_);simp only[nR,xB,AG,BK]at h;obtain⟨rfl,rfl⟩:=h;exact hQ a w (.refl hw hs hg)
  |region id ops d=>
   refine noloop (fun b=>by simp) ?_;simp only[nR]at h;split at h
   ·exact region n id ops d s s' g e az hw hs hg h Q hQ
   rename_i ts _;rw[iD]at h;cases n with
   |zero=>rw[gT]at h;cases h
   |succ m=>
    rw[vI]at h;split at h
    ·rename_i s1 hz;split at hz
     ·rename_i s2 hf;cases hz;have ku:=aAg _ s s1 hf g (w:=w) (a:=a) hw hg hs;obtain⟨g1,W,i1,i2,i3,i4,i5⟩:=ku;have Kn:oT P ab (dD A m):=aE5 A0 m fun k hk=>ihs k (by omega);refine region m id ops d s1 s' g1 e Kn i1.wf i3 i5 h Q fun a' w' hr=>hQ a' w' ?_;obtain⟨g2,W',j1,j2,j3,j4,j5⟩:=hr;refine⟨g2,W++W',i1.trans j1,fun o ho hb=>?_,j3,j4,j5⟩;rcases AY.1 ho with ho | ho
      ·exact (fJ _ _ _ _ _ _ h).2.1 o (i2 o ho hb)
      exact j2 o ho hb
     cases hz
    rename_i bl;exfalso;split at h
    ·rename_i s2 hf;exact bl s2 (by rw[hf])
    cases h
  |seq x y=>
   refine noloop (fun b=>by simp) (wpIn_seq ?_);simp only[nR,iD]at h;split at h
   ·rename_i s1 h1;refine (ih nl ty rs c frz x s _ s1 h1 g a w hw hg hs _ (fun a1 w1 hr=>?_) r hR).1;obtain⟨g1,W,i1,i2,i3,i4,i5⟩:=hr;refine (ih nl ty rs c frz y s1 e s' h g1 a1 w1 i1.wf i5 i3 Q (fun a' w' pw=>hQ a' w' ?_) r (hR.mono i1.le)).1;exact aGe.join i1 i2 i4 (fJ _ _ _ _ _ _ h).2.1 pw
   rename_i bl;refine (ih nl ty rs c frz x s e s' h g a w hw hg hs _ (fun a1 w1 hr=>?_) r hR).1;cases e with
   |normal=>exact Zw h (bl s')
   |exit id=>exact hQ a1 w1 hr
   |ret=>exact hQ a1 w1 hr
  |cond t x y=>
   refine noloop (fun b=>by simp) ?_;cases t with
   |tmp t=>
    simp only[nR,iT]at h;have hv:=hs.2 t;split at h
    ·rename_i hb;simp only[aa.ev]at hb;rw[hb]at hv;have he:a.eval (.tmp t)=.bool true:=by cases P5  : a.tmps.getD t EE<;>rw[P5]at hv<;>cases hv;exact P5
     exact wpIn_cond_true he (ih nl ty rs c frz x s e s' h g a w hw hg hs Q hQ r hR).1
    ·rename_i hb;simp only[aa.ev]at hb;rw[hb]at hv;have he:a.eval (.tmp t)=.bool false:=by cases P5  : a.tmps.getD t EE<;>rw[P5]at hv<;>cases hv;exact P5
     exact wpIn_cond_false he (ih nl ty rs c frz y s e s' h g a w hw hg hs Q hQ r hR).1
    cases h
   |_=>simp only[nR,qG]at h;cases h
  |block id b=>
   refine noloop (fun b=>by simp) (wpIn_block ?_);simp only[nR,eP]at h;split at h
   ·rename_i id' s1 h1;refine (ih nl ty rs c frz b s _ s1 h1 g a w hw hg hs _ (fun a1 w1 hr=>?_) r hR).1;split at h
    ·rename_i hid;cases h;simp only[bf.real,PB,hid,Zv];exact hQ a1 w1 hr
    rename_i hid;cases h;simp only[bf.real,PB,hid,Zu];exact hQ a1 w1 hr
   rename_i bl;refine (ih nl ty rs c frz b s e s' h g a w hw hg hs _ (fun a1 w1 hr=>?_) r hR).1;cases e with
   |normal=>exact hQ a1 w1 hr
   |exit id'=>exact Zw h (bl id' s')
   |ret=>exact hQ a1 w1 hr
  |loop b=>
   have key:LL (fr r) 0 P b Q (n+1) a w:=by
    simp only[nR,gU]at h;rw[roundsIn_succ];split at h
    ·rename_i s1 h1;refine (ih nl ty rs c frz b s _ s1 h1 g a w hw hg hs _ (fun a1 w1 hr=>?_) r hR).1;obtain⟨g1,W,i1,i2,i3,i4,i5⟩:=hr;refine (ih nl ty rs c frz (.loop b) s1 e s' h g1 a1 w1 i1.wf i5 i3 Q (fun a' w' pw=>hQ a' w' ?_) r (hR.mono i1.le)).2 b rfl;exact aGe.join i1 i2 i4 (fJ _ _ _ _ _ _ h).2.1 pw
    rename_i bl;refine (ih nl ty rs c frz b s e s' h g a w hw hg hs _ (fun a1 w1 hr=>?_) r hR).1;cases e with
    |normal=>exact Zw h (bl s')
    |exit id=>exact hQ a1 w1 hr
    |ret=>exact hQ a1 w1 hr
   exact⟨wpIn_loop_rounds _ key,fun b' du=>by cases du;exact key⟩
  |exit id=>refine noloop (fun b=>by simp) (wpIn_exit ?_);simp only[nR,aCb,AG,BK]at h;obtain⟨rfl,rfl⟩:=h;exact hQ a w (.refl hw hs hg)
  |ret=>refine noloop (fun b=>by simp) (wpIn_ret ?_);simp only[nR,aDZ,AG,BK]at h;obtain⟨rfl,rfl⟩:=h;exact hQ a w (.refl hw hs hg)
  |rangeFunc gx ps assign body=>
   refine noloop (fun b=>by simp) ?_;simp only[nR]at h;split at h;rotate_left
   ·rw[qG]at h;cases h
   rename_i xo xa;rw[iU]at h;split at h;rotate_left
   ·cases h
   rename_i f first ay id O5 qh
   split at h;rotate_left
   ·cases h
   rename_i hc;obtain⟨hid,uo⟩:=hc;split at h;rotate_left
   ·cases h
   rename_i rv H2 wr kq;split at h;rotate_left
   ·cases h
   rename_i v b2 s2 p2 c2 r2 pend hH2;split at h;rotate_left
   ·cases h
   rename_i hv;obtain⟨rfl,Cn⟩:=hv;cases h;have D1:=aQ (P:=P) (ab:={ ab with nl:=nl,typed:=ty,refs:=rs }) xa hg hs;rw[O5]at D1;obtain⟨vf,vc,je,yo,hlc⟩:=D1.rm;have ti:s.H[id]? = Qr s.H[id]:=by simp[hid]
   have nn:bH s.H id=s.H[id].ver+1:=by simp[bH,hid]
   obtain⟨l,mark,D,g0,w0,he,s0,Z9⟩:∃(l:Nat) (mark:List HU) (D:Nat) (g0:G) (w0:BL),
     (∀fn,(JZ fn a.tmps ps assign body (fr r).round).run P w=.ok (l,mark) (w0.alloc (.loop { state:=.ready,pending:=Qs,fn,tmps:=a.tmps,params:=ps,assign,body,defers:=D }))) /\
     (Step g s.H w g0 s.H w0 []/\l=w0.heap.size)/\(mark=[]∨(mark=[⟨.collected w.heap.size,#[]⟩]/\g0.whole w.heap.size=Qr (.deferred (Qr [])))):=by
    cases r with
    |none=>have h1:=Step.xw hw (.deferred (Qr []));exact⟨_,_,w.heap.size,_,_,fun fn=>run_enterLoop_outer fn a.tmps ps assign body,⟨h1,by simp[World.size_alloc]⟩,.inr ⟨rfl,by simp⟩⟩
    |some l0=>
     obtain⟨o,v,zj,hy⟩:=hR l0 rfl;simp only[eZ,zj]at uo;split at uo
     ·rename_i v' b3 s3 p3 c3 r3 Ko;have Kp:v'=v:=by simpa using uo
      subst Kp;obtain⟨lc,hb,rfl⟩:=vL hw hy Ko;obtain⟨_,rec,fb,_⟩:=hw.obj o lc _ hb;exact⟨_,_,rec.defers,g,w,fun fn=>aCg fb fn a.tmps ps assign body,⟨.refl hw,rfl⟩,.inl rfl⟩
     cases uo
   obtain⟨s0,rfl⟩:=s0;refine wpIn_rangeFunc fun fn _=>?_;generalize xp:(Obj.loop { state:=.ready,pending:=Qs,fn,tmps:=a.tmps,params:=ps,assign,body,defers:=D })=ob;have K7:=he fn;rw[xp]at K7;have e1:(w0.alloc ob).heap=w0.heap.push ob:=rfl;have jz:∃ca cb,ag.seq (nR P ⟨ab.row,nl,ty,rs⟩ frz assign) (nR P ⟨ab.row,nl,ty,rs⟩ frz body)=.seq ca cb/\g0.code ca assign/\g0.code cb body:=⟨_,_,rfl,((hg.mono s0.le).code _ _).2 ⟨nl,ty,rs,frz,rfl⟩,((hg.mono s0.le).code _ _).2 ⟨nl,ty,rs,frz,rfl⟩⟩;have s1:=Step.update (w':=w0.alloc ob) s0.wf id (.rnd (bH s.H id) c.base c.sites ps.toList (.seq (nR P ⟨ab.row,nl,ty,rs⟩ frz assign) (nR P ⟨ab.row,nl,ty,rs⟩ frz body)) s.ρ Qu Qs) ⟨w0.heap.size,bH s.H id,0,0,0⟩ hid (by rw[e1];simp) (fun b hb _=>cK e1 hb) (by rw[e1];simp) (.inl (AQ _)) rfl rfl (fun l hl=>by
     have:=s0.wf.st id _ l ti hl;exact⟨by show l.st<=bH s.H id;omega,fun e=>by have e':bH s.H id=l.st:=e;omega⟩)
    fun hle=>⟨rfl,{ state:=.ready,pending:=Qs,fn,tmps:=a.tmps,params:=ps,assign,body,defers:=D },by rw[e1,<- xp];simp,rfl,rfl,rfl,jz,trivial,hs.1,fun t=>((hs.2 t).mono s0.le).mono hle⟩
   have Hy:ai (g0.setObj id ⟨w0.heap.size,bH s.H id,0,0,0⟩) (.yld id (bH s.H id)) (.func (.yield w0.heap.size) #[] #[]):=.yld id _ _ _ (by simp[G.setObj];rfl) (AQ _) fun _ _=>rfl;have A7:g.le (g0.setObj id ⟨w0.heap.size,bH s.H id,0,0,0⟩):=s0.le.trans s1.le;have hargs:fU (g0.setObj id ⟨w0.heap.size,bH s.H id,0,0,0⟩) (first++.yld id (bH s.H id)::ay) (vf.toList++.func (.yield w0.heap.size) #[] #[]::vc.toList):=by
    refine (yo.mono A7).append (fU.append (Pq:=[.yld id (bH s.H id)]) (xs:=[.func (.yield w0.heap.size) #[] #[]]) ⟨rfl,fun i c x h1 h2=>?_⟩ (hlc.mono A7));cases i with
    |zero=>simp at h1 h2;subst h1;subst h2;exact Hy
    |succ i=>simp at h1
   obtain⟨⟨Fn,ta,jq,gh⟩,kr⟩:=az.1 f _ _ rv H2 wr kq _ (w0.alloc ob) _ s1.wf (hg.mono A7) hargs;have Hz:¬(Fn.name = "runtime.NumGoroutine"):=by simpa using jq
   have V5:¬(Fn.body=Qs):=fun e=>by rw[e]at gh;simp at gh
   have rq:(vf ++ #[Value.func (.yield w0.heap.size) #[] #[]]++vc)=(vf.toList++.func (.yield w0.heap.size) #[] #[]::vc.toList).toArray:=by apply Array.ext';simp
   refine⟨w0.heap.size,mark,w0.alloc ob,⟨.fn (.func f) vc,vf ++ #[.func (.yield w0.heap.size) #[] #[]]⟩,w0.alloc ob,f,(vf.toList++.func (.yield w0.heap.size) #[] #[]::vc.toList).toArray,w0.alloc ob,K7, ?_,fun _ _=>trivial, ?_,fun h=>(by simp[fr,FJ]at h), ?_⟩
   ·have hy:a.eval (.const (.func (.yield w0.heap.size) #[] #[]))=.func (.yield w0.heap.size) #[] #[]:=rfl;simp[resolve,je,hy,Deferred.ofValue]
   ·simp only[invoke,callFunc];rw[rq];simp[ta,Hz,V5]
   have hC:CallsIn FJ (0 - 1) P f _ (w0.alloc ob) _:=callsIn_wide.2 kr;refine CallsIn.mono (F:=fr r) hC fun e w3 vu=>?_;cases e with
   |panicked ch=>exact vu.elim
   |outgrown=>exact vu.elim
   |returned rvv=>
    obtain⟨g2,s3,_⟩:=vu;obtain⟨lc2,dp,P0⟩:=vL s3.wf (Hy.mono s3.le) hH2;obtain⟨q0,rec2,qheap,qst,qpe,_⟩:=s3.wf.obj id lc2 _ dp;rw[P0]at qheap;have s4:=Step.F8 s3.wf dp (.loop { rec2 with state:=.exhausted });rw[P0]at s4;have yh:rec2.state≠.busy:=by rw[qst];cases pend<;>simp
    have ku:aGe P ab c.base g s.H w a.defers ⟨s.ρ,H2.set id (.gone (bH s.H id)),bE c.base s.wr (id::wr)⟩ { a with defers:=mark++a.defers } (w3.putObj w0.heap.size (.loop { rec2 with state:=.exhausted })):=by
     refine⟨g2,_,((s0.trans s1).trans s3).trans s4,fun o ho hb=>(cE _ _ _).2 o ?_ hb,hs.mono (A7.trans s3.le), ?_,hg.mono (A7.trans s3.le)⟩
     ·simp only[AY,List.nil_append,BD,CC,or_false]at ho;simp only[BD];rcases ho with (rfl | ho) | rfl
      ·exact .inl rfl
      ·exact .inr ho
      exact .inl rfl
     rcases Z9 with rfl | ⟨rfl,Ep⟩
     ·exact aHw.refl
     exact⟨[w.heap.size],rfl,fun b hb=>by rw[CG]at hb;subst hb;exact⟨AQ _,(s1.le.trans s3.le).whole _ _ Ep⟩,by simp⟩
    refine⟨pend.map aIT,w3.putObj w0.heap.size (.loop { rec2 with state:=.exhausted }),by rw[run_endLoop qheap yh,<- qpe], ?_⟩;cases pend with
    |none=>exact hQ _ _ ku
    |some e=>
     cases e with
     |normal=>exact wpIn_skip (hQ _ _ ku)
     |ret=>exact wpIn_ret (hQ _ _ ku)
     |exit id'=>exact wpIn_exit (hQ _ _ ku)
  |_=>simp only[nR,qG]at h;cases h
theorem sU(A0:Good P ab A)(n:Nat):oT P ab (dD A n):=aE5 A0 n fun m _=>aNQ A0 m
end
def fB(tB tP:Nat):aIP:=fun args H=>match args with
 | [.ptr o v 0]=>match H[o]? with
  |some (.cw v' ty [.nilPtr,c])=>if v'=v/\(ty=tB∨ty=tP)then Qr (.tup [],[(o,.cw v ty [.ptr o v 0,c])],[])else Qs
  |some (.cw v' _ [.ptr o' v2 0,_])=>if v'=v/\o'=o/\v2=v then Qr (.tup [],[],[])else Qs
  |_=>Qs
 |_=>Qs
def aE6:List LA->Bool
 | []=>Qt
 | [.int .u8 n]::r=>decide (0<=n)&&decide (n<256)&&aE6 r
 |_=>Qu
def aAh(tb:Nat):aIP:=fun args H=>match args with
 | [.ptr o v 0]=>match H[o]? with
  |some (.cw v' _ [_,.ar])=>if v'=v then Qr (.str [],[],[])else Qs
  |some (.cw v' _ [_,.sr o2 v2 n])=>if v'=v then match H[o2]? with
    |some (.gl v3 t3 1 rows)=>if v3=v2/\t3=tb/\rows.length=n/\n≠0/\o2≠o/\n<=1000000000/\aE6 rows then match cM rows with
      |some l=>Qr (.str l,[(o2,.gone v2)],[])
      |none=>Qs
     else Qs
    |_=>Qs
   else Qs
  |_=>Qs
 |_=>Qs
def aNR(tB tb:Nat):aIP:=fun args H=>match args with
 | [.ptr o v 0,.int .i64 n]=>match H[o]? with
  |some (.cw v' ty [.nilPtr,.ar])=>if v'=v/\ty=tB/\0<n/\n<=1000000 then Qr (.tup [],[(o,.cw v tB [.ptr o v 0,.sr H.length 1 0])],[.gl 1 tb 1 []])else Qs
  |_=>Qs
 |_=>Qs
def aJ7(sep:List UInt8):List LA->Option (List UInt8)
 | []=>Qr []
 | [[.str s]]=>Qr s
 | [.str s]::r=>match aJ7 sep r with
  |some t=>Qr (s++sep++t)
  |none=>Qs
 |_=>Qs
def aKm:aIP:=fun args _=>match args with
 | [.sl _ rows,.str sep]=>match aJ7 sep rows with
  |some s=>if s.length<=140737488355328/\rows.length<=140737488355328 then Qr (.str s,[],[])else Qs
  |none=>Qs
 |_=>Qs
def aYu:aIP:=fun args _=>match args with
 | [.str s,.int .u8 c]=>Qr (.int .i64 (EV s c.toNat.toUInt8),[],[])
 |_=>Qs
def aE7:aIP:=fun args _=>match args with
 | [.str s,.str [c]]=>Qr (.int .i64 (PC s c),[],[])
 |_=>Qs
def aAi:aIP:=fun args H=>match args with
 | [p]=>match bC H 1 p with
  |some [.int .u32 n]=>Qr (.bool (n != 0),[],[])
  |_=>Qs
 |_=>Qs
def nC:Nat->Nat->List UInt8
 |0,_=>[]
 |k+1,n=>if n<10 then [CN (48+n)] else nC k (n / 10)++[CN (48+n % 10)]
def sC:aIP:=fun args _=>match args with
 | [.int .i64 n]=>if 0<=n/\n<1000000 then Qr (.str (nC 7 n.toNat),[],[])else if n<0 /\ -1000000<n then Qr (.str (45::nC 7 (-n).toNat),[],[])else Qs
 |_=>Qs
section
variable {P:CU}{ab:cu}
theorem oC{f:Nat}{p:aIP}(hf:∃F,P.funcs[f]? = Qr F/\(F.name == "runtime.NumGoroutine")=Qu/\F.body.isNone=Qu) (h:∀args H v ws ns,p args H=Qr (v,ws,ns)->∀g w xs,WF g H w->bM P ab g->fU g args xs->FV P f xs.toArray w fun e w'=>match e with
   |.returned x=>∃g',Step g H w g' (eU H ws++ns) w' (ws.map EM)/\pN g' (eU H ws++ns) w.heap.size w' v x
   |_=>False):gS P ab fun f' args H=>if f'=f then (p args H).map (cT H)else none:=by
 intro f' args H av H' wr hh g w xs hw hg hx;dsimp only at hh;split at hh
 ·rename_i e;subst e;cases hp:p args H with
  |none=>rw[hp]at hh;cases hh
  |some r=>obtain⟨v,ws,ns⟩:=r;rw[hp]at hh;simp only[DE,cT,AG,BK]at hh;obtain⟨rfl,rfl,rfl⟩:=hh;exact⟨hf,h args H v ws ns hp g w xs hw hg hx⟩
 cases hh
theorem Step.nf{g:G}{H:LO}{w w':BL}(hw:WF g H w)(gd:w.heap.size<=w'.heap.size)(da:∀b,b<w.heap.size->w'.heap[b]? = w.heap[b]?)(io:w'.os=w.os/\w'.output=w.output):Step g H w g H w' []:=by
 refine⟨G.le.refl g,⟨fun b i x hx=>?_,hw.lt,fun o l hl=>Nat.lt_of_lt_of_le (hw.blk o l hl) gd,hw.st,fun o l x hb=>?_,hw.jh,hw.inj,hw.whole.aq rfl rfl io (fun b hb _=>da b hb) fun o l y hl=>.inr ⟨o,l,y,hl,rfl⟩⟩,⟨gd,fun b hb _=>da b hb⟩,fun _ _ _=>rfl,AQ _,fun _ l' hl=>.inr ⟨l',hl,rfl⟩,fun _ _ _=>rfl⟩
 ·rw[cell_of_heap (da b (hw.ko hx))];exact hw.perm b i x hx
 exact (hw.obj o l x hb).aq (G.le.refl g) (da l.b (hw.blk o l hb.loc))
theorem aBc{g:G}{a:AV}{xs:List BE}(h:fU g [a] xs):∃x,xs=[x]/\ai g a x:=by
 obtain⟨h1,h2⟩:=h
 match xs,h1 with
 | [x],_=>exact⟨x,rfl,h2 0 a x rfl rfl⟩
theorem nH{g:G}{a b:AV}{xs:List BE}(h:fU g [a,b] xs):∃x y,xs=[x,y]/\ai g a x/\ai g b y:=by
 obtain⟨h1,h2⟩:=h
 match xs,h1 with
 | [x,y],_=>exact⟨x,y,rfl,h2 0 a x rfl rfl,h2 1 b y rfl rfl⟩
theorem aGf{g:G}{H:LO}{w:BL}(hw:WF g H w){o v v' ty:Nat}{cells:LA}(ho:H[o]? = Qr (.cw v' ty cells))(hv:v'=v){x:BE}(hx:ai g (.ptr o v 0) x):∃l cs,au g H o l (.cw v ty cells)/\x=.pointer (Qr ⟨l.b,0,Qs⟩)/\w.heap[l.b]? = Qr (.cells cs ty (0,0))/\fU g cells cs.toList:=by
 subst hv;cases hx with
 |ptr _ _ _ l a hl hv h=>
  have bd:l.st=v':=by have:=hw.st o _ l ho hl;simp only[ah.ver]at this;omega
  have hb:au g H o l (.cw v' ty cells):=⟨ho,rfl,hl,bd⟩;obtain⟨h0,⟨cs,h1,h2⟩,h3⟩:=hw.obj o l _ hb;refine⟨l,cs,hb,by rw[h bd h0],h1,by simpa using h2.symm,fun i a x e1 e2=>?_⟩;obtain⟨y,hy,hr⟩:=h3 i a e1;simp only[EF,h1]at hy;have e2':cs[i]? = Qr x:=by simpa using e2
  rw[e2']at hy;simp at hy;subst hy;exact hr
theorem Step.K8{g:G}{H:LO}{w w':BL}(hw:WF g H w){o:Nat}{l:Loc}{x:ah}(hb:au g H o l x)(gd:w'.heap.size=w.heap.size)(ju:∀b,b≠l.b->w'.heap[b]? = w.heap[b]?)(io:w'.os=w.os/\w'.output=w.output):Step g H w g (H.set o (.gone x.ver)) w' [o]:=by
 obtain⟨h1,h2⟩:=Step.drop hw hb;have pj:=h1.wf;refine⟨h1.le,⟨fun b i y hy=>?_,pj.lt,fun o' l' hl=>by rw[gd];exact pj.blk o' l' hl,pj.st,fun o' l' x' du=>(pj.obj o' l' x' du).aq (G.le.refl g) (ju l'.b (h2 o' l' x' du)),pj.jh,pj.inj,⟨fun b y hy=>⟨?_,(pj.whole.blocks b y hy).2⟩,by rw[io.1,io.2];exact hw.whole.io⟩⟩,⟨by omega,fun b _ bl=>ju b (Ne.symm (bl o (by simp) l hb.loc))⟩,h1.same,h1.len,fun o' l' hl=>.inr ⟨l',hl,rfl⟩,fun _ _ _=>rfl⟩
 ·have bl:b≠l.b:=fun e=>by subst e;have:=hw.jh o l x hb i;rw[hy]at this;cases this
  rw[cell_of_heap (ju b bl)];exact hw.perm b i y hy
 rw[ju b (Ne.symm ((hw.whole.blocks b y hy).2 o l x hb))];exact (hw.whole.blocks b y hy).1
theorem Step.Aa{g:G}{H:LO}{w w':BL}(hw:WF g H w){o v ty:Nat}{l:Loc}{cells dh:LA}{cs':Array BE}(hb:au g H o l (.cw v ty cells))(gd:w'.heap.size=w.heap.size) (ju:∀b,b≠l.b->w'.heap[b]? = w.heap[b]?) (ld:w'.heap[l.b]? = Qr (.cells cs' ty (0,0))) (hl:fU g dh cs'.toList) (io:w'.os=w.os/\w'.output=w.output):Step g H w g (H.set o (.cw v ty dh)) w' [o]:=by
 have hg:g.setObj o l=g:=by
  cases g with
  |mk p ob wh io=>
   have:=hb.loc;simp only[G.setObj,G.mk.injEq,true_and,and_true];funext o';by_cases e:o'=o
   ·subst e;simpa using this.symm
   simp[e]
 have h0:=(hw.obj o l _ hb).1;have:=Step.update (w':=w') hw o (.cw v ty dh) l (hw.lt o l hb.loc) (by omega)
  (fun b _ bl=>ju b (Ne.symm (bl l _ hb))) (by rw[gd];exact hw.blk o l hb.loc) (.inr ⟨l,_,hb,rfl⟩) hb.st rfl
  (fun l0 h0=>by rw[hb.loc]at h0;cases h0;exact⟨AQ _,fun _=>⟨AQ _,fun _=>rfl⟩⟩)
  (fun _=>by
   rw[hg];refine⟨h0,⟨cs',ld,by simpa using hl.1.symm⟩,fun j a ha=>?_⟩;have hj:j<dh.length:=(AH.1 ha).1;have ax:=hl.1;simp at ax;exact⟨cs'[j]'(by omega),by simp[EF,ld],hl.2 j a _ ha (by simp)⟩) io
 rwa [hg]at this
end
end Go.AM
end
section
namespace Go.Proofs
open Go.Shelf
def Tryz.lays156_ren:HK:=⟨fun | 156=>61 | 165=>141 | 166=>142 | 169=>92 | 240=>185 | 241=>209 | 276=>258 | 277=>278 | n=>n,fun | 31=>41 | 9=>9 | 3=>3 | 4=>4 | 0=>0 | 20=>20 | 72=>165 | 76=>190 | 70=>163 | 37=>153 | 75=>174 | 127=>241 | 164=>320 | 5=>5 | 80=>109 | n=>n,fun | n=>n⟩
theorem Tryz.lays156:Go.Proofs.Lays.n156 Tryz.prog Tryz.lays156_ren:=by refine' { .. }<;>first | kernel_rfl | (intro _;kernel_rfl)
theorem Tryz.Builder_Extra_156:Builder.Extra Tryz.prog Tryz.lays156_ren:=by refine' { neB5:=by decide,.. }<;>first | kernel_rfl | (intro _;kernel_rfl)
open Go.RowKit in
theorem Tryz.strings_Join_none(a:Option Addr)(c:Nat)(sep:ByteArray)(w:BL):FV Tryz.prog 61 #[.slice a 0 c,.string sep] w fun e w'=>e=.returned (.string ⟨#[]⟩)/\w'=w:=Any.strings_Join_none Tryz.lays156 Tryz.Builder_Extra_156 a c sep w
open Go.RowKit in
theorem Tryz.strings_Join(bk o c:Nat)(xs:List ByteArray)(sep:ByteArray)(w:BL)(jy:∀(j:Nat) x,xs[j]? = Qr x->w.cell? ⟨bk,o+j,Qs⟩=Qr (.string x))(dx:bk<w.heap.size)(hN:xs.length<=140737488355328)(cm:xs.length<=c)(ax:(OT (xs.map (·.data.toList)) sep.data.toList).length<=140737488355328):FV Tryz.prog 61 #[.slice (Qr ⟨bk,o,Qs⟩) xs.length c,.string sep] w fun e w'=>e=.returned (.string ⟨(OT (xs.map (·.data.toList)) sep.data.toList).toArray⟩)/\Below w.heap.size w w':=Any.strings_Join Tryz.lays156 Tryz.Builder_Extra_156 bk o c xs sep w jy dx hN cm ax
def Tryz.laysM171_ren:HK:=⟨fun | 171=>67 | 243=>151 | 246=>220 | 283=>280 | 284=>281 | 285=>282 | 286=>283 | 129=>311 | 317=>310 | 318=>312 | 319=>313 | 320=>314 | 337=>331 | 338=>332 | n=>n,fun | 3=>3 | 9=>9 | 2=>2 | 4=>4 | 171=>343 | 0=>0 | 53=>344 | 37=>153 | 5=>5 | 173=>347 | 212=>368 | 51=>306 | 20=>20 | 213=>369 | 46=>356 | 232=>413 | 233=>414 | n=>n,fun | 17=>9 | 18=>12 | 19=>13 | n=>n⟩
theorem Tryz.laysM171:Go.Proofs.LaysM.n171 Tryz.prog Tryz.laysM171_ren:=by refine' { .. }<;>first | kernel_rfl | (intro _;kernel_rfl)
open Go.RowKit Go.Sort Go.Lib in
theorem Tryz.strconv_Itoa(n:Int)(h0 : -9223372036854775808<=n)(h1:n<=9223372036854775807)(w:BL)(cx:Lib.TabIs Tryz.prog w "internal/strconv.uint64pow10" .u64 Lib.pow10Tab):FV Tryz.prog 67 #[.int .i64 n] w fun e w'=>e=.returned (.string ⟨(Lib.itoa n).toArray⟩)/\∃k os,w'=grow (w.drewN k) os:=Any.strconv_Itoa Tryz.laysM171 n h0 h1 w cx
def Tryz.laysC172_ren:HK:=⟨fun | 172=>117 | 244=>198 | 245=>199 | 247=>262 | 279=>263 | 280=>264 | 281=>265 | 282=>266 | 287=>295 | 316=>296 | 171=>67 | 205=>297 | 321=>322 | 322=>323 | 243=>151 | 246=>220 | 283=>280 | 284=>281 | 285=>282 | 286=>283 | 129=>311 | 317=>310 | 318=>312 | 319=>313 | 320=>314 | 337=>331 | 338=>332 | n=>n,fun | 9=>9 | 3=>3 | 75=>174 | 76=>190 | 4=>4 | 5=>5 | 167=>325 | 37=>153 | 0=>0 | 85=>326 | 2=>2 | 168=>328 | 53=>344 | 175=>354 | 46=>356 | 210=>358 | 127=>241 | 145=>390 | 143=>388 | 21=>21 | 171=>343 | 173=>347 | 212=>368 | 51=>306 | 20=>20 | 213=>369 | 232=>413 | 233=>414 | 80=>109 | n=>n,fun | 15=>6 | 16=>7 | 17=>9 | 18=>12 | 19=>13 | n=>n⟩
theorem Tryz.laysC172:Go.Proofs.LaysC.n172 Tryz.prog Tryz.laysC172_ren:=by refine' { .. }<;>first | kernel_rfl | (intro _;kernel_rfl)
open Go.RowKit in
theorem Tryz.strconv_Atoi_ok(s:ByteArray)(zm:s.size<=9223372036854775806)(v:Int)(h:LS s.data.toList=.ok v)(w:BL):FV Tryz.prog 117 #[.string s] w fun e w'=>e=.returned (.tuple #[.int .i64 v,.nilIface])/\(w'=w∨∃t,w'=Lib.bytesWorld w 5 t):=Any.strconv_Atoi_ok Tryz.laysC172 s zm v h w
open Go.RowKit in
theorem Tryz.strconv_Atoi_syntax(s:ByteArray)(P6:s.size<=281474976710656)(h:LS s.data.toList=LS [])(ev:BE)(w:BL)(hv:w.cell? ⟨6,0,Qs⟩=Qr ev)(je:ev=.nilIface∨∃te pe,ev=.iface te pe):FV Tryz.prog 117 #[.string s] w fun e w'=>∃N,e=.returned (.tuple #[.int .i64 (0),.iface 328 (.pointer (Qr ⟨N,0,Qs⟩))])/\w.heap.size<=N/\w'.heap[N]? = Qr (.cells #[.string ⟨#[65,116,111,105]⟩,.string s,ev] 358 (0,0))/\Below w.heap.size w w':=Any.strconv_Atoi_syntax Tryz.laysC172 s P6 h ev w hv je
open Go.RowKit in
theorem Tryz.strconv_Atoi_range(s:ByteArray)(P6:s.size<=281474976710656)(h:LS s.data.toList=.range)(ev:BE)(w:BL)(hv:w.cell? ⟨7,0,Qs⟩=Qr ev)(je:ev=.nilIface∨∃te pe,ev=.iface te pe):FV Tryz.prog 117 #[.string s] w fun e w'=>∃N,e=.returned (.tuple #[.int .i64 (Lib.atoiSat s.data.toList),.iface 328 (.pointer (Qr ⟨N,0,Qs⟩))])/\w.heap.size<=N/\w'.heap[N]? = Qr (.cells #[.string ⟨#[65,116,111,105]⟩,.string s,ev] 358 (0,0))/\Below w.heap.size w w':=Any.strconv_Atoi_range Tryz.laysC172 s P6 h ev w hv je
def Tryz.lays217_ren:HK:=⟨fun | 217=>305 | 266=>329 | n=>n,fun | 9=>9 | 5=>5 | 3=>3 | n=>n,fun | n=>n⟩
theorem Tryz.lays217:Go.Proofs.Lays.n217 Tryz.prog Tryz.lays217_ren:=by refine' { .. }<;>first | kernel_rfl | (intro _;kernel_rfl)
open Go.RowKit Go.Lib in
theorem Tryz.stringslite_IndexByte(s:ByteArray)(c:Int)(w:BL):FV Tryz.prog 305 #[.string s,.int .u8 c] w fun e w'=>e=.returned (.int .i64 (EV s.data.toList c.toNat.toUInt8))/\w'=w:=Any.stringslite_IndexByte Tryz.lays217 s c w
def Tryz.lays138_ren:HK:=⟨fun | 138=>298 | 195=>324 | 218=>325 | 143=>204 | 219=>274 | 217=>305 | 225=>306 | 224=>307 | 267=>308 | 266=>329 | 314=>330 | n=>n,fun | 9=>9 | 3=>3 | 4=>4 | 5=>5 | 0=>0 | 46=>356 | 146=>392 | 51=>306 | n=>n,fun | 1=>8 | n=>n⟩
theorem Tryz.lays138:Go.Proofs.Lays.n138 Tryz.prog Tryz.lays138_ren:=by refine' { .. }<;>first | kernel_rfl | (intro _;kernel_rfl)
open Go.RowKit Go.Lib in
theorem Tryz.strings_Count_one(s:ByteArray)(c:UInt8)(w:BL):FV Tryz.prog 298 #[.string s,.string ⟨#[c]⟩] w fun e w'=>e=.returned (.int .i64 (PC s.data.toList c))/\w'=w:=Any.strings_Count_one Tryz.lays138 s c w
open Go.RowKit Go.Lib in
def Tryz.laysM288_ren:HK:=⟨fun | 288=>327 | 283=>280 | 284=>281 | 285=>282 | 286=>283 | 129=>311 | 317=>310 | 318=>312 | 319=>313 | 320=>314 | 337=>331 | 338=>332 | n=>n,fun | 37=>153 | 53=>344 | 3=>3 | 4=>4 | 9=>9 | 171=>343 | 0=>0 | 173=>347 | 212=>368 | 51=>306 | 5=>5 | 20=>20 | 213=>369 | 46=>356 | 232=>413 | 233=>414 | n=>n,fun | 17=>9 | 18=>12 | 19=>13 | n=>n⟩
theorem Tryz.laysM288:Go.Proofs.LaysM.n288 Tryz.prog Tryz.laysM288_ren:=by refine' { .. }<;>first | kernel_rfl | (intro _;kernel_rfl)
end Go.Proofs
end
