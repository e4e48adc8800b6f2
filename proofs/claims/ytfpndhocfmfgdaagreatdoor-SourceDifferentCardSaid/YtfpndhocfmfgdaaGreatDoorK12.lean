/- Part 12: lemmas for the last text. -/
import Derived.Test.YtfpndhocfmfgdaaGreatDoorK11
set_option linter.unusedVariables false
set_option linter.unusedSimpArgs false
open Bool renaming not_true -> BT
section
namespace Go.AM
open Go
def aLV(c1 c2:Nat->List AV->List AObj->Out):Prop:=∀f args H r,c1 f args H=some r->c2 f args H=some r
section
variable {c1 c2:Nat->List AV->List AObj->Out}(hle:aLV c1 c2)
include hle
theorem aCN{H:List AObj}{site:Option Nat}{f:AV}{args:List AV}{r}(h:cY c1 H site f args=some r):cY c2 H site f args=some r:=by
 unfold cY at h ⊢
 split at h
 ·split at h
  ·cases h
  ·split at h
   ·cases h
   ·rename_i hc;rw[hle _ _ _ _ hc];exact h
 ·split at h
  ·cases h
  ·split at h
   ·cases h
   ·rename_i hc;rw[hle _ _ _ _ hc];exact h
 ·cases h
theorem aHt{H:List AObj}{site:Option Nat}{f:AV}{args:List AV}{r}(h:hD c1 H site f args=some r):hD c2 H site f args=some r:=by
 unfold hD at h ⊢
 split at h
 ·split at h
  ·cases h
  ·rename_i hc;rw[hle _ _ _ _ hc];exact h
 ·cases h
theorem aJQ{H:List AObj}{ρ:List AV}{site:Option Nat}{o:AOp}{r}(h:evW c1 H ρ site o=some r):evW c2 H ρ site o=some r:=by
 cases o<;>first | exact h | skip
 ·exact aCN hle h
 ·exact aHt hle h
 ·rename_i tab x args;simp only[evW]at h ⊢;generalize AOpd.ev ρ x=y at h ⊢;cases y with
  |ifc t v=>
   dsimp only at h ⊢;generalize tab.lookup t=z at h ⊢;cases z with
   |none=>cases h
   |some f=>exact aCN hle h
  |_=>cases h
theorem aHu{c:Ctx}{d:Bool}{H:List AObj}{ρ:List AV}{o:AOper}{r}(h:aLy c1 c d H ρ o=some r):aLy c2 c d H ρ o=some r:=by
 unfold aLy at h ⊢
 split at h
 ·rename_i hw;rw[if_pos hw];exact aJQ hle h
 ·rename_i hw;rw[if_neg hw];exact h
theorem zT{c:Ctx}:∀{ops:List AOper} {s s':ASt},iK c1 c ops s=some s'->iK c2 c ops s=some s'
 | [],_,_,h=>h
 |o::r,s,s',h=>by
  unfold iK at h ⊢
  split at h
  ·rename_i hg;rw[if_pos hg]
   split at h
   ·rename_i hw;rw[if_pos hw]
    split at h
    ·rename_i he;rw[aHu hle he];exact zT h
    ·cases h
   ·rename_i hw;rw[if_neg hw];exact zT h
  ·cases h
theorem aFy{c:Ctx}{H:List AObj}{ρ:List AV}{o:AOper}{r}(h:aDE c1 c H ρ o=some r):aDE c2 c H ρ o=some r:=by
 unfold aDE at h ⊢
 split at h
 ·exact h
 ·split at h
  ·rename_i hw;rw[if_pos hw]
   split at h
   ·rename_i he;rw[aJQ hle he];exact h
   ·cases h
  ·rename_i hw;rw[if_neg hw];exact h
theorem vK{c:Ctx}:∀{i:Nat} {ops:List AOper} {s:ASt} {r},nA c1 c i ops s=some r->nA c2 c i ops s=some r
 |_,[],_,_,h=>h
 |i,o::r,s,s',h=>by
  unfold nA at h ⊢
  split at h
  ·rename_i hg;rw[if_pos hg]
   split at h
   ·rename_i hw;rw[if_pos hw]
    split at h
    ·rename_i he;rw[aFy hle he];dsimp only
     split at h
     ·rename_i hr;rw[vK hr];exact h
     ·cases h
    ·cases h
   ·rename_i hw;rw[if_neg hw];exact vK h
  ·cases h
theorem aGq{c:Ctx}{d:Bool}{ops:List AOper}{s s':ASt}(h:hG c1 c d ops s=some s'):hG c2 c d ops s=some s':=by
 unfold hG at h ⊢
 split at h
 ·rename_i hd;rw[if_pos hd]
  split at h
  ·rename_i hp
   split at h
   ·rename_i hr;rw[vK hle hr];exact h
   ·cases h
  ·cases h
 ·rename_i hd;rw[if_neg hd]
  split at h
  ·cases h
  ·rename_i hd2;rw[if_neg hd2];exact zT hle h
end
section
variable {A:AProg}
theorem nZ{n f:Nat}{args:List AV}{H:List AObj}{fn:AFn}{s':ASt}{e:AExit}{r}(hp:(A.prim f).bind (· args H)=none)(hf:A.fn f=some fn)
  (hc:cO A n ⟨H.length,fn.sites⟩ fn.body (mK fn args H)=some (e,s')) (he:e=.normal∨e=.ret) (hr:xZ H.length fn s'=some r) (hN:args.length<=fn.ntmps):
  cT A n f args H=some (cD H.length r):=by
 unfold cT qE;rw[hp,hf];dsimp only;rw[if_pos hN,hc];rcases he with rfl | rfl<;>(dsimp only;rw[hr])
theorem yJ{ev:Ctx->ACode->ASt->Option (AExit×ASt)}{H:List AObj}{o v:Nat}{xs:List AV}:rX ev H (.own 0 []::.yld o v::xs)=match H[o]? with
  |some (.rnd v' base sites ps (.seq asg body) ρ false none)=>
   if v'=v/\xs.length=ps.length then
    match ev ⟨base,sites++[YF+o,YF+v]⟩ asg ⟨dQ ρ ps xs,H,[]⟩ with
    |some (.normal,s0)=>match s0.H[o]? with
     |some (.rnd v1 b1 t1 p1 c1 r1 false none)=>
      if v1=v then
       match ev ⟨base,sites++[YF+o,YF+v]⟩ body ⟨s0.ρ,s0.H.set o (.rnd v b1 t1 p1 c1 r1 true none),s0.wr⟩ with
       |some (e,s)=>match s.H[o]? with
        |some (.rnd v2 b2 s2 p2 c2 r2 true none)=>
         if v2=v then some (.bool (decide (e=.normal)),s.H.set o (.rnd v b2 s2 p2 c2 r2 false (if e=.normal then none else some e)),List.range' base (H.length - base)++(o::s.wr))else none
        |_=>none
       |none=>none
      else none
     |_=>none
    |_=>none
   else none
  |_=>none:=rfl
theorem aGr{e1 e2:Ctx->ACode->ASt->Option (AExit×ASt)}(he:∀c x s r,e1 c x s=some r->e2 c x s=some r){H:List AObj}{args:List AV}{r}(h:rX e1 H args=some r):rX e2 H args=some r:=by
 obtain⟨o,v,xs,base,sites,ps,asg,body,ρ,s0,b1,t1,p1,c1,r1,e,s,rfl,hH,hl,hev0,hs0,hev,b',s',p',c',r',hs,rfl⟩:=nQ h;rw[yJ,hH];dsimp only;rw[if_pos ⟨rfl,hl⟩,he _ _ _ _ hev0];dsimp only;rw[hs0];dsimp only;rw[if_pos rfl,he _ _ _ _ hev];dsimp only;rw[hs];dsimp only;rw[if_pos rfl]
theorem sJ{n m:Nat}(hcode:∀c x s r,cO A n c x s=some r->cO A m c x s=some r):aLV (cT A n) (cT A m):=by
 intro f args H r h;unfold cT qE at h
 split at h
 ·rename_i v hv;cases h;unfold cT qE;rw[hv]
 ·rename_i hv
  split at h
  ·rename_i hf;unfold cT qE;rw[hv,hf];exact aGr hcode h
  ·rename_i fn hf
   split at h
   rotate_left
   ·cases h
   rename_i hN
   split at h
   ·rename_i s' he
    split at h
    ·rename_i r' hr;cases h;exact nZ hv hf (hcode _ _ _ _ he) (.inl rfl) hr hN
    ·cases h
   ·rename_i s' he
    split at h
    ·rename_i r' hr;cases h;exact nZ hv hf (hcode _ _ _ _ he) (.inr rfl) hr hN
    ·cases h
   ·cases h
theorem dU:∀{n m:Nat},n<=m->∀(c:Ctx) (x:ACode) (s:ASt) r,cO A n c x s=some r->cO A m c x s=some r
 |0,_,_,c,x,s,r,h=>by rw[gF]at h;cases h
 |n+1,0,hn,_,_,_,_,_=>by omega
 |n+1,m+1,hn,c,x,s,r,h=>by
  have ih:=dU (n:=n) (m:=m) (by omega)
  cases x with
  |skip=>exact h
  |bad=>exact h
  |region d ops=>
   rw[iA]at h ⊢
   split at h
   ·rename_i hr;rw[aGq (sJ ih) hr];exact h
   ·cases h
  |seq a b=>
   rw[gO]at h ⊢
   split at h
   ·rename_i hr;rw[ih _ _ _ _ hr];exact ih _ _ _ _ h
   ·rename_i hne;rw[ih _ _ _ _ h]
    split
    ·rename_i heq;exact (hne _ (h.trans heq)).elim
    ·rfl
  |cond t a b=>
   rw[iB]at h ⊢
   split at h
   ·exact ih _ _ _ _ h
   ·exact ih _ _ _ _ h
   ·cases h
  |block id b=>
   rw[dW]at h ⊢
   split at h
   ·rename_i hr;rw[ih _ _ _ _ hr];exact h
   ·rename_i hne;rw[ih _ _ _ _ h]
    split
    ·rename_i heq;exact (hne _ _ (h.trans heq)).elim
    ·rfl
  |loop b=>
   rw[gG]at h ⊢
   split at h
   ·rename_i hr;rw[ih _ _ _ _ hr];exact ih _ _ _ _ h
   ·rename_i hne;rw[ih _ _ _ _ h]
    split
    ·rename_i heq;exact (hne _ (h.trans heq)).elim
    ·rfl
  |exit id=>exact h
  |ret=>exact h
  |frz ts=>exact h
  |rangeF x ps body=>
   rw[kO]at h ⊢
   split at h
   ·split at h
    ·rename_i hc;rw[if_pos hc]
     split at h
     ·rename_i hcl;rw[sJ ih _ _ _ _ hcl];exact h
     ·cases h
    ·cases h
   ·cases h
theorem nF{n m:Nat}(h:n<=m):aLV (cT A n) (cT A m):=sJ (dU h)
noncomputable def aL(A:AProg)(f:Nat)(args:List AV)(H:List AObj):Out:=
 open Classical in if h:∃n r,cT A n f args H=some r then some h.choose_spec.choose else none
theorem nR{n f:Nat}{args:List AV}{H:List AObj}{r}(h:cT A n f args H=some r):aL A f args H=some r:=by
 have hex:∃n r,cT A n f args H=some r:=⟨n,r,h⟩;unfold aL;rw[dif_pos hex];have h2:=hex.choose_spec.choose_spec;rcases Nat.le_total n hex.choose with hn | hn
 ·exact h2.symm.trans (nF hn _ _ _ _ h)
 ·have h3:=nF hn _ _ _ _ h2;exact h3.symm.trans h
theorem vL{f:Nat}{args:List AV}{H:List AObj}{r}(h:aL A f args H=some r):∃n,cT A n f args H=some r:=by
 unfold aL at h
 split at h
 ·rename_i hex;cases h;exact⟨_,hex.choose_spec.choose_spec⟩
 ·cases h
end
theorem aBm{l:List AV}{d:Nat}{v:AV}(h:d<l.length):fenv (l.set d v)=upd (fenv l) d v:=by
 funext t;unfold fenv upd
 by_cases e:t=d
 ·subst e;simp[h]
 ·rw[if_neg e,List.getElem?_set_ne (Ne.symm e)]
def xN(ρ:bH):Option (Option Nat×Bool)->Option Bool
 |none=>some true
 |some (none,_)=>none
 |some (some t,want)=>match ρ t with
  |.bool b=>some (b==want)
  |.tup []=>some false
  |_=>none
theorem aHv(l:List AV)(o:AOper):xN (fenv l) o.guard=if oR l o then some (wanted l o)else none:=by
 unfold xN oR wanted fenv;cases hg:o.guard with
 |none=>simp
 |some p=>
  obtain⟨t,want⟩:=p;cases t with
  |none=>simp
  |some t=>
   simp only;cases ht:l[t]? with
   |none=>simp
   |some v=>cases v with
    |tup vs=>cases vs<;>simp
    |_=>simp
def mJ(call:Nat->List AV->List AObj->Out)(site:Option Nat)(inDraw:Bool)(ρ:bH)(H:List AObj)(op:AOp):Out:=
 if isW site inDraw op then aBj call H ρ site op
 else match tW H ρ op with
  |some v=>some (v,H,[])
  |none=>none
theorem aNX(call:Nat->List AV->List AObj->Out)(c:Ctx)(d:Bool)(H:List AObj)(l:List AV)(o:AOper):
  aLy call c d H l o=mJ call (c.site o.dst) d (fenv l) H o.op:=by
 unfold aLy mJ;rw[aPs,aPr];rfl
def aLW(N:Nat)(o:AOper):Bool:=match o.dst with
 |some d=>decide (d<N)
 |none=>true
theorem sC{l:List AV}{o:AOper}{v:AV}(h:aLW l.length o=true):fenv (putSlot l o.dst v)=xT (fenv l) o.dst v:=by
 unfold aLW at h;unfold putSlot xT;cases hd:o.dst with
 |none=>rfl
 |some d=>rw[hd]at h;simp only[decide_eq_true_eq]at h;exact aBm h
section
variable (call:Nat->List AV->List AObj->Out)(c:Ctx)
def aBn:List AOper->bH->List AObj->List Nat->(bH->List AObj->List Nat->Prop)->Prop | [],ρ,H,wr,K=>K ρ H wr | o::r,ρ,H,wr,K=>match xN ρ o.guard with | none=>False | some false=>aBn r (xT ρ o.dst (.tup [])) H wr K | some true=>match mJ call (c.site o.dst) false ρ H o.op with | none=>False | some (v,H',w)=>aBn r (xT ρ o.dst v) H' (bA c.base wr w) K
def nG(site:Option Nat)(ρ:bH)(H:List AObj)(op:AOp):Option (AV×List AObj×List Nat×Option (List Nat)):=
 match op,site with
 |.alloc _,some id=>some (.ptr id ((H[id]?).elim 0 AObj.ver) 0,H,[id],none)
 |op,site=>
  if isW site true op then
   match aBj call H ρ site op with
   |some (v,H',wr)=>if H'.length=H.length then some (v,H',[],some wr)else none
   |none=>none
  else match tW H ρ op with
   |some v=>some (v,H,aAB ρ op,none)
   |none=>none
theorem aNY(H:List AObj)(l:List AV)(o:AOper):aDE call c H l o=nG call (c.site o.dst) (fenv l) H o.op:=by
 unfold aDE nG;simp only[aQf,aPr,aPs];rfl
def wpD(keep:List Nat):Nat->List AOper->bH->List AObj->List Nat->(bH->List AObj->List Nat->Log->Prop)->Prop
 |_,[],ρ,H,wr,K=>K ρ H wr []
 |i,o::r,ρ,H,wr,K=>match xN ρ o.guard with
  |none=>False
  |some false=>wpD keep (i+1) r (xT ρ o.dst (.tup [])) H wr K
  |some true=>match nG call (c.site o.dst) ρ H o.op with
   |none=>False
   |some (v,H',rd,w)=>wpD keep (i+1) r (xT ρ o.dst v) H' (bA c.base wr (w.getD []))
    (if keep.contains i then fun ρ H wr log=>K ρ H wr ((i,rd,w)::log)else K)
end
def looks(site:Option Nat):AOp->Bool
 |.load .. | .look .. | .conv .. | .view ..=>true
 |.alloc _=>site.isSome
 |_=>false
def aAg(c:Ctx)(o:AOper):Bool:=match o.op,c.site o.dst with
 |.alloc _,some _=>true
 |_,site => !isW site true o.op
def aDZ(c:Ctx)(keep:List Nat)(o:AOper)(i:Nat)(p:AOper)(j:Nat):Bool:=
 p.pre.contains i || (keep.contains i&&keep.contains j) ||
 (aAg c o&&aAg c p) ||
 (aAg c o && !looks (c.site o.dst) o.op) || (aAg c p && !looks (c.site p.dst) p.op)
def aAC(c:Ctx)(keep:List Nat):Nat->List AOper->Bool
 |_,[]=>true
 |i,o::r=>((r.zipIdx (i+1)).all fun(p,j)=>aDZ c keep o i p j)&&aAC c keep (i+1) r
theorem aIP{ρ:bH}{op:AOp}{site:Option Nat}(h:looks site op=false):aAB ρ op=[]:=by
 cases op<;>first | rfl | (simp[looks]at h)
def Ent(c:Ctx)(e:Nat×List Nat×Option (List Nat))(o:AOper):Prop:=
 (aAg c o=true->e.2.2=none)/\(aAg c o=true->looks (c.site o.dst) o.op=false->e.2.1=[])
theorem aLX{call:Nat->List AV->List AObj->Out}{c:Ctx}{ρ:bH}{H:List AObj}{o:AOper}{v H' rd w}(i:Nat)(h:nG call (c.site o.dst) ρ H o.op=some (v,H',rd,w)):
  Ent c (i,rd,w) o:=by
 unfold nG at h;unfold Ent aAg
 split at h
 ·rename_i h1 h2;cases h;refine⟨fun _=>rfl,fun _ hl => ?_⟩;rw[h2]at hl;simp[h1,looks]at hl
 ·split at h
  ·rename_i hw;constructor
   ·intro hh;simp[hw]at hh
   ·intro hh;simp[hw]at hh
  ·split at h
   ·cases h;refine⟨fun _=>rfl,fun _ hl=>aIP hl⟩
   ·cases h
def sK(c:Ctx):Nat->List AOper->Log->Prop
 |_,[],log=>log=[]
 |i,o::r,log=>sK c (i+1) r log∨∃rd w log',log=(i,rd,w)::log'/\Ent c (i,rd,w) o/\sK c (i+1) r log'
theorem sK.mem{c:Ctx}:∀{i:Nat} {ops:List AOper} {log:Log},sK c i ops log->∀e∈log,∃o,(o,e.1)∈ops.zipIdx i/\Ent c e o
 |_,[],_,h,e,he=>by rw[sK]at h;subst h;cases he
 |i,o::r,log,h,e,he=>by
  unfold sK at h;rw[List.zipIdx_cons];rcases h with h | ⟨rd,w,log',rfl,h1,h2⟩
  ·obtain⟨p,hp,hq⟩:=h.mem e he;exact⟨p,List.mem_cons_of_mem _ hp,hq⟩
  ·rcases List.mem_cons.1 he with rfl | he
   ·exact⟨o,List.mem_cons_self,h1⟩
   ·obtain⟨p,hp,hq⟩:=h2.mem e he;exact⟨p,List.mem_cons_of_mem _ hp,hq⟩
theorem aKM{ops:List AOper}{p:AOper}{j:Nat}(h:(p,j)∈ops.zipIdx):((ops[j]?).map AOper.pre).getD []=p.pre:=by
 have:=List.mem_zipIdx h;simp only[Nat.zero_le,Nat.sub_zero,Nat.zero_add,true_and]at this;obtain⟨h1,h2⟩:=this;rw[List.getElem?_eq_getElem h1,<- h2];rfl
theorem vM{c:Ctx}{keep:List Nat}{all:List AOper}:∀{i:Nat} {ops:List AOper} {log:Log},sK c i ops log->aAC c keep i ops=true ->
  (∀p∈ops.zipIdx i,p∈all.zipIdx) ->
  fG (fun j=>((all[j]?).map AOper.pre).getD []) (log.filter fun e=>keep.contains e.1)=true ->
  fG (fun j=>((all[j]?).map AOper.pre).getD []) log=true
 |_,[],log,h,_,_,_=>by rw[sK]at h;subst h;rfl
 |i,o::r,log,h,hp,hin,hk=>by
  unfold aAC at hp;rw[Bool.and_eq_true]at hp;unfold sK at h;rw[List.zipIdx_cons]at hin;rcases h with h | ⟨rd,w,log',rfl,h1,h2⟩
  ·exact vM h hp.2 (fun p hp=>hin p (List.mem_cons_of_mem _ hp)) hk
  ·unfold fG;rw[Bool.and_eq_true];constructor
   ·rw[List.all_eq_true];rintro⟨j,rd',w'⟩ he;obtain⟨p,hpm,hpe⟩:=h2.mem _ he;have hpp:=aKM (hin _ (List.mem_cons_of_mem _ hpm));have hpo:=(List.all_eq_true.1 hp.1) _ hpm;dsimp only at hpp hpo ⊢;rw[hpp];unfold aDZ at hpo;simp only[Bool.or_eq_true,Bool.and_eq_true,Bool.not_eq_true']at hpo;rcases hpo with (((h | ⟨hi,hj⟩) | ⟨ho,hq⟩) | ⟨ho,hl⟩) | ⟨hq,hl⟩
    ·simp only[h,Bool.true_or]
    ·have hk2:fG (fun j=>((all[j]?).map AOper.pre).getD []) ((i,rd,w)::log'.filter fun e=>keep.contains e.1)=true:=by
      rw[List.filter_cons]at hk;simp only[hi,if_true]at hk;exact hk
     unfold fG at hk2;rw[Bool.and_eq_true]at hk2;have:=(List.all_eq_true.1 hk2.1) (j,rd',w') (by rw[List.mem_filter];exact⟨he,hj⟩)
     dsimp only at this;rw[hpp]at this;exact this
    ·have e1:w=none:=h1.1 ho;have e2:w'=none:=hpe.1 hq;subst e1;subst e2;simp
    ·have e1:w=none:=h1.1 ho;have e2:rd=[]:=h1.2 ho hl;subst e1;subst e2;cases w'<;>simp[eB]
    ·have e1:w'=none:=hpe.1 hq;have e2:rd'=[]:=hpe.2 hq hl;subst e1;subst e2;cases w<;>simp[eB]
   ·refine vM h2 hp.2 (fun p hp=>hin p (List.mem_cons_of_mem _ hp)) ?_;rw[List.filter_cons]at hk
    split at hk
    ·unfold fG at hk;rw[Bool.and_eq_true]at hk;exact hk.2
    ·exact hk
section
variable {A:AProg}
theorem aFz{H:List AObj}{site:Option Nat}{f:AV}{args:List AV}{r}(h:cY (aL A) H site f args=some r):∃n,cY (cT A n) H site f args=some r:=by
 unfold cY at h
 split at h
 ·rename_i fid first caps
  split at h
  ·cases h
  ·rename_i args' lent hl
   split at h
   ·cases h
   ·rename_i v H' wr hc;obtain⟨n,hn⟩:=vL hc;refine⟨n, ?_⟩;unfold cY;dsimp only;rw[hl];dsimp only;rw[hn];exact h
 ·rename_i o v
  split at h
  ·cases h
  ·rename_i args' lent hl
   split at h
   ·cases h
   ·rename_i b H' wr hc;obtain⟨n,hn⟩:=vL hc;refine⟨n, ?_⟩;unfold cY;dsimp only;rw[hl];dsimp only;rw[hn];exact h
 ·cases h
theorem aKN{H:List AObj}{site:Option Nat}{f:AV}{args:List AV}{r}(h:hD (aL A) H site f args=some r):∃n,hD (cT A n) H site f args=some r:=by
 unfold hD at h
 split at h
 ·rename_i fid first caps
  split at h
  ·cases h
  ·rename_i v H' wr hc;obtain⟨n,hn⟩:=vL hc;refine⟨n, ?_⟩;unfold hD;dsimp only;rw[hn];exact h
 ·cases h
theorem aLY{H:List AObj}{ρ:bH}{site:Option Nat}{o:AOp}{r}(h:aBj (aL A) H ρ site o=some r):∃n,aBj (cT A n) H ρ site o=some r:=by
 cases o<;>first | exact⟨0,h⟩ | skip
 ·exact aFz h
 ·exact aKN h
 ·rename_i tab x args;simp only[aBj]at h ⊢;generalize AOpd.at ρ x=y at h ⊢;cases y with
  |ifc t v=>
   dsimp only at h ⊢;generalize tab.lookup t=z at h ⊢;cases z with
   |none=>cases h
   |some f=>exact aFz h
  |_=>cases h
theorem aNZ{site:Option Nat}{d:Bool}{H:List AObj}{ρ:bH}{o:AOp}{r}(h:mJ (aL A) site d ρ H o=some r):∃n,mJ (cT A n) site d ρ H o=some r:=by
 unfold mJ at h
 split at h
 ·rename_i hw;obtain⟨n,hn⟩:=aLY h;exact⟨n,by unfold mJ;rw[if_pos hw];exact hn⟩
 ·rename_i hw;exact⟨0,by unfold mJ;rw[if_neg hw];exact h⟩
theorem aO0{site:Option Nat}{H:List AObj}{ρ:bH}{o:AOp}{r}(h:nG (aL A) site ρ H o=some r):∃n,nG (cT A n) site ρ H o=some r:=by
 unfold nG at h
 split at h
 ·exact⟨0,h⟩
 ·rename_i hne
  split at h
  ·rename_i hw
   split at h
   ·rename_i he;obtain⟨n,hn⟩:=aLY he;refine⟨n, ?_⟩;unfold nG
    split
    ·exact (hne _ _ rfl rfl).elim
    ·rw[if_pos hw,hn];exact h
   ·cases h
  ·rename_i hw;refine⟨0, ?_⟩;unfold nG
   split
   ·exact (hne _ _ rfl rfl).elim
   ·rw[if_neg hw];exact h
theorem aAD{c:Ctx}:∀{ops:List AOper} {l:List AV} {H:List AObj} {wr:List Nat} {K},aBn (aL A) c ops (fenv l) H wr K->(ops.all (aLW l.length))=true ->
  ∃n s',iK (cT A n) c ops ⟨l,H,wr⟩=some s'/\s'.ρ.length=l.length/\K (fenv s'.ρ) s'.H s'.wr
 | [],l,H,wr,K,h,_=>⟨0,⟨l,H,wr⟩,rfl,rfl,h⟩
 |o::r,l,H,wr,K,h,hd=>by
  rw[List.all_cons,Bool.and_eq_true]at hd;unfold aBn at h;rw[aHv]at h
  split at h
  ·cases h
  ·rename_i hg
   split at hg
   ·rename_i hok;rw[Option.some.injEq]at hg;rw[<- sC hd.1]at h;obtain⟨n,s',h1,h2,h3⟩:=aAD h (by rw[eW];exact hd.2)
    refine⟨n,s', ?_,by rw[h2,eW],h3⟩
    unfold iK;rw[if_pos hok,if_neg (by rw[hg];exact Bool.false_ne_true)]
    exact h1
   ·cases hg
  ·rename_i hg
   split at hg
   ·rename_i hok;rw[Option.some.injEq]at hg
    split at h
    ·cases h
    ·rename_i v H' w hs;obtain⟨n1,hn1⟩:=aNZ hs;rw[<- sC hd.1]at h;obtain⟨n2,s',h1,h2,h3⟩:=aAD h (by rw[eW];exact hd.2)
     refine⟨max n1 n2,s', ?_,by rw[h2,eW],h3⟩
     unfold iK;rw[if_pos hok,if_pos hg];have e1:=aHu (nF (Nat.le_max_left n1 n2)) ((aNX (cT A n1) c false H l o).trans hn1);dsimp only;rw[e1];exact zT (nF (Nat.le_max_right n1 n2)) h1
   ·cases hg
theorem aE0{c:Ctx}{keep:List Nat}:∀{ops:List AOper} {i:Nat} {l:List AV} {H:List AObj} {wr:List Nat} {K},wpD (aL A) c keep i ops (fenv l) H wr K->(ops.all (aLW l.length))=true ->
  ∃n s' log,nA (cT A n) c i ops ⟨l,H,wr⟩=some (s',log)/\s'.ρ.length=l.length/\sK c i ops log/\K (fenv s'.ρ) s'.H s'.wr (log.filter fun e=>keep.contains e.1)
 | [],i,l,H,wr,K,h,_=>⟨0,⟨l,H,wr⟩,[],rfl,rfl,rfl,h⟩
 |o::r,i,l,H,wr,K,h,hd=>by
  rw[List.all_cons,Bool.and_eq_true]at hd;unfold wpD at h;rw[aHv]at h
  split at h
  ·cases h
  ·rename_i hg
   split at hg
   ·rename_i hok;rw[Option.some.injEq]at hg;rw[<- sC hd.1]at h;obtain⟨n,s',log,h1,h2,h3,h4⟩:=aE0 h (by rw[eW];exact hd.2)
    refine⟨n,s',log, ?_,by rw[h2,eW],.inl h3,h4⟩
    unfold nA;rw[if_pos hok,if_neg (by rw[hg];exact Bool.false_ne_true)]
    exact h1
   ·cases hg
  ·rename_i hg
   split at hg
   ·rename_i hok;rw[Option.some.injEq]at hg
    split at h
    ·cases h
    ·rename_i v H' rd w hs;obtain⟨n1,hn1⟩:=aO0 hs;rw[<- sC hd.1]at h;obtain⟨n2,s',log,h1,h2,h3,h4⟩:=aE0 h (by rw[eW];exact hd.2)
     refine⟨max n1 n2,s',(i,rd,w)::log, ?_,by rw[h2,eW],.inr ⟨rd,w,log,rfl,aLX i hs,h3⟩, ?_⟩
     ·unfold nA;rw[if_pos hok,if_pos hg];have e1:=aFy (nF (Nat.le_max_left n1 n2)) ((aNY (cT A n1) c H l o).trans hn1);dsimp only;rw[e1];dsimp only;rw[vK (nF (Nat.le_max_right n1 n2)) h1]
     ·rw[List.filter_cons];dsimp only
      split at h4
      ·rename_i hk;rw[if_pos hk];exact h4
      ·rename_i hk;rw[if_neg hk];exact h4
   ·cases hg
def Wp(A:AProg)(N:Nat)(c:Ctx)(x:ACode)(ρ:bH)(H:List AObj)(wr:List Nat)(Q:AExit->bH->List AObj->List Nat->Prop):Prop:=
 ∀l:List AV,l.length=N->fenv l=ρ->∃n e s',cO A n c x ⟨l,H,wr⟩=some (e,s')/\s'.ρ.length=N/\Q e (fenv s'.ρ) s'.H s'.wr
def aS1(H:List AObj)(v:AV):Option (AV×List AObj×List Nat):=match fix H v with
 |some r=>some r
 |none=>xY H v
def aBo(H:List AObj)(k:Nat)(v:AV):Option (List AObj×List Nat):=match oQ H v with
 |some r=>some r
 |none=>match aX H k v with
  |some cs=>match fix H (.agg cs)with
   |some (.agg cs',H',l)=>match storeCells H' cs' v with
    |some (H'',l')=>some (H'',l++l')
    |none=>none
   |_=>none
  |none=>none
def aBp(c:Ctx):List (Nat×Nat)->bH->List AObj->List Nat->(bH->List AObj->List Nat->Prop)->Prop
 | [],ρ,H,wr,K=>K ρ H wr
 | (k+1,t)::r,ρ,H,wr,K=>
  if (ρ t).isUndef then aBp c r ρ H wr K else
  match aBo H (k+1) (ρ t)with
  |some (H',l)=>aBp c r ρ H' (bA c.base wr l) K
  |none=>False
 | (0,t)::r,ρ,H,wr,K=>
  match aS1 H (ρ t)with
  |some (v,H',l)=>aBp c r (upd ρ t v) H' (bA c.base wr l) K
  |none=>False
theorem aQg{H:List AObj}{v:AV}{r}(h:fix H v=some r):aJI H v=some r:=by unfold aJI;rw[h]
theorem aQh{H:List AObj}{v:AV}{r}(h:aS1 H v=some r):aJI H v=some r:=by
 unfold aS1 at h;unfold aJI;cases hf:fix H v with
 |some x=>rw[hf]at h;exact h
 |none=>
  rw[hf]at h;dsimp only at h ⊢
  split
  ·unfold xY at h;dsimp only at h;rw[hf]at h;cases h
  ·exact h
theorem qK{c:Ctx}:∀{ts:List (Nat×Nat)} {l:List AV} {H:List AObj} {wr:List Nat} {K},aBp c ts (fenv l) H wr K->(ts.all fun p=>decide (p.2<l.length))=true ->
  ∃s',nD c ⟨l,H,wr⟩ ts=some s'/\s'.ρ.length=l.length/\K (fenv s'.ρ) s'.H s'.wr
 | [],l,H,wr,K,h,_=>⟨⟨l,H,wr⟩,rfl,rfl,h⟩
 | (k+1,t)::r,l,H,wr,K,h,hd=>by
  rw[List.all_cons,Bool.and_eq_true]at hd;unfold aBp at h;have e:fenv l t=(l[t]?).getD .undef:=rfl;rw[e]at h
  split at h
  ·rename_i hc;obtain⟨s',h1,h2,h3⟩:=qK h hd.2;refine⟨s', ?_,h2,h3⟩;unfold nD;rw[if_pos hc];exact h1
  ·rename_i hc;unfold aBo at h;cases hk:oQ H ((l[t]?).getD .undef)with
   |some x=>
    rw[hk]at h;obtain⟨s',h1,h2,h3⟩:=qK h hd.2;refine⟨s', ?_,h2,h3⟩;unfold nD;rw[if_neg hc];dsimp only;rw[hk];exact h1
   |none=>
    rw[hk]at h;dsimp only at h;cases hr:aX H (k+1) ((l[t]?).getD .undef)with
    |none=>rw[hr]at h;exact h.elim
    |some cs=>
     rw[hr]at h;dsimp only at h;cases hf:fix H (.agg cs)with
     |none=>rw[hf]at h;exact h.elim
     |some x=>
      obtain⟨v,H',l1⟩:=x;rw[hf]at h;cases v<;>try exact h.elim
      rename_i cs';dsimp only at h;cases hs:storeCells H' cs' ((l[t]?).getD .undef)with
      |none=>rw[hs]at h;exact h.elim
      |some y=>
       rw[hs]at h;obtain⟨s',h1,h2,h3⟩:=qK h hd.2;refine⟨s', ?_,h2,h3⟩;unfold nD;rw[if_neg hc];dsimp only;rw[hk];dsimp only;rw[hr];dsimp only;rw[aQg hf];dsimp only;rw[hs];exact h1
 | (0,t)::r,l,H,wr,K,h,hd=>by
  rw[List.all_cons,Bool.and_eq_true]at hd;unfold aBp at h;have e:fenv l t=(l[t]?).getD .undef:=rfl;rw[e]at h
  split at h
  ·rename_i v H' l1 hf;have ht:t<l.length:=by simpa using hd.1
   rw[<- aBm ht]at h;obtain⟨s',h1,h2,h3⟩:=qK h (by simpa using hd.2)
   refine⟨s', ?_,by rw[h2];simp,h3⟩
   unfold nD;dsimp only;rw[aQh hf];exact h1
  ·exact h.elim
def aAh(c:Ctx)(ops:List AOper):List Nat:=
 let z:=ops.zipIdx
 z.filterMap fun(o,i)=>if z.all fun(p,j)=>if i<j then aDZ c [] o i p j else if j<i then aDZ c [] p j o i else true then none else some i
def wpc(A:AProg)(N:Nat)(c:Ctx):ACode->bH->List AObj->List Nat->(AExit->bH->List AObj->List Nat->Prop)->Prop
 |.skip,ρ,H,wr,Q=>Q .normal ρ H wr
 |.bad,_,_,_,_=>False
 |.region false ops,ρ,H,wr,Q=>aBn (aL A) c ops ρ H wr (Q .normal)
 |.region true ops,ρ,H,wr,Q=>match cI c H ops with
  |some H0=>wpD (aL A) c (aAh c ops) 0 ops ρ H0 wr fun ρ H wr log=>fG (fun j=>((ops[j]?).map AOper.pre).getD []) log=true/\Q .normal ρ H wr
  |none=>False
 |.seq a b,ρ,H,wr,Q=>wpc A N c a ρ H wr fun e ρ H wr=>match e with
  |.normal=>wpc A N c b ρ H wr Q
  |e=>Q e ρ H wr
 |.cond t a b,ρ,H,wr,Q=>match t.at ρ with
  |.bool true=>wpc A N c a ρ H wr Q
  |.bool false=>wpc A N c b ρ H wr Q
  |_=>False
 |.block id b,ρ,H,wr,Q=>wpc A N c b ρ H wr fun e ρ H wr=>match e with
  |.exit id'=>if id'=id then Q .normal ρ H wr else Q (.exit id') ρ H wr
  |e=>Q e ρ H wr
 |.loop b,ρ,H,wr,Q=>Wp A N c (.loop b) ρ H wr Q
 |.exit id,ρ,H,wr,Q=>Q (.exit id) ρ H wr
 |.ret,ρ,H,wr,Q=>Q .ret ρ H wr
 |.frz ts,ρ,H,wr,Q=>aBp c ts ρ H wr (Q .normal)
 |.rangeF x ps b,ρ,H,wr,Q=>Wp A N c (.rangeF x ps b) ρ H wr Q
def cZ(N:Nat)(c:Ctx):ACode->Bool
 |.region d ops=>ops.all (aLW N)&&(!d || (aLC ops&&aAC c (aAh c ops) 0 ops))
 |.seq a b=>cZ N c a&&cZ N c b
 |.cond _ a b=>cZ N c a&&cZ N c b
 |.block _ b=>cZ N c b
 |.loop b=>cZ N c b
 |.frz ts=>ts.all fun p=>decide (p.2<N)
 |_=>true
theorem jT{N:Nat}{c:Ctx}:∀{x:ACode} {ρ:bH} {H:List AObj} {wr:List Nat} {Q},wpc A N c x ρ H wr Q->cZ N c x=true->Wp A N c x ρ H wr Q
 |.skip,ρ,H,wr,Q,h,_=>fun l hl he=>⟨1,.normal,⟨l,H,wr⟩,rfl,hl,by rw[wpc]at h;subst he;exact h⟩
 |.bad,_,_,_,_,h,_=>by rw[wpc]at h;exact h.elim
 |.region false ops,ρ,H,wr,Q,h,hok=>fun l hl he=>by
  subst he;rw[wpc]at h;simp only[cZ,Bool.and_eq_true]at hok;obtain⟨n,s',h1,h2,h3⟩:=aAD h (by rw[hl];exact hok.1)
  refine⟨n+1,.normal,s', ?_,by rw[h2,hl],h3⟩
  rw[iA];have:hG (cT A n) c false ops ⟨l,H,wr⟩=some s':=h1;rw[this]
 |.region true ops,ρ,H,wr,Q,h,hok=>fun l hl he=>by
  subst he;rw[wpc]at h;simp only[cZ,Bool.and_eq_true,BT,Bool.false_or]at hok
  split at h
  ·rename_i H0 hp;obtain⟨n,s',log,h1,h2,h3,h4,h5⟩:=aE0 h (by rw[hl];exact hok.1)
   refine⟨n+1,.normal,s', ?_,by rw[h2,hl],h5⟩
   rw[iA];have hlog:=vM h3 hok.2.2 (fun p hp=>hp) h4;have:hG (cT A n) c true ops ⟨l,H,wr⟩=some s':=by
    unfold hG;simp only[Bool.true_and,hok.2.1,if_true];rw[hp];dsimp only;rw[h1];dsimp only;rw[if_pos hlog]
   rw[this]
  ·exact h.elim
 |.seq a b,ρ,H,wr,Q,h,hok=>fun l hl he=>by
  rw[wpc]at h;simp only[cZ,Bool.and_eq_true]at hok;obtain⟨n,e,s',h1,h2,h3⟩:=jT h hok.1 l hl he
  by_cases hn:e=.normal
  ·subst hn;obtain⟨m,e',s'',g1,g2,g3⟩:=jT h3 hok.2 s'.ρ h2 rfl;refine⟨max n m+1,e',s'', ?_,g2,g3⟩;rw[gO,dU (Nat.le_max_left n m) _ _ _ _ h1];exact dU (Nat.le_max_right n m) _ _ _ _ g1
  ·refine⟨n+1,e,s', ?_,h2, ?_⟩
   ·rw[gO,h1];cases e<;>first | rfl | exact absurd rfl hn
   ·cases e<;>first | exact h3 | exact absurd rfl hn
 |.cond t a b,ρ,H,wr,Q,h,hok=>fun l hl he=>by
  rw[wpc]at h;simp only[cZ,Bool.and_eq_true]at hok;have ht:t.ev l=t.at ρ:=by rw[<- he];exact t.ev_eq l
  split at h
  ·rename_i hb;obtain⟨n,e,s',h1,h2⟩:=jT h hok.1 l hl he;exact⟨n+1,e,s',by rw[iB];dsimp only;rw[ht,hb];exact h1,h2⟩
  ·rename_i hb;obtain⟨n,e,s',h1,h2⟩:=jT h hok.2 l hl he;exact⟨n+1,e,s',by rw[iB];dsimp only;rw[ht,hb];exact h1,h2⟩
  ·exact h.elim
 |.block id b,ρ,H,wr,Q,h,hok=>fun l hl he=>by
  rw[wpc]at h;simp only[cZ]at hok;obtain⟨n,e,s',h1,h2,h3⟩:=jT h hok l hl he;cases e with
  |normal=>exact⟨n+1,.normal,s',by rw[dW,h1],h2,h3⟩
  |ret=>exact⟨n+1,.ret,s',by rw[dW,h1],h2,h3⟩
  |exit id'=>
   dsimp only at h3
   split at h3
   ·rename_i hid;exact⟨n+1,.normal,s',by rw[dW,h1];dsimp only;rw[if_pos hid],h2,h3⟩
   ·rename_i hid;exact⟨n+1,.exit id',s',by rw[dW,h1];dsimp only;rw[if_neg hid],h2,h3⟩
 |.loop b,ρ,H,wr,Q,h,_=>by rw[wpc]at h;exact h
 |.rangeF x ps b,ρ,H,wr,Q,h,_=>by rw[wpc]at h;exact h
 |.exit id,ρ,H,wr,Q,h,_=>fun l hl he=>⟨1,.exit id,⟨l,H,wr⟩,rfl,hl,by rw[wpc]at h;subst he;exact h⟩
 |.ret,ρ,H,wr,Q,h,_=>fun l hl he=>⟨1,.ret,⟨l,H,wr⟩,rfl,hl,by rw[wpc]at h;subst he;exact h⟩
 |.frz ts,ρ,H,wr,Q,h,hok=>fun l hl he=>by
  rw[wpc]at h;subst he;obtain⟨s',h1,h2,h3⟩:=qK h (by rw[hl];exact hok)
  exact⟨1,.normal,s',by rw[uE,h1],by rw[h2,hl],h3⟩
theorem Wp.mono{N:Nat}{c:Ctx}{x:ACode}{ρ:bH}{H:List AObj}{wr:List Nat}{Q Q'}(hk:∀e ρ H wr,Q e ρ H wr->Q' e ρ H wr)(h:Wp A N c x ρ H wr Q):Wp A N c x ρ H wr Q':=fun l hl he=>by
 obtain⟨n,e,s',h1,h2,h3⟩:=h l hl he;exact⟨n,e,s',h1,h2,hk _ _ _ _ h3⟩
def aO1(H:List AObj)(ρ:bH):ARes->Option AV
 |.tmp t=>some (ρ t)
 |.cell t k agg=>match aX H k (ρ t)with
  |some cs=>dR agg cs
  |none=>none
def aFA(H:List AObj)(ρ:bH):List ARes->Option (List AV)
 | []=>some []
 |r::rs=>match aO1 H ρ r with
  |none=>none
  |some v=>match aFA H ρ rs with
   |none=>none
   |some vs=>some (v::vs)
theorem aGs(H:List AObj)(l:List AV):∀rs,aGe H l rs=aFA H (fenv l) rs
 | []=>rfl
 |r::rs=>by
  unfold aGe aFA;have:aUA H l r=aO1 H (fenv l) r:=by cases r<;>rfl
  rw[this,aGs H l rs];rfl
def jD(base:Nat)(rs:List ARes)(ρ:bH)(H:List AObj)(wr:List Nat):Out:=
 match aFA H ρ rs with
 |none=>none
 |some [v]=>match aD6 base H v with
  |some (v',H',l)=>some (v',H',bA base wr l)
  |none=>none
 |some vs=>match aBU H vs with
  |some (vs',H',l)=>some (.tup vs',H',bA base wr l)
  |none=>none
def aS2(base:Nat)(rs:List ARes)(K:AV->List AObj->List Nat->Prop):AExit->bH->List AObj->List Nat->Prop
 |.exit _,_,_,_=>False
 |_,ρ,H,wr=>match jD base rs ρ H wr with
  |some r=>K (cD base r).1 (cD base r).2.1 (cD base r).2.2
  |none=>False
def pE(args:List AV):bH:=fun t=>(args[t]?).getD .undef
theorem aC2(args:List AV)(k:Nat):fenv (args++List.replicate k .undef)=pE args:=by
 funext t;unfold fenv pE
 by_cases h:t<args.length
 ·rw[List.getElem?_append_left h]
 ·rw[List.getElem?_append_right (by omega),List.getElem?_eq_none (by omega:args.length<=t),List.getElem?_replicate]
  split<;>rfl
theorem aC3{f:Nat}{args:List AV}{H:List AObj}{fn:AFn}{K:AV->List AObj->List Nat->Prop}(hf:A.fn f=some fn)(hp:(A.prim f).bind (· args H)=none)
  (hN:args.length<=fn.ntmps) (hok:cZ fn.ntmps ⟨H.length,fn.sites⟩ fn.body=true)
  (h:wpc A fn.ntmps ⟨H.length,fn.sites⟩ fn.body (pE args) (H++List.replicate fn.sites.length (.gone 0)) [] (aS2 H.length fn.results K)):
  ∃v H' wr,aL A f args H=some (v,H',wr)/\K v H' wr:=by
 obtain⟨n,e,s',h1,h2,h3⟩:=jT h hok (args++List.replicate (fn.ntmps - args.length) .undef) (by simp;omega) (aC2 _ _)
 have key:∀r,jD H.length fn.results (fenv s'.ρ) s'.H s'.wr=some r->xZ H.length fn s'=some r:=by
  intro r hr;unfold jD at hr;unfold xZ;rw[aGs];exact hr
 cases e with
 |exit id=>exact h3.elim
 |normal=>
  unfold aS2 at h3;dsimp only at h3
  split at h3
  ·rename_i r hr;exact⟨_,_,_,nR (nZ hp hf h1 (.inl rfl) (key _ hr) hN),h3⟩
  ·exact h3.elim
 |ret=>
  unfold aS2 at h3;dsimp only at h3
  split at h3
  ·rename_i r hr;exact⟨_,_,_,nR (nZ hp hf h1 (.inr rfl) (key _ hr) hN),h3⟩
  ·exact h3.elim
end
def aSW(x:AOpd)(H:List AObj)(ρ:bH):Option AV:=some (x.at ρ)
def aQi(c:AOpd)(a:AOpd)(b:AOpd)(H:List AObj)(ρ:bH):Option AV:=match c.at ρ with
  |.bool t=>some (if t then a.at ρ else b.at ρ)
  |_=>none
def aO2(zs:List AV)(H:List AObj)(ρ:bH):Option AV:=if zs.all AV.still then some (.ep (zs.map AV.strip1) 0)else none
def aSX(k:Nat)(x:AOpd)(H:List AObj)(ρ:bH):Option AV:=
  let vs:=(x.at ρ).strip.cells
  if vs.length=k/\vs.all AV.still then some (.ep vs 0)else none
def aO3(zs:List AV)(parts:List (Nat×Nat×AOpd))(H:List AObj)(ρ:bH):Option AV:=(lT ρ zs parts).map .agg
def aSY(k:Nat)(zs:List AV)(n:Nat)(parts:List (Nat×AOpd))(H:List AObj)(ρ:bH):Option AV:=(nE ρ k (List.replicate n zs) parts).map (.sl true)
def aSZ(u0:Nat)(bytes:Nat)(zs:List AV)(len:AOpd)(cap:AOpd)(H:List AObj)(ρ:bH):Option AV:=match len.at ρ,cap.at ρ with
  |.int _ n,.int _ c=>if 0<=n/\n=c/\bP n.toNat bytes then some (.sl true (List.replicate n.toNat (zs.map AV.strip1)))else none
  |_,_=>none
def aQj(k:Nat)(agg:Bool)(x:AOpd)(H:List AObj)(ρ:bH):Option AV:=match aX H k (x.at ρ)with
  |some cs=>dR agg cs
  |none=>none
def aO4(x:AOpd)(H:List AObj)(ρ:bH):Option AV:=match x.at ρ with
  |.ptr o v off=>some (.ptr o v off)
  |.vp o v n k i off=>some (.vp o v n k i off)
  |.ep row off=>some (.ep row off)
  |.fn f a b=>some (.fn f a b)
  |_=>none
def aO5(neg:Bool)(x:AOpd)(H:List AObj)(ρ:bH):Option AV:=match x.at ρ with
  |.sl _ (_::_) | .sr ..=>some (.bool neg)
  |.nilSl=>some (.bool !neg)
  |_=>none
def aT0(op:BinOp)(ek:EqK)(x:AOpd)(y:AOpd)(H:List AObj)(ρ:bH):Option AV:=kM op ek (x.at ρ) (y.at ρ)
def aWb(op:UnOp)(x:AOpd)(H:List AObj)(ρ:bH):Option AV:=unV op (x.at ρ)
def aQk(c:AConv)(x:AOpd)(H:List AObj)(ρ:bH):Option AV:=pG H c (x.at ρ)
def aT1(f:Nat)(first:List AOpd)(caps:List AOpd)(H:List AObj)(ρ:bH):Option AV:=if (first.map (AOpd.at ρ)).all AV.still&&(caps.map (AOpd.at ρ)).all AV.still then some (.fn f (first.map fun x=>(x.at ρ).strip1) (caps.map fun x=>(x.at ρ).strip1))else none
def aLZ(x:AOpd)(lo:Option AOpd)(hi:Option AOpd)(H:List AObj)(ρ:bH):Option AV:=match x.at ρ with
  |.str s=>match dK s.length (lo.map (AOpd.at ρ)) (hi.map (AOpd.at ρ)) none with
   |some (l,h,_)=>some (.str ((s.take h).drop l))
   |none=>none
  |_=>none
def aM0(k:Nat)(x:AOpd)(lo:Option AOpd)(hi:Option AOpd)(mx:Option AOpd)(H:List AObj)(ρ:bH):Option AV:=match x.at ρ with
  |.sl full rows=>match dK rows.length (lo.map (AOpd.at ρ)) (hi.map (AOpd.at ρ)) (mx.map (AOpd.at ρ))with
   |some (l,h,m)=>if cH k rows&&(!mx.isSome || hi.isSome)then some (.sl (decide (m=h)&&(mx.isSome || full)) ((rows.take h).drop l))else none
   |none=>none
  |.sr o v n=>if mx.isSome then none else match dK n (lo.map (AOpd.at ρ)) (hi.map (AOpd.at ρ)) none with
   |some (l,h,_)=>if hi.isSome&&decide (l=0)then some (.srw o v n h)else if h=n then some (.srv o v n k l)else none
   |none=>none
  |_=>none
def aQl(k:Nat)(x:AOpd)(lo:Option AOpd)(H:List AObj)(ρ:bH):Option AV:=match x.at ρ with
  |.sl full rows=>match dK rows.length (lo.map (AOpd.at ρ)) none none with
   |some (l,h,m)=>if cH k rows then some (.sl (decide (m=h)&&full) ((rows.take h).drop l))else none
   |none=>none
  |.sr o v n=>match H[o]? with
   |some (.vec v' _ rows)=>if v'=v/\rows.length=n then match kS 0 n (lo.map (AOpd.at ρ))with
     |some l=>some (.srv o v n k l)
     |none=>none
    else none
   |_=>none
  |_=>none
def aM1(n:Nat)(k:Nat)(x:AOpd)(lo:Option AOpd)(hi:Option AOpd)(mx:Option AOpd)(H:List AObj)(ρ:bH):Option AV:=match x.at ρ with
  |.ep row off=>if off+n*k<=row.length then
    let rows:=aDC k n (row.drop off)
    match dK n (lo.map (AOpd.at ρ)) (hi.map (AOpd.at ρ)) (mx.map (AOpd.at ρ))with
    |some (l,h,m)=>if !mx.isSome || hi.isSome then some (.sl (decide (m=h)) ((rows.take h).drop l))else none
    |none=>none
   else none
  |_=>none
def aWc(off:Nat)(x:AOpd)(H:List AObj)(ρ:bH):Option AV:=match x.at ρ with
  |.ptr o v off0=>some (.ptr o v (off0+off))
  |.vp o v n k i off0=>some (.vp o v n k i (off0+off))
  |.ep row off0=>some (.ep row (off0+off))
  |_=>none
def aT2(off:Nat)(k:Nat)(agg:Bool)(x:AOpd)(H:List AObj)(ρ:bH):Option AV:=match x.at ρ with
  |.agg cs=>if off+k<=cs.length then dR agg ((cs.drop off).take k)else none
  |_=>none
def aT3(x:AOpd)(i:AOpd)(k:Nat)(H:List AObj)(ρ:bH):Option AV:=match x.at ρ,i.at ρ with
  |.sl _ rows,.int _ n=>if 0<=n then match rows[n.toNat]? with
    |some row=>if row.length=k then some (.ep row 0)else none
    |none=>none
   else none
  |.sr o v len,.int _ n=>if 0<=n/\n<len then some (.vp o v len k n.toNat 0)else none
  |_,_=>none
def aT4(len:Nat)(k:Nat)(x:AOpd)(i:AOpd)(H:List AObj)(ρ:bH):Option AV:=match x.at ρ,i.at ρ with
  |.ptr o v off,.int _ n=>if 0<=n/\n<len then some (.ptr o v (off+n.toNat*k))else none
  |.ep row off,.int _ n=>if 0<=n/\n<len then some (.ep row (off+n.toNat*k))else none
  |_,_=>none
def aT5(x:AOpd)(i:AOpd)(H:List AObj)(ρ:bH):Option AV:=match x.at ρ,i.at ρ with
  |.str s,.int _ n=>if 0<=n then match s[n.toNat]? with
    |some b=>some (.int .u8 b.toNat)
    |none=>none
   else none
  |_,_=>none
def aT6(len:Nat)(k:Nat)(agg:Bool)(x:AOpd)(i:AOpd)(H:List AObj)(ρ:bH):Option AV:=match x.at ρ,i.at ρ with
  |.agg cs,.int _ n=>if 0<=n/\n<len/\n.toNat*k+k<=cs.length then dR agg ((cs.drop (n.toNat*k)).take k)else none
  |_,_=>none
def aQm(x:AOpd)(H:List AObj)(ρ:bH):Option AV:=match x.at ρ with
  |.str s=>some (.int .i64 s.length)
  |_=>none
def aQn(x:AOpd)(H:List AObj)(ρ:bH):Option AV:=match x.at ρ with
  |.sl _ rows=>some (.int .i64 rows.length)
  |.sr _ _ n=>some (.int .i64 n)
  |.nilSl=>some (.int .i64 0)
  |_=>none
def aQo(n:Nat)(H:List AObj)(ρ:bH):Option AV:=some (.int .i64 n)
def aWd(mx:Bool)(xs:List AOpd)(H:List AObj)(ρ:bH):Option AV:=mmV mx (xs.map (AOpd.at ρ))
def aT7(i:Nat)(x:AOpd)(H:List AObj)(ρ:bH):Option AV:=match x.at ρ with
  |.tup vs=>vs[i]?
  |_=>none
def aO6(t:Nat)(x:AOpd)(H:List AObj)(ρ:bH):Option AV:=if (x.at ρ).inIfc then some (.ifc t (x.at ρ))else none
def aQp(zero:AV)(m:AOpd)(k:AOpd)(ok:Bool)(H:List AObj)(ρ:bH):Option AV:=match m.at ρ with
  |.mp o v=>match H[o]? with
   |some (.map v' es)=>if v'=v then
     match gY (k.at ρ) es 0 with
     |some (some (_,x))=>if ok then some (.tup [x,.bool true])else some x
     |some none=>if ok then some (.tup [zero,.bool false])else some zero
     |none=>none
    else none
   |_=>none
  |.fmp ks vs=>match gY (k.at ρ) (ks.zip vs) 0 with
   |some (some (_,x))=>if ok then some (.tup [x,.bool true])else some x
   |some none=>if ok then some (.tup [zero,.bool false])else some zero
   |none=>none
  |_=>none
def rOp:AOp->List AObj->bH->Option AV:=fun op=>match op with
 |.mov a0=>aSW a0
 |.pick a0 a1 a2=>aQi a0 a1 a2
 |.alloc a0=>aO2 a0
 |.box a0 a1=>aSX a0 a1
 |.build a0 a1=>aO3 a0 a1
 |.bsl a0 a1 a2 a3=>aSY a0 a1 a2 a3
 |.mks a0 a1 a2 a3 a4=>aSZ a0 a1 a2 a3 a4
 |.load a0 a1 a2=>aQj a0 a1 a2
 |.nilck a0=>aO4 a0
 |.isnil a0 a1=>aO5 a0 a1
 |.bin a0 a1 a2 a3=>aT0 a0 a1 a2 a3
 |.un a0 a1=>aWb a0 a1
 |.conv a0 a1=>aQk a0 a1
 |.mkf a0 a1 a2=>aT1 a0 a1 a2
 |.sliceS a0 a1 a2=>aLZ a0 a1 a2
 |.sliceV a0 a1 a2 a3 a4=>aM0 a0 a1 a2 a3 a4
 |.view a0 a1 a2=>aQl a0 a1 a2
 |.sliceA a0 a1 a2 a3 a4 a5=>aM1 a0 a1 a2 a3 a4 a5
 |.fa a0 a1=>aWc a0 a1
 |.fld a0 a1 a2 a3=>aT2 a0 a1 a2 a3
 |.iaV a0 a1 a2=>aT3 a0 a1 a2
 |.iaA a0 a1 a2 a3=>aT4 a0 a1 a2 a3
 |.ixS a0 a1=>aT5 a0 a1
 |.ixA a0 a1 a2 a3 a4=>aT6 a0 a1 a2 a3 a4
 |.lenS a0=>aQm a0
 |.lenV a0=>aQn a0
 |.lenC a0=>aQo a0
 |.mm a0 a1=>aWd a0 a1
 |.ext a0 a1=>aT7 a0 a1
 |.mkifc a0 a1=>aO6 a0 a1
 |.look a0 a1 a2 a3=>aQp a0 a1 a2 a3
 |_=>fun _ _=>none
theorem aPt(op:AOp)(H:List AObj)(ρ:bH):rOp op H ρ=tW H ρ op:=by cases op<;>rfl
def aO7(zs:List AV)(H:List AObj)(ρ:bH)(site:Option Nat):Out:=match site with
  |some id=>if id<H.length then some (.ptr id (bG H id) 0,make H id (.box · zs),[id])else none
  |none=>none
def aM2(ty:Nat)(zs:List AV)(H:List AObj)(ρ:bH)(site:Option Nat):Out:=match site with
  |some id=>if id<H.length then some (.ptr id (bG H id) 0,make H id (.tbox · ty zs),[id])else none
  |none=>none
def aT8(k:Nat)(x:AOpd)(H:List AObj)(ρ:bH)(site:Option Nat):Out:=match site with
  |some id=>if id<H.length/\(x.at ρ).cells.length=k/\(x.at ρ).cells.all AV.cellOk then some (.ptr id (bG H id) 0,make H id (.box · (x.at ρ).cells),[id])else none
  |none=>none
def aT9(ty:Nat)(k:Nat)(x:AOpd)(H:List AObj)(ρ:bH)(site:Option Nat):Out:=match site with
  |some id=>if id<H.length/\(x.at ρ).cells.length=k/\(x.at ρ).cells.all AV.cellOk then some (.ptr id (bG H id) 0,make H id (.tbox · ty (x.at ρ).cells),[id])else none
  |none=>none
def aO8(k:Nat)(x:AOpd)(v:AOpd)(H:List AObj)(ρ:bH)(site:Option Nat):Out:=if (v.at ρ).cells.length=k/\(v.at ρ).cells.all AV.cellOk then
   match storeCells H (v.at ρ).cells (x.at ρ)with
   |some (H',wr)=>some (.undef,H',wr)
   |none=>none
  else none
def aTa(k:Nat)(zs:List AV)(n:Nat)(parts:List (Nat×AOpd))(H:List AObj)(ρ:bH)(site:Option Nat):Out:=match site with
  |some id=>match lU ρ k (List.replicate n zs) parts with
   |some rows=>if id<H.length then some (.sr id (bG H id) n,make H id (.vec · k rows),[id])else none
   |none=>none
  |none=>match vJ ρ k H (List.replicate n zs) parts with
   |some (rows,H',wr)=>some (.sl true rows,H',wr)
   |none=>none
def aTb(k:Nat)(bytes:Nat)(zs:List AV)(len:AOpd)(cap:AOpd)(H:List AObj)(ρ:bH)(site:Option Nat):Out:=match len.at ρ,cap.at ρ with
  |.int _ n,.int _ c=>
   if 0<=n/\n=c/\bP n.toNat bytes then
    match site with
    |some id=>if id<H.length then some (.sr id (bG H id) n.toNat,make H id (.vec · k (List.replicate n.toNat (zs.map AV.strip1))),[id])else none
    |none=>some (.sl true (List.replicate n.toNat (zs.map AV.strip1)),H,[])
   else match site with
    |some id=>if n=0/\0<c/\bP c.toNat bytes/\id<H.length then some (.sr id (bG H id) 0,make H id (.vec · k []),[id])else none
    |none=>none
  |_,_=>none
def aTc(k:Nat)(bytes:Nat)(s:AOpd)(x:AOpd)(H:List AObj)(ρ:bH)(site:Option Nat):Out:=fH H site k bytes (s.at ρ) (x.at ρ)
def aQq(ty:Nat)(k:Nat)(bytes:Nat)(s:AOpd)(x:AOpd)(H:List AObj)(ρ:bH)(site:Option Nat):Out:=tX H site ty k bytes (s.at ρ) (x.at ρ)
def aTd(k:Nat)(x:AOpd)(y:AOpd)(H:List AObj)(ρ:bH)(site:Option Nat):Out:=match x.at ρ with
  |.srv o v n k' lo=>match H[o]? with
   |some (.vec v' k2 rows)=>match cU H (y.at ρ)with
    |some new=>if new.isEmpty then some (.int .i64 0,H,[])else if v'=v/\rows.length=n/\k2=k/\k'=k/\cH k new/\lo+new.length<=n then
      some (.int .i64 (new.length:Nat),H.set o (.vec v k (rows.take lo++new++rows.drop (lo+new.length))),[o])
     else none
    |none=>none
   |_=>none
  |_=>none
def aO9 (H:List AObj)(ρ:bH)(site:Option Nat):Out:=match site with
  |some id=>if id<H.length then some (.mp id (bG H id),make H id (.map · []),[id])else none
  |none=>none
def aTe(m:AOpd)(k:AOpd)(v:AOpd)(H:List AObj)(ρ:bH)(site:Option Nat):Out:=match m.at ρ,k.at ρ with
  |.mp o ver,key=>match H[o]? with
   |some (.map v' es)=>
    if v'=ver/\(aH4 key key).isSome/\(v.at ρ).strip.cells.all AV.still then
     match gY key es 0 with
     |some (some (i,_))=>some (.undef,H.set o (.map ver (es.set i (key,(v.at ρ).strip))),[o])
     |some none=>some (.undef,H.set o (.map ver (es++[(key,(v.at ρ).strip)])),[o])
     |none=>none
    else none
   |_=>none
  |_,_=>none
def wOp:AOp->List AObj->bH->Option Nat->Out:=fun op=>match op with
 |.alloc a0=>aO7 a0
 |.talloc a0 a1=>aM2 a0 a1
 |.box a0 a1=>aT8 a0 a1
 |.tbx a0 a1 a2=>aT9 a0 a1 a2
 |.store a0 a1 a2=>aO8 a0 a1 a2
 |.bsl a0 a1 a2 a3=>aTa a0 a1 a2 a3
 |.mks a0 a1 a2 a3 a4=>aTb a0 a1 a2 a3 a4
 |.app a0 a1 a2 a3=>aTc a0 a1 a2 a3
 |.tapp a0 a1 a2 a3 a4=>aQq a0 a1 a2 a3 a4
 |.cpy a0 a1 a2=>aTd a0 a1 a2
 |.mkmap=>aO9
 |.ins a0 a1 a2=>aTe a0 a1 a2
 |_=>fun _ _ _=>none
theorem aOa{call:Nat->List AV->List AObj->Out}{op:AOp}{H:List AObj}{ρ:bH}{site:Option Nat}{r}(h:wOp op H ρ site=some r):aBj call H ρ site op=some r:=by
 cases op<;>first | exact h | (simp[wOp]at h;done)
end Go.AM
end
