/- Part 13: lemmas for the last text. -/
import Derived.Test.YtfpndhocfmfgdaaGreatDoorK11
import Derived.Test.YtfpndhocfmfgdaaGreatDoorK12
set_option linter.unusedVariables false
set_option linter.unusedSimpArgs false
section
namespace Go.AM
open Go
inductive KT where
 |e
 |n (v:AV) (l r:KT)
def aFB:Nat->Nat->List Bool
 |0,_=>[]
 |k+1,t=>if t=0 then [] else Nat.beq (t % 2) 1::aFB k ((t - 1) / 2)
def aE1(t:Nat):List Bool:=aFB t t
noncomputable def aHw(p:List Bool):KT->AV:=
 List.rec (motive:=fun _=>KT->AV) (fun t=>KT.casesOn t .undef fun v _ _=>v) (fun b _ ih t=>KT.casesOn t .undef fun _ l r=>ih (Bool.rec r l b)) p
noncomputable def aQr(p:List Bool)(v:AV):KT->KT:=
 List.rec (motive:=fun _=>KT->KT) (fun t=>KT.casesOn t (.n v .e .e) fun _ l r=>.n v l r)
  (fun b _ ih t=>KT.casesOn t (Bool.rec (.n .undef .e (ih .e)) (.n .undef (ih .e) .e) b) fun x l r=>Bool.rec (.n x l (ih r)) (.n x (ih l) r) b) p
noncomputable def toF(t:KT):bH:=fun i=>aHw (aE1 i) t
noncomputable def aIQ(d:Option Nat)(v:AV)(t:KT):KT:=match d with
 |none=>t
 |some d=>aQr (aE1 d) v t
theorem aJR:∀p,aHw p .e=.undef
 | []=>rfl
 |_::_=>rfl
theorem aHx(v:AV):∀(p q:List Bool) (t:KT),aHw p (aQr q v t)=if p=q then v else aHw p t
 | [],[],t=>by cases t<;>rfl
 |b::p,[],t=>by
  cases t with
  |e=>
   show aHw p (Bool.rec KT.e KT.e b)=_
   cases b<;>simp[aJR]
  |n x l r=>simp;rfl
 | [],c::q,t=>by cases t<;>cases c<;>(simp;rfl)
 |b::p,c::q,t=>by
  have ih:=aHx v p q;cases t with
  |e=>cases b<;>cases c<;>first | (show aHw p (aQr q v .e)=_;rw[ih];by_cases h:p=q<;>simp[h,aJR]) | (show aHw p .e=_;simp[aJR])
  |n x l r=>cases b<;>cases c<;>first
   | (show aHw p (aQr q v r)=_;rw[ih];by_cases h:p=q<;>simp[h]<;>rfl)
   | (show aHw p (aQr q v l)=_;rw[ih];by_cases h:p=q<;>simp[h]<;>rfl)
   | (simp;rfl)
theorem vN:∀(k t:Nat),t<=k->aFB k t=aE1 t
 |0,t,h=>by
  have:t=0:=by omega
  subst this;rfl
 |k+1,t,h=>by
  cases t with
  |zero=>rfl
  |succ t=>
   show (if t+1=0 then [] else Nat.beq ((t+1) % 2) 1::aFB k (t / 2))=(if t+1=0 then [] else Nat.beq ((t+1) % 2) 1::aFB t (t / 2))
   rw[vN k (t / 2) (by omega),vN t (t / 2) (by omega)]
theorem uG(t:Nat):aE1 (t+1)=Nat.beq ((t+1) % 2) 1::aE1 (t / 2):=by
 show (if t+1=0 then [] else Nat.beq ((t+1) % 2) 1::aFB t (t / 2))=_
 rw[if_neg (by omega),vN t (t / 2) (by omega)]
theorem aHy:∀(n s t:Nat),s<=n->aE1 s=aE1 t->s=t
 |0,s,t,hs,h=>by
  have:s=0:=by omega
  subst this;cases t with
  |zero=>rfl
  |succ t=>rw[uG]at h;cases h
 |n+1,s,t,hs,h=>by
  cases s with
  |zero=>
   cases t with
   |zero=>rfl
   |succ t=>rw[uG]at h;cases h
  |succ s=>
   cases t with
   |zero=>rw[uG]at h;cases h
   |succ t=>
    rw[uG,uG]at h;injection h with h1 h2;have h3:=aHy n (s / 2) (t / 2) (by omega) h2
    have h4:((s+1) % 2=1)↔((t+1) % 2=1):=by
     rw[<- Nat.beq_eq,<- Nat.beq_eq,h1]
    omega
theorem zU(d:Option Nat)(v:AV)(t:KT):toF (aIQ d v t)=xT (toF t) d v:=by
 cases d with
 |none=>rfl
 |some d=>
  funext i
  show aHw (aE1 i) (aQr (aE1 d) v t)=if i=d then v else aHw (aE1 i) t
  rw[aHx]
  by_cases h:i=d
  ·rw[if_pos h,if_pos (by rw[h])]
  ·rw[if_neg h,if_neg fun hp=>h (aHy i i d (Nat.le_refl _) hp)]
abbrev pI:=Nat->List AV->List AObj->(AV->List AObj->List Nat->Bool)->Bool
def KOk(A:AProg)(K:pI):Prop:=∀f args H k,K f args H k=true->∃v H' wr,aL A f args H=some (v,H',wr)/\k v H' wr=true
def aPu(H:List AObj)(site:Option Nat)(quiet:Bool)(v:AV)(H':List AObj)(wr:List Nat):Out:=
 if quiet then
  match v with
  |.own k rows=>
   match site with
   |some id=>if id<H'.length then some (.sr id (bG H' id) rows.length,make H' id (.vec · k rows),if wr.contains id then wr else id::wr)else none
   |none=>some (.sl false rows,H',wr)
  |v=>some (v,H',wr)
 else if wr.isEmpty&&decide (H'.length=H.length)&&v.atomic then some (v,H,[])else none
noncomputable def aDu{α:Type}(o:Option α)(k:α->Bool):Bool:=Option.rec false k o
theorem fK{α:Type}{o:Option α}{k:α->Bool}(h:aDu o k=true):∃a,o=some a/\k a=true:=by
 cases o with
 |none=>cases h
 |some a=>exact⟨a,rfl,h⟩
noncomputable def aJS(K:pI)(H:List AObj)(site:Option Nat)(f:AV)(args:List AV)(k:AV->List AObj->List Nat->Bool):Bool:=
 match f with
 |.fn f first caps=>aDu (jP H (first++args++caps)) fun p=>
  K f (p.1.map AV.strip) (dL H p.2) fun v H' wr=>aDu (aPu H site p.2.isEmpty v H' wr) fun r=>k r.1 r.2.1 r.2.2
 |.yld o v=>aDu (jP H args) fun p=>K YF (.own 0 []::.yld o v::p.1.map AV.strip) (dL H p.2) fun b H' wr=>bif p.2.isEmpty&&b.atomic then k b H' wr else false
 |_=>false
theorem aCO{A:AProg}{K:pI}(hK:KOk A K){H:List AObj}{site:Option Nat}{f:AV}{args:List AV}{k}(h:aJS K H site f args k=true):
  ∃r,cY (aL A) H site f args=some r/\k r.1 r.2.1 r.2.2=true:=by
 unfold aJS at h
 split at h
 ·rename_i f first caps
  obtain⟨p,h1,h2⟩:=fK h;obtain⟨v,H',wr,h3,h4⟩:=hK _ _ _ _ h2;obtain⟨r,h5,h6⟩:=fK h4;refine⟨r, ?_,h6⟩;obtain⟨args',lent⟩:=p;simp only[cY,h1];simp only at h3;rw[h3];exact h5
 ·rename_i o v;obtain⟨p,h1,h2⟩:=fK h;obtain⟨b,H',wr,h3,h4⟩:=hK _ _ _ _ h2;obtain⟨args',lent⟩:=p;cases hc:lent.isEmpty&&b.atomic with
  |false=>simp only[hc,cond_false]at h4;cases h4
  |true=>
   simp only[hc,cond_true]at h4;refine⟨(b,H',wr), ?_,h4⟩;simp only[cY,h1];simp only at h3;rw[h3];dsimp only;rw[if_pos hc]
 ·cases h
noncomputable def aM3(K:pI)(H:List AObj)(site:Option Nat)(f:AV)(args:List AV)(k:AV->List AObj->List Nat->Bool):Bool:=
 match f with
 |.fn f first caps=>K f (first++args++caps) H fun v H' wr=>aDu (aPu H site true v H' wr) fun r=>k r.1 r.2.1 r.2.2
 |_=>false
theorem aHz{A:AProg}{K:pI}(hK:KOk A K){H:List AObj}{site:Option Nat}{f:AV}{args:List AV}{k}(h:aM3 K H site f args k=true):
  ∃r,hD (aL A) H site f args=some r/\k r.1 r.2.1 r.2.2=true:=by
 unfold aM3 at h
 split at h
 ·rename_i f first caps
  obtain⟨v,H',wr,h3,h4⟩:=hK _ _ _ _ h;obtain⟨r,h5,h6⟩:=fK h4;refine⟨r, ?_,h6⟩;simp only[hD];rw[h3];exact h5
 ·cases h
def aQs:AOp->Bool
 |.alloc _ | .talloc .. | .box .. | .tbx .. | .bsl .. | .mks .. | .store .. | .app .. | .tapp .. | .callv .. | .callr .. | .invk .. | .cpy .. | .mkmap | .ins ..=>true
 |_=>false
noncomputable def aJT(K:pI)(site:Option Nat)(inDraw:Bool)(op:AOp)(H:List AObj)(ρ:bH)(k:AV->List AObj->List Nat->Bool):Bool:=
 match op with
 |.callv f xs=>aJS K H site (f.at ρ) (xs.map (AOpd.at ρ)) k
 |.callr f xs=>aM3 K H site (f.at ρ) (xs.map (AOpd.at ρ)) k
 |.invk tab x xs=>match x.at ρ with
  |.ifc t v=>aDu (tab.lookup t) fun f=>aJS K H site (.fn f [v] []) (xs.map (AOpd.at ρ)) k
  |_=>false
 |op=>if isW site inDraw op then aDu (wOp op H ρ site) fun r=>k r.1 r.2.1 r.2.2 else false
noncomputable def aOb(K:pI)(c:Ctx)(o:AOper)(tr:KT)(H:List AObj)(k:AV->List AObj->List Nat->Bool):Bool:=
 bif aQs o.op then
  (bif isW (c.site o.dst) false o.op then aJT K (c.site o.dst) false o.op H (toF tr) k else aDu (rOp o.op H (toF tr)) fun v=>k v H [])
 else aDu (rOp o.op H (toF tr)) fun v=>k v H []
theorem aJU{site:Option Nat}{d:Bool}{op:AOp}(h:aQs op=false):isW site d op=false:=by
 cases op<;>first | rfl | (cases h)
theorem aCP{A:AProg}{K:pI}(hK:KOk A K){site:Option Nat}{d:Bool}{op:AOp}{H:List AObj}{ρ:bH}{k}(h:aJT K site d op H ρ k=true):
  isW site d op=true/\∃r,aBj (aL A) H ρ site op=some r/\k r.1 r.2.1 r.2.2=true:=by
 unfold aJT at h
 split at h
 ·obtain⟨r,h1,h2⟩:=aCO hK h;exact⟨rfl,r,h1,h2⟩
 ·obtain⟨r,h1,h2⟩:=aHz hK h;exact⟨rfl,r,h1,h2⟩
 ·rename_i tab x xs
  split at h
  ·rename_i t v hx;obtain⟨f,h0,h⟩:=fK h;obtain⟨r,h1,h2⟩:=aCO hK h;refine⟨rfl,r, ?_,h2⟩;simp only[aBj,hx,h0];exact h1
  ·cases h
 ·split at h
  ·rename_i hw;obtain⟨r,h1,h2⟩:=fK h;exact⟨hw,r,aOa h1,h2⟩
  ·cases h
theorem aIR{A:AProg}{K:pI}(hK:KOk A K){c:Ctx}{o:AOper}{tr:KT}{H:List AObj}{k}(h:aOb K c o tr H k=true):
  ∃r,mJ (aL A) (c.site o.dst) false (toF tr) H o.op=some r/\k r.1 r.2.1 r.2.2=true:=by
 have viaR:isW (c.site o.dst) false o.op=false->aDu (rOp o.op H (toF tr)) (fun v=>k v H [])=true->∃r,mJ (aL A) (c.site o.dst) false (toF tr) H o.op=some r/\k r.1 r.2.1 r.2.2=true:=by
  intro hw h;obtain⟨v,h1,h2⟩:=fK h;rw[aPt]at h1;refine⟨(v,H,[]), ?_,h2⟩;unfold mJ;rw[if_neg (by rw[hw];simp),h1]
 unfold aOb at h;cases hm:aQs o.op with
 |false=>
  rw[hm]at h;exact viaR (aJU hm) h
 |true=>
  rw[hm]at h;simp only[cond_true]at h;cases hw:isW (c.site o.dst) false o.op with
  |false=>
   rw[hw]at h;exact viaR hw h
  |true=>
   rw[hw]at h;simp only[cond_true]at h;obtain⟨_,r,h1,h2⟩:=aCP hK h;refine⟨r, ?_,h2⟩;unfold mJ;rw[if_pos hw];exact h1
abbrev KQ:=KT->List AObj->List Nat->Bool
noncomputable def aFC(g:Option (Option Nat×Bool))(ρ:bH)(a b:Bool):Bool:=match g with
 |none=>a
 |some (some t,want)=>match ρ t with
  |.bool x=>bif x==want then a else b
  |.tup []=>b
  |_=>false
 |some (none,_)=>false
theorem aE2{g:Option (Option Nat×Bool)}{ρ:bH}{a b:Bool}(h:aFC g ρ a b=true):(xN ρ g=some true/\a=true)∨(xN ρ g=some false/\b=true):=by
 unfold aFC at h;unfold xN
 split at h
 ·exact .inl ⟨rfl,h⟩
 ·rename_i t want
  split at h
  ·rename_i x hx;simp only[hx];cases hw:x==want with
   |true=>rw[hw]at h;exact .inl ⟨rfl,h⟩
   |false=>rw[hw]at h;exact .inr ⟨rfl,h⟩
  ·rename_i hx;simp only[hx];exact .inr ⟨trivial,h⟩
  ·cases h
 ·cases h
noncomputable def aUD(K:pI)(c:Ctx)(ops:List AOper):KT->List AObj->List Nat->KQ->Bool:=
 List.rec (motive:=fun _=>KT->List AObj->List Nat->KQ->Bool) (fun tr H wr k=>k tr H wr)
  (fun o _ ih tr H wr k=>aFC o.guard (toF tr) (aOb K c o tr H fun v H' w=>ih (aIQ o.dst v tr) H' (bA c.base wr w) k) (ih (aIQ o.dst (.tup []) tr) H wr k)) ops
theorem aC4{A:AProg}{K:pI}(hK:KOk A K){c:Ctx}:∀(ops:List AOper) {tr:KT} {H:List AObj} {wr:List Nat} {k:KQ},aUD K c ops tr H wr k=true ->
  aBn (aL A) c ops (toF tr) H wr fun ρ H wr=>∃tr,ρ=toF tr/\k tr H wr=true
 | [],tr,H,wr,k,h=>⟨tr,rfl,h⟩
 |o::ops,tr,H,wr,k,h=>by
  have h':aFC o.guard (toF tr) (aOb K c o tr H fun v H' w=>aUD K c ops (aIQ o.dst v tr) H' (bA c.base wr w) k) (aUD K c ops (aIQ o.dst (.tup []) tr) H wr k)=true:=h;unfold aBn;rcases aE2 h' with⟨h1,h2⟩ | ⟨h1,h2⟩
  ·rw[h1];obtain⟨r,h3,h4⟩:=aIR hK h2;dsimp only;rw[h3];dsimp only;rw[<- zU];exact aC4 hK ops h4
  ·rw[h1];dsimp only;rw[<- zU];exact aC4 hK ops h2
abbrev KL:=KT->List AObj->List Nat->Log->Bool
noncomputable def aJV(K:pI)(c:Ctx)(o:AOper)(tr:KT)(H:List AObj)(k:AV->List AObj->List Nat->Option (List Nat)->Bool):Bool:=
 match o.op,c.site o.dst with
 |.alloc _,some id=>k (.ptr id ((H[id]?).elim 0 AObj.ver) 0) H [id] none
 |op,site=>bif aQs op&&isW site true op then aJT K site true op H (toF tr) fun v H' w=>Nat.beq H'.length H.length&&k v H' [] (some w)
  else aDu (rOp op H (toF tr)) fun v=>k v H (aAB (toF tr) op) none
theorem aHA{A:AProg}{K:pI}(hK:KOk A K){c:Ctx}{o:AOper}{tr:KT}{H:List AObj}{k}(h:aJV K c o tr H k=true):
  ∃r,nG (aL A) (c.site o.dst) (toF tr) H o.op=some r/\k r.1 r.2.1 r.2.2.1 r.2.2.2=true:=by
 unfold aJV at h;unfold nG;generalize o.op=op at h ⊢;generalize c.site o.dst=site at h ⊢
 split at h
 ·exact⟨_,rfl,h⟩
 ·rename_i hne;have key:∃r,(if isW site true op then
    match aBj (aL A) H (toF tr) site op with
    |some (v,H',wr)=>if H'.length=H.length then some (v,H',[],some wr)else none
    |none=>none
   else match tW H (toF tr) op with
    |some v=>some (v,H,aAB (toF tr) op,none)
    |none=>none)=some r/\k r.1 r.2.1 r.2.2.1 r.2.2.2=true:=by
   by_cases hm:(aQs op&&isW site true op)=true
   ·rw[hm]at h;simp only[cond_true]at h;obtain⟨hw,r,h3,h4⟩:=aCP hK h;simp only[Bool.and_eq_true,Nat.beq_eq]at h4;refine⟨(r.1,r.2.1,[],some r.2.2), ?_,h4.2⟩;rw[if_pos hw,h3];dsimp only;rw[if_pos h4.1]
   ·have hm':(aQs op&&isW site true op)=false:=by simpa using hm
    rw[hm']at h;simp only[cond_false]at h;have hw:isW site true op=false:=by
     cases hq:aQs op with
     |false=>exact aJU hq
     |true=>rw[hq]at hm';simpa using hm'
    obtain⟨v,h3,h4⟩:=fK h;rw[aPt]at h3;refine⟨(v,H,aAB (toF tr) op,none), ?_,h4⟩;rw[if_neg (by rw[hw];simp),h3]
  obtain⟨r,h1,h2⟩:=key;refine⟨r, ?_,h2⟩
  split
  ·rename_i zs id;exact (hne zs id rfl rfl).elim
  ·exact h1
noncomputable def aOc(K:pI)(c:Ctx)(keep:List Nat)(ops:List AOper):Nat->KT->List AObj->List Nat->KL->Bool:=
 List.rec (motive:=fun _=>Nat->KT->List AObj->List Nat->KL->Bool) (fun _ tr H wr k=>k tr H wr [])
  (fun o _ ih i tr H wr k=>aFC o.guard (toF tr) (aJV K c o tr H fun v H' rd w=>ih (i+1) (aIQ o.dst v tr) H' (bA c.base wr (w.getD [])) (bif keep.contains i then fun tr H wr log=>k tr H wr ((i,rd,w)::log)else k))
   (ih (i+1) (aIQ o.dst (.tup []) tr) H wr k)) ops
theorem aAE{A:AProg}{K:pI}(hK:KOk A K){c:Ctx}{keep:List Nat}:∀(ops:List AOper) {i:Nat} {tr:KT} {H:List AObj} {wr:List Nat} {k:KL} {k':bH->List AObj->List Nat->Log->Prop},
  (∀tr H wr log,k tr H wr log=true->k' (toF tr) H wr log)->aOc K c keep ops i tr H wr k=true->wpD (aL A) c keep i ops (toF tr) H wr k'
 | [],i,tr,H,wr,k,k',hk,h=>hk _ _ _ _ h
 |o::ops,i,tr,H,wr,k,k',hk,h=>by
  have h':aFC o.guard (toF tr) (aJV K c o tr H fun v H' rd w=>aOc K c keep ops (i+1) (aIQ o.dst v tr) H' (bA c.base wr (w.getD [])) (bif keep.contains i then fun tr H wr log=>k tr H wr ((i,rd,w)::log)else k))
   (aOc K c keep ops (i+1) (aIQ o.dst (.tup []) tr) H wr k)=true:=h
  unfold wpD;rcases aE2 h' with⟨h1,h2⟩ | ⟨h1,h2⟩
  ·rw[h1];obtain⟨r,h3,h4⟩:=aHA hK h2;dsimp only;rw[h3];obtain⟨v,H',rd,w⟩:=r;dsimp only at h4 ⊢;rw[<- zU];refine aAE hK ops (fun tr H wr log hh => ?_) h4;cases hc:keep.contains i with
   |true=>
    rw[hc]at hh;rw[if_pos rfl];exact hk _ _ _ _ hh
   |false=>
    rw[hc]at hh;rw[if_neg (by simp)]
    exact hk _ _ _ _ hh
  ·rw[h1];dsimp only;rw[<- zU];exact aAE hK ops hk h2
noncomputable def aQt(c:Ctx)(ts:List (Nat×Nat)):KT->List AObj->List Nat->KQ->Bool:=
 List.rec (motive:=fun _=>KT->List AObj->List Nat->KQ->Bool) (fun tr H wr k=>k tr H wr)
  (fun p _ ih tr H wr k=>match p with
   | (0,t)=>aDu (aJI H (toF tr t)) fun r=>ih (aIQ (some t) r.1 tr) r.2.1 (bA c.base wr r.2.2) k
   | (n+1,t)=>bif (toF tr t).isUndef then ih tr H wr k else match oQ H (toF tr t)with
    |some r=>ih tr r.1 (bA c.base wr r.2) k
    |none=>aDu (aX H (n+1) (toF tr t)) fun cs=>aDu (aJI H (.agg cs)) fun r=>match r with
     | (.agg cs',H',l)=>aDu (storeCells H' cs' (toF tr t)) fun q=>ih tr q.1 (bA c.base wr (l++q.2)) k
     |_=>false) ts
theorem uH{c:Ctx}:∀(ts:List (Nat×Nat)) {tr:KT} {l:List AV} {H:List AObj} {wr:List Nat} {k:KQ},fenv l=toF tr->aQt c ts tr H wr k=true->(ts.all fun p=>decide (p.2<l.length))=true ->
  ∃s' tr',nD c ⟨l,H,wr⟩ ts=some s'/\s'.ρ.length=l.length/\fenv s'.ρ=toF tr'/\k tr' s'.H s'.wr=true
 | [],tr,l,H,wr,k,he,h,_=>⟨⟨l,H,wr⟩,tr,rfl,rfl,he,h⟩
 | (0,t)::ts,tr,l,H,wr,k,he,h,hd=>by
  rw[List.all_cons,Bool.and_eq_true]at hd;have h':aDu (aJI H (toF tr t)) (fun r=>aQt c ts (aIQ (some t) r.1 tr) r.2.1 (bA c.base wr r.2.2) k)=true:=h;obtain⟨⟨v,H',l1⟩,h1,h2⟩:=fK h';have ht:t<l.length:=by simpa using hd.1
  have hf:fenv (l.set t v)=toF (aIQ (some t) v tr):=by rw[aBm ht,he,zU];rfl
  obtain⟨s',tr',g1,g2,g3,g4⟩:=uH ts hf h2 (by simpa using hd.2)
  refine⟨s',tr', ?_,by rw[g2];simp,g3,g4⟩
  unfold nD;dsimp only;rw[show (l[t]?).getD .undef=toF tr t by rw[<- he];rfl,h1]
  exact g1
 | (n+1,t)::ts,tr,l,H,wr,k,he,h,hd=>by
  rw[List.all_cons,Bool.and_eq_true]at hd;have e1:(l[t]?).getD .undef=toF tr t:=by rw[<- he];rfl
  have h':(bif (toF tr t).isUndef then aQt c ts tr H wr k else match oQ H (toF tr t)with
    |some r=>aQt c ts tr r.1 (bA c.base wr r.2) k
    |none=>aDu (aX H (n+1) (toF tr t)) fun cs=>aDu (aJI H (.agg cs)) fun r=>match r with
     | (.agg cs',H',l)=>aDu (storeCells H' cs' (toF tr t)) fun q=>aQt c ts tr q.1 (bA c.base wr (l++q.2)) k
     |_=>false)=true:=h
  cases hu:(toF tr t).isUndef with
  |true=>
   rw[hu]at h';obtain⟨s',tr',g1,g2,g3,g4⟩:=uH ts he h' hd.2;refine⟨s',tr', ?_,g2,g3,g4⟩;unfold nD;rw[if_pos (by rw[e1];exact hu)]
   exact g1
  |false=>
   rw[hu]at h';simp only[cond_false]at h';cases hk:oQ H (toF tr t)with
   |some r=>
    rw[hk]at h';obtain⟨s',tr',g1,g2,g3,g4⟩:=uH ts he h' hd.2;refine⟨s',tr', ?_,g2,g3,g4⟩;unfold nD;rw[if_neg (by rw[e1,hu];simp)]
    dsimp only;rw[e1,hk];exact g1
   |none=>
   rw[hk]at h';dsimp only at h';obtain⟨cs,h1,h2⟩:=fK h';obtain⟨r,h3,h4⟩:=fK h2
   split at h4
   ·rename_i cs' H' l1;obtain⟨⟨H2,l2⟩,h5,h6⟩:=fK h4;obtain⟨s',tr',g1,g2,g3,g4⟩:=uH ts he h6 hd.2;refine⟨s',tr', ?_,g2,g3,g4⟩;unfold nD;rw[if_neg (by rw[e1,hu];simp)]
    dsimp only;rw[e1,hk];dsimp only;rw[h1];dsimp only;rw[h3];dsimp only;rw[h5];exact g1
   ·cases h4
theorem aE3(b:Nat)(s:List Nat)(d:Option Nat):((Ctx.mk b s).site d).isSome=((Ctx.mk 0 s).site d).isSome:=by
 unfold Ctx.site;cases d with
 |none=>rfl
 |some t=>cases h:s.idxOf? t<;>simp[h]
theorem aCQ{s s':Option Nat}(h:s.isSome=s'.isSome)(op:AOp):looks s op=looks s' op:=by
 cases op<;>first | rfl | (simp only[looks,h])
theorem aE4(b:Nat)(s:List Nat)(o:AOper):aAg ⟨b,s⟩ o=aAg ⟨0,s⟩ o:=by
 have h:=aE3 b s o.dst;unfold aAg;generalize (Ctx.mk b s).site o.dst=x at h ⊢;generalize (Ctx.mk 0 s).site o.dst=y at h ⊢;cases x<;>cases y<;>simp at h
 ·rfl
 ·cases o.op<;>rfl
theorem aE5(b:Nat)(s:List Nat)(keep:List Nat)(o:AOper)(i:Nat)(p:AOper)(j:Nat):aDZ ⟨b,s⟩ keep o i p j=aDZ ⟨0,s⟩ keep o i p j:=by
 unfold aDZ;rw[aE4 b,aE4 b,aCQ (aE3 b s o.dst),aCQ (aE3 b s p.dst)]
theorem aE6(b:Nat)(s:List Nat)(ops:List AOper):aAh ⟨b,s⟩ ops=aAh ⟨0,s⟩ ops:=by
 unfold aAh;simp only[aE5 b]
theorem aCR(b:Nat)(s:List Nat)(keep:List Nat):∀(ops:List AOper) (i:Nat),aAC ⟨b,s⟩ keep i ops=aAC ⟨0,s⟩ keep i ops
 | [],_=>rfl
 |o::r,i=>by
  unfold aAC;simp only[aE5 b];rw[aCR b s keep r]
theorem iC(N b:Nat)(s:List Nat):∀x:ACode,cZ N ⟨b,s⟩ x=cZ N ⟨0,s⟩ x
 |.region d ops=>by simp only[cZ,aE6 b,aCR b]
 |.seq x y=>by simp only[cZ,iC N b s x,iC N b s y]
 |.cond _ x y=>by simp only[cZ,iC N b s x,iC N b s y]
 |.block _ x=>by simp only[cZ,iC N b s x]
 |.loop x=>by simp only[cZ,iC N b s x]
 |.frz _ | .skip | .bad | .exit _ | .ret | .rangeF _ _ _=>rfl
abbrev KE:=AExit->KT->List AObj->List Nat->Bool
noncomputable def aOd(ih:KT->List AObj->List Nat->KE->Bool)(m:Nat):KT->List AObj->List Nat->KE->Bool:=
 Nat.rec (motive:=fun _=>KT->List AObj->List Nat->KE->Bool) (fun _ _ _ _=>false)
  (fun _ again tr H wr Q=>ih tr H wr fun e tr H wr=>AExit.casesOn (motive:=fun _=>Bool) e (again tr H wr Q) (fun id=>Q (.exit id) tr H wr) (Q .ret tr H wr)) m
noncomputable def aQu(x:AOpd)(ρ:bH)(a b:Bool):Bool:=match x.at ρ with
 |.bool t=>bif t then a else b
 |_=>false
noncomputable def aIS(K:pI)(c:Ctx)(d:Bool)(ops:List AOper)(tr:KT)(H:List AObj)(wr:List Nat)(Q:KE):Bool:=
 bif d then aDu (cI c H ops) fun H0=>aOc K c (aAh ⟨0,c.sites⟩ ops) ops 0 tr H0 wr fun tr H wr log=>fG (fun j=>((ops[j]?).map AOper.pre).getD []) log&&Q .normal tr H wr
 else aUD K c ops tr H wr (Q .normal)
def aM4(N:Nat)(ρ:bH):List AV:=(List.range N).map ρ
theorem aM5{N:Nat}{l:List AV}(hl:l.length=N):aM4 N (fenv l)=l:=by
 subst hl;apply List.ext_getElem?;intro i;unfold aM4;rw[List.getElem?_map]
 by_cases h:i<l.length
 ·rw[List.getElem?_range h];simp[fenv,h]
 ·rw[List.getElem?_eq_none (by simpa using h),List.getElem?_eq_none (by omega)];rfl
noncomputable def aM6(K:pI)(N:Nat)(c:Ctx)(x:AOpd)(ps:List Nat)(body:ACode)(tr:KT)(H:List AObj)(wr:List Nat)(Q:KE):Bool:=
 match x.at (toF tr)with
 |.fn f first caps=>aDu (c.site ps.head?) fun id=>bif decide (id<H.length)&&iZ c H then
   K f (first++.yld id (bG H id)::caps) (make H id fun v=>.rnd v c.base c.sites ps body (aM4 N (toF tr)) false none) fun _ H2 wr'=>
    match H2[id]? with
    |some (.rnd v _ _ _ _ _ false pend)=>bif Nat.beq v (bG H id)&&iZ c H2 then Q (pend.getD .normal) tr (H2.set id (.gone v)) (bA c.base wr (id::wr'))else false
    |_=>false
  else false
 |_=>false
noncomputable def aF0(K:pI)(m N:Nat)(c:Ctx)(x:ACode):KT->List AObj->List Nat->KE->Bool:=
 ACode.rec (motive:=fun _=>KT->List AObj->List Nat->KE->Bool)
  (fun tr H wr Q=>Q .normal tr H wr)
  (fun _ _ _ _=>false)
  (fun d ops tr H wr Q=>aIS K c d ops tr H wr Q)
  (fun _ _ iha ihb tr H wr Q=>iha tr H wr fun e tr H wr=>AExit.casesOn (motive:=fun _=>Bool) e (ihb tr H wr Q) (fun id=>Q (.exit id) tr H wr) (Q .ret tr H wr))
  (fun x _ _ iha ihb tr H wr Q=>aQu x (toF tr) (iha tr H wr Q) (ihb tr H wr Q))
  (fun id _ ih tr H wr Q=>ih tr H wr fun e tr H wr=>AExit.casesOn (motive:=fun _=>Bool) e (Q .normal tr H wr) (fun id'=>bif Nat.beq id' id then Q .normal tr H wr else Q (.exit id') tr H wr) (Q .ret tr H wr))
  (fun _ ih tr H wr Q=>aOd ih m tr H wr Q)
  (fun id tr H wr Q=>Q (.exit id) tr H wr)
  (fun tr H wr Q=>Q .ret tr H wr)
  (fun ts tr H wr Q=>aQt c ts tr H wr (Q .normal))
  (fun x ps body _ tr H wr Q=>aM6 K N c x ps body tr H wr Q) x
section
variable {A:AProg}{K:pI}{m:Nat}{c:Ctx}{N:Nat}
def toQ(Q:KE):AExit->bH->List AObj->List Nat->Prop:=fun e ρ H wr=>∃tr,ρ=toF tr/\Q e tr H wr=true
theorem aE7{b:ACode}{ih:KT->List AObj->List Nat->KE->Bool}(hok:cZ N c b=true)
  (hb:∀{tr:KT} {H:List AObj} {wr:List Nat} {Q:KE},ih tr H wr Q=true->Wp A N c b (toF tr) H wr (toQ Q)):
  ∀(m:Nat) {tr:KT} {H:List AObj} {wr:List Nat} {Q:KE},aOd ih m tr H wr Q=true->Wp A N c (.loop b) (toF tr) H wr (toQ Q)
 |0,tr,H,wr,Q,h=>by cases h
 |m+1,tr,H,wr,Q,h=>by
  have h1:=hb (show ih tr H wr (fun e tr H wr=>AExit.casesOn (motive:=fun _=>Bool) e (aOd ih m tr H wr Q) (fun id=>Q (.exit id) tr H wr) (Q .ret tr H wr))=true from h)
  intro l hl he;obtain⟨n,e,s',g1,g2,tr1,g3,g4⟩:=h1 l hl he;cases e with
  |normal=>
   obtain⟨n2,e',s'',k1,k2,k3⟩:=aE7 hok hb m g4 s'.ρ g2 g3;refine⟨max n n2+1,e',s'', ?_,k2,k3⟩;rw[gG,dU (Nat.le_max_left n n2) _ _ _ _ g1];exact dU (Nat.le_max_right n n2) _ _ _ _ k1
  |exit id=>exact⟨n+1,.exit id,s',by rw[gG,g1],g2,tr1,g3,g4⟩
  |ret=>exact⟨n+1,.ret,s',by rw[gG,g1],g2,tr1,g3,g4⟩
theorem iD(hK:KOk A K):∀(x:ACode) {tr:KT} {H:List AObj} {wr:List Nat} {Q:KE},cZ N c x=true->aF0 K m N c x tr H wr Q=true->Wp A N c x (toF tr) H wr (toQ Q)
 |.skip,tr,H,wr,Q,hok,h=>fun l hl he=>⟨1,.normal,⟨l,H,wr⟩,rfl,hl,tr,he,h⟩
 |.bad,tr,H,wr,Q,hok,h=>by cases h
 |.region d ops,tr,H,wr,Q,hok,h=>by
  have h':aIS K c d ops tr H wr Q=true:=h;refine jT ?_ hok;unfold aIS at h';cases d with
  |false=>
   simp only[cond_false]at h';rw[wpc];exact aC4 hK ops h'
  |true=>
   simp only[cond_true]at h';obtain⟨H0,h1,h2⟩:=fK h';rw[wpc,h1];dsimp only;have e:c=⟨c.base,c.sites⟩:=rfl;rw[show aAh c ops=aAh ⟨0,c.sites⟩ ops from aE6 c.base c.sites ops]
   refine aAE hK ops (fun tr H wr log hh => ?_) h2;rw[Bool.and_eq_true]at hh;exact⟨hh.1,tr,rfl,hh.2⟩
 |.seq a b,tr,H,wr,Q,hok,h=>by
  simp only[cZ,Bool.and_eq_true]at hok;have h':aF0 K m N c a tr H wr (fun e tr H wr=>AExit.casesOn (motive:=fun _=>Bool) e (aF0 K m N c b tr H wr Q) (fun id=>Q (.exit id) tr H wr) (Q .ret tr H wr))=true:=h;intro l hl he;obtain⟨n,e,s',g1,g2,tr1,g3,g4⟩:=iD hK a hok.1 h' l hl he;cases e with
  |normal=>
   obtain⟨n2,e',s'',k1,k2,k3⟩:=iD hK b hok.2 g4 s'.ρ g2 g3;refine⟨max n n2+1,e',s'', ?_,k2,k3⟩;rw[gO,dU (Nat.le_max_left n n2) _ _ _ _ g1];exact dU (Nat.le_max_right n n2) _ _ _ _ k1
  |exit id=>exact⟨n+1,.exit id,s',by rw[gO,g1],g2,tr1,g3,g4⟩
  |ret=>exact⟨n+1,.ret,s',by rw[gO,g1],g2,tr1,g3,g4⟩
 |.cond x a b,tr,H,wr,Q,hok,h=>by
  simp only[cZ,Bool.and_eq_true]at hok;have h':aQu x (toF tr) (aF0 K m N c a tr H wr Q) (aF0 K m N c b tr H wr Q)=true:=h;unfold aQu at h'
  split at h'
  ·rename_i t hx;intro l hl he;have ht:x.ev l=x.at (toF tr):=by rw[<- he];exact x.ev_eq l
   cases t with
   |true=>
    obtain⟨n,e,s',g1,g2⟩:=iD hK a hok.1 h' l hl he;exact⟨n+1,e,s',by rw[iB];dsimp only;rw[ht,hx];exact g1,g2⟩
   |false=>
    obtain⟨n,e,s',g1,g2⟩:=iD hK b hok.2 h' l hl he;exact⟨n+1,e,s',by rw[iB];dsimp only;rw[ht,hx];exact g1,g2⟩
  ·cases h'
 |.block id b,tr,H,wr,Q,hok,h=>by
  simp only[cZ]at hok;have h':aF0 K m N c b tr H wr (fun e tr H wr=>AExit.casesOn (motive:=fun _=>Bool) e (Q .normal tr H wr) (fun id'=>bif Nat.beq id' id then Q .normal tr H wr else Q (.exit id') tr H wr) (Q .ret tr H wr))=true:=h;intro l hl he;obtain⟨n,e,s',g1,g2,tr1,g3,g4⟩:=iD hK b hok h' l hl he;cases e with
  |normal=>exact⟨n+1,.normal,s',by rw[dW,g1],g2,tr1,g3,g4⟩
  |ret=>exact⟨n+1,.ret,s',by rw[dW,g1],g2,tr1,g3,g4⟩
  |exit id'=>
   dsimp only at g4;cases hb:Nat.beq id' id with
   |true=>
    rw[hb]at g4;exact⟨n+1,.normal,s',by rw[dW,g1];dsimp only;rw[if_pos (Nat.eq_of_beq_eq_true hb)],g2,tr1,g3,g4⟩
   |false=>
    rw[hb]at g4;exact⟨n+1,.exit id',s',by rw[dW,g1];dsimp only;rw[if_neg (Nat.ne_of_beq_eq_false hb)],g2,tr1,g3,g4⟩
 |.loop b,tr,H,wr,Q,hok,h=>by
  simp only[cZ]at hok;exact aE7 hok (fun h=>iD hK b hok h) m (show aOd (aF0 K m N c b) m tr H wr Q=true from h)
 |.exit id,tr,H,wr,Q,hok,h=>fun l hl he=>⟨1,.exit id,⟨l,H,wr⟩,rfl,hl,tr,he,h⟩
 |.ret,tr,H,wr,Q,hok,h=>fun l hl he=>⟨1,.ret,⟨l,H,wr⟩,rfl,hl,tr,he,h⟩
 |.frz ts,tr,H,wr,Q,hok,h=>fun l hl he=>by
  have h':aQt c ts tr H wr (Q .normal)=true:=h;obtain⟨s',tr',h1,h2,h3,h4⟩:=uH ts he h' (by rw[hl];exact hok)
  exact⟨1,.normal,s',by rw[uE,h1],by rw[h2,hl],tr',h3,h4⟩
 |.rangeF x ps body,tr,H,wr,Q,hok,h=>fun l hl he=>by
  have h':aM6 K N c x ps body tr H wr Q=true:=h;unfold aM6 at h';have hx:x.ev l=x.at (toF tr):=by rw[<- he];exact x.ev_eq l
  split at h'
  ·rename_i f first caps hfn
   obtain⟨id,hid,h1⟩:=fK h';cases hc:decide (id<H.length)&&iZ c H with
   |false=>simp only[hc,cond_false]at h1;cases h1
   |true=>
    simp only[hc,cond_true]at h1;rw[Bool.and_eq_true,decide_eq_true_eq]at hc;obtain⟨v,H2,wr',h2,h3⟩:=hK _ _ _ _ h1;obtain⟨n,hn⟩:=vL h2;rw[<- he,aM5 hl]at hn
    split at h3
    ·rename_i v2 b' s' p' c' r' pend hH2;cases hv:Nat.beq v2 (bG H id)&&iZ c H2 with
     |false=>simp only[hv,cond_false]at h3;cases h3
     |true=>
      simp only[hv,cond_true]at h3;rw[Bool.and_eq_true]at hv;have hv1:=Nat.eq_of_beq_eq_true hv.1;refine⟨n+1,pend.getD .normal,⟨l,H2.set id (.gone v2),bA c.base wr (id::wr')⟩, ?_,hl,tr,he,h3⟩;rw[kO];dsimp only;rw[hx,hfn,hid];dsimp only;rw[if_pos hc,hn];dsimp only;rw[hH2];dsimp only;rw[if_pos ⟨hv1,hv.2⟩]
    ·cases h3
  ·cases h'
end
noncomputable def aFD(args:List AV):Nat->KT->KT:=
 List.rec (motive:=fun _=>Nat->KT->KT) (fun _ t=>t) (fun a _ ih i t=>ih (i+1) (aQr (aE1 i) a t)) args
theorem aFE:∀(args:List AV) (i:Nat) (t:KT),toF (aFD args i t)=fun j=>if i<=j/\j<i+args.length then (args[j - i]?).getD .undef else toF t j
 | [],i,t=>by
  funext j
  show toF t j=_
  rw[if_neg (by simp)]
 |a::r,i,t=>by
  have h:toF (aFD r (i+1) (aIQ (some i) a t))=_:=aFE r (i+1) (aIQ (some i) a t)
  show toF (aFD r (i+1) (aIQ (some i) a t))=_
  rw[h,zU];funext j;simp only[xT,upd,List.length_cons]
  by_cases h1:i+1<=j/\j<i+1+r.length
  ·rw[if_pos h1,if_pos (by omega),show j - i=(j - (i+1))+1 by omega,List.getElem?_cons_succ]
  ·rw[if_neg h1]
   by_cases h2:j=i
   ·subst h2;rw[if_pos rfl,if_pos (by omega),Nat.sub_self]
    rfl
   ·rw[if_neg h2,if_neg (by omega)]
theorem aHB(args:List AV):toF (aFD args 0 .e)=pE args:=by
 rw[aFE];funext j;unfold pE
 by_cases h:j<args.length
 ·rw[if_pos (by omega),Nat.sub_zero]
 ·rw[if_neg (by omega),List.getElem?_eq_none (by omega)]
  exact aJR _
noncomputable def aJW{α:Type}(l:List α)(k:List α->Bool):Bool:=
 List.rec (motive:=fun _=>(List α->Bool)->Bool) (fun k=>k []) (fun a _ ih k=>ih fun r=>k (a::r)) l k
theorem aHC{α:Type}:∀(l:List α) (k:List α->Bool),aJW l k=k l
 | [],_=>rfl
 |a::r,k=>aHC r fun r=>k (a::r)
noncomputable def aWe(base:Nat)(rs:List ARes)(k:AV->List AObj->List Nat->Bool):KE:=fun e tr H wr=>
 AExit.casesOn (motive:=fun _=>Bool) e (aDu (jD base rs (toF tr) H wr) fun r=>aJW (cD base r).2.1 fun H'=>k (cD base r).1 H' (cD base r).2.2) (fun _=>false)
  (aDu (jD base rs (toF tr) H wr) fun r=>aJW (cD base r).2.1 fun H'=>k (cD base r).1 H' (cD base r).2.2)
noncomputable def kFn(K:pI)(m:Nat)(fn:AFn)(args:List AV)(H:List AObj)(k:AV->List AObj->List Nat->Bool):Bool:=
 cZ fn.ntmps ⟨0,fn.sites⟩ fn.body&&Nat.ble args.length fn.ntmps &&
  aF0 K m fn.ntmps ⟨H.length,fn.sites⟩ fn.body (aFD args 0 .e) (H++List.replicate fn.sites.length (.gone 0)) [] (aWe H.length fn.results k)
def aM7:AExit->Bool
 |.normal=>true
 |_=>false
def aTf:AExit->Option AExit
 |.normal=>none
 |e=>some e
noncomputable def aJX(K:pI)(m:Nat)(args:List AV)(H:List AObj)(k:AV->List AObj->List Nat->Bool):Bool:=match args with
 |.own 0 []::.yld o v::xs=>match H[o]? with
  |some (.rnd v' base sites ps (.seq asg body) ρ false none)=>
   bif Nat.beq v' v&&Nat.beq xs.length ps.length&&(cZ ρ.length ⟨0,sites++[YF+o,YF+v]⟩ asg&&cZ ρ.length ⟨0,sites++[YF+o,YF+v]⟩ body)then
    aF0 K m ρ.length ⟨base,sites++[YF+o,YF+v]⟩ asg (aFD (dQ ρ ps xs) 0 .e) H [] fun e0 tr0 H0 wr0=>bif aM7 e0 then match H0[o]? with
     |some (.rnd v1 b1 t1 p1 c1 r1 false none)=>bif Nat.beq v1 v then
      aF0 K m ρ.length ⟨base,sites++[YF+o,YF+v]⟩ body tr0 (H0.set o (.rnd v b1 t1 p1 c1 r1 true none)) wr0 fun e tr H' wr=>match H'[o]? with
       |some (.rnd v2 b2 s2 p2 c2 r2 true none)=>bif Nat.beq v2 v then k (.bool (aM7 e)) (H'.set o (.rnd v b2 s2 p2 c2 r2 false (aTf e))) (List.range' base (H.length - base)++(o::wr))else false
       |_=>false
      else false
     |_=>false
     else false
   else false
  |_=>false
 |_=>false
theorem yK:∀(ps:List Nat) (xs ρ:List AV),(dQ ρ ps xs).length=ρ.length
 | [],_,_=>by simp[dQ]
 |_::_,[],_=>by simp[dQ]
 |t::ps,x::xs,ρ=>by rw[dQ,yK ps xs];simp
theorem aHD{A:AProg}{K:pI}(hK:KOk A K){m:Nat}{f:Nat}{args:List AV}{H:List AObj}{k}(hp:(A.prim f).bind (· args H)=none)(hf:A.fn f=none)(h:aJX K m args H k=true):
  ∃v H' wr,aL A f args H=some (v,H',wr)/\k v H' wr=true:=by
 unfold aJX at h
 split at h
 ·rename_i o v xs
  split at h
  ·rename_i v' base sites ps asg body ρ hH;cases hc:Nat.beq v' v&&Nat.beq xs.length ps.length&&(cZ ρ.length ⟨0,sites++[YF+o,YF+v]⟩ asg&&cZ ρ.length ⟨0,sites++[YF+o,YF+v]⟩ body)with
   |false=>rw[hc]at h;cases h
   |true=>
    rw[hc,cond_true]at h;simp only[Bool.and_eq_true]at hc;obtain⟨⟨c1,c2⟩,c0,c3⟩:=hc;have e1:=Nat.eq_of_beq_eq_true c1;have e2:=Nat.eq_of_beq_eq_true c2;subst e1;have hok:cZ ρ.length ⟨base,sites++[YF+o,YF+v']⟩ body=true:=by rw[iC];exact c3
    have hokA:cZ ρ.length ⟨base,sites++[YF+o,YF+v']⟩ asg=true:=by rw[iC];exact c0
    have hw:=iD (N:=ρ.length) hK asg hokA h;rw[aHB]at hw;have hent:fenv (dQ ρ ps xs)=pE (dQ ρ ps xs):=by
     have:=aC2 (dQ ρ ps xs) 0;simpa using this
    obtain⟨n0,e0,s0,a1,a2,tr0,a3,a4⟩:=hw (dQ ρ ps xs) (yK _ _ _) hent;cases e0 with
    |exit id=>cases a4
    |ret=>cases a4
    |normal=>
    dsimp only[aM7,cond_true]at a4
    split at a4
    rotate_left
    ·cases a4
    rename_i v1 b1 t1 p1 c1' r1 hs0;cases hv1:Nat.beq v1 v' with
    |false=>rw[hv1]at a4;cases a4
    |true=>
    rw[hv1,cond_true]at a4;have:=Nat.eq_of_beq_eq_true hv1;subst this;obtain⟨n1,e,s',h1,h2,tr,h3,h4⟩:=iD (N:=ρ.length) hK body hok a4 s0.ρ a2 a3;dsimp only at h4
    split at h4
    ·rename_i v2 b2 s2 p2 c2' r2 hs;cases hv:Nat.beq v2 v1 with
     |false=>rw[hv]at h4;cases h4
     |true=>
      rw[hv,cond_true]at h4;have:=Nat.eq_of_beq_eq_true hv;subst this;refine⟨_,_,_,nR (n:=max n0 n1) ?_,h4⟩;unfold cT qE;rw[hp,hf];dsimp only;rw[yJ,hH];dsimp only;rw[if_pos ⟨rfl,e2⟩,dU (Nat.le_max_left n0 n1) _ _ _ _ a1];dsimp only;rw[hs0];dsimp only;rw[if_pos rfl,dU (Nat.le_max_right n0 n1) _ _ _ _ h1];dsimp only;rw[hs];dsimp only;rw[if_pos rfl];cases e<;>rfl
    ·cases h4
  ·cases h
 ·cases h
noncomputable def aC5(A:AProg)(m n:Nat):pI:=
 Nat.rec (motive:=fun _=>pI) (fun _ _ _ _=>false)
  (fun _ K f args H k=>Option.rec (Option.rec (aJX K m args H k) (fun fn=>kFn K m fn args H k) (A.fn f)) (fun r=>k (dA H r).1 (dA H r).2.1 (dA H r).2.2) ((A.prim f).bind (· args H))) n
theorem vO(A:AProg)(m:Nat):∀n,KOk A (aC5 A m n)
 |0,f,args,H,k,h=>by cases h
 |n+1,f,args,H,k,h=>by
  have h':(Option.rec (Option.rec (aJX (aC5 A m n) m args H k) (fun fn=>kFn (aC5 A m n) m fn args H k) (A.fn f)) (fun r=>k (dA H r).1 (dA H r).2.1 (dA H r).2.2) ((A.prim f).bind (· args H)):Bool)=true:=h;cases hp:(A.prim f).bind (· args H)with
  |some r=>
   rw[hp]at h';refine⟨_,_,_,nR (n:=0) ?_,h'⟩;unfold cT qE;rw[hp]
  |none=>
   rw[hp]at h';cases hf:A.fn f with
   |none=>
    rw[hf]at h';exact aHD (vO A m n) hp hf h'
   |some fn=>
    rw[hf]at h';have h2:kFn (aC5 A m n) m fn args H k=true:=h';unfold kFn at h2;simp only[Bool.and_eq_true]at h2;obtain⟨⟨hok,hN⟩,hc⟩:=h2;have hok':cZ fn.ntmps ⟨H.length,fn.sites⟩ fn.body=true:=by rw[iC];exact hok
    have hN':args.length<=fn.ntmps:=Nat.le_of_ble_eq_true hN;have hw:=iD (N:=fn.ntmps) (vO A m n) fn.body hok' hc;rw[aHB]at hw;obtain⟨n1,e,s',h1,h2,tr,h3,h4⟩:=hw (args++List.replicate (fn.ntmps - args.length) .undef) (by simp;omega) (aC2 _ _)
    have key:∀r,jD H.length fn.results (toF tr) s'.H s'.wr=some r->xZ H.length fn s'=some r:=by
     intro r hr;rw[<- h3]at hr;unfold jD at hr;unfold xZ;rw[aGs];exact hr
    have fin:(e=.normal∨e=.ret)->aDu (jD H.length fn.results (toF tr) s'.H s'.wr) (fun r=>aJW (cD H.length r).2.1 fun H'=>k (cD H.length r).1 H' (cD H.length r).2.2)=true ->
      ∃v H' wr,aL A f args H=some (v,H',wr)/\k v H' wr=true:=by
     intro he hk;obtain⟨r,hr,hk⟩:=fK hk;rw[aHC]at hk;exact⟨_,_,_,nR (nZ hp hf h1 he (key _ hr) hN'),hk⟩
    cases e with
    |normal=>exact fin (.inl rfl) h4
    |ret=>exact fin (.inr rfl) h4
    |exit id=>cases h4
section
variable {P:Program}{glob:Glob}{g g':G}{H H':List AObj}{w w':World}{W:List Nat}
theorem aAF{l0:Nat}{r0:Loop}(h:w.heap[l0]? = some (.loop r0))(fn:FuncId)(tmps:Array Value)(ps:Array Tmp)(assign body:Code):
  (Instr.enterLoop fn tmps ps assign body (some l0)).run P w =
   .ok (w.heap.size,[]) (w.alloc (.loop { state:=.ready,pending:=none,fn,tmps,params:=ps,assign,body,defers:=r0.defers })):=by
 unfold Instr.enterLoop;simp only[Sem.run_bind,run_newObj_alloc,Result.andThen,Sem.run_pure,run_getLoop h]
theorem Step.allocWhole(h:WF g H w)(x:Obj):Step g H w { g with whole:=fun b=>if b=w.heap.size then some x else g.whole b } H (w.alloc x) []:=by
 have e:(w.alloc x).heap=w.heap.push x:=rfl;have hle:g.le { g with whole:=fun b=>if b=w.heap.size then some x else g.whole b }:=by
  refine⟨fun _ _ _ hx=>hx,fun o l hl=>⟨l,hl,Nat.le_refl _,fun _=>⟨Nat.le_refl _,fun _=>rfl⟩⟩,fun b y hy => ?_,rfl,rfl⟩;have:=h.whole.lt hy;have hne:b≠w.heap.size:=by omega
  simp only[hne,if_false];exact hy
 have hbk:∀o l y,Backed { g with whole:=fun b=>if b=w.heap.size then some x else g.whole b } H o l y->Backed g H o l y:=fun o l y hb=>⟨hb.at_,hb.alive,hb.loc,hb.st⟩
 refine⟨hle,⟨fun b i y hy => ?_,h.lt,fun o l hl => ?_,h.st,fun o l y hb => ?_,fun o l y hb=>h.priv o l y (hbk o l y hb),fun o o' l l' y y' hb hb'=>h.inj o o' l l' y y' (hbk _ _ _ hb) (hbk _ _ _ hb'),⟨fun b y hy => ?_,h.whole.io⟩⟩,
  ⟨by rw[e];simp,fun b hb _=>cB e hb⟩,fun _ _ _=>rfl,Nat.le_refl _,fun _ l' hl=>.inr ⟨l',hl,rfl⟩,fun _ _ _=>rfl⟩
 ·rw[cell_of_heap (cB e (h.perm_lt hy))];exact h.perm b i y hy
 ·have:=h.blk o l hl;rw[e];simp;omega
 ·exact (h.obj o l y (hbk o l y hb)).keep hle (cB e (h.blk o l hb.loc))
 ·by_cases hb:b=w.heap.size
  ·subst hb;simp only[if_true,Option.some.injEq]at hy;subst hy;refine⟨by rw[e];simp,fun o l z hz hE => ?_⟩
   have:=h.blk o l hz.loc;omega
  ·simp only[hb,if_false]at hy;obtain⟨h1,h2⟩:=h.whole.blocks b y hy;exact⟨by rw[cB e (h.whole.lt hy)];exact h1,fun o l z hz=>h2 o l z (hbk o l z hz)⟩
theorem Step.put(h:WF g H w){o:Nat}{l:Loc}{x x':AObj}(hb:Backed g H o l x)(hv:x'.ver=x.ver)(hal:x'.alive=true)(ob:Obj)
  (hobj:g.le (g.setObj o l)->aA8 (g.setObj o l) (w.putObj l.b ob) l x'):Step g H w (g.setObj o l) (H.set o x') (w.putObj l.b ob) [o]:=by
 refine Step.update h o x' l (h.lt o l hb.loc) (by simp) (fun b _ hne=>World.putObj_heap_other (Ne.symm (hne l x hb))) (by simpa using h.blk o l hb.loc) (.inr ⟨l,x,hb,rfl⟩) (by rw[hv];exact hb.st) hal (fun l0 hl0 => ?_) hobj
 rw[hb.loc]at hl0;cases hl0;exact⟨Nat.le_refl _,fun _=>⟨Nat.le_refl _,fun _=>rfl⟩⟩
theorem Step.dropPut(h:WF g H w){o:Nat}{l:Loc}{x:AObj}(hb:Backed g H o l x)(ob:Obj):Step g H w g (H.set o (.gone x.ver)) (w.putObj l.b ob) [o]:=by
 obtain⟨h1,h2⟩:=Step.drop h hb;have hh:∀b,b≠l.b->(w.putObj l.b ob).heap[b]? = w.heap[b]? := fun b hne=>World.putObj_heap_other hne;have h1w:=h1.wf;refine⟨G.le.refl g,⟨fun b i y hy => ?_,h1w.lt,fun o' l' hl=>by simpa using h1w.blk o' l' hl,h1w.st,fun o' l' y hb'=>(h1w.obj o' l' y hb').keep (G.le.refl g) (hh _ (h2 o' l' y hb')),h1w.priv,h1w.inj,⟨fun b y hy => ?_,h1w.whole.io⟩⟩,
  ⟨by simp,fun b hb' hw=>hh b fun e=>hw o (by simp) l hb.loc e.symm⟩,h1.same,h1.len,fun o' l' hl=>.inr ⟨l',hl,rfl⟩,fun _ _ _=>rfl⟩
 ·have hne:b≠l.b:=fun e=>by
   have:=h.priv o l x hb i;rw[<- e,hy]at this;cases this
  rw[cell_of_heap (hh b hne)];exact h1w.perm b i y hy
 ·have hne:b≠l.b:=fun e=>(h.whole.blocks b y hy).2 o l x hb e.symm;obtain⟨a1,a2⟩:=h1w.whole.blocks b y hy;exact⟨by rw[hh b hne];exact a1,a2⟩
def oA(w:World):List Nat->World
 | []=>w
 |b::bs=>oA (w.putObj b (.deferred none)) bs
theorem oB:∀(bs:List Nat) (w:World) {b:Nat},b∉bs->(oA w bs).heap[b]? = w.heap[b]?
 | [],_,_,_=>rfl
 |c::bs,w,b,h=>by
  simp only[List.mem_cons,not_or]at h;rw[oA,oB bs _ h.2,World.putObj_heap_other h.1]
theorem aAG:∀(bs:List Nat) (w:World),(oA w bs).heap.size=w.heap.size
 | [],_=>rfl
 |c::bs,w=>by rw[oA,aAG bs];simp
theorem aE8:∀(bs:List Nat) (w:World),(oA w bs).os=w.os/\(oA w bs).output=w.output
 | [],_=>⟨rfl,rfl⟩
 |c::bs,w=>by rw[oA];exact aE8 bs _
def G.dropW(g:G)(bs:List Nat):G:={ g with whole:=fun b=>if b∈bs then none else g.whole b }
theorem VRel.dropW{bs:List Nat}(hbs:∀b∈bs,g.whole b=some (.deferred (some []))){a:AV}{x:Value}(h:VRel g a x):VRel (g.dropW bs) a x:=by
 induction h with
 |undef x=>exact .undef x
 |bool b=>exact .bool b
 |int k n=>exact .int k n
 |str s=>exact .str s
 |fn f first caps vf vc hf hc h1 h2 ih1 ih2=>exact .fn f first caps vf vc hf hc ih1 ih2
 |nilFn=>exact .nilFn
 |ptr o v off l a hl hv h=>exact .ptr o v off l a hl hv h
 |vp o v n k i off l a hl hv hn h=>exact .vp o v n k i off l a hl hv hn h
 |nilPtr=>exact .nilPtr
 |nilIfc=>exact .nilIfc
 |ifc t v x hv h ih=>exact .ifc t v x hv ih
 |ep row off b base hst hp h ih=>exact .ep row off b base hst hp ih
 |slNil full=>exact .slNil full
 |sl full rows b off cap k hcap hfull hk hst hp h ih=>exact .sl full rows b off cap k hcap hfull hk hst hp ih
 |sr o v n l a cap hl hv hn hc0 h=>exact .sr o v n l a cap hl hv hn hc0 h
 |srv o v n k lo l a cap hl hv hn hlo h=>exact .srv o v n k lo l a cap hl hv hn hlo h
 |srw o v n hi l a cap hl hv hn hhi h=>exact .srw o v n hi l a cap hl hv hn hhi h
 |nilSl=>exact .nilSl
 |mp o v l r hl hv h=>exact .mp o v l r hl hv h
 |fmp ks vs r entries clock hw hk hv h1 h2 ih1 ih2=>
  refine .fmp ks vs r entries clock ?_ hk hv ih1 ih2
  show (if r∈bs then none else g.whole r)=_
  rw[if_neg fun hm=>by rw[hbs r hm]at hw;cases hw]
  exact hw
 |yld o v l r hl hv h=>exact .yld o v l r hl hv h
 |agg cs vs hs h ih=>exact .agg cs vs hs ih
 |tup cs vs hs h ih=>exact .tup cs vs hs ih
theorem aA8.dropW{bs:List Nat}(hbs:∀b∈bs,g.whole b=some (.deferred (some []))){l:Loc}{x:AObj}(hb:w'.heap[l.b]? = w.heap[l.b]?)(h:aA8 g w l x):aA8 (g.dropW bs) w' l x:=by
 cases x with
 |gone v=>trivial
 |box v cells=>
  obtain⟨h1,h2,h3⟩:=h;refine⟨h1,h2.of_heap hb,fun j a ha => ?_⟩;obtain⟨y,hy,hr⟩:=h3 j a ha;exact⟨y,by rw[cell_of_heap hb];exact hy,hr.dropW hbs⟩
 |tbox v ty cells=>
  obtain⟨h1,⟨cs,h2,h2'⟩,h3⟩:=h;refine⟨h1,⟨cs,by rw[hb];exact h2,h2'⟩,fun j a ha => ?_⟩
  obtain⟨y,hy,hr⟩:=h3 j a ha;exact⟨y,by rw[cell_of_heap hb];exact hy,hr.dropW hbs⟩
 |vec v k rows=>
  obtain⟨h1,h2,h3,h4,h5,h6,h7⟩:=h;refine⟨h1,h2,h3,h4.of_heap hb,h5,fun j hj=>by rw[cell_of_heap hb];exact h6 j hj,fun i j row a hr ha => ?_⟩
  obtain⟨hs,y,hy,hv⟩:=h7 i j row a hr ha;exact⟨hs,y,by rw[cell_of_heap hb];exact hy,hv.dropW hbs⟩
 |tvec v ty k rows=>
  obtain⟨⟨h1,h2,h3,h4,h5,h6,h7⟩,cs,h8⟩:=h;refine⟨?_,cs,by rw[hb];exact h8⟩
  refine⟨h1,h2,h3,h4.of_heap hb,h5,fun j hj=>by rw[cell_of_heap hb];exact h6 j hj,fun i j row a hr ha => ?_⟩
  obtain⟨hs,y,hy,hv⟩:=h7 i j row a hr ha;exact⟨hs,y,by rw[cell_of_heap hb];exact hy,hv.dropW hbs⟩
 |map v es=>
  obtain⟨h1,entries,clock,h2,h3,h4⟩:=h;exact⟨h1,entries,clock,by rw[hb];exact h2,h3,fun i k v e hk he=>⟨(h4 i k v e hk he).1.dropW hbs,(h4 i k v e hk he).2.dropW hbs⟩⟩
 |rnd v base sites ps body ρ busy pend=>
  obtain⟨h1,r,h2,h3,h4,h5,h6,h7,h8,h9⟩:=h;exact⟨h1,r,by rw[hb];exact h2,h3,h4,h5,h6,h7,h8,fun t=>(h9 t).dropW hbs⟩
theorem Step.marks{g0:G}{H0:List AObj}{w0:World}(h0:WF g0 H0 w0)(h:Step g0 H0 w0 g H w W){bs:List Nat}(hbs:∀b∈bs,w0.heap.size<=b/\g.whole b=some (.deferred (some []))):
  Step g0 H0 w0 (g.dropW bs) H (oA w bs) W:=by
 have hb2:∀b∈bs,g.whole b=some (.deferred (some [])):=fun b hb=>(hbs b hb).2;have hbk:∀o l y,Backed (g.dropW bs) H o l y->Backed g H o l y:=fun o l y hb=>⟨hb.at_,hb.alive,hb.loc,hb.st⟩;have hnb:∀o l y,Backed g H o l y->l.b∉bs:=fun o l y hb hm=>(h.wf.whole.blocks l.b _ (hb2 _ hm)).2 o l y hb rfl;refine⟨⟨fun b i x hx=>h.le.perm b i x hx,fun o l hl=>h.le.obj o l hl,fun b x hx => ?_,h.le.io,h.le.code⟩,
  ⟨fun b i y hy => ?_,h.wf.lt,fun o l hl=>by rw[aAG];exact h.wf.blk o l hl,h.wf.st,fun o l y hb => ?_,fun o l y hb=>h.wf.priv o l y (hbk _ _ _ hb),fun o o' l l' y y' hb hb'=>h.wf.inj o o' l l' y y' (hbk _ _ _ hb) (hbk _ _ _ hb'),⟨fun b y hy => ?_, ?_⟩⟩,
  ⟨by rw[aAG];exact h.frame.1,fun b hb hw => ?_⟩,h.same,h.len,h.track,h.keep⟩
 ·have:=h0.whole.lt hx
  show (if b∈bs then none else g.whole b)=_
  rw[if_neg fun hm=>by have:=(hbs b hm).1;omega]
  exact h.le.whole b x hx
 ·have hp:=h.wf.perm b i y hy;have hne:b∉bs:=fun hm=>by
   have:=(h.wf.whole.blocks b _ (hb2 b hm)).1;simp[World.cell?,this]at hp
  rw[cell_of_heap (oB bs w hne)];exact hp
 ·exact (h.wf.obj o l y (hbk _ _ _ hb)).dropW hb2 (oB bs w (hnb o l y (hbk _ _ _ hb)))
 ·have hy':(if b∈bs then none else g.whole b)=some y:=hy
  split at hy'
  ·cases hy'
  ·rename_i hne;obtain⟨a1,a2⟩:=h.wf.whole.blocks b y hy';exact⟨by rw[oB bs w hne];exact a1,fun o l z hz=>a2 o l z (hbk o l z hz)⟩
 ·have:=h.wf.whole.io;rw[(aE8 bs w).1,(aE8 bs w).2];exact this
 ·rw[oB bs w fun hm=>by have:=(hbs b hm).1;omega]
  exact h.frame.2 b hb hw
theorem aCS{fn:Func}{tmps:Array Value}{R:Ending->World->Prop}:∀(bs:List Nat) (w:World),bs.Nodup->(∀b∈bs,w.heap[b]? = some (.deferred (some []))) ->
  (∃v,(results fn tmps).run P (oA w bs)=.ok v (oA w bs)/\R (.returned v) (oA w bs)) ->
  LeavesInM Fence.wide 0 P fn tmps R (bs.map fun b=>⟨.collected b,#[]⟩) .returning w
 | [],w,_,_,h=>h
 |b::bs,w,hn,hb,h=>by
  refine⟨by simp,.inl ⟨b,_,rfl,run_takeDeferred (hb b (by simp)), ?_⟩⟩
  rw[List.nodup_cons]at hn;exact aCS bs _ hn.2 (fun c hc=>by
   have hne:c≠b:=fun e=>hn.1 (e ▸ hc);rw[World.putObj_heap_other hne];exact hb c (by simp[hc])) h
theorem aCT:∀(ps:List Nat) (xs:List AV) (vs:List Value) {ρ:List AV} {tmps:Array Value},aT g ρ tmps->fO g xs vs->xs.length=ps.length ->
  aT g (dQ ρ ps xs) ((ps.zip vs).foldl (fun t (p:Nat×Value)=>t.setIfInBounds p.1 p.2) tmps)
 | [],[],vs,ρ,tmps,hs,hx,_=>by simpa [dQ]using hs
 |t::ps,x::xs,[],ρ,tmps,hs,hx,_=>by have:=hx.1;simp at this
 |t::ps,x::xs,v::vs,ρ,tmps,hs,hx,hl=>by
  simp only[dQ,List.zip_cons_cons,List.foldl_cons];refine aCT ps xs vs ⟨by simpa using hs.1,fun t' => ?_⟩ ⟨by have:=hx.1;simpa using this,fun i a y e1 e2=>hx.2 (i+1) a y (by simpa using e1) (by simpa using e2)⟩ (by simpa using hl)
  have h1:=hs.1
  by_cases e:t=t'
  ·subst e
   by_cases hlt:t<ρ.length
   ·have:=hx.2 0 x v rfl rfl;simpa [hlt,h1 ▸ hlt,Array.getD_eq_getD_getElem?,Array.getElem?_setIfInBounds]using this
   ·have:(ρ.set t x)[t]? = none:=List.getElem?_eq_none (by simp;omega)
    rw[this];exact .undef _
  ·rw[getElem?_set_ne' _ _ e];have:=hs.2 t';simpa [Array.getD_eq_getD_getElem?,Array.getElem?_setIfInBounds,e]using this
 | [],x::xs,vs,_,_,_,_,hl=>by simp at hl
 |t::ps,[],vs,_,_,_,_,hl=>by simp at hl
end
end Go.AM
end
