/- Part 9: lemmas for the last text. -/
import Derived.Test.YtfpndhocfmfgdaaGreatDoorK08
set_option linter.unusedVariables false
set_option linter.unusedSimpArgs false
section
namespace Go.AM
open Go
section
variable {P:Program}{glob:Glob}{g:G}{H:List AObj}{w w':World}{ρ:List AV}{a:Act}
theorem aT.put{tmps:Array Value}(h:aT g ρ tmps){v:AV}{x:Value}(hv:VRel g v x)(d:Nat):aT g (ρ.set d v) (tmps.setIfInBounds d x):=by
 refine⟨by simpa using h.1,fun t => ?_⟩
 by_cases e:t=d
 ·subst e
  by_cases hlt:t<ρ.length
  ·have:t<tmps.size:=by have:=h.1;omega
   simp only[List.getElem?_set,hlt,if_true,Option.getD_some,Array.getD_eq_getD_getElem?];simpa [this]using hv
  ·have h1:¬(t<tmps.size):=by have:=h.1;omega
   simp only[List.getElem?_set,hlt,if_false];simp;exact .undef _
 ·have h1:=h.2 t;rw[getElem?_set_ne' _ _ (Ne.symm e)];simpa [Array.getD_eq_getD_getElem?,Array.getElem?_setIfInBounds_ne (Ne.symm e)]using h1
theorem aT.putSlot(h:aT g ρ a.tmps){v:AV}{x:Value}(hv:VRel g v x)(d:Option Tmp):aT g (putSlot ρ d v) (a.put d x).tmps:=by
 cases d with
 |none=>exact h
 |some d=>exact h.put hv d
theorem aBY(a:Act)(d:Option Tmp)(v:Value):(a.put d v).defers=a.defers:=by cases d<;>rfl
theorem aT.bool(h:aT g ρ a.tmps){t:Nat}{b:Bool}(hb:ρ[t]? = some (.bool b)):a.tmps[t]? = some (.bool b):=by
 have hlt:t<ρ.length:=(List.getElem?_eq_some_iff.1 hb).1;have hlt':t<a.tmps.size:=by have:=h.1;omega
 have:=h.2 t;rw[hb]at this;simp only[Option.getD_some]at this;have:=this.bool_inv;simp[Array.getD_eq_getD_getElem?,hlt']at this;simp[hlt',this]
theorem aHj{all:Array Oper}{o:Oper}{ao:AOper}(hgd:ao.guard=aDG all.toList o.guard)(h:aT g ρ a.tmps)(hok:oR ρ ao=true):
  Region.wanted o (yielded all a.tmps)=wanted ρ ao:=by
 unfold oR at hok;unfold Go.AM.wanted Region.wanted;rw[hgd]at hok ⊢;cases hq:o.guard with
 |none=>simp[aDG]
 |some jw=>
  obtain⟨j,want⟩:=jw;rw[hq]at hok;simp only[aDG]at hok ⊢;cases hd:(all.toList[j]?).bind (·.dst)with
  |none=>rw[hd]at hok;simp at hok
  |some t=>
   rw[hd]at hok;simp only at hok ⊢;have hd':(all[j]?).bind (·.dst)=some t:=by rw[<- hd];simp
   cases hb:ρ[t]? with
   |none=>rw[hb]at hok;simp at hok
   |some v=>
    rw[hb]at hok;cases v<;>try (simp at hok;done)
    ·rename_i b;have:=h.bool hb;simp only[yielded,hd',Option.bind_some,this];cases b<;>cases want<;>rfl
    ·rename_i vs;cases vs with
     |cons _ _=>simp at hok
     |nil=>
      have hr:=h.2 t;have he:(ρ[t]?).getD .undef=.tup []:=by rw[hb];rfl
      rw[he]at hr;obtain⟨xs,hx,hl⟩:=VRel.tup_list hr;have hsz:xs = #[]:=by have:=hl.1;apply Array.eq_empty_of_size_eq_zero;simpa using this.symm
      subst hsz;simp only[yielded,hd',Option.bind_some];rw[Array.getD_eq_getD_getElem?]at hx;cases hq:a.tmps[t]? with
      |none=>rfl
      |some y=>
       rw[hq]at hx;have hx2:y=.tuple #[]:=hx;subst hx2;rfl
structure Compd(P:Program)(glob:Glob)(all:Array Oper)(o:Oper)(ao:AOper):Prop where
 dst:ao.dst=o.dst
 op:ao.op=(cOp P glob o).getD .bad
 guard:ao.guard=aDG all.toList o.guard
theorem bW(base:Nat):∀(l wr:List Nat),(∀o∈wr,o∈bA base wr l)/\∀o∈l,o<base->o∈bA base wr l
 | [],wr=>⟨fun o h=>h,fun o h=>by simp at h⟩
 |x::l,wr=>by
  unfold bA
  split
  ·obtain⟨h1,h2⟩:=bW base l (x::wr);refine⟨fun o h=>h1 o (List.mem_cons_of_mem _ h),fun o h hb => ?_⟩;rcases List.mem_cons.1 h with rfl | h
   ·exact h1 o (by simp)
   ·exact h2 o h hb
  ·rename_i hc;obtain⟨h1,h2⟩:=bW base l wr;refine⟨h1,fun o h hb => ?_⟩;rcases List.mem_cons.1 h with rfl | h
   ·simp only[not_and,Decidable.not_not,List.contains_iff_mem]at hc;exact h1 o (hc hb)
   ·exact h2 o h hb
theorem aKH{all:Array Oper}{o:Oper}{ao:AOper}(hc:Compd P glob all o ao){call:Nat->List AV->List AObj->Out}(hcall:nY P glob call){c:Ctx}{av:AV}{H':List AObj}{wr:List Nat}
  (h:aLy call c false H ρ ao=some (av,H',wr)) (hw:WF g H w) (hg:bI P glob g) (hs:aT g ρ a.tmps):
  yD P o a w fun v w'=>∃g',Step g H w g' H' w' wr/\VRel g' av v:=by
 unfold aLy at h;have hop:∀op,ao.op=op->op≠.bad->cOp P glob o=some op:=fun op e hb=>by
  rw[hc.op]at e;cases hq:cOp P glob o with
  |none=>rw[hq]at e;exact absurd e.symm hb
  |some op'=>rw[hq]at e;simp at e;rw[e]
 by_cases hbad:ao.op=.bad
 ·rw[hbad]at h;simp[isW,evR]at h
 ·have hco:=hop _ rfl hbad
  split at h
  ·exact aHi hco hcall h hw hg hs
  ·split at h
   ·rename_i v hv;cases h;exact (aHg hco hv hw hg hs).does
   ·cases h
def yE(P:Program)(glob:Glob)(base:Nat)(g:G)(H:List AObj)(w:World)(d:List Deferred)(s':ASt)(a':Act)(w':World):Prop:=
 ∃g' W,Step g H w g' s'.H w' W/\(∀o∈W,o<base->o∈s'.wr)/\aT g' s'.ρ a'.tmps/\a'.defers=d/\bI P glob g'
theorem yE.refl{base:Nat}{s:ASt}(hw:WF g s.H w)(hs:aT g s.ρ a.tmps)(hg:bI P glob g):yE P glob base g s.H w a.defers s a w:=
 ⟨g,[],.refl hw,fun o h=>by simp at h,hs,rfl,hg⟩
theorem aGm{call:Nat->List AV->List AObj->Out}{c:Ctx}:∀(l:List AOper) (s s':ASt),iK call c l s=some s'->∀o∈s.wr,o∈s'.wr
 | [],s,s',h=>by simp only[iK,Option.some.injEq]at h;subst h;exact fun o h=>h
 |o::l,s,s',h=>by
  unfold iK at h
  split at h
  ·split at h
   ·split at h
    ·exact fun x hx=>aGm l _ s' h x ((bW _ _ _).1 x hx)
    ·cases h
   ·exact fun x hx=>aGm l _ s' h x hx
  ·cases h
theorem aAz{all:Array Oper}{call:Nat->List AV->List AObj->Out}(hcall:nY P glob call){c:Ctx}{Q:Exit->Act->World->Prop}{r:Option Nat}:∀(l:List Oper) (al:List AOper),
  l.length=al.length->(∀(i:Nat) o ao,l[i]? = some o->al[i]? = some ao->Compd P glob all o ao)->∀(s s':ASt),iK call c al s=some s' ->
  ∀(g:G) (a:Act) (w:World),WF g s.H w->bI P glob g->aT g s.ρ a.tmps->(∀a' w',yE P glob c.base g s.H w a.defers s' a' w'->Q .normal a' w')->wpListIn (fr r) 0 P all Q l a w
 | [],al,hl,_,s,s',h,g,a,w,hw,hg,hs,hQ=>by
  cases al with
  |nil=>simp only[iK,Option.some.injEq]at h;subst h;exact hQ a w (.refl hw hs hg)
  |cons _ _=>simp at hl
 |o::l,al,hl,hc,s,s',h,g,a,w,hw,hg,hs,hQ=>by
  cases al with
  |nil=>simp at hl
  |cons ao al=>
   have hc0:=hc 0 o ao rfl rfl;have hrest:∀(i:Nat) o ao,l[i]? = some o->al[i]? = some ao->Compd P glob all o ao:=fun i o ao h1 h2=>hc (i+1) o ao (by simpa using h1) (by simpa using h2)
   unfold iK at h
   split at h
   ·rename_i hok;have hwd:=aHj hc0.guard hs hok;unfold wpListIn
    split at h
    ·rename_i hwt;rw[hwd,if_pos hwt]
     split at h
     ·rename_i v H' wr hev;refine (aKH hc0 hcall hev hw hg hs).wp fun x w1 ⟨g1,hstep,hv⟩ => ?_;have hs1:aT g1 (putSlot s.ρ ao.dst v) (a.put o.dst x).tmps:=by rw[hc0.dst];exact (hs.mono hstep.le).putSlot hv o.dst
      refine aAz hcall l al (by simpa using hl) hrest _ s' h g1 _ w1 hstep.wf (hg.mono hstep.le) hs1 fun a' w' hr=>hQ a' w' ?_
      obtain⟨g2,W,h1,h2,h3,h4,h5⟩:=hr;refine⟨g2,wr++W,hstep.trans h1,fun o' ho hb => ?_,h3,by rw[h4,aBY],h5⟩
      rcases List.mem_append.1 ho with ho | ho
      ·exact aGm al _ s' h o' ((bW _ _ _).2 o' ho hb)
      ·exact h2 o' ho hb
     ·cases h
    ·rename_i hwt;rw[hwd,if_neg hwt];refine⟨fun _ _=>trivial, ?_⟩;have hs1:aT g (putSlot s.ρ ao.dst (.tup [])) (a.put o.dst Go.undef).tmps:=by rw[hc0.dst];exact hs.putSlot (.skip g) o.dst
     refine aAz hcall l al (by simpa using hl) hrest _ s' h g _ w hw hg hs1 fun a' w' hr=>hQ a' w' ?_
     obtain⟨g2,W,h1,h2,h3,h4,h5⟩:=hr;exact⟨g2,W,h1,h2,h3,by rw[h4,aBY],h5⟩
   ·cases h
theorem aBd(all:Array Oper):∀(l:List Oper) (pres:List (List Nat)),(aBS P glob all.toList l pres).length=l.length /\
  ∀(i:Nat) o ao,l[i]? = some o->(aBS P glob all.toList l pres)[i]? = some ao->Compd P glob all o ao
 | [],pres=>⟨rfl,fun i o ao h=>by simp at h⟩
 |o::l,pres=>by
  obtain⟨h1,h2⟩:=aBd all l (pres++[aH6 pres o]);refine⟨by simp[aBS,h1],fun i o' ao e1 e2 => ?_⟩
  cases i with
  |zero=>simp[aBS]at e1 e2;subst e1;subst e2;exact⟨rfl,rfl,rfl⟩
  |succ i=>exact h2 i o' ao (by simpa using e1) (by simpa [aBS]using e2)
theorem aDR{call:Nat->List AV->List AObj->Out}{c:Ctx}:∀{l:List AOper} {s:ASt},iK call c (aQ1 false l) s=iK call c l s
 | [],s=>rfl
 |o::r,s=>by
  have ih:∀s,iK call c (r.map fun o=>⟨o.dst,o.op,o.guard,[]⟩) s=iK call c r s:=fun s=>aDR (l:=r)
  show iK call c (⟨o.dst,o.op,o.guard,[]⟩::r.map fun o=>⟨o.dst,o.op,o.guard,[]⟩) s=_
  unfold iK;simp only[ih];rfl
theorem aHk{id:Nat}{ops:Array Oper}{call:Nat->List AV->List AObj->Out}(hcall:nY P glob call){c:Ctx}{s s':ASt}
  (h:iK call c (aBS P glob ops.toList ops.toList []) s=some s') {Q:Exit->Act->World->Prop} (hw:WF g s.H w) (hg:bI P glob g) (hs:aT g s.ρ a.tmps)
  (hQ:∀a' w',yE P glob c.base g s.H w a.defers s' a' w'->Q .normal a' w') {r:Option Nat}:(Code.region id ops false).wpIn (fr r) 0 P Q a w:=by
 obtain⟨h1,h2⟩:=aBd (P:=P) (glob:=glob) ops ops.toList [];exact wpIn_region_list (aAz hcall ops.toList _ h1.symm h2 s s' h g a w hw hg hs hQ)
end
theorem AOpd.ev_congr{ρ ρ':List AV}{x:AOpd}(h:∀t∈x.slot,ρ[t]? = ρ'[t]?):x.ev ρ=x.ev ρ':=by
 cases x with
 |tmp t=>simp only[AOpd.ev,h t (by simp[AOpd.slot])]
 |const v=>rfl
theorem aBe{ρ ρ':List AV}{xs:List AOpd}(h:∀t∈xs.flatMap AOpd.slot,ρ[t]? = ρ'[t]?):xs.map (AOpd.ev ρ)=xs.map (AOpd.ev ρ'):=
 List.map_congr_left fun x hx=>AOpd.ev_congr fun t ht=>h t (List.mem_flatMap.2 ⟨x,hx,ht⟩)
theorem aCI{ρ ρ':List AV}{x:Option AOpd}(h:∀t∈aDD x,ρ[t]? = ρ'[t]?):x.map (AOpd.ev ρ)=x.map (AOpd.ev ρ'):=by
 cases x with
 |none=>rfl
 |some x=>simp only[Option.map_some];rw[AOpd.ev_congr h]
theorem xK{ρ ρ':List AV}:∀(ps:List (Nat×Nat×AOpd)) (cs:List AV),(∀t∈ps.flatMap (fun p=>p.2.2.slot),ρ[t]? = ρ'[t]?)->gM ρ cs ps=gM ρ' cs ps
 | [],cs,_=>rfl
 | (o,s,x)::ps,cs,h=>by
  have hx:x.ev ρ=x.ev ρ':=AOpd.ev_congr fun t ht=>h t (by simp[ht])
  simp only[gM,hx]
  split
  ·exact xK ps _ fun t ht=>h t (by simp only[List.flatMap_cons,List.mem_append];exact .inr ht)
  ·rfl
theorem yF{ρ ρ':List AV}{k:Nat}:∀(ps:List (Nat×AOpd)) (rows:List (List AV)),(∀t∈ps.flatMap (fun p=>p.2.slot),ρ[t]? = ρ'[t]?)->lG ρ k rows ps=lG ρ' k rows ps
 | [],rows,_=>rfl
 | (i,x)::ps,rows,h=>by
  have hx:x.ev ρ=x.ev ρ':=AOpd.ev_congr fun t ht=>h t (by simp[ht])
  simp only[lG,hx]
  split
  ·exact yF ps _ fun t ht=>h t (by simp only[List.flatMap_cons,List.mem_append];exact .inr ht)
  ·rfl
theorem xL{ρ ρ':List AV}{k:Nat}:∀(ps:List (Nat×AOpd)) (rows:List (List AV)),(∀t∈ps.flatMap (fun p=>p.2.slot),ρ[t]? = ρ'[t]?)->iY ρ k rows ps=iY ρ' k rows ps
 | [],rows,_=>rfl
 | (i,x)::ps,rows,h=>by
  have hx:x.ev ρ=x.ev ρ':=AOpd.ev_congr fun t ht=>h t (by simp[ht])
  simp only[iY,hx]
  split
  ·exact xL ps _ fun t ht=>h t (by simp only[List.flatMap_cons,List.mem_append];exact .inr ht)
  ·rfl
theorem aBf{ρ ρ':List AV}{k:Nat}:∀(ps:List (Nat×AOpd)) (H:List AObj) (rows:List (List AV)),(∀t∈ps.flatMap (fun p=>p.2.slot),ρ[t]? = ρ'[t]?)->nC ρ k H rows ps=nC ρ' k H rows ps
 | [],H,rows,_=>rfl
 | (i,x)::ps,H,rows,h=>by
  have hx:x.ev ρ=x.ev ρ':=AOpd.ev_congr fun t ht=>h t (by simp[ht])
  simp only[nC,hx]
  split
  ·split
   ·rw[aBf ps _ _ fun t ht=>h t (by simp only[List.flatMap_cons,List.mem_append];exact .inr ht)]
   ·rfl
  ·rfl
theorem aLL{ρ ρ':List AV}{H:List AObj}{op:AOp}(h:∀t∈op.slots,ρ[t]? = ρ'[t]?):evR H ρ op=evR H ρ' op:=by
 have e1:∀{x:AOpd},(∀t∈x.slot,t∈op.slots)->x.ev ρ=x.ev ρ':=fun hx=>AOpd.ev_congr fun t ht=>h t (hx t ht);have e2:∀{x:Option AOpd},(∀t∈aDD x,t∈op.slots)->x.map (AOpd.ev ρ)=x.map (AOpd.ev ρ'):=fun hx=>aCI fun t ht=>h t (hx t ht);have e3:∀{xs:List AOpd},(∀t∈xs.flatMap AOpd.slot,t∈op.slots)->xs.map (AOpd.ev ρ)=xs.map (AOpd.ev ρ'):=fun hx=>aBe fun t ht=>h t (hx t ht);cases op with
 |bad=>rfl
 |mov x=>simp only[evR];rw[e1 fun t ht=>ht]
 |pick c a b=>simp only[evR];rw[e1 (x:=c) fun t ht=>by simp[AOp.slots,ht],e1 (x:=a) fun t ht=>by simp[AOp.slots,ht],e1 (x:=b) fun t ht=>by simp[AOp.slots,ht]]
 |alloc zs=>rfl
 |talloc t zs=>rfl
 |box k x=>simp only[evR];rw[e1 fun t ht=>ht]
 |build zs ps=>simp only[evR];rw[xK ps zs h]
 |bsl k zs n ps=>simp only[evR];rw[yF ps _ h]
 |load k agg x=>simp only[evR];rw[e1 fun t ht=>ht]
 |store k x v=>rfl
 |nilck x=>simp only[evR];rw[e1 fun t ht=>ht]
 |isnil neg x=>simp only[evR];rw[e1 fun t ht=>ht]
 |bin o ek x y=>simp only[evR];rw[e1 (x:=x) fun t ht=>by simp[AOp.slots,ht],e1 (x:=y) fun t ht=>by simp[AOp.slots,ht]]
 |un o x=>simp only[evR];rw[e1 fun t ht=>ht]
 |conv c x=>simp only[evR];rw[e1 fun t ht=>ht]
 |mkf f a b=>
  have ha:=e3 (xs:=a) fun t ht=>by simp only[AOp.slots,List.mem_append];exact .inl ht
  have hb:=e3 (xs:=b) fun t ht=>by simp only[AOp.slots,List.mem_append];exact .inr ht
  have ha':a.map (fun x=>(x.ev ρ).strip1)=a.map (fun x=>(x.ev ρ').strip1):=by
   have:=congrArg (List.map AV.strip1) ha;simpa [List.map_map,Function.comp_def]using this
  have hb':b.map (fun x=>(x.ev ρ).strip1)=b.map (fun x=>(x.ev ρ').strip1):=by
   have:=congrArg (List.map AV.strip1) hb;simpa [List.map_map,Function.comp_def]using this
  simp only[evR];rw[ha,hb,ha',hb']
 |mks k b zs l c=>simp only[evR];rw[e1 (x:=l) fun t ht=>by simp[AOp.slots,ht],e1 (x:=c) fun t ht=>by simp[AOp.slots,ht]]
 |sliceS x lo hi=>simp only[evR];rw[e1 (x:=x) fun t ht=>by simp[AOp.slots,ht],e2 (x:=lo) fun t ht=>by simp[AOp.slots,ht],e2 (x:=hi) fun t ht=>by simp[AOp.slots,ht]]
 |sliceV k x lo hi mx=>simp only[evR];rw[e1 (x:=x) fun t ht=>by simp[AOp.slots,ht],e2 (x:=lo) fun t ht=>by simp[AOp.slots,ht],e2 (x:=hi) fun t ht=>by simp[AOp.slots,ht],e2 (x:=mx) fun t ht=>by simp[AOp.slots,ht]]
 |view k x lo=>simp only[evR];rw[e1 (x:=x) fun t ht=>by simp[AOp.slots,ht],aCI (x:=lo) fun t ht=>h t (by simp[AOp.slots,ht])]
 |sliceA n k x lo hi mx=>simp only[evR];rw[e1 (x:=x) fun t ht=>by simp[AOp.slots,ht],e2 (x:=lo) fun t ht=>by simp[AOp.slots,ht],e2 (x:=hi) fun t ht=>by simp[AOp.slots,ht],e2 (x:=mx) fun t ht=>by simp[AOp.slots,ht]]
 |fa o x=>simp only[evR];rw[e1 fun t ht=>ht]
 |fld o k agg x=>simp only[evR];rw[e1 fun t ht=>ht]
 |iaV x i k=>simp only[evR];rw[e1 (x:=x) fun t ht=>by simp[AOp.slots,ht],e1 (x:=i) fun t ht=>by simp[AOp.slots,ht]]
 |iaA n k x i=>simp only[evR];rw[e1 (x:=x) fun t ht=>by simp[AOp.slots,ht],e1 (x:=i) fun t ht=>by simp[AOp.slots,ht]]
 |ixS x i=>simp only[evR];rw[e1 (x:=x) fun t ht=>by simp[AOp.slots,ht],e1 (x:=i) fun t ht=>by simp[AOp.slots,ht]]
 |ixA n k agg x i=>simp only[evR];rw[e1 (x:=x) fun t ht=>by simp[AOp.slots,ht],e1 (x:=i) fun t ht=>by simp[AOp.slots,ht]]
 |lenS x=>simp only[evR];rw[e1 fun t ht=>ht]
 |lenV x=>simp only[evR];rw[e1 fun t ht=>ht]
 |lenC n=>rfl
 |mm mx xs=>simp only[evR];rw[e3 fun t ht=>ht]
 |app k b s x=>rfl
 |ext i x=>simp only[evR];rw[e1 fun t ht=>ht]
 |mkifc i x=>simp only[evR];rw[e1 fun t ht=>ht]
 |callv f xs=>rfl
 |callr f xs=>rfl
 |tapp t k b s x=>rfl
 |tbx t k x=>rfl
 |cpy k x y=>rfl
 |invk t f xs=>rfl
 |mkmap=>rfl
 |ins m k v=>rfl
 |look z m k ok=>simp only[evR];rw[e1 (x:=m) fun t ht=>by simp[AOp.slots,ht],e1 (x:=k) fun t ht=>by simp[AOp.slots,ht]]
theorem aLM{call:Nat->List AV->List AObj->Out}{ρ ρ':List AV}{H:List AObj}{site:Option Nat}{op:AOp}(h:∀t∈op.slots,ρ[t]? = ρ'[t]?):evW call H ρ site op=evW call H ρ' site op:=by
 have e1:∀{x:AOpd},(∀t∈x.slot,t∈op.slots)->x.ev ρ=x.ev ρ':=fun hx=>AOpd.ev_congr fun t ht=>h t (hx t ht);have e3:∀{xs:List AOpd},(∀t∈xs.flatMap AOpd.slot,t∈op.slots)->xs.map (AOpd.ev ρ)=xs.map (AOpd.ev ρ'):=fun hx=>aBe fun t ht=>h t (hx t ht);cases op with
 |box k x=>simp only[evW];rw[e1 fun t ht=>ht]
 |tbx t k x=>simp only[evW];rw[e1 fun t ht=>ht]
 |bsl k zs n ps=>simp only[evW];rw[aBf ps _ _ h,xL ps _ h]
 |store k x v=>simp only[evW];rw[e1 (x:=x) fun t ht=>by simp[AOp.slots,ht],e1 (x:=v) fun t ht=>by simp[AOp.slots,ht]]
 |mks k b zs l c=>simp only[evW];rw[e1 (x:=l) fun t ht=>by simp[AOp.slots,ht],e1 (x:=c) fun t ht=>by simp[AOp.slots,ht]]
 |cpy k x y=>simp only[evW];rw[e1 (x:=x) fun t ht=>by simp[AOp.slots,ht],e1 (x:=y) fun t ht=>by simp[AOp.slots,ht]]
 |tapp t k b s x=>simp only[evW];rw[e1 (x:=s) fun t ht=>by simp[AOp.slots,ht],e1 (x:=x) fun t ht=>by simp[AOp.slots,ht]]
 |app k b s x=>simp only[evW];rw[e1 (x:=s) fun t ht=>by simp[AOp.slots,ht],e1 (x:=x) fun t ht=>by simp[AOp.slots,ht]]
 |callv f xs=>simp only[evW];rw[e1 (x:=f) fun t ht=>by simp[AOp.slots,ht],e3 (xs:=xs) fun t ht=>by simp only[AOp.slots,List.mem_append];exact .inr ht]
 |callr f xs=>simp only[evW];rw[e1 (x:=f) fun t ht=>by simp[AOp.slots,ht],e3 (xs:=xs) fun t ht=>by simp only[AOp.slots,List.mem_append];exact .inr ht]
 |invk tb f xs=>simp only[evW];rw[e1 (x:=f) fun t ht=>by simp[AOp.slots,ht],e3 (xs:=xs) fun t ht=>by simp only[AOp.slots,List.mem_append];exact .inr ht]
 |ins m k v=>simp only[evW];rw[e1 (x:=m) fun t ht=>by simp[AOp.slots,ht],e1 (x:=k) fun t ht=>by simp[AOp.slots,ht],e1 (x:=v) fun t ht=>by simp[AOp.slots,ht]]
 |_=>rfl
theorem aKI{ρ ρ':List AV}{op:AOp}(h:∀t∈op.slots,ρ[t]? = ρ'[t]?):aGd ρ op=aGd ρ' op:=by
 cases op with
 |load k agg x=>simp only[aGd];rw[AOpd.ev_congr h]
 |conv c x=>cases c<;>simp only[aGd];rw[AOpd.ev_congr h]
 |look z m k ok=>simp only[aGd];rw[AOpd.ev_congr fun t ht=>h t (by simp[AOp.slots,ht])]
 |view k x lo=>simp only[aGd];rw[AOpd.ev_congr fun t ht=>h t (by simp[AOp.slots,ht])]
 |_=>rfl
theorem aHl{ρ ρ':List AV}{o:AOper}(h:∀t∈o.names,ρ[t]? = ρ'[t]?):wanted ρ o=wanted ρ' o/\oR ρ o=oR ρ' o:=by
 unfold wanted oR;cases hg:o.guard with
 |none=>exact⟨rfl,rfl⟩
 |some tw=>
  obtain⟨t,want⟩:=tw;cases t with
  |none=>exact⟨rfl,rfl⟩
  |some t=>
   have:ρ[t]? = ρ'[t]? := h t (by simp[AOper.names,hg])
   simp only[this,and_self]
def AV.obj? : AV->List Nat
 |.ptr o _ _=>[o]
 |.vp o _ _ _ _ _=>[o]
 |_=>[]
theorem aLN(ρ:List AV)(k:Nat)(agg:Bool)(x:AOpd):aGd ρ (.load k agg x)=(x.ev ρ).obj? := by
 simp only[aGd];cases x.ev ρ<;>rfl
theorem aEZ{H H':List AObj}{k:Nat}{v:AV}(h:∀o∈v.obj?,H[o]? = H'[o]?):aX H k v=aX H' k v:=by
 cases v<;>simp only[aX]
 ·rw[h _ (by simp[AV.obj?])]
 ·rw[h _ (by simp[AV.obj?])]
theorem aNS{ρ:List AV}{H H':List AObj}{op:AOp}(h:∀o∈aGd ρ op,H[o]? = H'[o]?):evR H ρ op=evR H' ρ op:=by
 cases op with
 |load k agg x=>
  simp only[evR];rw[aEZ fun o ho=>h o (by rw[aLN];exact ho)]
 |conv c x=>
  simp only[evR];cases c with
  |b2s=>
   have:eH H (x.ev ρ)=eH H' (x.ev ρ):=by
    have h':∀o v n,x.ev ρ=.sr o v n->H[o]? = H'[o]? := fun o v n e=>h o (by simp[aGd,e])
    have h2':∀o v n k lo,x.ev ρ=.srv o v n k lo->H[o]? = H'[o]? := fun o v n k lo e=>h o (by simp[aGd,e])
    have h3':∀o v n k,x.ev ρ=.srw o v n k->H[o]? = H'[o]? := fun o v n k e=>h o (by simp[aGd,e])
    revert h' h2' h3';cases x.ev ρ<;>intro h' h2' h3'<;>simp only[eH]
    ·rw[h' _ _ _ rfl]
    ·rw[h2' _ _ _ _ _ rfl]
    ·rw[h3' _ _ _ _ rfl]
   cases hx:x.ev ρ<;>rw[hx]at this<;>simp only[pG,this]
  |_=>cases x.ev ρ<;>rfl
 |look z m k ok=>
  simp only[evR];have h':∀o v,m.ev ρ=.mp o v->H[o]? = H'[o]? := fun o v e=>h o (by simp[aGd,e])
  revert h';cases m.ev ρ<;>intro h'<;>simp only;rw[h' _ _ rfl]
 |view k x lo=>
  simp only[evR];have h':∀o v n,x.ev ρ=.sr o v n->H[o]? = H'[o]? := fun o v n e=>h o (by simp[aGd,e])
  revert h';cases x.ev ρ<;>intro h'<;>simp only;rw[h' _ _ _ rfl]
 |_=>rfl
def Fr(H H':List AObj)(wr:List Nat):Prop:=H.length<=H'.length/\∀o,o<H.length->o∉wr->H'[o]? = H[o]?
theorem Fr.refl(H:List AObj)(wr:List Nat):Fr H H wr:=⟨Nat.le_refl _,fun _ _ _=>rfl⟩
theorem Fr.trans{H H1 H2:List AObj}{a b:List Nat}(h:Fr H H1 a)(h':Fr H1 H2 b):Fr H H2 (a++b):=
 ⟨Nat.le_trans h.1 h'.1,fun o ho hn=>by
  simp only[List.mem_append,not_or]at hn;rw[h'.2 o (Nat.lt_of_lt_of_le ho h.1) hn.2,h.2 o ho hn.1]⟩
theorem Fr.weaken{H H':List AObj}{a b:List Nat}(h:Fr H H' a)(hs:∀o∈a,o∈b):Fr H H' b:=⟨h.1,fun o ho hn=>h.2 o ho fun hm=>hn (hs o hm)⟩
theorem Fr.set(H:List AObj)(o:Nat)(x:AObj):Fr H (H.set o x) [o]:=⟨by simp,fun o' _ hn=>getElem?_set_ne' _ _ (fun e=>hn (by simp[e]))⟩
theorem aBZ:∀(l:List Nat) (H:List AObj),Fr H (dL H l) l
 | [],H=>.refl H _
 |o::l,H=>by
  have:=(Fr.set H o (.gone ((H[o]?).elim 0 AObj.ver))).trans (aBZ l _);exact this
theorem aDS{H H':List AObj}{v v':AV}{l:List Nat}(h:fix H v=some (v',H',l)):Fr H H' l:=by
 unfold fix at h
 split at h
 ·cases h;exact aBZ _ _
 ·cases h
theorem aGn:∀(rows:List (List AV)) {H H':List AObj} {rows':List (List AV)} {l:List Nat},aII H rows=some (rows',H',l)->Fr H H' l
 | [],H,H',rows',l,h=>by cases h;exact .refl _ _
 |r::rs,H,H',rows',l,h=>by
  unfold aII at h
  split at h
  ·rename_i r' H1 l1 hf
   split at h
   ·rename_i rs' H2 l2 hr;cases h;exact (aDS hf).trans (aGn rs hr)
   ·cases h
  ·cases h
theorem aFs{H H':List AObj}{v v':AV}{l:List Nat}(h:xY H v=some (v',H',l)):Fr H H' l:=by
 unfold xY at h
 split at h
 ·split at h
  ·split at h
   ·split at h
    ·rename_i hi
     split at h
     ·split at h
      ·rename_i hf;cases h;exact (aGn _ hi).trans ((Fr.set _ _ _).trans (aDS hf))
      ·cases h
     ·cases h
    ·cases h
   ·cases h
  ·cases h
 ·exact aDS h
theorem aKJ{H H':List AObj}{v:AV}{l:List Nat}(h:oQ H v=some (H',l)):Fr H H' l:=by
 unfold oQ at h
 split at h
 ·cases h;exact .refl _ _
 ·split at h
  ·split at h
   ·split at h
    ·rename_i hi
     split at h
     ·cases h;exact (aGn _ hi).trans (Fr.set _ _ _)
     ·cases h
    ·cases h
   ·cases h
  ·cases h
 ·cases h
theorem aLO{H H':List AObj}{v v':AV}{l:List Nat}(h:aJI H v=some (v',H',l)):Fr H H' l:=by
 unfold aJI at h
 split at h
 ·rename_i hf;cases h;exact aDS hf
 ·split at h
  ·split at h
   ·rename_i hf;cases h;exact aFs hf
   ·cases h
  ·exact aFs h
theorem aFt{ρ:List AV}{k:Nat}:∀(ps:List (Nat×AOpd)) (H:List AObj) (rows out:List (List AV)) (H':List AObj) (l:List Nat),nC ρ k H rows ps=some (out,H',l)->Fr H H' l
 | [],H,rows,out,H',l,h=>by simp only[nC,Option.some.injEq,Prod.mk.injEq]at h;obtain⟨_,rfl,rfl⟩:=h;exact .refl _ _
 | (i,x)::ps,H,rows,out,H',l,h=>by
  simp only[nC]at h
  split at h
  ·rename_i hf
   split at h
   ·split at h
    ·rename_i hr;simp only[Option.some.injEq,Prod.mk.injEq]at h;obtain⟨_,rfl,rfl⟩:=h;exact (aDS hf).trans (aFt ps _ _ _ _ _ hr)
    ·cases h
   ·cases h
  ·cases h
def rZ(call:Nat->List AV->List AObj->Out):Prop:=∀f args H v H' wr,call f args H=some (v,H',wr)->Fr H H' wr
theorem aBg{H H':List AObj}{vs:List AV}{p:AV}{wr:List Nat}(h:storeCells H vs p=some (H',wr)):Fr H H' wr:=by
 unfold storeCells at h
 split at h
 ·split at h
  ·split at h
   ·cases h;exact Fr.set _ _ _
   ·cases h
  ·split at h
   ·cases h;exact Fr.set _ _ _
   ·cases h
  ·cases h
 ·split at h
  ·split at h
   ·split at h
    ·split at h
     ·cases h;exact Fr.set _ _ _
     ·cases h
    ·cases h
   ·cases h
  ·cases h
 ·cases h
theorem aNT{H H':List AObj}{site:Option Nat}{k b:Nat}{s x v:AV}{wr:List Nat}(h:fH H site k b s x=some (v,H',wr)):Fr H H' wr:=by
 unfold fH at h
 split at h
 ·cases h
 split at h
 ·cases h
 split at h
 ·split at h
  ·cases h;exact .refl _ _
  ·split at h
   ·split at h
    ·split at h
     ·cases h;exact Fr.set _ _ _
     ·cases h
    ·cases h
   ·cases h
 ·split at h
  ·cases h;exact .refl _ _
  ·split at h
   ·split at h
    ·split at h
     ·cases h;exact Fr.set _ _ _
     ·cases h
    ·cases h
   ·cases h
 ·split at h
  ·split at h
   ·split at h
    ·cases h;exact .refl _ _
    ·cases h;exact Fr.set _ _ _
   ·cases h
  ·cases h
 ·split at h
  ·split at h
   ·cases h;exact Fr.set _ _ _
   ·cases h
  ·cases h
 ·cases h
theorem aLP{H H':List AObj}{site:Option Nat}{ty k b:Nat}{s x v:AV}{wr:List Nat}(h:tX H site ty k b s x=some (v,H',wr)):Fr H H' wr:=by
 unfold tX at h
 split at h
 ·cases h
 split at h
 ·cases h
 split at h
 ·split at h
  ·cases h;exact .refl _ _
  ·split at h
   ·split at h
    ·split at h
     ·cases h;exact Fr.set _ _ _
     ·cases h
    ·cases h
   ·cases h
 ·split at h
  ·split at h
   ·split at h
    ·cases h;exact .refl _ _
    ·cases h;exact Fr.set _ _ _
   ·cases h
  ·cases h
 ·cases h
theorem aFu{call:Nat->List AV->List AObj->Out}(hc:rZ call){H H':List AObj}{site:Option Nat}{f v:AV}{args:List AV}{wr:List Nat}(h:cY call H site f args=some (v,H',wr)):Fr H H' wr:=by
 unfold cY at h
 split at h
 ·split at h
  ·cases h
  rename_i args' lent hl
  split at h
  ·cases h
  rename_i v1 H1 wr1 hcall;have h1:=hc _ _ _ _ _ _ hcall
  split at h
  ·rename_i he;have:lent=[]:=by simpa using he
   subst this;have h2:Fr H H1 wr1:=h1
   split at h
   ·split at h
    ·split at h
     ·cases h;refine (h2.trans (Fr.set _ _ _)).weaken fun o ho => ?_;rcases List.mem_append.1 ho with ho | ho
      ·exact pW ho
      ·simp only[List.mem_singleton]at ho;subst ho
       split
       ·rename_i hcn;simpa using hcn
       ·simp
     ·cases h
    ·cases h;exact h2
   ·cases h;exact h2
  ·split at h
   ·cases h;exact .refl _ _
   ·cases h
 ·split at h
  ·cases h
  rename_i args' lent hl
  split at h
  ·cases h
  rename_i v1 H1 wr1 hcall;have h1:=hc _ _ _ _ _ _ hcall
  split at h
  ·rename_i he;simp only[Bool.and_eq_true,List.isEmpty_iff]at he;have:lent=[]:=he.1;subst this;cases h;exact h1
  ·cases h
 ·cases h
theorem aKK{call:Nat->List AV->List AObj->Out}(hc:rZ call){H H':List AObj}{site:Option Nat}{f v:AV}{args:List AV}{wr:List Nat}(h:hD call H site f args=some (v,H',wr)):Fr H H' wr:=by
 unfold hD at h
 split at h
 ·split at h
  ·cases h
  rename_i v1 H1 wr1 hcall;have h2:=hc _ _ _ _ _ _ hcall
  split at h
  ·split at h
   ·split at h
    ·cases h;refine (h2.trans (Fr.set _ _ _)).weaken fun o ho => ?_;rcases List.mem_append.1 ho with ho | ho
     ·exact pW ho
     ·simp only[List.mem_singleton]at ho;subst ho
      split
      ·rename_i hcn;simpa using hcn
      ·simp
    ·cases h
   ·cases h;exact h2
  ·cases h;exact h2
 ·cases h
theorem aPp{call:Nat->List AV->List AObj->Out}(hc:rZ call){H H':List AObj}{ρ:List AV}{site:Option Nat}{op:AOp}{v:AV}{wr:List Nat}(h:evW call H ρ site op=some (v,H',wr)):Fr H H' wr:=by
 unfold evW at h
 split at h
 ·split at h
  ·split at h
   ·cases h;exact Fr.set _ _ _
   ·cases h
  ·cases h
 ·split at h
  ·split at h
   ·cases h;exact Fr.set _ _ _
   ·cases h
  ·cases h
 ·split at h
  ·split at h
   ·cases h;exact Fr.set _ _ _
   ·cases h
  ·cases h
 ·split at h
  ·split at h
   ·cases h;exact Fr.set _ _ _
   ·cases h
  ·cases h
 ·split at h
  ·split at h
   ·rename_i hs;cases h;exact aBg hs
   ·cases h
  ·cases h
 ·split at h
  ·split at h
   ·split at h
    ·cases h;exact Fr.set _ _ _
    ·cases h
   ·cases h
  ·split at h
   ·rename_i hf;cases h;exact aFt _ _ _ _ _ _ hf
   ·cases h
 ·split at h
  ·split at h
   ·split at h
    ·split at h
     ·cases h;exact Fr.set _ _ _
     ·cases h
    ·cases h;exact .refl _ _
   ·split at h
    ·split at h
     ·cases h;exact Fr.set _ _ _
     ·cases h
    ·cases h
  ·cases h
 ·exact aNT h
 ·exact aLP h
 ·exact aFu hc h
 ·exact aKK hc h
 ·split at h
  ·split at h
   ·exact aFu hc h
   ·cases h
  ·cases h
 ·split at h
  ·split at h
   ·split at h
    ·split at h
     ·cases h;exact .refl _ _
     ·split at h
      ·cases h;exact Fr.set _ _ _
      ·cases h
    ·cases h
   ·cases h
  ·cases h
 ·split at h
  ·split at h
   ·cases h;exact Fr.set _ _ _
   ·cases h
  ·cases h
 ·split at h
  ·split at h
   ·split at h
    ·split at h
     ·cases h;exact Fr.set _ _ _
     ·cases h;exact Fr.set _ _ _
     ·cases h
    ·cases h
   ·cases h
  ·cases h
 ·cases h
theorem aQd{call:Nat->List AV->List AObj->Out}(hc:rZ call){c:Ctx}{d:Bool}{H H':List AObj}{ρ:List AV}{o:AOper}{v:AV}{wr:List Nat}(h:aLy call c d H ρ o=some (v,H',wr)):Fr H H' wr:=by
 unfold aLy at h
 split at h
 ·exact aPp hc h
 ·split at h
  ·cases h;exact .refl _ _
  ·cases h
theorem aGo{call:Nat->List AV->List AObj->Out}(hc:rZ call){c:Ctx}{H H':List AObj}{ρ:List AV}{o:AOper}{v:AV}{rd:List Nat}{wr:Option (List Nat)}(h:aDE call c H ρ o=some (v,H',rd,wr)):
  Fr H H' (wr.getD [])/\(wr=none->H'=H)/\H'.length=H.length:=by
 unfold aDE at h
 split at h
 ·cases h;exact⟨.refl _ _,fun _=>rfl,rfl⟩
 ·split at h
  ·split at h
   ·rename_i hw
    split at h
    ·rename_i hlen;cases h;exact⟨aPp hc hw,fun e=>(by cases e),hlen⟩
    ·cases h
   ·cases h
  ·split at h
   ·cases h;exact⟨.refl _ _,fun _=>rfl,rfl⟩
   ·cases h
def FrB(base:Nat)(s s':ASt):Prop:=s.H.length<=s'.H.length/\(∀o∈s.wr,o∈s'.wr)/\∀o,o<s.H.length->o<base->o∉s'.wr->s'.H[o]? = s.H[o]?
theorem FrB.refl(base:Nat)(s:ASt):FrB base s s:=⟨Nat.le_refl _,fun _ h=>h,fun _ _ _ _=>rfl⟩
theorem FrB.trans{base:Nat}{s s1 s2:ASt}(h:FrB base s s1)(h':FrB base s1 s2):FrB base s s2:=
 ⟨Nat.le_trans h.1 h'.1,fun o ho=>h'.2.1 o (h.2.1 o ho),fun o ho hb hn=>by
  rw[h'.2.2 o (Nat.lt_of_lt_of_le ho h.1) hb hn,h.2.2 o ho hb fun hm=>hn (h'.2.1 o hm)]⟩
theorem FrB.of{base:Nat}{s:ASt}{H':List AObj}{ρ:List AV}{wr:List Nat}(h:Fr s.H H' wr):FrB base s ⟨ρ,H',bA base s.wr wr⟩:=
 ⟨h.1,(bW base wr s.wr).1,fun o ho hb hn=>h.2 o ho fun hm=>hn ((bW base wr s.wr).2 o hm hb)⟩
theorem aGp{call:Nat->List AV->List AObj->Out}(hc:rZ call){c:Ctx}:∀(l:List AOper) (s s':ASt),iK call c l s=some s'->FrB c.base s s'
 | [],s,s',h=>by simp only[iK,Option.some.injEq]at h;subst h;exact .refl _ _
 |o::l,s,s',h=>by
  unfold iK at h
  split at h
  ·split at h
   ·split at h
    ·rename_i hev;exact (FrB.of (aQd hc hev)).trans (aGp hc l _ s' h)
    ·cases h
   ·have:=aGp hc l _ s' h;exact this
  ·cases h
theorem aDT{call:Nat->List AV->List AObj->Out}(hc:rZ call){c:Ctx}:∀(l:List AOper) (i:Nat) (s s':ASt) (log:Log),nA call c i l s=some (s',log)->FrB c.base s s'
 | [],i,s,s',log,h=>by simp only[nA,Option.some.injEq,Prod.mk.injEq]at h;obtain⟨rfl,_⟩:=h;exact .refl _ _
 |o::l,i,s,s',log,h=>by
  unfold nA at h
  split at h
  ·split at h
   ·split at h
    ·rename_i hev
     split at h
     ·rename_i hrest;cases h;exact (FrB.of (aGo hc hev).1).trans (aDT hc l _ _ _ _ hrest)
     ·cases h
    ·cases h
   ·have:=aDT hc l _ _ s' log h;exact this
  ·cases h
theorem aIM{c:Ctx}{d:Option Nat}{id:Nat}(h:c.site d=some id):c.base<=id:=by
 unfold Ctx.site at h
 split at h
 ·cases h
 ·obtain⟨i,_,rfl⟩:=map_some h;omega
theorem vE{c:Ctx}:∀(l:List AOper) (H H':List AObj),cI c H l=some H'->H.length=H'.length/\∀o,o<c.base->H'[o]? = H[o]?
 | [],H,H',h=>by simp only[cI,Option.some.injEq]at h;subst h;exact⟨rfl,fun _ _=>rfl⟩
 |o::l,H,H',h=>by
  unfold cI at h
  split at h
  ·rename_i id hid
   split at h
   ·obtain⟨h1,h2⟩:=vE l _ H' h;refine⟨by rw[<- h1];simp[make],fun o' ho' => ?_⟩
    rw[h2 o' ho',make,getElem?_set_ne' _ _ (by have:=aIM hid;omega)]
   ·cases h
  ·exact vE l H H' h
theorem aIN{call:Nat->List AV->List AObj->Out}(hc:rZ call){c:Ctx}{d:Bool}{l:List AOper}{s s':ASt}(h:hG call c d l s=some s'):FrB c.base s s':=by
 unfold hG at h
 split at h
 ·split at h
  ·rename_i H0 hp
   split at h
   ·rename_i s1 log hev
    split at h
    ·cases h;obtain⟨h1,h2⟩:=vE _ _ _ hp;have h3:=aDT hc _ _ _ _ _ hev;refine⟨?_,h3.2.1,fun o ho hb hn => ?_⟩
     ·rw[h1];exact h3.1
     ·have:=h3.2.2 o (by rw[<- h1];exact ho) hb hn
      rw[this];exact h2 o hb
    ·cases h
   ·cases h
  ·cases h
 ·split at h
  ·cases h
  ·exact aGp hc l s s' h
theorem sA{c:Ctx}:∀(ts:List (Nat×Nat)) (s s':ASt),nD c s ts=some s'->FrB c.base s s'
 | [],s,s',h=>by simp only[nD,Option.some.injEq]at h;subst h;exact .refl _ _
 | (0,t)::ts,s,s',h=>by
  unfold nD at h
  split at h
  ·rename_i hf;exact (FrB.of (aLO hf)).trans (sA ts _ s' h)
  ·cases h
 | (k+1,t)::ts,s,s',h=>by
  unfold nD at h
  split at h
  ·exact sA ts _ s' h
  split at h
  ·rename_i hk;exact (FrB.of (aKJ hk)).trans (sA ts _ s' h)
  split at h
  ·split at h
   ·rename_i hf
    split at h
    ·rename_i hst;exact (FrB.of ((aLO hf).trans (aBg hst))).trans (sA ts _ s' h)
    ·cases h
   ·cases h
  ·cases h
structure Rec where
 v:AV
 want:Bool
 rd:List Nat
 wr:Option (List Nat)
 H2:List AObj
def tV(p:Nat->Bool):Nat->List (AOper×Rec)->List AV->List AV
 |_,[],ρ=>ρ
 |k,(o,r)::l,ρ=>tV p (k+1) l (if p k then putSlot ρ o.dst r.v else ρ)
def cN(H:List AObj):List (AOper×Rec)->Nat->List AObj
 | [],_=>H
 |_::_,0=>H
 |x::l,m+1=>cN x.2.H2 l m
structure RecOk(call:Nat->List AV->List AObj->Out)(c:Ctx)(ρ:List AV)(H:List AObj)(o:AOper)(r:Rec):Prop where
 guard:oR ρ o=true
 want:r.want=wanted ρ o
 yes:r.want=true->aDE call c H ρ o=some (r.v,r.H2,r.rd,r.wr)
 no:r.want=false->r.v=.tup []/\r.H2=H/\r.rd=[]/\r.wr=none
def aD7:Nat->List (AOper×Rec)->Log
 |_,[]=>[]
 |i,(_,r)::l=>if r.want then (i,r.rd,r.wr)::aD7 (i+1) l else aD7 (i+1) l
theorem aC0(p:Nat->Bool):∀(l:List (AOper×Rec)) (n:Nat) (ρ:List AV),tV p (n+1) l ρ=tV (fun j=>p (j+1)) n l ρ
 | [],_,_=>rfl
 | (o,r)::l,n,ρ=>by simp only[tV];exact aC0 p l (n+1) _
theorem aJL(p q:Nat->Bool):∀(l:List (AOper×Rec)) (n:Nat) (ρ:List AV),(∀k,n<=k->k<n+l.length->p k=q k)->tV p n l ρ=tV q n l ρ
 | [],_,_,_=>rfl
 | (o,r)::l,n,ρ,h=>by
  simp only[tV];rw[h n (Nat.le_refl _) (by simp)]
  exact aJL p q l (n+1) _ fun k h1 h2=>h k (by omega) (by simp;omega)
theorem eW(ρ:List AV)(d:Option Nat)(v:AV):(putSlot ρ d v).length=ρ.length:=by cases d<;>simp[putSlot]
theorem aDU(ρ:List AV)(d:Option Nat)(v:AV)(t:Nat)(h:d≠some t):(putSlot ρ d v)[t]? = ρ[t]? := by
 cases d with
 |none=>rfl
 |some d=>exact getElem?_set_ne' _ _ (fun e=>h (by rw[e]))
theorem aHm(ρ ρ':List AV)(d:Option Nat)(v:AV)(t:Nat)(hl:ρ.length=ρ'.length)(h:ρ[t]? = ρ'[t]?):(putSlot ρ d v)[t]? = (putSlot ρ' d v)[t]? := by
 cases d with
 |none=>exact h
 |some d=>simp only[putSlot,List.getElem?_set,hl,h]
theorem aDt(p:Nat->Bool):∀(l:List (AOper×Rec)) (n:Nat) (ρ:List AV),(tV p n l ρ).length=ρ.length
 | [],_,_=>rfl
 | (o,r)::l,n,ρ=>by
  simp only[tV];rw[aDt p l]
  split
  ·exact eW _ _ _
  ·rfl
theorem aBh(p q:Nat->Bool)(t:Nat):∀(l:List (AOper×Rec)) (n:Nat) (ρ ρ':List AV),ρ.length=ρ'.length->ρ[t]? = ρ'[t]? ->
  (∀(k:Nat) o r,l[k]? = some (o,r)->o.dst=some t->p (n+k)=q (n+k))->(tV p n l ρ)[t]? = (tV q n l ρ')[t]?
 | [],_,ρ,ρ',_,h,_=>h
 | (o,r)::l,n,ρ,ρ',hl,h,hk=>by
  simp only[tV];refine aBh p q t l (n+1) _ _ ?_ ?_ fun k o' r' h1 h2 => ?_
  ·split<;>split<;>simp[eW,hl]
  ·by_cases e:o.dst=some t
   ·have:=hk 0 o r rfl e;simp only[Nat.add_zero]at this;rw[this]
    split
    ·exact aHm _ _ _ _ _ hl h
    ·exact h
   ·have e1:∀(b:Bool) (ρ:List AV),(if b=true then putSlot ρ o.dst r.v else ρ)[t]? = ρ[t]? := fun b ρ=>by
     split
     ·exact aDU _ _ _ _ e
     ·rfl
    rw[e1,e1,h]
  ·have:=hk (k+1) o' r' (by simpa using h1) h2
   rwa [show n+(k+1)=n+1+k by omega]at this
theorem aNU(p:Nat->Bool)(i:Nat):∀(l:List (AOper×Rec)) (n:Nat) (ρ ρ':List AV) (o:AOper) (r:Rec),l[i]? = some (o,r)->ρ.length=ρ'.length->p (n+i)=false ->
  (∀(k:Nat) o' r',l[k]? = some (o',r')->i<k->∀t,o.dst=some t->o'.dst=some t->p (n+k)=false)->∀(t:Nat),ρ[t]? = ρ'[t]? ->
  (tV (fun j=>p j || j==n+i) n l ρ)[t]? = (putSlot (tV p n l ρ') o.dst r.v)[t]? := by
 intro l n ρ ρ' o r hi hl hp hk t ht
 by_cases e:o.dst=some t
 ·
  have hlen:(tV p n l ρ').length=ρ'.length:=aDt _ _ _ _;rw[e];simp only[putSlot,List.getElem?_set,if_true,hlen];have hnone:∀(l:List (AOper×Rec)) (n:Nat) (ρ:List AV),tV (fun _=>false) n l ρ=ρ:=by
   intro l
   induction l with
   |nil=>intro n ρ;rfl
   |cons x l ih=>intro n ρ;obtain⟨a,b⟩:=x;simp only[tV,Bool.false_eq_true,if_false];exact ih _ _
  have key:∀(q:Nat->Bool) (l:List (AOper×Rec)) (n:Nat) (i:Nat) (ρ:List AV),l[i]? = some (o,r)->q (n+i)=true->(∀(k:Nat) o' r',l[k]? = some (o',r')->i<k->o'.dst=some t->q (n+k)=false) ->
    (tV q n l ρ)[t]? = if t<ρ.length then some r.v else none:=by
   intro q l
   induction l with
   |nil=>intro n i ρ h;simp at h
   |cons x l ih=>
    intro n i ρ h hq hk2;obtain⟨o1,r1⟩:=x;cases i with
    |zero=>
     simp only[List.getElem?_cons_zero,Option.some.injEq,Prod.mk.injEq]at h;obtain⟨h1,h2⟩:=h;simp only[Nat.add_zero]at hq;simp only[tV,hq,if_true];have:=aBh q (fun _=>false) t l (n+1) (putSlot ρ o1.dst r1.v) (putSlot ρ o1.dst r1.v) rfl rfl fun k o' r' h3 h4=>by
      have h5:=hk2 (k+1) o' r' (by simpa using h3) (by omega) h4
      rwa [show n+(k+1)=n+1+k by omega]at h5
     rw[this,hnone,h1,h2,e];simp[putSlot,List.getElem?_set]
    |succ i=>
     simp only[tV];rw[ih (n+1) i _ (by simpa using h) (by rw[show n+1+i=n+(i+1)by omega];exact hq) fun k o' r' h1 h2 h3=>by
      have:=hk2 (k+1) o' r' (by simpa using h1) (by omega) h3;rwa [show n+(k+1)=n+1+k by omega]at this]
     split<;>simp[eW]
  rw[key (fun j=>p j || j==n+i) l n i ρ hi (by simp) fun k o' r' h1 h2 h3=>by
   have h4:¬(k=i):=by omega
   simp[hk k o' r' h1 h2 t e h3,h4],hl]
 ·rw[aDU _ _ _ _ e];refine aBh _ _ t l n ρ ρ' hl ht fun k o' r' h1 h2 => ?_;have:k≠i:=fun ek=>by subst ek;rw[hi]at h1;cases h1;exact e h2
  simp[this]
theorem aCJ{call:Nat->List AV->List AObj->Out}{c:Ctx}:∀(al:List AOper) (i:Nat) (s s':ASt) (log:Log),nA call c i al s=some (s',log) ->
  ∃tr:List (AOper×Rec),tr.map (·.1)=al/\log=aD7 i tr/\s'.ρ=tV (fun _=>true) 0 tr s.ρ/\s'.H=cN s.H tr tr.length /\
   (∀(k:Nat) o r,tr[k]? = some (o,r)->RecOk call c (tV (fun j=>decide (j<k)) 0 tr s.ρ) (cN s.H tr k) o r/\cN s.H tr (k+1)=r.H2/\∀x∈r.wr.getD [],x<c.base->x∈s'.wr) /\
   (∀x∈s.wr,x∈s'.wr)
 | [],i,s,s',log,h=>by
  simp only[nA,Option.some.injEq,Prod.mk.injEq]at h;obtain⟨rfl,rfl⟩:=h;exact⟨[],rfl,rfl,rfl,rfl,fun k o r h=>by simp at h,fun _ h=>h⟩
 |o::al,i,s,s',log,h=>by
  have step:∀(r:Rec) (s1:ASt) (log1:Log),RecOk call c s.ρ s.H o r->s1.ρ=putSlot s.ρ o.dst r.v->s1.H=r.H2->(∀x∈s.wr,x∈s1.wr)->(∀x∈r.wr.getD [],x<c.base->x∈s1.wr) ->
    nA call c (i+1) al s1=some (s',log1)->log=(if r.want then (i,r.rd,r.wr)::log1 else log1) ->
    ∃tr:List (AOper×Rec),tr.map (·.1)=o::al/\log=aD7 i tr/\s'.ρ=tV (fun _=>true) 0 tr s.ρ/\s'.H=cN s.H tr tr.length /\
     (∀(k:Nat) o r,tr[k]? = some (o,r)->RecOk call c (tV (fun j=>decide (j<k)) 0 tr s.ρ) (cN s.H tr k) o r/\cN s.H tr (k+1)=r.H2/\∀x∈r.wr.getD [],x<c.base->x∈s'.wr) /\
     (∀x∈s.wr,x∈s'.wr):=by
   intro r s1 log1 hr hρ hH hw hw2 hrest hlog;obtain⟨tr,h1,h2,h3,h4,h5,h6⟩:=aCJ al (i+1) s1 s' log1 hrest;refine⟨(o,r)::tr,by simp[h1],by rw[hlog,h2];simp only[aD7], ?_, ?_,fun k o' r' hk => ?_,fun x hx=>h6 x (hw x hx)⟩
   ·simp only[tV,if_true];rw[aC0,<- hρ];exact h3
   ·simp only[List.length_cons,cN];rw[<- hH];exact h4
   ·cases k with
    |zero=>
     simp only[List.getElem?_cons_zero,Option.some.injEq,Prod.mk.injEq]at hk;obtain⟨rfl,rfl⟩:=hk;have hnone:∀(l:List (AOper×Rec)) (n:Nat) (ρ:List AV),tV (fun j=>decide (j<0)) n l ρ=ρ:=by
      intro l
      induction l with
      |nil=>intro n ρ;rfl
      |cons x l ih=>intro n ρ;obtain⟨a,b⟩:=x;simp only[tV,Nat.not_lt_zero,decide_false,Bool.false_eq_true,if_false];exact ih _ _
     rw[hnone];refine⟨hr, ?_,fun x hx hb=>h6 x (hw2 x hx hb)⟩;simp only[cN];cases tr<;>rfl
    |succ k=>
     have hk':tr[k]? = some (o',r'):=by simpa using hk
     obtain⟨a1,a2,a3⟩:=h5 k o' r' hk';refine⟨?_, ?_,a3⟩
     ·have e1:tV (fun j=>decide (j<k+1)) 0 ((o,r)::tr) s.ρ=tV (fun j=>decide (j<k)) 0 tr s1.ρ:=by
       simp only[tV];rw[aC0,hρ];simp
      have e2:cN s.H ((o,r)::tr) (k+1)=cN s1.H tr k:=by simp only[cN];rw[<- hH]
      rw[e1,e2];exact a1
     ·simp only[cN];rw[<- hH];exact a2
  unfold nA at h
  split at h
  ·rename_i hg
   split at h
   ·rename_i hw
    split at h
    ·rename_i v H' rd wr hev
     split at h
     ·rename_i s2 log2 hrest;cases h;exact step ⟨v,true,rd,wr,H'⟩ _ log2 ⟨hg,hw.symm,fun _=>hev,fun e=>(by cases e)⟩ rfl rfl (fun x hx=>(bW _ _ _).1 x hx) (fun x hx hb=>(bW _ _ _).2 x hx hb) hrest rfl
     ·cases h
    ·cases h
   ·rename_i hw;exact step ⟨.tup [],false,[],none,s.H⟩ ⟨putSlot s.ρ o.dst (.tup []),s.H,s.wr⟩ log ⟨hg,(by simpa using hw),fun e=>(by cases e),fun _=>⟨rfl,rfl,rfl,rfl⟩⟩ rfl rfl (fun x hx=>hx) (fun x hx=>by simp at hx) h rfl
  ·cases h
theorem aHn:∀(tr:List (AOper×Rec)) (i k:Nat) (o:AOper) (r:Rec),tr[k]? = some (o,r)->r.want=true->(i+k,r.rd,r.wr)∈aD7 i tr
 | [],i,k,o,r,h,_=>by simp at h
 | (o1,r1)::tr,i,k,o,r,h,hw=>by
  cases k with
  |zero=>
   simp only[List.getElem?_cons_zero,Option.some.injEq,Prod.mk.injEq]at h;obtain⟨rfl,rfl⟩:=h;simp[aD7,hw]
  |succ k=>
   have:=aHn tr (i+1) k o r (by simpa using h) hw
   rw[show i+1+k=i+(k+1)by omega]at this
   simp only[aD7]
   split
   ·exact List.mem_cons_of_mem _ this
   ·exact this
def aXq(pre:List Nat)(i:Nat)(r r':Rec):Prop:=
 i∈pre∨(match r.wr,r'.wr with
  |some _,some _=>False
  |some ws,none=>∀x∈r'.rd,x∉ws
  |none,some ws=>∀x∈r.rd,x∉ws
  |none,none=>True)
theorem aDV{a b:List Nat}(h:eB a b=true):∀x∈a,x∉b:=by
 intro x hx hb;have:=List.all_eq_true.1 h x hx;simp[hb]at this
theorem aFv(pre:Nat->List Nat):∀(tr:List (AOper×Rec)) (n:Nat),fG pre (aD7 n tr)=true->∀(i j:Nat) o r o' r',i<j->tr[i]? = some (o,r)->tr[j]? = some (o',r')->r.want=true->r'.want=true ->
  aXq (pre (n+j)) (n+i) r r'
 | [],n,h,i,j,o,r,o',r',hij,hi,hj,hw,hw'=>by simp at hi
 | (o1,r1)::tr,n,h,i,j,o,r,o',r',hij,hi,hj,hw,hw'=>by
  cases i with
  |zero=>
   simp only[List.getElem?_cons_zero,Option.some.injEq,Prod.mk.injEq]at hi;obtain⟨rfl,rfl⟩:=hi;cases j with
   |zero=>omega
   |succ j=>
    have hm:=aHn tr (n+1) j o' r' (by simpa using hj) hw'
    simp only[aD7,hw,if_true,fG,Bool.and_eq_true]at h;have:=List.all_eq_true.1 h.1 _ hm;rw[show n+1+j=n+(j+1)by omega]at this
    simp only[Bool.or_eq_true,List.contains_iff_mem]at this;rcases this with this | this
    ·exact .inl this
    ·refine .inr ?_;cases hq:r1.wr with
     |none=>
      cases hq':r'.wr with
      |none=>trivial
      |some ws=>rw[hq,hq']at this;exact aDV this
     |some ws=>
      cases hq':r'.wr with
      |none=>rw[hq,hq']at this;exact aDV this
      |some ws'=>rw[hq,hq']at this;simp at this
  |succ i=>
   cases j with
   |zero=>omega
   |succ j=>
    have h':fG pre (aD7 (n+1) tr)=true:=by
     simp only[aD7]at h
     split at h
     ·simp only[fG,Bool.and_eq_true]at h;exact h.2
     ·exact h
    have:=aFv pre tr (n+1) h' i j o r o' r' (by omega) (by simpa using hi) (by simpa using hj) hw hw'
    rwa [show n+1+j=n+(j+1)by omega,show n+1+i=n+(i+1)by omega]at this
theorem aHo:∀(tr:List (AOper×Rec)) (H:List AObj) (m m':Nat),m<=tr.length->m'<=tr.length ->
  (∀(k:Nat) o r,tr[k]? = some (o,r)->r.wr=none->r.H2=cN H tr k)->(∀(k:Nat) o r,tr[k]? = some (o,r)->r.wr≠none->(k<m↔k<m'))->cN H tr m=cN H tr m':=by
 intro tr H m m' hm hm' hR hW;have next:∀(tr:List (AOper×Rec)) (H:List AObj) (k:Nat) o r,tr[k]? = some (o,r)->cN H tr (k+1)=r.H2:=by
  intro tr
  induction tr with
  |nil=>intro H k o r h;simp at h
  |cons x tr ih=>
   intro H k o r h;cases k with
   |zero=>simp only[List.getElem?_cons_zero,Option.some.injEq]at h;subst h;simp only[cN];cases tr<;>rfl
   |succ k=>simp only[cN];exact ih _ k o r (by simpa using h)
 have walk:∀(d a:Nat),a+d<=tr.length->(∀(k:Nat) o r,tr[k]? = some (o,r)->r.wr≠none->¬(a<=k/\k<a+d))->cN H tr (a+d)=cN H tr a:=by
  intro d
  induction d with
  |zero=>intro a _ _;rfl
  |succ d ih=>
   intro a hd hn;have hlt:a+d<tr.length:=by omega
   have hk:tr[a+d]? = some (tr[a+d].1,tr[a+d].2):=by simp[hlt]
   rw[show a+(d+1)=a+d+1 by omega,next tr H (a+d) _ _ hk,hR (a+d) _ _ hk ?_]
   ·exact ih a (by omega) fun k o r h1 h2 h3=>hn k o r h1 h2 ⟨h3.1,by omega⟩
   ·cases hq:tr[a+d].2.wr with
    |none=>rfl
    |some w=>exact absurd ⟨by omega,by omega⟩ (hn (a+d) _ _ hk (by rw[hq];simp))
 rcases Nat.le_total m m' with h | h
 ·obtain⟨d,rfl⟩:=Nat.exists_eq_add_of_le h;exact (walk d m hm' fun k o r h1 h2 h3=>by have:=hW k o r h1 h2;omega).symm
 ·obtain⟨d,rfl⟩:=Nat.exists_eq_add_of_le h;exact walk d m' hm fun k o r h1 h2 h3=>by have:=hW k o r h1 h2;omega
end Go.AM
end
