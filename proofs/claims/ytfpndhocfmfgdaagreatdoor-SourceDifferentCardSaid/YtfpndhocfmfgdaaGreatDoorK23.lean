/- Part 23: lemmas for the last text. -/
import Derived.Test.YtfpndhocfmfgdaaGreatDoorK22
set_option linter.unusedVariables false
set_option linter.unusedSimpArgs false
section
set_option maxRecDepth 8000
namespace Go.AM
open Go
def jI(ops:List AOper):List Nat:=ops.filterMap AOper.dst
def vS:ACode->List Nat | .region _ ops=>jI ops | .seq a b=>vS a++vS b | .cond _ a b=>vS a++vS b | .block _ b=>vS b | .loop b=>vS b | .frz ts=>ts.map Prod.snd | _=>[]
def dM(W:List Nat)(l l':List AV):Prop:=∀t,W.contains t=false->l'[t]? = l[t]?
theorem dM.refl{W:List Nat}{l:List AV}:dM W l l:=fun _ _=>rfl
theorem dM.trans{W:List Nat}{l l' l'':List AV}(h1:dM W l l')(h2:dM W l' l''):dM W l l'':=fun t ht=>(h2 t ht).trans (h1 t ht)
theorem dM.sub{W W':List Nat}{l l':List AV}(h:dM W l l')(hs:∀t∈W,t∈W'):dM W' l l':=fun t ht=>h t (by
 rw[Bool.eq_false_iff]at ht ⊢;intro hc;exact ht (List.contains_iff_mem.2 (hs t (List.contains_iff_mem.1 hc))))
theorem pJ{o:AOper}{l:List AV}{v:AV}:dM (jI [o]) l (putSlot l o.dst v):=by
 intro t ht;unfold putSlot;cases hd:o.dst with
 |none=>rfl
 |some d=>
  have:d≠t:=by
   intro e;subst e;simp[jI,hd]at ht
  exact List.getElem?_set_ne this
theorem vT{o:AOper}{r:List AOper}:jI (o::r)=jI [o]++jI r:=by
 unfold jI;simp only[List.filterMap_cons,List.filterMap_nil];cases o.dst<;>rfl
theorem aAJ{call:Nat->List AV->List AObj->Out}{c:Ctx}:∀{ops:List AOper} {s s':ASt},iK call c ops s=some s'->dM (jI ops) s.ρ s'.ρ
 | [],_,_,h=>by cases h;exact .refl
 |o::r,s,s',h=>by
  rw[vT];unfold iK at h
  split at h
  ·split at h
   ·split at h
    ·rename_i v H' wr he;exact (pJ.sub (l':=putSlot s.ρ o.dst v) fun t ht=>List.mem_append_left _ ht).trans ((aAJ h).sub fun t ht=>List.mem_append_right _ ht)
    ·cases h
   ·exact (pJ.sub (l':=putSlot s.ρ o.dst (.tup [])) fun t ht=>List.mem_append_left _ ht).trans ((aAJ h).sub fun t ht=>List.mem_append_right _ ht)
  ·cases h
theorem yS{call:Nat->List AV->List AObj->Out}{c:Ctx}:∀{ops:List AOper} {i:Nat} {s s':ASt} {log:Log},nA call c i ops s=some (s',log)->dM (jI ops) s.ρ s'.ρ
 | [],_,_,_,_,h=>by cases h;exact .refl
 |o::r,i,s,s',log,h=>by
  rw[vT];unfold nA at h
  split at h
  ·split at h
   ·split at h
    ·rename_i v H' rd wr he
     split at h
     ·rename_i s1 log1 hr;cases h;exact (pJ.sub (l':=putSlot s.ρ o.dst v) fun t ht=>List.mem_append_left _ ht).trans ((yS hr).sub fun t ht=>List.mem_append_right _ ht)
     ·cases h
    ·cases h
   ·exact (pJ.sub (l':=putSlot s.ρ o.dst (.tup [])) fun t ht=>List.mem_append_left _ ht).trans ((yS h).sub fun t ht=>List.mem_append_right _ ht)
  ·cases h
theorem qL{c:Ctx}:∀{ts:List (Nat×Nat)} {s s':ASt},nD c s ts=some s'->dM (ts.map Prod.snd) s.ρ s'.ρ
 | [],_,_,h=>by cases h;exact .refl
 | (k+1,t)::r,s,s',h=>by
  have hs:∀u∈r.map Prod.snd,u∈((k+1,t)::r).map Prod.snd:=fun u hu=>List.mem_cons_of_mem _ hu;unfold nD at h
  split at h
  ·exact (qL h).sub hs
  ·split at h
   ·exact (qL h).sub hs
   ·split at h
    ·split at h
     ·split at h
      ·exact (qL h).sub hs
      ·cases h
     ·cases h
    ·cases h
 | (0,t)::r,s,s',h=>by
  unfold nD at h
  split at h
  ·rename_i v H' l hf;have h1:=(qL h).sub (W':=((0,t)::r).map Prod.snd) fun u hu=>List.mem_cons_of_mem _ hu;refine dM.trans (fun u hu => ?_) h1;refine List.getElem?_set_ne fun e => ?_;subst e;simp at hu
  ·cases h
theorem dX{A:AProg}:∀(n:Nat) (c:Ctx) (x:ACode) (s:ASt) e s',cO A n c x s=some (e,s')->dM (vS x) s.ρ s'.ρ
 |0,c,x,s,e,s',h=>by rw[gF]at h;cases h
 |n+1,c,x,s,e,s',h=>by
  cases x with
  |skip=>rw[vI]at h;cases h;exact .refl
  |bad=>rw[pX]at h;cases h
  |region d ops=>
   rw[iA]at h
   split at h
   ·rename_i s1 hr;cases h;unfold hG at hr
    split at hr
    ·split at hr
     ·split at hr
      ·rename_i hd
       split at hr
       ·cases hr;have h9:=yS hd;exact h9
       ·cases hr
      ·cases hr
     ·cases hr
    ·split at hr
     ·cases hr
     ·exact aAJ hr
   ·cases h
  |seq a b=>
   have ha:∀t∈vS a,t∈vS (.seq a b):=fun t ht=>List.mem_append_left _ ht;have hb:∀t∈vS b,t∈vS (.seq a b):=fun t ht=>List.mem_append_right _ ht;rw[gO]at h
   split at h
   ·rename_i s1 hr;exact ((dX n _ _ _ _ _ hr).sub ha).trans ((dX n _ _ _ _ _ h).sub hb)
   ·exact (dX n _ _ _ _ _ h).sub ha
  |cond t a b=>
   have ha:∀u∈vS a,u∈vS (.cond t a b):=fun t ht=>List.mem_append_left _ ht;have hb:∀u∈vS b,u∈vS (.cond t a b):=fun t ht=>List.mem_append_right _ ht;rw[iB]at h
   split at h
   ·exact (dX n _ _ _ _ _ h).sub ha
   ·exact (dX n _ _ _ _ _ h).sub hb
   ·cases h
  |block id b=>
   rw[dW]at h
   show dM (vS b) _ _
   split at h
   ·rename_i hr
    split at h<;>(cases h;exact dX n _ _ _ _ _ hr)
   ·exact dX n _ _ _ _ _ h
  |loop b=>
   rw[gG]at h
   show dM (vS b) _ _
   split at h
   ·rename_i s1 hr;have h9:=dX n _ _ _ _ _ h;exact dM.trans (dX n _ _ _ _ _ hr) h9
   ·exact dX n _ _ _ _ _ h
  |exit id=>rw[aAA]at h;cases h;exact .refl
  |ret=>rw[aC1]at h;cases h;exact .refl
  |frz ts=>
   rw[uE]at h
   split at h
   ·rename_i s1 hr;cases h;exact qL hr
   ·cases h
  |rangeF x ps body=>
   rw[kO]at h
   split at h
   ·split at h
    ·split at h
     ·split at h
      ·split at h
       ·cases h;exact .refl
       ·cases h
      ·cases h
     ·cases h
    ·cases h
   ·cases h
theorem dM.fenv{W:List Nat}{l l':List AV}(h:dM W l l'):∀t,W.contains t=false->fenv l' t=fenv l t:=fun t ht=>by
 unfold Go.AM.fenv;rw[h t ht]
theorem Wp.slots{A:AProg}{N:Nat}{c:Ctx}{x:ACode}{ρ:bH}{H:List AObj}{wr:List Nat}{Q}(h:Wp A N c x ρ H wr Q):
  Wp A N c x ρ H wr fun e ρ' H' wr'=>Q e ρ' H' wr'/\∀t,(vS x).contains t=false->ρ' t=ρ t:=fun l hl he=>by
 obtain⟨n,e,s',h1,h2,h3⟩:=h l hl he;refine⟨n,e,s',h1,h2,h3,fun t ht => ?_⟩;rw[<- he];exact (dX n _ _ _ _ _ h1).fenv t ht
abbrev aJ1(W:List Nat)(ρ ρ':bH):Prop:=∀t,W.contains t=false->ρ' t=ρ t
theorem aJ1.mono{W W':List Nat}{ρ ρ':bH}(h:aJ1 W ρ ρ')(hs:∀t∈W,t∈W'):aJ1 W' ρ ρ':=fun t ht=>h t (by
 rw[Bool.eq_false_iff]at ht ⊢;intro hc;exact ht (List.contains_iff_mem.2 (hs t (List.contains_iff_mem.1 hc))))
theorem aJ1.trans{W:List Nat}{ρ ρ' ρ'':bH}(h1:aJ1 W ρ ρ')(h2:aJ1 W ρ' ρ''):aJ1 W ρ ρ'':=fun t ht=>(h2 t ht).trans (h1 t ht)
theorem aMq{o:AOper}{ρ:bH}{v:AV}:aJ1 (jI [o]) ρ (xT ρ o.dst v):=by
 intro t ht;unfold xT;cases hd:o.dst with
 |none=>rfl
 |some d=>
  refine yP fun e => ?_;subst e;simp[jI,hd]at ht
theorem aAK{call:Nat->List AV->List AObj->Out}{c:Ctx}:∀{ops:List AOper} {ρ:bH} {H:List AObj} {wr:List Nat} {K K':bH->List AObj->List Nat->Prop},
  (∀ρ' H' wr',K ρ' H' wr'->aJ1 (jI ops) ρ ρ'->K' ρ' H' wr')->aBn call c ops ρ H wr K->aBn call c ops ρ H wr K'
 | [],_,_,_,_,_,hk,h=>hk _ _ _ h fun _ _=>rfl
 |o::r,ρ,H,wr,K,K',hk,h=>by
  rw[vT]at hk;have go:∀v,aJ1 (jI [o]++jI r) ρ (xT ρ o.dst v):=fun v=>aMq.mono fun t ht=>List.mem_append_left _ ht;have up:∀t∈jI r,t∈jI [o]++jI r:=fun t ht=>List.mem_append_right _ ht;unfold aBn at h ⊢
  split at h
  ·cases h
  ·exact aAK (fun ρ' H' wr' hh hf=>hk _ _ _ hh ((go _).trans (hf.mono up))) h
  ·split at h
   ·cases h
   ·exact aAK (fun ρ' H' wr' hh hf=>hk _ _ _ hh ((go _).trans (hf.mono up))) h
theorem aEi{call:Nat->List AV->List AObj->Out}{c:Ctx}{keep:List Nat}:∀{ops:List AOper} {i:Nat} {ρ:bH} {H:List AObj} {wr:List Nat} {K K':bH->List AObj->List Nat->Log->Prop},
  (∀ρ' H' wr' log,K ρ' H' wr' log->aJ1 (jI ops) ρ ρ'->K' ρ' H' wr' log)->wpD call c keep i ops ρ H wr K->wpD call c keep i ops ρ H wr K'
 | [],_,_,_,_,_,_,hk,h=>hk _ _ _ _ h fun _ _=>rfl
 |o::r,i,ρ,H,wr,K,K',hk,h=>by
  rw[vT]at hk;have go:∀v,aJ1 (jI [o]++jI r) ρ (xT ρ o.dst v):=fun v=>aMq.mono fun t ht=>List.mem_append_left _ ht;have up:∀t∈jI r,t∈jI [o]++jI r:=fun t ht=>List.mem_append_right _ ht;unfold wpD at h ⊢
  split at h
  ·cases h
  ·exact aEi (fun ρ' H' wr' log hh hf=>hk _ _ _ _ hh ((go _).trans (hf.mono up))) h
  ·split at h
   ·cases h
   ·refine aEi (fun ρ' H' wr' log hh hf => ?_) h
    split at hh
    ·rename_i hc;rw[if_pos hc];exact hk _ _ _ _ hh ((go _).trans (hf.mono up))
    ·rename_i hc;rw[if_neg hc];exact hk _ _ _ _ hh ((go _).trans (hf.mono up))
theorem vU{c:Ctx}:∀{ts:List (Nat×Nat)} {ρ:bH} {H:List AObj} {wr:List Nat} {K K':bH->List AObj->List Nat->Prop},
  (∀ρ' H' wr',K ρ' H' wr'->aJ1 (ts.map Prod.snd) ρ ρ'->K' ρ' H' wr')->aBp c ts ρ H wr K->aBp c ts ρ H wr K'
 | [],_,_,_,_,_,hk,h=>hk _ _ _ h fun _ _=>rfl
 | (k+1,t)::r,ρ,H,wr,K,K',hk,h=>by
  have up:∀u∈r.map Prod.snd,u∈((k+1,t)::r).map Prod.snd:=fun u hu=>List.mem_cons_of_mem _ hu;unfold aBp at h ⊢
  split at h
  ·rename_i hc;rw[if_pos hc];exact vU (fun ρ' H' wr' hh hf=>hk _ _ _ hh (hf.mono up)) h
  ·rename_i hc;rw[if_neg hc]
   split at h
   ·exact vU (fun ρ' H' wr' hh hf=>hk _ _ _ hh (hf.mono up)) h
   ·cases h
 | (0,t)::r,ρ,H,wr,K,K',hk,h=>by
  have up:∀u∈r.map Prod.snd,u∈((0,t)::r).map Prod.snd:=fun u hu=>List.mem_cons_of_mem _ hu;have go:∀v,aJ1 (((0,t)::r).map Prod.snd) ρ (upd ρ t v):=fun v u hu=>yP fun e=>by subst e;simp at hu
  unfold aBp at h ⊢
  split at h
  ·exact vU (fun ρ' H' wr' hh hf=>hk _ _ _ hh ((go _).trans (hf.mono up))) h
  ·cases h
theorem gR{A:AProg}{N:Nat}{c:Ctx}:∀{x:ACode} {ρ:bH} {H:List AObj} {wr:List Nat} {Q Q':AExit->bH->List AObj->List Nat->Prop},
  (∀e ρ' H' wr',Q e ρ' H' wr'->aJ1 (vS x) ρ ρ'->Q' e ρ' H' wr')->wpc A N c x ρ H wr Q->wpc A N c x ρ H wr Q'
 |.skip,ρ,H,wr,Q,Q',hq,h=>hq _ _ _ _ h fun _ _=>rfl
 |.bad,_,_,_,_,_,_,h=>h.elim
 |.region false ops,ρ,H,wr,Q,Q',hq,h=>by
  rw[wpc]at h ⊢;exact aAK (fun ρ' H' wr' hh hf=>hq _ _ _ _ hh hf) h
 |.region true ops,ρ,H,wr,Q,Q',hq,h=>by
  rw[wpc]at h ⊢
  split at h
  ·exact aEi (fun ρ' H' wr' log hh hf=>⟨hh.1,hq _ _ _ _ hh.2 hf⟩) h
  ·exact h.elim
 |.seq a b,ρ,H,wr,Q,Q',hq,h=>by
  have ha:∀t∈vS a,t∈vS (.seq a b):=fun t ht=>List.mem_append_left _ ht;have hb:∀t∈vS b,t∈vS (.seq a b):=fun t ht=>List.mem_append_right _ ht;rw[wpc]at h ⊢;refine gR (fun e ρ' H' wr' hh hf => ?_) h;cases e with
  |normal=>exact gR (fun e ρ2 H2 wr2 h2 hf2=>hq _ _ _ _ h2 ((hf.mono ha).trans (hf2.mono hb))) hh
  |ret=>exact hq _ _ _ _ hh (hf.mono ha)
  |exit id=>exact hq _ _ _ _ hh (hf.mono ha)
 |.cond t a b,ρ,H,wr,Q,Q',hq,h=>by
  have ha:∀u∈vS a,u∈vS (.cond t a b):=fun t ht=>List.mem_append_left _ ht;have hb:∀u∈vS b,u∈vS (.cond t a b):=fun t ht=>List.mem_append_right _ ht;rw[wpc]at h ⊢
  split at h
  ·exact gR (fun e ρ' H' wr' hh hf=>hq _ _ _ _ hh (hf.mono ha)) h
  ·exact gR (fun e ρ' H' wr' hh hf=>hq _ _ _ _ hh (hf.mono hb)) h
  ·exact h.elim
 |.block id b,ρ,H,wr,Q,Q',hq,h=>by
  rw[wpc]at h ⊢;refine gR (x:=b) (fun e ρ' H' wr' hh hf => ?_) h;cases e with
  |normal=>exact hq _ _ _ _ hh hf
  |ret=>exact hq _ _ _ _ hh hf
  |exit id'=>
   dsimp only at hh ⊢
   split at hh
   ·rename_i hc;rw[if_pos hc];exact hq _ _ _ _ hh hf
   ·rename_i hc;rw[if_neg hc];exact hq _ _ _ _ hh hf
 |.loop b,ρ,H,wr,Q,Q',hq,h=>by
  rw[wpc]at h ⊢;exact h.slots.mono fun e ρ' H' wr' hh=>hq _ _ _ _ hh.1 hh.2
 |.rangeF x ps b,ρ,H,wr,Q,Q',hq,h=>by
  rw[wpc]at h ⊢;exact h.slots.mono fun e ρ' H' wr' hh=>hq _ _ _ _ hh.1 hh.2
 |.exit id,ρ,H,wr,Q,Q',hq,h=>hq _ _ _ _ h fun _ _=>rfl
 |.ret,ρ,H,wr,Q,Q',hq,h=>hq _ _ _ _ h fun _ _=>rfl
 |.frz ts,ρ,H,wr,Q,Q',hq,h=>by
  rw[wpc]at h ⊢;exact vU (fun ρ' H' wr' hh hf=>hq _ _ _ _ hh hf) h
def aVI(P:bH->List AObj->List Nat->Prop)(tg:Tg P):AExit->bH->List AObj->List Nat->Prop:=fun e ρ H wr=>match e with
 |.normal=>P ρ H wr
 |_=>False
@[go_sem] theorem aRc{P:bH->List AObj->List Nat->Prop}{t:Tg P}{ρ:bH}{H:List AObj}{wr:List Nat}:aVI P t .normal ρ H wr=P ρ H wr:=(rfl)
theorem aMr{A:AProg}{N:Nat}{c:Ctx}{x:ACode}{ρ:bH}{H:List AObj}{wr:List Nat}{Q:AExit->bH->List AObj->List Nat->Prop}{tg}{W:List Nat}(P:bH->List AObj->List Nat->Prop)
  (hW:vS x=W) (h1:wc A N c x ρ H wr (aVI P ⟨⟩) ⟨⟩) (h2:∀ρ' H' wr',P ρ' H' wr'->(∀t,W.contains t=false->ρ' t=ρ t)->Q .normal ρ' H' wr'):wc A N c x ρ H wr Q tg:=by
 subst hW;refine gR (fun e ρ' H' wr' hh hf => ?_) h1;cases e with
 |normal=>exact h2 _ _ _ hh hf
 |ret=>exact hh.elim
 |exit id=>exact hh.elim
def aRd(I:Nat->bH->List AObj->List Nat->Prop)(M i:Nat)(Q:AExit->bH->List AObj->List Nat->Prop)(tg:Tg (I,Q)):AExit->bH->List AObj->List Nat->Prop:=fun e ρ H wr=>match e with
 |.normal=>i<M/\I (i+1) ρ H wr
 |e=>Q e ρ H wr
section
variable {A:AProg}{N:Nat}{c:Ctx}{ρ ρ':bH}{H H':List AObj}{wr wr':List Nat}{Q:AExit->bH->List AObj->List Nat->Prop}{I:Nat->bH->List AObj->List Nat->Prop}{M i:Nat}
@[go_sem] theorem aRe{t:Tg (I,Q)}:aRd I M i Q t .normal ρ H wr=(i<M/\I (i+1) ρ H wr):=(rfl)
@[go_sem] theorem aVJ{t:Tg (I,Q)}:aRd I M i Q t .ret ρ H wr=Q .ret ρ H wr:=(rfl)
@[go_sem] theorem aUc{t:Tg (I,Q)}{id:Nat}:aRd I M i Q t (.exit id) ρ H wr=Q (.exit id) ρ H wr:=(rfl)
theorem aHS{b:ACode}{tg:Tg (A,N,c,b,Q)}{W:List Nat}(I:Nat->bH->List AObj->List Nat->Prop)(M:Nat)(hok:cZ N c b=true)(hW:vS b=W)(h0:I 0 ρ H wr)
  (hs:∀i ρ1 H1 wr1,i<=M->I i ρ1 H1 wr1->(∀t,W.contains t=false->ρ1 t=ρ t)->wc A N c b ρ1 H1 wr1 (aRd I M i Q ⟨⟩) ⟨⟩):
  wl A N c b ρ H wr Q tg:=by
 have key:∀k i ρ1 H1 wr1,i+k=M->I i ρ1 H1 wr1->(∀t,W.contains t=false->ρ1 t=ρ t)->Wp A N c (.loop b) ρ1 H1 wr1 Q:=by
  intro k
  induction k with
  |zero=>
   intro i ρ1 H1 wr1 hk hI hf l hl he;obtain⟨n,e,s',h1,h2,h3⟩:=jT (hs i ρ1 H1 wr1 (by omega) hI hf) hok l hl he
   by_cases hn:e=.normal
   ·subst hn;exact absurd h3.1 (by omega)
   ·refine⟨n+1,e,s', ?_,h2, ?_⟩
    ·rw[gG,h1];cases e<;>first | rfl | exact absurd rfl hn
    ·cases e<;>first | exact h3 | exact absurd rfl hn
  |succ k ih=>
   intro i ρ1 H1 wr1 hk hI hf l hl he;obtain⟨n,e,s',h1,h2,h3⟩:=jT (hs i ρ1 H1 wr1 (by omega) hI hf) hok l hl he
   by_cases hn:e=.normal
   ·subst hn;have hf2:∀t,W.contains t=false->fenv s'.ρ t=ρ t:=fun t ht=>by
     have:=(dX n _ _ _ _ _ h1).fenv t (by rw[hW];exact ht)
     rw[this,he];exact hf t ht
    obtain⟨m,e',s'',g1,g2,g3⟩:=ih (i+1) _ _ _ (by omega) h3.2 hf2 s'.ρ h2 rfl
    refine⟨max n m+1,e',s'', ?_,g2,g3⟩;rw[gG,dU (Nat.le_max_left n m) _ _ _ _ h1];exact dU (Nat.le_max_right n m) _ _ _ _ g1
   ·refine⟨n+1,e,s', ?_,h2, ?_⟩
    ·rw[gG,h1];cases e<;>first | rfl | exact absurd rfl hn
    ·cases e<;>first | exact h3 | exact absurd rfl hn
 exact key M 0 ρ H wr (by omega) h0 fun _ _=>rfl
def aKZ(id:Nat)(J:bH->List AObj->List Nat->Prop)(Q:AExit->bH->List AObj->List Nat->Prop)(tg:Tg (J,Q)):AExit->bH->List AObj->List Nat->Prop:=fun e ρ H wr=>match e with
 |.exit id'=>if id'=id then J ρ H wr else Q (.exit id') ρ H wr
 |e=>Q e ρ H wr
@[go_sem] theorem aSE{id:Nat}{J:bH->List AObj->List Nat->Prop}{t:Tg (J,Q)}:aKZ id J Q t (.exit id) ρ H wr=J ρ H wr:=by unfold aKZ;dsimp only;rw[if_pos rfl]
@[go_sem] theorem aUd{id:Nat}{J:bH->List AObj->List Nat->Prop}{t:Tg (J,Q)}:aKZ id J Q t .ret ρ H wr=Q .ret ρ H wr:=(rfl)
theorem bZ{b:ACode}{tg:Tg (A,N,c,b,Q)}{W:List Nat}{id:Nat}(I:Nat->bH->List AObj->List Nat->Prop)(M:Nat)(J:bH->List AObj->List Nat->Prop)(hok:cZ N c b=true)(hW:vS b=W)(h0:I 0 ρ H wr)
  (hs:∀i ρ1 H1 wr1,i<=M->I i ρ1 H1 wr1->(∀t,W.contains t=false->ρ1 t=ρ t)->wc A N c b ρ1 H1 wr1 (aRd I M i (aKZ id J Q ⟨⟩) ⟨⟩) ⟨⟩)
  (hQ:∀ρ' H' wr',J ρ' H' wr'->(∀t,W.contains t=false->ρ' t=ρ t)->Q (.exit id) ρ' H' wr'):wl A N c b ρ H wr Q tg:=by
 refine aHS I M hok hW h0 fun i ρ1 H1 wr1 hi hI hf => ?_;refine gR (fun e ρ' H' wr' hh hf' => ?_) (hs i ρ1 H1 wr1 hi hI hf);cases e with
 |normal=>exact hh
 |ret=>exact hh
 |exit id'=>
  by_cases he:id'=id
  ·subst he;simp only[aRd,aKZ,if_true]at hh;exact hQ _ _ _ hh fun t ht=>(hf' t (by rw[hW];exact ht)).trans (hf t ht)
  ·simp only[aRd,aKZ,if_neg he]at hh;exact hh
end
abbrev Str:=List UInt8
structure Run where
 lang:Int
 text:Str
 deriving DecidableEq
inductive Expr where
 |mk (op n:Int) (kids:List Expr)
structure Shape where
 kind:Int
 points:List (Int×Int)
 deriving DecidableEq
structure Note where
 step:Int
 length:Int
 alter:Int
 deriving DecidableEq
structure Block where
 kind:Int
 runs:List Run
 expr:Expr
 sumOp:Int
 sumA:List Int
 grid:List (List Str)
 w:Int
 h:Int
 shapes:List Shape
 hands:List (List (List Note))
 lines:List Str
structure Fact where
 kind:Int
 block:Int
 a:Int
 b:Int
 deriving DecidableEq
structure Question where
 kind:Int
 stem:List Run
 options:List Str
 needs:List Int
 key:Str
 points:Int
 reasons:List Str
 deriving DecidableEq
structure Item where
 name:Str
 blocks:List Block
 facts:List Fact
 ask:List Question
structure Exam where
 title:Str
 items:List Item
@[reducible] def vi(n:Int):AV:=.int .i64 n
def aN(s:Str):List AV:=[.str s]
def bD(n:Int):List AV:=[vi n]
def cW(r:Run):List AV:=[vi r.lang,.str r.text]
mutual
def aF:Expr->List AV
 |.mk op n kids=>[vi op,vi n,.sl false (gB kids)]
def gB:List Expr->List (List AV)
 | []=>[]
 |e::r=>aF e::gB r
end
def bQ(p:Int×Int):List AV:=[vi p.1,vi p.2]
def bB(s:Shape):List AV:=[vi s.kind,.sl false (s.points.map bQ)]
def cK(n:Note):List AV:=[vi n.step,vi n.length,vi n.alter]
def gS(l:List Note):List AV:=[.sl false (l.map cK)]
def cE(l:List (List Note)):List AV:=[.sl false (l.map gS)]
def cA(l:List Str):List AV:=[.sl false (l.map aN)]
def aE(b:Block):List AV:=[vi b.kind,.sl false (b.runs.map cW)]++aF b.expr++[vi b.sumOp,.sl false (b.sumA.map bD),.sl false (b.grid.map cA),vi b.w,vi b.h,.sl false (b.shapes.map bB),
 .sl false (b.hands.map cE),.sl false (b.lines.map aN)]
def bJ(f:Fact):List AV:=[vi f.kind,vi f.block,vi f.a,vi f.b]
def vV(q:Question):List AV:=[vi q.kind,.sl false (q.stem.map cW),.sl false (q.options.map aN),.sl false (q.needs.map bD),.str q.key,vi q.points,.sl false (q.reasons.map aN)]
def cG(x:Item):List AV:=[.str x.name,.sl false (x.blocks.map aE),.sl false (x.facts.map bJ),.sl false (x.ask.map vV)]
def eL(x:Exam):AV:=.agg [.str x.title,.sl false (x.items.map cG)]
theorem aB{α:Type}{f:α->List AV}(h:∀a,jE (f a)=true):∀l:List α,oC (l.map f)=true
 | []=>rfl
 |a::r=>by simp only[List.map_cons,oC,h a,aB h r,Bool.and_self]
section
attribute [local simp] jE AV.data AV.cellOk vi
theorem bL(s:Str):jE (aN s)=true:=by simp[aN]
theorem aP(s:Int):jE (bD s)=true:=by simp[bD]
theorem bT(s:Run):jE (cW s)=true:=by simp[cW]
mutual
theorem aQ:∀e:Expr,jE (aF e)=true
 |.mk op n kids=>by
  unfold aF;simp[aFQ kids]
theorem aFQ:∀l:List Expr,oC (gB l)=true
 | []=>rfl
 |e::r=>by
  unfold gB oC;rw[aQ e,aFQ r];rfl
end
theorem aFR(s:Int×Int):jE (bQ s)=true:=by simp[bQ]
theorem bR(s:Shape):jE (bB s)=true:=by simp[bB,aB aFR]
theorem aBw(s:Note):jE (cK s)=true:=by simp[cK]
theorem aDv(s:List Note):jE (gS s)=true:=by simp[gS,aB aBw]
theorem cL(s:List (List Note)):jE (cE s)=true:=by simp[cE,aB aDv]
theorem cR(s:List Str):jE (cA s)=true:=by simp[cA,aB bL]
theorem aCW:∀{a b:List AV},jE (a++b)=(jE a&&jE b)
 | [],b=>by simp
 |x::a,b=>by simp[aCW (a:=a) (b:=b),Bool.and_assoc]
theorem bO(s:Block):jE (aE s)=true:=by
 simp only[aE,aCW,aQ];simp[aB bT,aB aP,aB cR,aB bR,aB cL,aB bL]
theorem gT(s:Fact):jE (bJ s)=true:=by simp[bJ]
theorem yT(s:Question):jE (vV s)=true:=by simp[vV,aB bT,aB bL,aB aP]
theorem dB(s:Item):jE (cG s)=true:=by simp[cG,aB bO,aB gT,aB yT]
end
abbrev dN(n:Int):Prop := -9223372036854775808<=n/\n<=9223372036854775807
abbrev mF(s:Str):Prop:=s.length<=1000
structure Run.Ok(r:Run):Prop where
 lang:dN r.lang
 text:mF r.text
mutual
def iN:Expr->Nat
 |.mk _ _ kids=>cP kids+1
def cP:List Expr->Nat
 | []=>0
 |e::r=>iN e+cP r
end
inductive Expr.Ok:Expr->Prop where
 |mk (op n:Int) (kids:List Expr):dN op->dN n->kids.length<=16->(∀e∈kids,Expr.Ok e)->Expr.Ok (.mk op n kids)
structure Shape.Ok(s:Shape):Prop where
 kind:dN s.kind
 len:s.points.length<=16
 points:∀p∈s.points,dN p.1/\dN p.2
structure Note.Ok(n:Note):Prop where
 step:dN n.step
 length:dN n.length
 alter:dN n.alter
structure Block.Ok(b:Block):Prop where
 kind:dN b.kind
 lenR:b.runs.length<=16
 runs:∀r∈b.runs,r.Ok
 expr:b.expr.Ok
 size:iN b.expr<=1000
 sumOp:dN b.sumOp
 lenA:b.sumA.length<=16
 sumA:∀n∈b.sumA,dN n
 lenG:b.grid.length<=16
 grid:∀r∈b.grid,r.length<=16/\∀s∈r,mF s
 w:dN b.w
 h:dN b.h
 lenS:b.shapes.length<=16
 shapes:∀s∈b.shapes,s.Ok
 lenH:b.hands.length<=16
 hands:∀h∈b.hands,h.length<=16/\∀l∈h,l.length<=16/\∀n∈l,n.Ok
 lenL:b.lines.length<=16
 lines:∀s∈b.lines,mF s
structure Fact.Ok(f:Fact):Prop where
 kind:dN f.kind
 block:dN f.block
 a:dN f.a
 b:dN f.b
structure Question.Ok(q:Question):Prop where
 kind:dN q.kind
 lenS:q.stem.length<=16
 stem:∀r∈q.stem,r.Ok
 lenO:q.options.length<=16
 options:∀s∈q.options,mF s
 lenN:q.needs.length<=16
 needs:∀n∈q.needs,dN n
 key:mF q.key
 points:dN q.points
 lenR:q.reasons.length<=16
 reasons:∀s∈q.reasons,mF s
structure Item.Ok(x:Item):Prop where
 name:mF x.name
 lenB:x.blocks.length<=16
 blocks:∀b∈x.blocks,b.Ok
 lenF:x.facts.length<=16
 facts:∀f∈x.facts,f.Ok
 lenA:x.ask.length<=16
 ask:∀q∈x.ask,q.Ok
structure Exam.Ok(x:Exam):Prop where
 title:mF x.title
 lenI:x.items.length<=16
 items:∀i∈x.items,i.Ok
section
variable {α:Type}{f:Nat->α->α}{l:List α}{i:Nat}
end
theorem getElem?_map_of{α β:Type}{f:α->β}{l:List α}{i:Nat}(h:i<l.length):(l.map f)[i]? = some (f l[i]):=by
 rw[List.getElem?_map,List.getElem?_eq_getElem h];rfl
theorem dH{i:Nat}(h:i<4611686018427387904):IntKind.wrap .i64 ((i:Int)+1)=((i+1:Nat):Int):=by
 rw[wrap_i64 (by omega) (by omega)];rfl
def dec(n:Nat):Str:=if n<10 then [UInt8.ofNat (48+n)] else dec (n / 10)++[UInt8.ofNat (48+n % 10)]
decreasing_by omega
theorem aEj:∀(k n:Nat),n<10 ^ (k+1)->(dec n).length<=k+1
 |0,n,h=>by
  unfold dec;rw[if_pos (by omega)]
  exact Nat.le_refl _
 |k+1,n,h=>by
  unfold dec
  split
  ·simp
  ·have:=aEj k (n / 10) (by rw[Nat.pow_succ]at h;omega)
   simp only[List.length_append,List.length_cons,List.length_nil];omega
theorem gU{A:AProg}{f:Nat}{args:List AV}{H:List AObj}{v:AV}(h:(A.prim f).bind (· args H)=some (v,[],[])):aL A f args H=some (v,H,[]):=
 nR (n:=0) (by unfold cT qE;rw[h];simp[dA,fZ])
def eqL{α:Type}(e:α->α->Bool):List α->List α->Bool
 | [],[]=>true
 |a::x,b::y=>e a b&&eqL e x y
 |_,_=>false
theorem aGA{α:Type}{e:α->α->Bool}:∀{x y:List α},x.length≠y.length->eqL e x y=false
 | [],[],h=>absurd rfl h
 | [],_::_,_=>rfl
 |_::_,[],_=>rfl
 |a::x,b::y,h=>by
  unfold eqL;rw[aGA (by simpa using h),Bool.and_false]
theorem zW{α:Type}{e:α->α->Bool}{x y:List α}{i:Nat}(hx:i<x.length)(hy:i<y.length):eqL e (x.drop i) (y.drop i)=(e x[i] y[i]&&eqL e (x.drop (i+1)) (y.drop (i+1))):=by
 rw[List.drop_eq_getElem_cons hx,List.drop_eq_getElem_cons hy];rfl
def asV(agg:Bool)(cs:List AV):AV:=if agg then .agg cs else cs.headD .undef
abbrev aUe(k:Nat)(agg:Bool)(ek:EqK):ACode:=
 qS [qb 14 .lss 13 12] <|
 .seq (qC 14 (.skip)
  (.exit 0)) <|
 .seq (.block 1 (qS [qm 15 13,
   qm 5 15] <|
  .seq (.region true [qm 16 0,
 qm 17 5,
 ⟨some 18,oi 16 17 k,none,[0,1]⟩,
 ⟨some 19,.load k agg (u 18),none,[2,0,1]⟩,
 qm 20 1,
 qm 21 5,
 ⟨some 22,oi 20 21 k,none,[4,5]⟩,
 ⟨some 23,.load k agg (u 22),none,[6,4,5]⟩,
 ⟨some 24,.bin .neq ek (u 19) (u 23),none,[3,2,0,1,7,6,4,5]⟩]) <|
  qC 24 (qS [qmc 4 (.bool false)] <|
   .ret)
   (.skip))) <|
 .region false [qbi 25 .add 13 1,
  qm 13 25]
def lW(k:Nat)(agg:Bool)(ek:EqK):AFn:=⟨26,[],[.tmp 4],
 qS [qmc 4 (.bool false)] <|
 .seq (qS [qm 6 0,
  qn 7 6,
  qm 8 1,
  qn 9 8,
  qb 10 .neq 7 9] <|
 qC 10 (qS [qmc 4 (.bool false)] <|
  .ret)
  (.skip)) <|
 .seq (qS [qm 11 0,
  qn 12 11,
  qmc 13 (.int .i64 0)] <|
 .block 0 (.loop (aUe k agg ek))) <|
 qS [qmc 4 (.bool true)] <|
 .ret⟩
def aMs{α:Type}(A:AProg)(f:Nat)(enc:α->List AV)(e:α->α->Bool):Prop:=
 ∀(x y:List α) (H:List AObj),x.length<4611686018427387904->aL A f [.sl false (x.map enc),.sl false (y.map enc)] H=some (.bool (eqL e x y),H,[])
theorem pZ{α:Type}{A:AProg}{f k:Nat}{agg:Bool}{ek:EqK}{enc:α->List AV}{e:α->α->Bool}(hf:A.fn f=some (lW k agg ek))(hp:A.prim f=none)
  (hk:∀a,(enc a).length=k) (ho:∀a,dR agg (enc a)=some (asV agg (enc a))) (hbin:∀a b,kM .neq ek (asV agg (enc a)) (asV agg (enc b))=some (.bool !(e a b))):aMs A f enc e:=by
 intro x y H hx;obtain⟨v1,H1,wr1,h1,rfl,rfl,rfl⟩:=jU (args:=[.sl false (x.map enc),.sl false (y.map enc)]) (H:=H) (K:=fun v' H'' wr'=>v'=.bool (eqL e x y)/\H''=H/\wr'=[]) hf (by rw[hp];rfl) (by simp[lW]) (by rfl) (by
  simp only[lW];simp only[go_sem,seval];refine aD (fun hb => ?_) (fun hb => ?_)
  ·have hne:x.length≠y.length:=by intro h;simp[h]at hb
   simp only[go_sem,seval,aGA hne]
  ·have hxy:x.length=y.length:=by
    have:¬((x.length:Int)≠y.length):=by simpa using hb
    omega
   simp only[go_sem,seval];refine aHS (W:=[14,15,5,16,17,18,19,20,21,22,23,24,4,25,13]) (fun i ρ1 H1 wr=>wr=[]/\ρ1 13=vi i/\H1=H/\eqL e x y=eqL e (x.drop i) (y.drop i)) x.length (by rfl) (by rfl) ⟨rfl,rfl,by simp only[go_sem,seval],rfl⟩ ?_
   rintro i ρ1 H1 wr1 hil ⟨rfl,h13,rfl,hi⟩ hf;have f0:ρ1 0=.sl false (x.map enc):=by rw[hf 0 (by decide)];simp only[go_sem,seval]
   have f1:ρ1 1=.sl false (y.map enc):=by rw[hf 1 (by decide)];simp only[go_sem,seval]
   have f12:ρ1 12=vi x.length:=by rw[hf 12 (by decide)];simp only[go_sem,seval]
   simp only[go_sem,seval,f12,h13];refine aD (fun hb => ?_) (fun hb => ?_)
   ·have hlt:i<x.length:=by simpa using hb
    have hlty:i<y.length:=by omega
    simp only[go_sem,seval,h13];refine bN (keep:=[]) (by rfl) (by rfl) ?_
    simp only[go_sem,seval,f0,f1,hlt,getElem?_map_of hlt,getElem?_map_of hlty,hk,ho,hbin,List.take_of_length_le];refine aD (fun hb => ?_) (fun hb => ?_)
    ·have he:e x[i] y[i]=false:=by simpa using hb
     simp only[go_sem,seval,hi,zW hlt hlty,he]
    ·have he:e x[i] y[i]=true:=by simpa using hb
     simp only[go_sem,seval,h13];rw[dH (by omega)]
     exact⟨hlt,rfl,by rw[hi,zW hlt hlty,he,Bool.true_and]⟩
   ·have hlt:i=x.length:=by
     have:¬i<x.length:=by simpa using hb
     omega
    subst hlt;rw[List.drop_eq_nil_of_le (Nat.le_refl _),List.drop_eq_nil_of_le (by omega)]at hi
    simp only[go_sem,seval,hi,eqL])
 exact h1
abbrev aYd(k:Nat)(zs:List AV):ACode:=
 qS [qb 18 .lss 17 16] <|
 .seq (qC 18 (.skip)
  (.exit 0)) <|
 .seq (.block 1 (qS [qm 19 17,
   qi 20 15 17 k,
   qla 21 k 20,
   qq 8 (.alloc zs),
   qm 7 19,
   qs k 8 21] <|
  qS [qm 22 1,
   qm 23 7,
   qi 24 22 23 k,
   qla 25 k 24,
   qq 9 (.alloc zs),
   qs k 9 25] <|
  qS [qm 26 2,
   qla 27 k 8,
   qla 28 k 9,
   qq 29 (.callv (u 26) [(.tmp 27),(.tmp 28)]),
   qq 30 (.un .not (u 29))] <|
  qC 30 (qS [qmc 6 (.bool false)] <|
   .ret)
   (.skip))) <|
 .region false [qbi 31 .add 17 1,
  qm 17 31]
def aF3(k:Nat)(zs:List AV):AFn:=⟨32,[8,9],[.tmp 6],
 qS [qmc 6 (.bool false)] <|
 .seq (qS [qm 10 0,
  qn 11 10,
  qm 12 1,
  qn 13 12,
  qb 14 .neq 11 13] <|
 qC 14 (qS [qmc 6 (.bool false)] <|
  .ret)
  (.skip)) <|
 .seq (qS [qm 15 0,
  qn 16 15,
  qmc 17 (.int .i64 0)] <|
 .block 0 (.loop (aYd k zs))) <|
 qS [qmc 6 (.bool true)] <|
 .ret⟩
abbrev aX6:ACode:=qS [qb 18 .lss 17 16]<|.seq (qC 18 (.skip) (.exit 0))<|.seq (.block 1 (qS [qm 19 17,qi 20 15 17 1,ql 21 1 20,qm 7 19,qm 8 21]<|qS [qm 22 1,qm 23 7,qi 24 22 23 1,ql 25 1 24,qm 9 25]<|qS [qm 26 2,qm 27 8,qm 28 9,qq 29 (.callv (u 26) [(.tmp 27),(.tmp 28)]),qq 30 (.un .not (u 29))]<|qC 30 (qS [qmc 6 (.bool false)]<|.ret) (.skip)))<|.region false [qbi 31 .add 17 1,qm 17 31]
def aEk:AFn:=⟨32,[],[.tmp 6],qS [qmc 6 (.bool false)]<|.seq (qS [qm 10 0,qn 11 10,qm 12 1,qn 13 12,qb 14 .neq 11 13]<|qC 14 (qS [qmc 6 (.bool false)]<|.ret) (.skip))<|.seq (qS [qm 15 0,qn 16 15,qmc 17 (.int .i64 0)]<|.block 0 (.loop aX6))<|qS [qmc 6 (.bool true)]<|.ret⟩
def aJ2{α:Type}(A:AProg)(f:Nat)(v:α->AV)(e:α->α->Bool)(P:α->Prop):Prop:=∀(a b:α) (H:List AObj),P a->aL A f [v a,v b] H=some (.bool (e a b),H,[])
def aGB{α:Type}(A:AProg)(f h:Nat)(enc:α->List AV)(e:α->α->Bool)(P:α->Prop):Prop:=
 ∀(x y:List α) (H:List AObj),x.length<4611686018427387904->(∀a∈x,P a)->aL A f [.sl false (x.map enc),.sl false (y.map enc),.fn h [] []] H=some (.bool (eqL e x y),H,[])
theorem aOu{α:Type}{A:AProg}{f h k:Nat}{zs:List AV}{enc:α->List AV}{e:α->α->Bool}{P:α->Prop}(hf:A.fn f=some (aF3 k zs))(hp:A.prim f=none)(hz:zs.length=k)
  (hk:∀a,(enc a).length=k) (hd:∀a,jE (enc a)=true) (hc:aJ2 A h (fun a=>.agg (enc a)) e P):aGB A f h enc e P:=by
 intro x y H hx hP;obtain⟨v1,H1,wr1,h1,rfl,rfl,rfl⟩:=jU (args:=[.sl false (x.map enc),.sl false (y.map enc),.fn h [] []]) (H:=H) (K:=fun v' H'' wr'=>v'=.bool (eqL e x y)/\H''=H/\wr'=[]) hf (by rw[hp];rfl) (by simp[aF3]) (by rfl) (by
  simp only[aF3];simp only[go_sem,seval];refine aD (fun hb => ?_) (fun hb => ?_)
  ·have hne:x.length≠y.length:=by intro h;simp[h]at hb
   simp only[go_sem,seval,aGA hne]
  ·have hxy:x.length=y.length:=by
    have:¬((x.length:Int)≠y.length):=by simpa using hb
    omega
   simp only[go_sem,seval];refine aHS (W:=[18,19,20,21,8,7,22,23,24,25,9,26,27,28,29,30,6,31,17]) (fun i ρ1 H1 wr=>wr=[]/\ρ1 17=vi i/\(∃o1 o2,H1=H++[o1,o2])/\eqL e x y=eqL e (x.drop i) (y.drop i)) x.length (by rfl) (by rfl) ⟨rfl,by simp only[go_sem,seval],⟨_,_,rfl⟩,rfl⟩ ?_
   rintro i ρ1 H1 wr1 hil ⟨rfl,h17,⟨o1,o2,rfl⟩,hi⟩ hf;have f1:ρ1 1=.sl false (y.map enc):=by rw[hf 1 (by decide)];simp only[go_sem,seval]
   have f2:ρ1 2=.fn h [] []:=by rw[hf 2 (by decide)];simp only[go_sem,seval]
   have f15:ρ1 15=.sl false (x.map enc):=by rw[hf 15 (by decide)];simp only[go_sem,seval]
   have f16:ρ1 16=vi x.length:=by rw[hf 16 (by decide)];simp only[go_sem,seval]
   simp only[go_sem,seval,f16,h17];refine aD (fun hb => ?_) (fun hb => ?_)
   ·have hlt:i<x.length:=by simpa using hb
    have hlty:i<y.length:=by omega
    have hcc:=fun H=>hc x[i] y[i] H (hP _ (List.getElem_mem hlt));have htk:∀a,List.take k (enc a)=enc a:=fun a=>List.take_of_length_le (by rw[hk a];exact Nat.le_refl _)
    have htk2:List.drop k zs=[]:=List.drop_of_length_le (by rw[hz];exact Nat.le_refl _)
    simp only[go_sem,seval,f1,f2,f15,h17,hlt,getElem?_map_of hlt,getElem?_map_of hlty,hk,hz,htk,htk2,aY (hd _),aM (hd _),bY (hd _),hcc];refine aD (fun hb => ?_) (fun hb => ?_)
    ·have he:e x[i] y[i]=false:=by simpa using hb
     simp only[go_sem,seval,hi,zW hlt hlty,he]
    ·have he:e x[i] y[i]=true:=by simpa using hb
     simp only[go_sem,seval,h17];rw[dH (by omega)]
     exact⟨hlt,rfl,⟨_,_,rfl⟩,by rw[hi,zW hlt hlty,he,Bool.true_and]⟩
   ·have hlt:i=x.length:=by
     have:¬i<x.length:=by simpa using hb
     omega
    subst hlt;rw[List.drop_eq_nil_of_le (Nat.le_refl _),List.drop_eq_nil_of_le (by omega)]at hi
    simp only[go_sem,seval,hi,eqL])
 exact h1
theorem aMt{α:Type}{A:AProg}{f h:Nat}{v:α->AV}{enc:α->List AV}{e:α->α->Bool}{P:α->Prop}(hf:A.fn f=some (aEk))(hp:A.prim f=none)
  (hv:∀a,enc a=[v a]) (hd:∀a,(v a).data=true) (hd2:∀a,(v a).cellOk=true) (hc:aJ2 A h v e P):aGB A f h enc e P:=by
 intro x y H hx hP;obtain⟨v1,H1,wr1,h1,rfl,rfl,rfl⟩:=jU (args:=[.sl false (x.map enc),.sl false (y.map enc),.fn h [] []]) (H:=H) (K:=fun v' H'' wr'=>v'=.bool (eqL e x y)/\H''=H/\wr'=[]) hf (by rw[hp];rfl) (by simp[aEk]) (by rfl) (by
  simp only[aEk];simp only[go_sem,seval];refine aD (fun hb => ?_) (fun hb => ?_)
  ·have hne:x.length≠y.length:=by intro h;simp[h]at hb
   simp only[go_sem,seval,aGA hne]
  ·have hxy:x.length=y.length:=by
    have:¬((x.length:Int)≠y.length):=by simpa using hb
    omega
   simp only[go_sem,seval];refine aHS (W:=[18,19,20,21,7,8,22,23,24,25,9,26,27,28,29,30,6,31,17]) (fun i ρ1 H1 wr=>wr=[]/\ρ1 17=vi i/\H1=H/\eqL e x y=eqL e (x.drop i) (y.drop i)) x.length (by rfl) (by rfl) ⟨rfl,by simp only[go_sem,seval],by simp only[go_sem,seval],rfl⟩ ?_
   rintro i ρ1 H1 wr1 hil ⟨rfl,h17,rfl,hi⟩ hf;have f1:ρ1 1=.sl false (y.map enc):=by rw[hf 1 (by decide)];simp only[go_sem,seval]
   have f2:ρ1 2=.fn h [] []:=by rw[hf 2 (by decide)];simp only[go_sem,seval]
   have f15:ρ1 15=.sl false (x.map enc):=by rw[hf 15 (by decide)];simp only[go_sem,seval]
   have f16:ρ1 16=vi x.length:=by rw[hf 16 (by decide)];simp only[go_sem,seval]
   simp only[go_sem,seval,f16,h17];refine aD (fun hb => ?_) (fun hb => ?_)
   ·have hlt:i<x.length:=by simpa using hb
    have hlty:i<y.length:=by omega
    have hcc:=fun H=>hc x[i] y[i] H (hP _ (List.getElem_mem hlt));have hst:∀a,(v a).strip=v a:=fun a=>by
     have h1:=sO (hd a);cases hva:v a<;>first | rfl | skip
     all_goals first | (rw[hva]at h1;exact h1)|(have:=hd2 a;rw[hva]at this;cases this)
    have hle:∀a (H:List AObj),lend H (v a)=some (v a,[]):=fun a H=>by
     have h1:=vR (H:=H) (hd a) (hd2 a);cases hva:v a<;>first | rfl | skip
     all_goals first | (rw[hva]at h1;exact h1)|(have:=hd2 a;rw[hva]at this;cases this)
    simp only[go_sem,seval,f1,f2,f15,h17,hlt,getElem?_map_of hlt,getElem?_map_of hlty,hv,hst,hle,hcc];refine aD (fun hb => ?_) (fun hb => ?_)
    ·have he:e x[i] y[i]=false:=by simpa using hb
     simp only[go_sem,seval,hi,zW hlt hlty,he]
    ·have he:e x[i] y[i]=true:=by simpa using hb
     simp only[go_sem,seval,h17];rw[dH (by omega)]
     exact⟨hlt,rfl,by rw[hi,zW hlt hlty,he,Bool.true_and]⟩
   ·have hlt:i=x.length:=by
     have:¬i<x.length:=by simpa using hb
     omega
    subst hlt;rw[List.drop_eq_nil_of_le (Nat.le_refl _),List.drop_eq_nil_of_le (by omega)]at hi
    simp only[go_sem,seval,hi,eqL])
 exact h1
end Go.AM
end
