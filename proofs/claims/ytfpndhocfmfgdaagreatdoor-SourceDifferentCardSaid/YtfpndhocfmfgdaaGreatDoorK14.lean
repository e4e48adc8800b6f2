/- Part 14: lemmas for the last text. -/
import Derived.Test.YtfpndhocfmfgdaaGreatDoorK13
import Derived.Lib.Bytealg
set_option linter.unusedVariables false
set_option linter.unusedSimpArgs false
section
namespace Go.AM
open Go
section
variable {P:Program}{glob:Glob}{A:AProg}
def aJY(P:Program)(glob:Glob)(f:Nat)(fn:AFn):Prop:=
 ∃F body frz nl ty rs,P.funcs[f]? = some F/\(F.name == "runtime.NumGoroutine")=false/\F.body=some body /\
  fn.body=mY P { glob with nl:=nl,typed:=ty,refs:=rs } frz body/\fn.ntmps=F.ntmps/\aKy P F.results.toList=some fn.results
def aTg(P:Program)(glob:Glob)(A:AProg)(f:Nat):Prop:=
 ∀n,(∀m,m<n->nY P glob (cT A m))->jC P glob fun f' args H=>if f'=f then cT A n f args H else none
structure Good(P:Program)(glob:Glob)(A:AProg):Prop where
 mixed:P.follows .mixedOrders=true
 noYF:A.fn YF=none/\A.prim YF=none
 fn:∀f fn,A.fn f=some fn->aJY P glob f fn∨aTg P glob A f
 prim:∀f p,A.prim f=some p->jC P glob fun f' args H=>if f'=f then (p args H).map (dA H)else none
def AExit.real:AExit->Exit
 |.normal=>.normal
 |.exit id=>.exit id
 |.ret=>.ret
def aF1(g:G)(n0:Nat)(ds d:List Deferred):Prop:=
 ∃bs:List Nat,ds=bs.map (fun b=>⟨.collected b,#[]⟩)++d/\(∀b∈bs,n0<=b/\g.whole b=some (.deferred (some [])))/\bs.Nodup
theorem aF1.refl{g:G}{n0:Nat}{d:List Deferred}:aF1 g n0 d d:=⟨[],rfl,fun b h=>by simp at h,List.nodup_nil⟩
theorem aF1.trans{g1 g2:G}{n0 n1:Nat}{d1 d2 d:List Deferred}(h1:aF1 g1 n0 d1 d)(hle:g1.le g2)(hn:n0<=n1)(hlt:∀b x,g1.whole b=some x->b<n1)(h2:aF1 g2 n1 d2 d1):aF1 g2 n0 d2 d:=by
 obtain⟨b1,e1,f1,u1⟩:=h1;obtain⟨b2,e2,f2,u2⟩:=h2;refine⟨b2++b1,by rw[e2,e1,List.map_append,List.append_assoc],fun b hb => ?_,List.nodup_append.2 ⟨u2,u1,fun x hx y hy e => ?_⟩⟩
 ·rcases List.mem_append.1 hb with hb | hb
  ·exact⟨Nat.le_trans hn (f2 b hb).1,(f2 b hb).2⟩
  ·exact⟨(f1 b hb).1,hle.whole _ _ (f1 b hb).2⟩
 ·subst e;have:=(f2 x hx).1;have:=hlt x _ (f1 x hy).2;omega
def aE9(P:Program)(glob:Glob)(base:Nat)(g:G)(H:List AObj)(w:World)(d:List Deferred)(s':ASt)(a':Act)(w':World):Prop:=
 ∃g' W,Step g H w g' s'.H w' W/\(∀o∈W,o<base->o∈s'.wr)/\aT g' s'.ρ a'.tmps/\aF1 g' w.heap.size a'.defers d/\bI P glob g'
theorem yE.to{base:Nat}{g:G}{H:List AObj}{w:World}{d:List Deferred}{s':ASt}{a':Act}{w':World}(h:yE P glob base g H w d s' a' w'):aE9 P glob base g H w d s' a' w':=by
 obtain⟨g',W,h1,h2,h3,h4,h5⟩:=h;exact⟨g',W,h1,h2,h3,h4 ▸ aF1.refl,h5⟩
theorem aE9.refl{base:Nat}{g:G}{w:World}{a:Act}{s:ASt}(hw:WF g s.H w)(hs:aT g s.ρ a.tmps)(hg:bI P glob g):aE9 P glob base g s.H w a.defers s a w:=(yE.refl hw hs hg).to
theorem aE9.join{base:Nat}{g g1:G}{H:List AObj}{w:World}{d:List Deferred}{s1 s2:ASt}{a1 a2:Act}{w1 w2:World}{W:List Nat}
  (h1:Step g H w g1 s1.H w1 W) (h2:∀o∈W,o<base->o∈s1.wr) (h4:aF1 g1 w.heap.size a1.defers d) (hwr:∀o∈s1.wr,o∈s2.wr)
  (h:aE9 P glob base g1 s1.H w1 a1.defers s2 a2 w2):aE9 P glob base g H w d s2 a2 w2:=by
 obtain⟨g2,W',i1,i2,i3,i4,i5⟩:=h;refine⟨g2,W++W',h1.trans i1,fun o ho hb => ?_,i3,h4.trans i1.le h1.frame.1 (fun b x hx=>h1.wf.whole.lt hx) i4,i5⟩;rcases List.mem_append.1 ho with ho | ho
 ·exact hwr o (h2 o ho hb)
 ·exact i2 o ho hb
theorem aHE{w:World}{b off:Nat}{x:Value}(h:w.cell? ⟨b,off,none⟩=some x):w.setCell ⟨b,off,none⟩ x=w:=by
 have key:(w.heap.modify b fun
   |.cells c elem frozen=>.cells (c.setIfInBounds off x) elem frozen
   |o=>o)=w.heap:=by
  apply Array.ext_getElem?;intro i;rw[Array.getElem?_modify]
  by_cases e:b=i
  ·subst e;rw[if_pos rfl];simp only[World.cell?]at h;cases hb:w.heap[b]? with
   |none=>rfl
   |some o=>
    rw[hb]at h;cases o with
    |cells c elem fz=>
     simp at h;have hlt:=(Array.getElem?_eq_some_iff.1 h).1;have hx:=(Array.getElem?_eq_some_iff.1 h).2;simp only[Option.map_some,Option.some.injEq,Obj.cells.injEq,and_self,and_true];apply Array.ext_getElem?;intro j
     by_cases ej:off=j
     ·subst ej;simp[hlt,hx]
     ·simp[ej]
    |_=>rfl
  ·rw[if_neg e]
 simp only[World.setCell,Option.isSome_none,Bool.false_eq_true,if_false];exact congrArg (fun h=>{ w with heap:=h }) key
theorem aBq{w:World}{b:Nat}:∀(vs:List Value) (off:Nat),(∀(j:Nat) v,vs[j]? = some v->w.cell? ⟨b,off+j,none⟩=some v)->w.setCells b off vs=w
 | [],_,_=>rfl
 |v::vs,off,h=>by
  have h0:=h 0 v rfl;simp only[Nat.add_zero]at h0;simp only[World.setCells];rw[aHE h0];exact aBq vs (off+1) fun j x hx=>by
   have:=h (j+1) x (by simpa using hx)
   rwa [show off+(j+1)=off+1+j by omega]at this
theorem yL{c:Ctx}{w:World}{a:Act}:∀(ts:List (Nat×Nat)) (s s':ASt),nD c s ts=some s'->∀(g:G),WF g s.H w->bI P glob g->aT g s.ρ a.tmps->yE P glob c.base g s.H w a.defers s' a w
 | [],s,s',h,g,hw,hg,hs=>by simp only[nD,Option.some.injEq]at h;subst h;exact .refl hw hs hg
 | (0,t)::ts,s,s',h,g,hw,hg,hs=>by
  unfold nD at h
  split at h
  ·rename_i v H' l hf;obtain⟨g1,h1,h2⟩:=aFq hw hf (hs.2 t);have hs1:aT g1 (s.ρ.set t v) a.tmps:=by
    refine⟨by simpa using hs.1,fun t' => ?_⟩
    by_cases e:t=t'
    ·subst e
     by_cases hlt:t<s.ρ.length
     ·simpa [hlt]using h2
     ·have:(s.ρ.set t v)[t]? = none:=List.getElem?_eq_none (by simp;omega)
      rw[this];exact .undef _
    ·rw[getElem?_set_ne' _ _ e];exact (hs.2 t').mono h1.le
   have h3:=yL ts _ s' h g1 h1.wf (hg.mono h1.le) hs1;obtain⟨g2,W,i1,i2,i3,i4,i5⟩:=h3;refine⟨g2,l++W,h1.trans i1,fun o ho hb => ?_,i3,i4,i5⟩;rcases List.mem_append.1 ho with ho | ho
   ·exact (sA ts _ s' h).2.1 o ((bW _ _ _).2 o ho hb)
   ·exact i2 o ho hb
  ·cases h
 | (k+1,t)::ts,s,s',h,g,hw,hg,hs=>by
  unfold nD at h
  split at h
  ·exact yL ts _ s' h g hw hg hs
  split at h
  ·rename_i H' l hk;obtain⟨g1,h1⟩:=aGk hw hk (hs.2 t);have h3:=yL ts _ s' h g1 h1.wf (hg.mono h1.le) (hs.mono h1.le);obtain⟨g2,W,i1,i2,i3,i4,i5⟩:=h3;refine⟨g2,l++W,h1.trans i1,fun o ho hb => ?_,i3,i4,i5⟩;rcases List.mem_append.1 ho with ho | ho
   ·exact (sA ts _ s' h).2.1 o ((bW _ _ _).2 o ho hb)
   ·exact i2 o ho hb
  split at h
  ·rename_i cs hr
   split at h
   ·rename_i cs' H' l hf
    split at h
    ·rename_i H2 l2 hst;obtain⟨b,off,vs,e,hlen,hl,hc⟩:=dT hw hr (hs.2 t);obtain⟨g1,h1,h2⟩:=aFq hw hf (fO.agg (vs:=vs.toArray) (by simpa using hl))
     obtain⟨ys,e1,hl1⟩:=h2.agg_list;cases e1;have hl1':fO g1 cs' vs:=by simpa using hl1
     obtain⟨b',off',e',_,_,h3⟩:=eV h1.wf hst ((hs.2 t).mono h1.le) hl1';rw[e]at e';cases e';have hsame:w.setCells b off vs=w:=aBq vs off fun j v hv=>hc j v hv;rw[hsame]at h3;have h4:=yL ts _ s' h g1 h3.wf (hg.mono h1.le) (hs.mono h1.le);obtain⟨g2,W,i1,i2,i3,i4,i5⟩:=h4;refine⟨g2,(l++l2)++W,(h1.trans h3).trans i1,fun o ho hb => ?_,i3,i4,i5⟩;rcases List.mem_append.1 ho with ho | ho
     ·exact (sA ts _ s' h).2.1 o ((bW _ _ _).2 o ho hb)
     ·exact i2 o ho hb
    ·cases h
   ·cases h
  ·cases h
theorem WF.more{g:G}{H:List AObj}{w:World}(h:WF g H w)(k:Nat):Step g H w g (H++List.replicate k (.gone 0)) w []:=by
 have hat:∀o l x,Backed g (H++List.replicate k (.gone 0)) o l x->Backed g H o l x:=fun o l x hb=>
  ⟨by rw[<- List.getElem?_append_left (h.lt o l hb.loc)];exact hb.at_,hb.alive,hb.loc,hb.st⟩
 refine⟨G.le.refl g,⟨h.perm,fun o l hl=>by have:=h.lt o l hl;simp;omega,h.blk,fun o x l hx hl => ?_,fun o l x hb=>h.obj o l x (hat o l x hb),fun o l x hb=>h.priv o l x (hat o l x hb),
  fun o o' l l' x x' h1 h2=>h.inj o o' l l' x x' (hat _ _ _ h1) (hat _ _ _ h2),h.whole.keep rfl rfl ⟨rfl,rfl⟩ (fun _ _ _=>rfl) fun o l y hl=>.inr ⟨o,l,y,hat _ _ _ hl,rfl⟩⟩,aBV.refl _ _ _,fun o ho _=>List.getElem?_append_left ho,by simp,fun _ l' hl=>.inr ⟨l',hl,rfl⟩,fun _ _ _=>rfl⟩
 rw[List.getElem?_append_left (h.lt o l hl)]at hx;exact h.st o x l hx hl
def aC6(r:Option Nat)(c:Ctx)(g:G):Prop:=∀l,r=some l->∃o v,c.rd=some (o,v)/\VRel g (.yld o v) (.func (.yield l) #[] #[])
theorem aC6.mono{r:Option Nat}{c:Ctx}{g g':G}(h:aC6 r c g)(hg:g.le g'):aC6 r c g':=fun l e=>let ⟨o,v,h1,h2⟩:=h l e;⟨o,v,h1,h2.mono hg⟩
theorem uI{g:G}{H:List AObj}{w:World}(hw:WF g H w){o v:Nat}{l:Nat}(hx:VRel g (.yld o v) (.func (.yield l) #[] #[])){base:Nat}{sites ps:List Nat}{body:ACode}{ρ:List AV}{busy:Bool}{pend:Option AExit}
  (ho:H[o]? = some (.rnd v base sites ps body ρ busy pend)):∃lc,Backed g H o lc (.rnd v base sites ps body ρ busy pend)/\lc.b=l:=by
 cases hx with
 |yld _ _ lc r hl hv h=>
  have hst:lc.st=v:=by have:=hw.st o _ lc ho hl;simp only[AObj.ver]at this;omega
  have hb:Backed g H o lc (.rnd v base sites ps body ρ busy pend):=⟨ho,rfl,hl,hst⟩;obtain⟨h0,_⟩:=hw.obj o lc _ hb;exact⟨lc,hb,(h hst h0).symm⟩
def aM8(P:Program)(glob:Glob)(A:AProg)(n:Nat):Prop:=
 ∀(nl:Bool) (ty rs:List Nat) (c:Ctx) (frz:Nat->List (Nat×Nat)) (x:Code) (s:ASt) e s',cO A n c (mY P { glob with nl:=nl,typed:=ty,refs:=rs } frz x) s=some (e,s')->∀(g:G) (a:Act) (w:World),WF g s.H w->bI P glob g->aT g s.ρ a.tmps ->
  ∀Q:Exit->Act->World->Prop,(∀a' w',aE9 P glob c.base g s.H w a.defers s' a' w'->Q e.real a' w')->∀r:Option Nat,aC6 r c g->x.wpIn (fr r) 0 P Q a w/\∀b,x=.loop b->Code.roundsIn (fr r) 0 P b Q n a w
theorem aIT(A0:Good P glob A){n:Nat}(hcode:aM8 P glob A n):aLJ P glob (cT A n):=by
 intro o v as H av H' wr h g w l xs hw hg hy hx;rcases sB h with⟨p,v1,hp,hv,hr⟩ | ⟨fn,s',e,r',hf,_⟩ | ⟨_,hr⟩
 ·rw[A0.noYF.2]at hp;cases hp
 ·rw[A0.noYF.1]at hf;cases hf
 obtain⟨o',v',as',base,sites,ps,asg,body,ρ,s0,b1,t1,p1,c1,r1,e,s,e1,hH,hlen,hev0,hs0,hev,b2,s2,p2,c2,r2,hs2,hr'⟩:=nQ hr;simp only[List.cons.injEq,AV.yld.injEq,true_and]at e1;obtain⟨⟨rfl,rfl⟩,rfl⟩:=e1;simp only[Prod.mk.injEq]at hr';obtain⟨rfl,rfl,rfl⟩:=hr';obtain⟨lc,hb,rfl⟩:=uI hw hy hH;obtain⟨h0,rec,hheap,hst,hpe,hps,⟨ca,cb,hcab,hca,hcb⟩,_,hsz,htm⟩:=hw.obj o lc _ hb;simp only[ACode.seq.injEq]at hcab;obtain⟨rfl,rfl⟩:=hcab;have hxl:=hx.1;have hpsl:rec.params.size=xs.length:=by rw[<- Array.length_toList,hps];omega
 refine⟨rec,hheap,hpsl, ?_⟩;obtain⟨nlA,tyA,rsA,frzA,rfl⟩:=(hg.code asg rec.assign).1 hca;obtain⟨nlB,tyB,rsB,frzB,rfl⟩:=(hg.code body rec.body).1 hcb;have hrd:(Ctx.mk base (sites++[YF+o,YF+v])).rd=some (o,v):=by simp[Ctx.rd]
 have hround0:aC6 (some lc.b) ⟨base,sites++[YF+o,YF+v]⟩ g:=fun l' e=>by
  cases e;exact⟨o,v,hrd,hy⟩
 have hslots:aT g (dQ ρ ps as) ((rec.params.zip xs.toArray).foldl (fun tmps (t,a)=>tmps.setIfInBounds t a) rec.tmps):=by
  have h1:=aCT (g:=g) ps as xs (tmps:=rec.tmps) ⟨hsz,htm⟩ hx hlen;rw[<- Array.foldl_toList,Array.toList_zip,hps];exact h1
 refine roundIn_of_wpIn (F:=Fence.wide) trivial ?_;refine (hcode nlA tyA rsA _ frzA rec.assign _ .normal s0 hev0 g { tmps:=_,defers:=[] } w hw hg hslots _ (fun a1 w1 hreach0 => ?_) (some lc.b) hround0).1;obtain⟨g1,W1,j1,j2,j3,j4,j5⟩:=hreach0;obtain⟨lc1,hb1,hlb1⟩:=uI j1.wf (hy.mono j1.le) hs0;obtain⟨z0,rec1,zheap,zst,zpe,zps,zas,_,zsz,ztm⟩:=j1.wf.obj o lc1 _ hb1;have s1:=Step.put (x':=.rnd v b1 t1 p1 c1 r1 true none) j1.wf hb1 rfl rfl (.loop { rec1 with state:=.busy }) fun hle=>⟨z0,{ rec1 with state:=.busy },World.putObj_heap_same (j1.wf.blk o lc1 hb1.loc),by simp,zpe,zps,zas,trivial,zsz,fun t=>(ztm t).mono hle⟩
 rw[hlb1]at zheap s1;refine⟨_,run_beginRound zheap (by simpa using zst), ?_⟩
 have hround:aC6 (some lc.b) ⟨base,sites++[YF+o,YF+v]⟩ (g1.setObj o lc1):=fun l' e=>by
  cases e;exact⟨o,v,hrd,(hy.mono j1.le).mono s1.le⟩
 refine (hcode nlB tyB rsB _ frzB rec.body _ e s hev _ a1 _ s1.wf (j5.mono s1.le) (j3.mono s1.le) (roundPost P lc.b _) (fun a' w' hreach => ?_) (some lc.b) hround).1;obtain⟨g2,W,i1,i2,i3,i4,i5⟩:=hreach;obtain⟨lc2,hb2,hlb⟩:=uI i1.wf (((hy.mono j1.le).mono s1.le).mono i1.le) hs2;obtain⟨q0,rec2,qheap,qst,qpe,qps,qas,qcd,qsz,qtm⟩:=i1.wf.obj o lc2 _ hb2;rw[hlb]at qheap;have fin:∀(jump:Option Code) (pend:Option AExit),jump=pend.map aGf->(decide (e=.normal))=jump.isNone->pend=(if e=.normal then none else some e) ->
   ∃v' w'',(Instr.endRound lc.b jump).run P w'=.ok v' w''/\∃g',Step g H w g' (s.H.set o (.rnd v b2 s2 p2 c2 r2 false (if e=.normal then none else some e))) w'' (List.range' base (H.length - base)++(o::s.wr))/\VRel g' (.bool (decide (e=.normal))) v':=by
  intro jump pend hj hd hp;refine⟨_,_,run_endRound jump qheap, ?_⟩;have s3:=Step.put (x':=.rnd v b2 s2 p2 c2 r2 false pend) i1.wf hb2 rfl rfl (.loop { rec2 with state:=if jump.isNone then .ready else .done,pending:=jump }) fun hle=>
   ⟨q0,{ rec2 with state:=if jump.isNone then .ready else .done,pending:=jump },World.putObj_heap_same (i1.wf.blk o lc2 hb2.loc),by subst hj;cases pend<;>simp,hj,qps,qas,qcd,qsz,fun t=>(qtm t).mono hle⟩
  rw[hlb]at s3;rw[<- hp];refine⟨_,(((j1.trans s1).trans i1).trans s3).narrow hw.lt fun q hq hlt => ?_,by rw[hd];exact .bool _⟩
  simp only[List.mem_append,List.mem_cons,List.not_mem_nil,or_false]at hq;simp only[List.mem_append,List.mem_cons,List.mem_range'_1];rcases hq with ((hq | rfl) | hq) | rfl
  ·by_cases hlb':q<base
   ·exact .inr (.inr ((eX _ _ _ _ _ _ hev).2.1 q (j2 q hq hlb')))
   ·exact .inl ⟨by omega,by omega⟩
  ·exact .inr (.inl rfl)
  ·by_cases hlb':q<base
   ·exact .inr (.inr (i2 q hq hlb'))
   ·exact .inl ⟨by omega,by omega⟩
  ·exact .inr (.inl rfl)
 cases e with
 |normal=>exact fin none none rfl rfl rfl
 |ret=>exact fin (some .ret) (some .ret) rfl rfl rfl
 |exit id=>exact fin (some (.exit id)) (some (.exit id)) rfl rfl rfl
theorem aC7(A0:Good P glob A):∀(n:Nat),(∀m,m<=n->aM8 P glob A m)->nY P glob (cT A n):=by
 intro n
 induction n using Nat.strongRecOn with
 |_ n ihc=>
 intro hall;have hcode:=hall n (Nat.le_refl _);refine⟨?_,aIT A0 hcode⟩;intro f args H av H' wr h g w xs hw hg hx;rcases sB h with⟨p,v1,hp,hv,hr⟩ | ⟨fn,s',e,r',hf,he,hee,hfin,hr,_⟩ | ⟨_,hrr⟩;rotate_left 2
 ·obtain⟨o,v,as,_,_,_,_,_,_,_,_,_,_,_,_,_,_,rfl,_⟩:=nQ hrr;obtain⟨y,hy⟩:∃y,xs[0]? = some y:=⟨xs[0]'(by have:=hx.1;simp at this;omega),List.getElem?_eq_getElem _⟩
  have:=hx.2 0 _ y rfl hy;cases this
 ·cases hr;exact A0.prim f p hp f args H _ _ _ (by simp[hv];rfl) g w xs hw hg hx
 ·rcases A0.fn f fn hf with hcomp | halt;rotate_left
  ·exact halt n (fun m hm=>ihc m hm fun k hk=>hall k (by omega)) f args H av H' wr (by simpa using h) g w xs hw hg hx
  obtain⟨F,body,frz,nl,ty,rs,e1,e2,e3,e4,e5,e6⟩:=hcomp;refine⟨⟨F,e1,e2,by simp[e3]⟩,callsIn_wide.1 (callsIn_of_wp_marks (F:=Fence.wide) (n:=0) e1 e3 trivial ?_)⟩
  rw[e4]at he;have hst:=hw.more fn.sites.length;refine (hcode nl ty rs _ frz body _ e s' he g _ w hst.wf hg ?_ _ (fun a' w' hreach => ?_) none (fun l e=>by cases e)).1
  ·
   have hlen:=hx.1;refine⟨by simp[mK,hlen,e5],fun t => ?_⟩
   simp only[mK]
   by_cases ht:t<args.length
   ·rw[List.getElem?_append_left ht,List.getElem?_eq_getElem ht];have h1:(xs.toArray++Array.replicate (F.ntmps - xs.toArray.size) Go.undef).getD t Go.undef=xs[t]'(by omega):=by
     simp[Array.getD_eq_getD_getElem?,Array.getElem?_append,show t<xs.length by omega]
    rw[h1];exact hx.2 t _ _ (List.getElem?_eq_getElem ht) (List.getElem?_eq_getElem (by omega))
   ·rw[List.getElem?_append_right (by omega),List.getElem?_replicate]
    split<;>exact .undef _
  ·obtain⟨g0,W,j1,i2,j3,⟨bs,hbs1,hbs2,hbs3⟩,j5⟩:=hreach;have hs0:Step g H w g0 s'.H w' W:=by simpa using hst.trans j1
   have hbsW:∀b∈bs,g0.whole b=some (.deferred (some [])):=fun b hb=>(hbs2 b hb).2;have hs1:=Step.marks hw hs0 hbs2;have i1:=hs1;have i3:aT (g0.dropW bs) s'.ρ a'.tmps:=⟨j3.1,fun t=>(j3.2 t).dropW hbsW⟩;generalize hg1:g0.dropW bs=g1 at hs1 i1 i3;have hleave:(∃v,(results F a'.tmps).run P (oA w' bs)=.ok v (oA w' bs)/\(match Ending.returned v with | .returned v=>∃g',Step g H w g' H' (oA w' bs) wr/\pD g' H' w.heap.size (oA w' bs) av v | _=>False)) ->
     LeavesInM Fence.wide 0 P F a'.tmps (fun e w'=>match e with | .returned v=>∃g',Step g H w g' H' w' wr/\pD g' H' w.heap.size w' av v | _=>False) a'.defers .returning w':=fun hh=>by
    rw[hbs1,List.append_nil];exact aCS bs w' hbs3 (fun b hb=>(hs0.wf.whole.blocks b _ (hbsW b hb)).1) hh
   generalize hw2:oA w' bs=w2 at hs1 i1 hleave;obtain⟨vs,hvs,hcase⟩:=aCK hfin;obtain⟨ys,hy1,hy2⟩:=uD (P:=P) i1.wf i3 F.results.toList fn.results vs e6 hvs;have hrun:=aIO hy1;have hpost:∃g2,Step g H w g2 r'.2.1 w2 r'.2.2/\pD g2 r'.2.1 w.heap.size w2 r'.1 (aNW ys):=by
    rcases hcase with⟨v,v',H2,l,rfl,hfv,rfl⟩ | ⟨vs',H2,l,hne,hfv,rfl⟩
    ·have hl:ys.length=1:=by have:=hy2.1;simpa using this.symm
     obtain⟨y,rfl⟩:=List.length_eq_one_iff.1 hl;have hnew:∀o l,H.length<=o->g1.obj o=some l->w.heap.size<=l.b:=fun o l ho hl=>by
      rcases hs1.track o l hl with h1 | ⟨l0,h0,_⟩
      ·exact h1
      ·have:=hw.lt o l0 h0;omega
     obtain⟨g2,j1,j2⟩:=aFw hnew i1.wf hfv (hy2.2 0 v y rfl rfl);refine⟨g2,(hs1.trans j1).narrow hw.lt fun o ho hb => ?_,j2⟩;rcases List.mem_append.1 ho with ho | ho
     ·exact (bW _ _ _).1 o (i2 o ho hb)
     ·exact (bW _ _ _).2 o ho hb
    ·obtain⟨g2,j1,j2⟩:=aDY i1.wf hfv hy2;have ht:aNW ys=.tuple ys.toArray:=by
      have:=hy2.1;cases ys with
      |nil=>rfl
      |cons y r=>cases r with
       |nil=>simp at this;omega
       |cons z r=>rfl
     rw[ht];refine⟨g2,(hs1.trans j1).narrow hw.lt fun o ho hb => ?_, ?_⟩
     ·rcases List.mem_append.1 ho with ho | ho
      ·exact (bW _ _ _).1 o (i2 o ho hb)
      ·exact (bW _ _ _).2 o ho hb
     ·exact VRel.tup vs' ys.toArray (by simpa using j2.1) fun i a x ha hx=>j2.2 i a x ha (by simpa using hx)
   have hfinal:∃g2,Step g H w g2 H' w2 wr/\pD g2 H' w.heap.size w2 av (aNW ys):=by
    obtain⟨g2,k1,k2⟩:=hpost;obtain⟨v3,H3,wr3⟩:=r';simp only[cD]at hr
    split at hr
    ·rename_i hcut;simp only[Bool.and_eq_true]at hcut;cases hr;refine⟨g2.cut H.length,Step.cut hw k1 fun o ho x hx => ?_,pD.cut k2 hcut.1⟩;have:=List.all_eq_true.1 hcut.2 o ho;rw[hx]at this;exact this
    ·cases hr;exact⟨g2,k1,k2⟩
   have hb:=hleave ⟨_,hrun,hfinal⟩;rcases hee with rfl | rfl
   ·exact hb
   ·exact hb
theorem aKO(A0:Good P glob A)(n:Nat):aM8 P glob A n:=by
 induction n using Nat.strongRecOn with
 |_ n ihs=>
 cases n with
 |zero=>exact fun nl ty rs c frz x s e s' h=>by rw[gF]at h;cases h
 |succ n=>
  have ih:=ihs n (Nat.lt_succ_self n);have hcall:=aC7 A0 n fun k hk=>ihs k (by omega)
  have hfr:rZ (cT A n):=aHs n;intro nl ty rs c frz x s e s' h g a w hw hg hs Q hQ r hR;have region:∀(m:Nat) (id:Nat) (ops:Array Oper) (d:Bool) (s s':ASt) (g:G) (e:AExit),nY P glob (cT A m)->WF g s.H w->aT g s.ρ a.tmps->bI P glob g->cO A (m+1) c (.region d (aQ1 d (aBS P { glob with nl:=nl,typed:=ty,refs:=rs } ops.toList ops.toList []))) s=some (e,s') ->
    ∀Q:Exit->Act->World->Prop,(∀a' w',aE9 P glob c.base g s.H w a.defers s' a' w'->Q e.real a' w')->(Code.region id ops d).wpIn (fr r) 0 P Q a w:=by
   intro m id ops d s s' g e hc hw hs hg h Q hQ;rw[iA]at h
   split at h
   ·rename_i s1 hr;cases h;cases d with
    |true=>exact aKL (glob:={ glob with nl:=nl,typed:=ty,refs:=rs }) A0.mixed hc (aHs m) hr hw hg hs fun a' w' h0=>hQ a' w' (yE.to h0)
    |false=>
     simp only[hG,Bool.false_and,Bool.false_eq_true,if_false,aDR]at hr;exact aHk (glob:={ glob with nl:=nl,typed:=ty,refs:=rs }) hc hr hw hg hs fun a' w' h0=>hQ a' w' (yE.to h0)
   ·cases h
  have noloop:∀{y:Code},(∀b,y≠.loop b)->y.wpIn (fr r) 0 P Q a w->y.wpIn (fr r) 0 P Q a w/\∀b,y=.loop b->Code.roundsIn (fr r) 0 P b Q (n+1) a w:=fun hne hwp=>⟨hwp,fun b hb=>absurd hb (hne b)⟩;cases x with
  |skip=>
   refine noloop (fun b=>by simp) (wpIn_skip ?_)
   simp only[mY,vI,Option.some.injEq,Prod.mk.injEq]at h;obtain⟨rfl,rfl⟩:=h;exact hQ a w (.refl hw hs hg)
  |region id ops d=>
   refine noloop (fun b=>by simp) ?_
   simp only[mY]at h
   split at h
   ·exact region n id ops d s s' g e hcall hw hs hg h Q hQ
   ·rename_i ts _;rw[gO]at h;cases n with
    |zero=>rw[gF]at h;cases h
    |succ m=>
     rw[uE]at h
     split at h
     ·rename_i s1 hz
      split at hz
      ·rename_i s2 hf;cases hz;have hreach:=yL _ s s1 hf g (w:=w) (a:=a) hw hg hs;obtain⟨g1,W,i1,i2,i3,i4,i5⟩:=hreach;have hcm:nY P glob (cT A m):=aC7 A0 m fun k hk=>ihs k (by omega)
       refine region m id ops d s1 s' g1 e hcm i1.wf i3 i5 h Q fun a' w' hr=>hQ a' w' ?_;obtain⟨g2,W',j1,j2,j3,j4,j5⟩:=hr;refine⟨g2,W++W',i1.trans j1,fun o ho hb => ?_,j3,j4,j5⟩;rcases List.mem_append.1 ho with ho | ho
       ·exact (eX _ _ _ _ _ _ h).2.1 o (i2 o ho hb)
       ·exact j2 o ho hb
      ·cases hz
     ·rename_i hne;exfalso
      split at h
      ·rename_i s2 hf;exact hne s2 (by rw[hf])
      ·cases h
  |seq x y=>
   refine noloop (fun b=>by simp) (wpIn_seq ?_)
   simp only[mY,gO]at h
   split at h
   ·rename_i s1 h1;refine (ih nl ty rs c frz x s _ s1 h1 g a w hw hg hs _ (fun a1 w1 hr => ?_) r hR).1;obtain⟨g1,W,i1,i2,i3,i4,i5⟩:=hr;refine (ih nl ty rs c frz y s1 e s' h g1 a1 w1 i1.wf i5 i3 Q (fun a' w' hr'=>hQ a' w' ?_) r (hR.mono i1.le)).1;exact aE9.join i1 i2 i4 (eX _ _ _ _ _ _ h).2.1 hr'
   ·rename_i hne;refine (ih nl ty rs c frz x s e s' h g a w hw hg hs _ (fun a1 w1 hr => ?_) r hR).1;cases e with
    |normal=>exact absurd h (hne s')
    |exit id=>exact hQ a1 w1 hr
    |ret=>exact hQ a1 w1 hr
  |cond t x y=>
   refine noloop (fun b=>by simp) ?_
   cases t with
   |tmp t=>
    simp only[mY,iB]at h;have hv:=hs.2 t
    split at h
    ·rename_i hb;simp only[AOpd.ev]at hb;rw[hb]at hv;have he:a.eval (.tmp t)=.bool true:=by cases hv'  : a.tmps.getD t Go.undef<;>rw[hv']at hv<;>cases hv;exact hv'
     exact wpIn_cond_true he (ih nl ty rs c frz x s e s' h g a w hw hg hs Q hQ r hR).1
    ·rename_i hb;simp only[AOpd.ev]at hb;rw[hb]at hv;have he:a.eval (.tmp t)=.bool false:=by cases hv'  : a.tmps.getD t Go.undef<;>rw[hv']at hv<;>cases hv;exact hv'
     exact wpIn_cond_false he (ih nl ty rs c frz y s e s' h g a w hw hg hs Q hQ r hR).1
    ·cases h
   |_=>simp only[mY,pX]at h;cases h
  |block id b=>
   refine noloop (fun b=>by simp) (wpIn_block ?_)
   simp only[mY,dW]at h
   split at h
   ·rename_i id' s1 h1;refine (ih nl ty rs c frz b s _ s1 h1 g a w hw hg hs _ (fun a1 w1 hr => ?_) r hR).1
    split at h
    ·rename_i hid;cases h;simp only[AExit.real,Exit.inBlock,hid,if_true];exact hQ a1 w1 hr
    ·rename_i hid;cases h;simp only[AExit.real,Exit.inBlock,hid,if_false];exact hQ a1 w1 hr
   ·rename_i hne;refine (ih nl ty rs c frz b s e s' h g a w hw hg hs _ (fun a1 w1 hr => ?_) r hR).1;cases e with
    |normal=>exact hQ a1 w1 hr
    |exit id'=>exact absurd h (hne id' s')
    |ret=>exact hQ a1 w1 hr
  |loop b=>
   have key:Code.roundsIn (fr r) 0 P b Q (n+1) a w:=by
    simp only[mY,gG]at h;rw[roundsIn_succ]
    split at h
    ·rename_i s1 h1;refine (ih nl ty rs c frz b s _ s1 h1 g a w hw hg hs _ (fun a1 w1 hr => ?_) r hR).1;obtain⟨g1,W,i1,i2,i3,i4,i5⟩:=hr;refine (ih nl ty rs c frz (.loop b) s1 e s' h g1 a1 w1 i1.wf i5 i3 Q (fun a' w' hr'=>hQ a' w' ?_) r (hR.mono i1.le)).2 b rfl;exact aE9.join i1 i2 i4 (eX _ _ _ _ _ _ h).2.1 hr'
    ·rename_i hne;refine (ih nl ty rs c frz b s e s' h g a w hw hg hs _ (fun a1 w1 hr => ?_) r hR).1;cases e with
     |normal=>exact absurd h (hne s')
     |exit id=>exact hQ a1 w1 hr
     |ret=>exact hQ a1 w1 hr
   exact⟨wpIn_loop_rounds _ key,fun b' hb'=>by cases hb';exact key⟩
  |exit id=>
   refine noloop (fun b=>by simp) (wpIn_exit ?_)
   simp only[mY,aAA,Option.some.injEq,Prod.mk.injEq]at h;obtain⟨rfl,rfl⟩:=h;exact hQ a w (.refl hw hs hg)
  |ret=>
   refine noloop (fun b=>by simp) (wpIn_ret ?_)
   simp only[mY,aC1,Option.some.injEq,Prod.mk.injEq]at h;obtain⟨rfl,rfl⟩:=h;exact hQ a w (.refl hw hs hg)
  |rangeFunc gx ps assign body=>
   refine noloop (fun b=>by simp) ?_
   simp only[mY]at h
   split at h
   rotate_left
   ·rw[pX]at h;cases h
   rename_i xo hxo;rw[kO]at h
   split at h
   rotate_left
   ·cases h
   rename_i f first caps id hxe hsite
   split at h
   rotate_left
   ·cases h
   rename_i hc;obtain⟨hid,hthere⟩:=hc
   split at h
   rotate_left
   ·cases h
   rename_i rv H2 wr hcl
   split at h
   rotate_left
   ·cases h
   rename_i v b2 s2 p2 c2 r2 pend hH2
   split at h
   rotate_left
   ·cases h
   rename_i hv;obtain⟨rfl,hthere2⟩:=hv;cases h;have hfx:=aJ (P:=P) (glob:={ glob with nl:=nl,typed:=ty,refs:=rs }) hxo hg hs;rw[hxe]at hfx;obtain⟨vf,vc,hev,hlf,hlc⟩:=hfx.fn_inv;have hidx:s.H[id]? = some s.H[id]:=by simp[hid]
   have hver:bG s.H id=s.H[id].ver+1:=by simp[bG,hid]
   obtain⟨l,mark,D,g0,w0,he,s0,hmark⟩:∃(l:Nat) (mark:List Deferred) (D:Nat) (g0:G) (w0:World),
     (∀fn,(Instr.enterLoop fn a.tmps ps assign body (fr r).round).run P w=.ok (l,mark) (w0.alloc (.loop { state:=.ready,pending:=none,fn,tmps:=a.tmps,params:=ps,assign,body,defers:=D }))) /\
     (Step g s.H w g0 s.H w0 []/\l=w0.heap.size)/\(mark=[]∨(mark=[⟨.collected w.heap.size,#[]⟩]/\g0.whole w.heap.size=some (.deferred (some [])))):=by
    cases r with
    |none=>
     have h1:=Step.allocWhole hw (.deferred (some []));exact⟨_,_,w.heap.size,_,_,fun fn=>run_enterLoop_outer fn a.tmps ps assign body,⟨h1,by simp[World.size_alloc]⟩,.inr ⟨rfl,by simp⟩⟩
    |some l0=>
     obtain⟨o,v,hrd,hy⟩:=hR l0 rfl;simp only[iZ,hrd]at hthere
     split at hthere
     ·rename_i v' b3 s3 p3 c3 r3 hH3;have hvv:v'=v:=by simpa using hthere
      subst hvv;obtain⟨lc,hb,rfl⟩:=uI hw hy hH3;obtain⟨_,rec,hheap,_⟩:=hw.obj o lc _ hb;exact⟨_,_,rec.defers,g,w,fun fn=>aAF hheap fn a.tmps ps assign body,⟨.refl hw,rfl⟩,.inl rfl⟩
     ·cases hthere
   obtain⟨s0,rfl⟩:=s0;refine wpIn_rangeFunc fun fn _ => ?_;generalize hrec:(Obj.loop { state:=.ready,pending:=none,fn,tmps:=a.tmps,params:=ps,assign,body,defers:=D })=ob;have he':=he fn;rw[hrec]at he';have e1:(w0.alloc ob).heap=w0.heap.push ob:=rfl;have hcode:∃ca cb,ACode.seq (mY P ⟨glob.row,nl,ty,rs⟩ frz assign) (mY P ⟨glob.row,nl,ty,rs⟩ frz body)=.seq ca cb/\g0.code ca assign/\g0.code cb body:=⟨_,_,rfl,((hg.mono s0.le).code _ _).2 ⟨nl,ty,rs,frz,rfl⟩,((hg.mono s0.le).code _ _).2 ⟨nl,ty,rs,frz,rfl⟩⟩;have s1:=Step.update (w':=w0.alloc ob) s0.wf id (.rnd (bG s.H id) c.base c.sites ps.toList (.seq (mY P ⟨glob.row,nl,ty,rs⟩ frz assign) (mY P ⟨glob.row,nl,ty,rs⟩ frz body)) s.ρ false none) ⟨w0.heap.size,bG s.H id,0,0,0⟩ hid (by rw[e1];simp) (fun b hb _=>cB e1 hb) (by rw[e1];simp) (.inl (Nat.le_refl _)) rfl rfl (fun l hl=>by
     have:=s0.wf.st id _ l hidx hl;exact⟨by show l.st<=bG s.H id;omega,fun e=>by have e':bG s.H id=l.st:=e;omega⟩)
    fun hle=>⟨rfl,{ state:=.ready,pending:=none,fn,tmps:=a.tmps,params:=ps,assign,body,defers:=D },by rw[e1,<- hrec];simp,rfl,rfl,rfl,hcode,trivial,hs.1,fun t=>((hs.2 t).mono s0.le).mono hle⟩
   have hyl:VRel (g0.setObj id ⟨w0.heap.size,bG s.H id,0,0,0⟩) (.yld id (bG s.H id)) (.func (.yield w0.heap.size) #[] #[]):=.yld id _ _ _ (by simp[G.setObj];rfl) (Nat.le_refl _) fun _ _=>rfl
   have hle1:g.le (g0.setObj id ⟨w0.heap.size,bG s.H id,0,0,0⟩):=s0.le.trans s1.le;have hargs:fO (g0.setObj id ⟨w0.heap.size,bG s.H id,0,0,0⟩) (first++.yld id (bG s.H id)::caps) (vf.toList++.func (.yield w0.heap.size) #[] #[]::vc.toList):=by
    refine (hlf.mono hle1).append (fO.append (as:=[.yld id (bG s.H id)]) (xs:=[.func (.yield w0.heap.size) #[] #[]]) ⟨rfl,fun i c x h1 h2 => ?_⟩ (hlc.mono hle1));cases i with
    |zero=>simp at h1 h2;subst h1;subst h2;exact hyl
    |succ i=>simp at h1
   obtain⟨⟨Fn,hfn,hname,hbody⟩,hcalls⟩:=hcall.1 f _ _ rv H2 wr hcl _ (w0.alloc ob) _ s1.wf (hg.mono hle1) hargs;have hnn:¬(Fn.name = "runtime.NumGoroutine"):=by simpa using hname
   have hbb:¬(Fn.body=none):=fun e=>by rw[e]at hbody;simp at hbody
   have harr:(vf ++ #[Value.func (.yield w0.heap.size) #[] #[]]++vc)=(vf.toList++.func (.yield w0.heap.size) #[] #[]::vc.toList).toArray:=by
    apply Array.ext';simp
   refine⟨w0.heap.size,mark,w0.alloc ob,⟨.fn (.func f) vc,vf ++ #[.func (.yield w0.heap.size) #[] #[]]⟩,w0.alloc ob,f,(vf.toList++.func (.yield w0.heap.size) #[] #[]::vc.toList).toArray,w0.alloc ob,he', ?_,fun _ _=>trivial, ?_,fun h=>(by simp[fr,Fence.wide]at h), ?_⟩
   ·have hy:a.eval (.const (.func (.yield w0.heap.size) #[] #[]))=.func (.yield w0.heap.size) #[] #[]:=rfl;simp[resolve,hev,hy,Deferred.ofValue]
   ·simp only[invoke,callFunc];rw[harr];simp[hfn,hnn,hbb]
   ·have hC:CallsIn Fence.wide (0 - 1) P f _ (w0.alloc ob) _:=callsIn_wide.2 hcalls;refine CallsIn.mono (F:=fr r) hC fun e w3 hpost => ?_;cases e with
    |panicked ch=>exact hpost.elim
    |outgrown=>exact hpost.elim
    |returned rvv=>
     obtain⟨g2,s3,_⟩:=hpost;obtain⟨lc2,hb2,hlb⟩:=uI s3.wf (hyl.mono s3.le) hH2;obtain⟨q0,rec2,qheap,qst,qpe,_⟩:=s3.wf.obj id lc2 _ hb2;rw[hlb]at qheap;have s4:=Step.dropPut s3.wf hb2 (.loop { rec2 with state:=.exhausted });rw[hlb]at s4;have hnb:rec2.state≠.busy:=by rw[qst];cases pend<;>simp
     have hreach:aE9 P glob c.base g s.H w a.defers ⟨s.ρ,H2.set id (.gone (bG s.H id)),bA c.base s.wr (id::wr)⟩ { a with defers:=mark++a.defers } (w3.putObj w0.heap.size (.loop { rec2 with state:=.exhausted })):=by
      refine⟨g2,_,((s0.trans s1).trans s3).trans s4,fun o ho hb=>(bW _ _ _).2 o ?_ hb,hs.mono (hle1.trans s3.le), ?_,hg.mono (hle1.trans s3.le)⟩
      ·simp only[List.mem_append,List.nil_append,List.mem_cons,List.not_mem_nil,or_false]at ho;simp only[List.mem_cons];rcases ho with (rfl | ho) | rfl
       ·exact .inl rfl
       ·exact .inr ho
       ·exact .inl rfl
      ·rcases hmark with rfl | ⟨rfl,hm2⟩
       ·exact aF1.refl
       ·exact⟨[w.heap.size],rfl,fun b hb=>by rw[List.mem_singleton]at hb;subst hb;exact⟨Nat.le_refl _,(s1.le.trans s3.le).whole _ _ hm2⟩,by simp⟩
     refine⟨pend.map aGf,w3.putObj w0.heap.size (.loop { rec2 with state:=.exhausted }),by rw[run_endLoop qheap hnb,<- qpe], ?_⟩
     cases pend with
     |none=>exact hQ _ _ hreach
     |some e=>
      cases e with
      |normal=>exact wpIn_skip (hQ _ _ hreach)
      |ret=>exact wpIn_ret (hQ _ _ hreach)
      |exit id'=>exact wpIn_exit (hQ _ _ hreach)
  |_=>simp only[mY,pX]at h;cases h
theorem aCU(A0:Good P glob A)(n:Nat):nY P glob (cT A n):=aC7 A0 n fun m _=>aKO A0 m
end
def eP(tB tP:Nat):aIH:=fun args H=>match args with
 | [.ptr o v 0]=>match H[o]? with
  |some (.tbox v' ty [.nilPtr,c])=>if v'=v/\(ty=tB∨ty=tP)then some (.tup [],[(o,.tbox v ty [.ptr o v 0,c])],[])else none
  |some (.tbox v' _ [.ptr o' v2 0,_])=>if v'=v/\o'=o/\v2=v then some (.tup [],[],[])else none
  |_=>none
 |_=>none
def aC8:List (List AV)->Bool
 | []=>true
 | [.int .u8 n]::r=>decide (0<=n)&&decide (n<256)&&aC8 r
 |_=>false
def yM(tb:Nat):aIH:=fun args H=>match args with
 | [.ptr o v 0]=>match H[o]? with
  |some (.tbox v' _ [_,.nilSl])=>if v'=v then some (.str [],[],[])else none
  |some (.tbox v' _ [_,.sr o2 v2 n])=>if v'=v then match H[o2]? with
    |some (.tvec v3 t3 1 rows)=>if v3=v2/\t3=tb/\rows.length=n/\n≠0/\o2≠o/\n<=1000000000/\aC8 rows then match cF rows with
      |some l=>some (.str l,[(o2,.gone v2)],[])
      |none=>none
     else none
    |_=>none
   else none
  |_=>none
 |_=>none
def aKP(tB tb:Nat):aIH:=fun args H=>match args with
 | [.ptr o v 0,.int .i64 n]=>match H[o]? with
  |some (.tbox v' ty [.nilPtr,.nilSl])=>if v'=v/\ty=tB/\0<n/\n<=1000000 then some (.tup [],[(o,.tbox v tB [.ptr o v 0,.sr H.length 1 0])],[.tvec 1 tb 1 []])else none
  |_=>none
 |_=>none
def aGt(sep:List UInt8):List (List AV)->Option (List UInt8)
 | []=>some []
 | [[.str s]]=>some s
 | [.str s]::r=>match aGt sep r with
  |some t=>some (s++sep++t)
  |none=>none
 |_=>none
def aHF:aIH:=fun args _=>match args with
 | [.sl _ rows,.str sep]=>match aGt sep rows with
  |some s=>if s.length<=140737488355328/\rows.length<=140737488355328 then some (.str s,[],[])else none
  |none=>none
 |_=>none
def aUE:aIH:=fun args _=>match args with
 | [.str s,.int .u8 c]=>some (.int .i64 (Lib.indexByte s c.toNat.toUInt8),[],[])
 |_=>none
def aC9:aIH:=fun args _=>match args with
 | [.str s,.str [c]]=>some (.int .i64 (Lib.countByte s c),[],[])
 |_=>none
def yN:aIH:=fun args H=>match args with
 | [p]=>match aX H 1 p with
  |some [.int .u32 n]=>some (.bool (n != 0),[],[])
  |_=>none
 |_=>none
def oT:Nat->Nat->List UInt8
 |0,_=>[]
 |k+1,n=>if n<10 then [UInt8.ofNat (48+n)] else oT k (n / 10)++[UInt8.ofNat (48+n % 10)]
def aBr:aIH:=fun args _=>match args with
 | [.int .i64 n]=>if 0<=n/\n<1000000 then some (.str (oT 7 n.toNat),[],[])else if n<0 /\ -1000000<n then some (.str (45::oT 7 (-n).toNat),[],[])else none
 |_=>none
section
variable {P:Program}{glob:Glob}
theorem sL{f:Nat}{p:aIH}(hf:∃F,P.funcs[f]? = some F/\(F.name == "runtime.NumGoroutine")=false/\F.body.isNone=false)
  (h:∀args H v ws ns,p args H=some (v,ws,ns)->∀g w xs,WF g H w->bI P glob g->fO g args xs->Calls P f xs.toArray w fun e w'=>match e with
   |.returned x=>∃g',Step g H w g' (fZ H ws++ns) w' (ws.map Prod.fst)/\pD g' (fZ H ws++ns) w.heap.size w' v x
   |_=>False):jC P glob fun f' args H=>if f'=f then (p args H).map (dA H)else none:=by
 intro f' args H av H' wr hh g w xs hw hg hx;dsimp only at hh
 split at hh
 ·rename_i e;subst e;cases hp:p args H with
  |none=>rw[hp]at hh;cases hh
  |some r=>
   obtain⟨v,ws,ns⟩:=r;rw[hp]at hh;simp only[Option.map_some,dA,Option.some.injEq,Prod.mk.injEq]at hh;obtain⟨rfl,rfl,rfl⟩:=hh;exact⟨hf,h args H v ws ns hp g w xs hw hg hx⟩
 ·cases hh
theorem Step.bigger{g:G}{H:List AObj}{w w':World}(hw:WF g H w)(hsz:w.heap.size<=w'.heap.size)(hall:∀b,b<w.heap.size->w'.heap[b]? = w.heap[b]?)(io:w'.os=w.os/\w'.output=w.output):Step g H w g H w' []:=by
 refine⟨G.le.refl g,⟨fun b i x hx => ?_,hw.lt,fun o l hl=>Nat.lt_of_lt_of_le (hw.blk o l hl) hsz,hw.st,fun o l x hb => ?_,hw.priv,hw.inj,hw.whole.keep rfl rfl io (fun b hb _=>hall b hb) fun o l y hl=>.inr ⟨o,l,y,hl,rfl⟩⟩,
  ⟨hsz,fun b hb _=>hall b hb⟩,fun _ _ _=>rfl,Nat.le_refl _,fun _ l' hl=>.inr ⟨l',hl,rfl⟩,fun _ _ _=>rfl⟩
 ·rw[cell_of_heap (hall b (hw.perm_lt hx))];exact hw.perm b i x hx
 ·exact (hw.obj o l x hb).keep (G.le.refl g) (hall l.b (hw.blk o l hb.loc))
theorem aBs{g:G}{a:AV}{xs:List Value}(h:fO g [a] xs):∃x,xs=[x]/\VRel g a x:=by
 obtain⟨h1,h2⟩:=h
 match xs,h1 with
 | [x],_=>exact⟨x,rfl,h2 0 a x rfl rfl⟩
theorem nS{g:G}{a b:AV}{xs:List Value}(h:fO g [a,b] xs):∃x y,xs=[x,y]/\VRel g a x/\VRel g b y:=by
 obtain⟨h1,h2⟩:=h
 match xs,h1 with
 | [x,y],_=>exact⟨x,y,rfl,h2 0 a x rfl rfl,h2 1 b y rfl rfl⟩
theorem aEa{g:G}{H:List AObj}{w:World}(hw:WF g H w){o v v' ty:Nat}{cells:List AV}(ho:H[o]? = some (.tbox v' ty cells))(hv:v'=v){x:Value}(hx:VRel g (.ptr o v 0) x):
  ∃l cs,Backed g H o l (.tbox v ty cells)/\x=.pointer (some ⟨l.b,0,none⟩)/\w.heap[l.b]? = some (.cells cs ty (0,0))/\fO g cells cs.toList:=by
 subst hv;cases hx with
 |ptr _ _ _ l a hl hv h=>
  have hst:l.st=v':=by have:=hw.st o _ l ho hl;simp only[AObj.ver]at this;omega
  have hb:Backed g H o l (.tbox v' ty cells):=⟨ho,rfl,hl,hst⟩;obtain⟨h0,⟨cs,h1,h2⟩,h3⟩:=hw.obj o l _ hb;refine⟨l,cs,hb,by rw[h hst h0],h1,by simpa using h2.symm,fun i a x e1 e2 => ?_⟩
  obtain⟨y,hy,hr⟩:=h3 i a e1;simp only[World.cell?,h1]at hy;have e2':cs[i]? = some x:=by simpa using e2
  rw[e2']at hy;simp at hy;subst hy;exact hr
theorem Step.spoil{g:G}{H:List AObj}{w w':World}(hw:WF g H w){o:Nat}{l:Loc}{x:AObj}(hb:Backed g H o l x)(hsz:w'.heap.size=w.heap.size)(hother:∀b,b≠l.b->w'.heap[b]? = w.heap[b]?)(io:w'.os=w.os/\w'.output=w.output):
  Step g H w g (H.set o (.gone x.ver)) w' [o]:=by
 obtain⟨h1,h2⟩:=Step.drop hw hb;have h1w:=h1.wf;refine⟨h1.le,⟨fun b i y hy => ?_,h1w.lt,fun o' l' hl=>by rw[hsz];exact h1w.blk o' l' hl,h1w.st,fun o' l' x' hb'=>(h1w.obj o' l' x' hb').keep (G.le.refl g) (hother l'.b (h2 o' l' x' hb')),h1w.priv,h1w.inj,
  ⟨fun b y hy=>⟨?_,(h1w.whole.blocks b y hy).2⟩,by rw[io.1,io.2];exact hw.whole.io⟩⟩,⟨by omega,fun b _ hne=>hother b (Ne.symm (hne o (by simp) l hb.loc))⟩,h1.same,h1.len,fun o' l' hl=>.inr ⟨l',hl,rfl⟩,fun _ _ _=>rfl⟩
 ·have hne:b≠l.b:=fun e=>by subst e;have:=hw.priv o l x hb i;rw[hy]at this;cases this
  rw[cell_of_heap (hother b hne)];exact hw.perm b i y hy
 ·rw[hother b (Ne.symm ((hw.whole.blocks b y hy).2 o l x hb))];exact (hw.whole.blocks b y hy).1
theorem Step.tset{g:G}{H:List AObj}{w w':World}(hw:WF g H w){o v ty:Nat}{l:Loc}{cells cells':List AV}{cs':Array Value}(hb:Backed g H o l (.tbox v ty cells))(hsz:w'.heap.size=w.heap.size)
  (hother:∀b,b≠l.b->w'.heap[b]? = w.heap[b]?) (hblk:w'.heap[l.b]? = some (.cells cs' ty (0,0))) (hl:fO g cells' cs'.toList) (io:w'.os=w.os/\w'.output=w.output):
  Step g H w g (H.set o (.tbox v ty cells')) w' [o]:=by
 have hg:g.setObj o l=g:=by
  cases g with
  |mk p ob wh io=>
   have:=hb.loc;simp only[G.setObj,G.mk.injEq,true_and,and_true];funext o'
   by_cases e:o'=o
   ·subst e;simpa using this.symm
   ·simp[e]
 have h0:=(hw.obj o l _ hb).1;have:=Step.update (w':=w') hw o (.tbox v ty cells') l (hw.lt o l hb.loc) (by omega)
  (fun b _ hne=>hother b (Ne.symm (hne l _ hb))) (by rw[hsz];exact hw.blk o l hb.loc) (.inr ⟨l,_,hb,rfl⟩) hb.st rfl
  (fun l0 h0=>by rw[hb.loc]at h0;cases h0;exact⟨Nat.le_refl _,fun _=>⟨Nat.le_refl _,fun _=>rfl⟩⟩)
  (fun _=>by
   rw[hg];refine⟨h0,⟨cs',hblk,by simpa using hl.1.symm⟩,fun j a ha => ?_⟩
   have hj:j<cells'.length:=(List.getElem?_eq_some_iff.1 ha).1;have hlen:=hl.1;simp at hlen;exact⟨cs'[j]'(by omega),by simp[World.cell?,hblk],hl.2 j a _ ha (by simp)⟩) io
 rwa [hg]at this
end
end Go.AM
end
