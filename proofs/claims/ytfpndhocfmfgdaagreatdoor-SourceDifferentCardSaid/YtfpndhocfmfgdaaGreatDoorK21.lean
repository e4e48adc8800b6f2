/- Part 21: lemmas for the last text. -/
import Derived.Test.YtfpndhocfmfgdaaGreatDoorK12
import Derived.Test.YtfpndhocfmfgdaaGreatDoorK17
import Derived.Test.YtfpndhocfmfgdaaGreatDoorK18
import Derived.Test.YtfpndhocfmfgdaaGreatDoorK19
import Derived.Test.YtfpndhocfmfgdaaGreatDoorK20
set_option linter.unusedVariables false
set_option linter.unusedSimpArgs false
section
namespace Go.AM
open Go
def aPw{α:Type}(p:α->α->Bool):List α->List α->Bool
 | [],[]=>true
 |a::x,b::y=>p a b&&aPw p x y
 |_,_=>false
theorem aCc{α:Type}{p:α->α->Bool}(hp:∀a b,p a b=true->a=b):∀x y:List α,aPw p x y=true->x=y
 | [],[],_=>rfl
 |a::x,b::y,h=>by
  simp only[aPw,Bool.and_eq_true]at h;rw[hp a b h.1,aCc hp x y h.2]
 | [],_::_,h=>by cases h
 |_::_,[],h=>by cases h
def aMj:Nat->AV->AV->Bool
 |0,_,_=>false
 |n+1,a,b=>match a,b with
  |.int k x,.int k' y=>decide (k=k')&&decide (x=y)
  |.str x,.str y=>aPw (fun a b=>decide (a=b)) x y
  |.sl f x,.sl g y=>(f==g)&&aPw (aPw (aMj n)) x y
  |.agg x,.agg y=>aPw (aMj n) x y
  |_,_=>false
theorem aGw:∀(n:Nat) (a b:AV),aMj n a b=true->a=b
 |0,_,_,h=>by cases h
 |n+1,a,b,h=>by
  unfold aMj at h
  split at h
  ·simp only[Bool.and_eq_true,decide_eq_true_eq]at h;rw[h.1,h.2]
  ·rw[aCc (fun a b h=>by simpa using h) _ _ h]
  ·simp only[Bool.and_eq_true,beq_iff_eq]at h;rw[h.1,aCc (aCc (aGw n)) _ _ h.2]
  ·rw[aCc (aGw n) _ _ h]
  ·cases h
def sM:List (List AV×AV)->aIH
 | [],_,_=>none
 | (a,v)::r,args,H=>if aPw (aMj 10) a args=true then some (v,[],[])else sM r args H
theorem aEe:∀{tab:List (List AV×AV)} {args:List AV} {H:List AObj} {r},sM tab args H=some r->∃v,(args,v)∈tab/\r=(v,[],[])
 | [],_,_,_,h=>by cases h
 | (a,v)::t,args,H,r,h=>by
  unfold sM at h
  split at h
  ·rename_i e;cases h;have:=aCc (aGw 10) _ _ e;subst this;exact⟨v,by simp,rfl⟩
  ·obtain⟨v',h1,h2⟩:=aEe h;exact⟨v',by simp[h1],h2⟩
theorem aHQ{n:Nat}:∀{l:List AV},dS n l=true->∀(i:Nat) a,l[i]? = some a->a.under n=true
 | [],_,i,a,h=>by simp at h
 |v::r,hu,i,a,h=>by
  simp only[dS,Bool.and_eq_true]at hu;cases i with
  |zero=>simp at h;subst h;exact hu.1
  |succ i=>exact aHQ hu.2 i a (by simpa using h)
theorem aEf{P:Program}{glob:Glob}{A:AProg}(hA:Good P glob A)(hglob:∀n row,glob.row n=some row->dS 0 row=true){f:Nat}{tab:List (List AV×AV)}
  (hf:∃F,P.funcs[f]? = some F/\(F.name == "runtime.NumGoroutine")=false/\F.body.isNone=false)
  (h:∀a v,(a,v)∈tab->v.atomic=true/\dS 0 a=true/\aL A f a []=some (v,[],[])):
  jC P glob fun f' args H=>if f'=f then (sM tab args H).map (dA H)else none:=by
 refine sL hf fun args H v ws ns hp g w xs hw hg hx => ?_;obtain⟨v',hm,e⟩:=aEe hp;cases e;obtain⟨hat,hu,hc⟩:=h args v hm;obtain⟨n,hc⟩:=vL hc;have hw0:WF (g.cut 0) [] w:=by
  refine⟨hw.perm,fun o l h=>by simp[G.cut]at h,fun o l h=>by simp[G.cut]at h,fun o x l _ h=>by simp[G.cut]at h,fun o l x h => ?_,fun o l x h => ?_,fun o o' l l' x x' h => ?_,⟨fun b y hy=>⟨(hw.whole.blocks b y hy).1,fun o l z hz => ?_⟩,hw.whole.io⟩⟩
  all_goals first
   | (have:=h.at_;simp at this;done)
   | (have:=hz.at_;simp at this;done)
 have hg0:bI P glob (g.cut 0):=⟨fun n row e=>by
  obtain⟨h1,h2⟩:=hg.row n row e;exact⟨h1.cut (by simpa [AV.under]using hglob n row e),h2⟩,hg.code⟩
 have hx0:fO (g.cut 0) args xs:=⟨hx.1,fun i a x e1 e2=>(hx.2 i a x e1 e2).cut (aHQ hu i a e1)⟩;refine (((aCU hA n).1 f args [] v [] [] hc (g.cut 0) w xs hw0 hg0 hx0).2).mono fun e w' he => ?_;cases e with
 |panicked c=>exact he
 |outgrown=>exact he
 |returned x=>
  obtain⟨g',hs,hr⟩:=he;have hio:w'.os=w.os/\w'.output=w.output:=by
   have e1:=hs.wf.whole.io;have e2:=hs.le.io;have e3:=hw.whole.io;rw[e2]at e1;have e4:(w.os,w.output)=(w'.os,w'.output):=e3.symm.trans e1;exact⟨(congrArg Prod.fst e4).symm,(congrArg Prod.snd e4).symm⟩
  refine⟨g,by simpa [fZ]using Step.bigger hw hs.frame.1 (fun b hb=>hs.frame.2 b hb fun o ho=>by cases ho) hio, ?_⟩
  cases v<;>first | (simp[AV.atomic,AV.atom]at hat;done) | exact VRel.atomic hr hat
theorem pY{A:AProg}{m n f:Nat}{args:List AV}(h:aC5 A m n f args [] aGv=true):aL A f args []=some (.bool true,[],[]):=by
 obtain⟨v,H',wr,h1,h2⟩:=vO A m n f args [] aGv h;unfold aGv at h2
 split at h2
 ·exact h1
 ·cases h2
theorem aKV{A:AProg}{m n f:Nat}{args:List AV}(h:aC5 A m n f args [] aOj=true):aL A f args []=some (.str [53],[],[]):=by
 obtain⟨v,H',wr,h1,h2⟩:=vO A m n f args [] aOj h;unfold aOj at h2
 split at h2
 ·exact h1
 ·cases h2
theorem aCd:∀n row,aAH.row n=some row->dS 0 row=true:=by
 intro n row h;simp only[aAH,aUF]at h
 split at h<;>cases h<;>rfl
def aQC:List (List AV×AV):=[(aHL,.bool true),(aHM,.bool true),(aHN,.bool true),(aHO,.bool true),(aHP,.bool true)]
def aWo:List (List AV×AV):=[(aFM,.str [53])]
def aQD(f:Nat):Option aIH:=match f with
 |27=>some (sM aQC)
 |28=>some (sM aWo)
 |f=>aKU f
noncomputable def AL:AProg:=⟨fnK,aQD⟩
theorem aQE:jC Go.Proofs.Tryz.prog aAH fun f' args H=>if f'=27 then (sM aQC args H).map (dA H)else none:=by
 refine aEf aOi aCd ⟨Go.Proofs.Tryz.f27,Go.Proofs.Tryz.func27,by kernel_rfl,by kernel_rfl⟩ fun a v h => ?_
 simp only[aQC,List.mem_cons,Prod.mk.injEq,or_false,List.not_mem_nil]at h;rcases h with⟨rfl,rfl⟩ | ⟨rfl,rfl⟩ | ⟨rfl,rfl⟩ | ⟨rfl,rfl⟩ | ⟨rfl,rfl⟩
 ·exact⟨rfl,by kernel_rfl,pY aWj⟩
 ·exact⟨rfl,by kernel_rfl,pY aWk⟩
 ·exact⟨rfl,by kernel_rfl,pY aWl⟩
 ·exact⟨rfl,by kernel_rfl,pY aWm⟩
 ·exact⟨rfl,by kernel_rfl,pY aWn⟩
theorem aMk:jC Go.Proofs.Tryz.prog aAH fun f' args H=>if f'=28 then (sM aWo args H).map (dA H)else none:=by
 refine aEf aOi aCd ⟨Go.Proofs.Tryz.f28,Go.Proofs.Tryz.func28,by kernel_rfl,by kernel_rfl⟩ fun a v h => ?_
 simp only[aWo,List.mem_cons,Prod.mk.injEq,or_false,List.not_mem_nil]at h;obtain⟨rfl,rfl⟩:=h;exact⟨rfl,by kernel_rfl,aKV aQB⟩
theorem aMl{A:AProg}(hfn:A.fn=fnK)(hyf:A.prim YF=none)(h295:A.prim 230=none)(hprim:∀f p,A.prim f=some p->aKU f=some p∨jC Go.Proofs.Tryz.prog aAH fun f' args H=>if f'=f then (p args H).map (dA H)else none):
  Good Go.Proofs.Tryz.prog aAH A where
 mixed:=aOi.mixed
 noYF:=⟨(congrFun hfn YF).trans (by kernel_rfl),hyf⟩
 fn:=fun f fn h=>by
  rw[hfn]at h
  by_cases e:f=230
  ·subst e;exact .inr (Go.Proofs.Sa.slow_ok h295 (by rw[hfn];rfl))
  ·exact .inl (aTl e h)
 prim:=fun f p h=>(hprim f p h).elim (fun h=>aOi.prim f p h) id
theorem aWp:Good Go.Proofs.Tryz.prog aAH AL:=aMl rfl (by kernel_rfl) rfl fun f p h=>by
 have h:aQD f=some p:=h;unfold aQD at h
 split at h
 ·cases h;exact .inr aQE
 ·cases h;exact .inr aMk
 ·exact .inl h
theorem aKW:aC5 AL 10000 100 10 [] [] aGv=true:=by kernel_rfl
def aQF:List (List AV×AV):=[([],.bool true)]
theorem aOk:jC Go.Proofs.Tryz.prog aAH fun f' args H=>if f'=10 then (sM aQF args H).map (dA H)else none:=by
 refine aEf aWp aCd ⟨Go.Proofs.Tryz.f10,Go.Proofs.Tryz.func10,by kernel_rfl,by kernel_rfl⟩ fun a v h => ?_
 simp only[aQF,List.mem_cons,Prod.mk.injEq,or_false,List.not_mem_nil]at h;obtain⟨rfl,rfl⟩:=h;exact⟨rfl,rfl,pY aKW⟩
def aQG(f:Nat):Option aIH:=match f with
 |10=>some (sM aQF)
 |f=>aKU f
noncomputable def AM0:AProg:=⟨fnK,aQG⟩
theorem aWq:Good Go.Proofs.Tryz.prog aAH AM0:=aMl rfl (by kernel_rfl) rfl fun f p h=>by
 have h:aQG f=some p:=h;unfold aQG at h
 split at h
 ·cases h;exact .inr aOk
 ·exact .inl h
structure Tg{α:Type}(a:α):Type where
def aCe{α:Type}(x:Option α)(k:α->Prop)(tg:Tg k):Prop:=match x with
 |some a=>k a
 |none=>False
@[go_sem] theorem aS3{α:Type}{a:α}{k:α->Prop}{t:Tg k}:aCe (some a) k t=k a:=(rfl)
def bnd{α:Type}(x:Option α)(k:α->Prop):Prop:=aCe x k ⟨⟩
@[go_sem] theorem aUG{α:Type}{a:α}{k:α->Prop}:bnd (some a) k=k a:=(rfl)
@[congr] theorem aTm{α:Type}{x y:Option α}{k:α->Prop}(h:x=y):bnd x k=bnd y k:=by rw[h]
theorem aC{α:Type}{x:Option α}{k:α->Prop}:bnd x k=aCe x k ⟨⟩:=(rfl)
def xO(b:Bool)(x y:Prop)(tg:Tg (x,y)):Prop:=match b with
 |true=>x
 |false=>y
@[go_sem] theorem aQH{x y:Prop}{t:Tg (x,y)}:xO true x y t=x:=(rfl)
@[go_sem] theorem aPx{x y:Prop}{t:Tg (x,y)}:xO false x y t=y:=(rfl)
theorem aD{b:Bool}{x y:Prop}{t:Tg (x,y)}(h1:b=true->x)(h2:b=false->y):xO b x y t:=by
 cases b
 ·exact h2 rfl
 ·exact h1 rfl
def aPy:AV->Option Bool
 |.bool b=>some b
 |_=>none
@[go_sem] theorem aQI{b:Bool}:aPy (.bool b)=some b:=(rfl)
def aFN(b:Bool):AV->Option Bool
 |.bool b'=>some (b'==b)
 |.tup []=>some false
 |_=>none
@[go_sem] theorem aQJ{b b':Bool}:aFN b (.bool b')=some (b'==b):=(rfl)
@[go_sem] theorem aQK{b:Bool}:aFN b (.tup [])=some false:=(rfl)
def wo(call:Nat->List AV->List AObj->Out)(c:Ctx)(ops:List AOper)(ρ:bH)(H:List AObj)(wr:List Nat)(K:bH->List AObj->List Nat->Prop)(tg:Tg (call,c,ops,K)):Prop:=aBn call c ops ρ H wr K
def wd(call:Nat->List AV->List AObj->Out)(c:Ctx)(keep:List Nat)(i:Nat)(ops:List AOper)(ρ:bH)(H:List AObj)(wr:List Nat)(L:bH->List AObj->List Nat->Log->Prop)(tg:Tg (call,c,keep,ops,L)):Prop:=
 wpD call c keep i ops ρ H wr L
def wc(A:AProg)(N:Nat)(c:Ctx)(x:ACode)(ρ:bH)(H:List AObj)(wr:List Nat)(Q:AExit->bH->List AObj->List Nat->Prop)(tg:Tg (A,N,c,x,Q)):Prop:=wpc A N c x ρ H wr Q
def wl(A:AProg)(N:Nat)(c:Ctx)(x:ACode)(ρ:bH)(H:List AObj)(wr:List Nat)(Q:AExit->bH->List AObj->List Nat->Prop)(tg:Tg (A,N,c,x,Q)):Prop:=Wp A N c (.loop x) ρ H wr Q
def wfz(c:Ctx)(ts:List (Nat×Nat))(ρ:bH)(H:List AObj)(wr:List Nat)(K:bH->List AObj->List Nat->Prop)(tg:Tg (c,ts,K)):Prop:=aBp c ts ρ H wr K
section
variable {call:Nat->List AV->List AObj->Out}{c:Ctx}{ρ:bH}{H:List AObj}{wr:List Nat}{r:List AOper}{p:List Nat}{d:Nat}
 {K:bH->List AObj->List Nat->Prop} {t:Tg (call,c,r,K)}
@[go_sem] theorem aXu{t:Tg (call,c,[],K)}:wo call c [] ρ H wr K t=K ρ H wr:=(rfl)
theorem aEg{op:AOp}{t:Tg (call,c,⟨some d,op,none,p⟩::r,K)}(h:isW (c.site (some d)) false op=false):wo call c (⟨some d,op,none,p⟩::r) ρ H wr K t=bnd (tW H ρ op) fun v=>wo call c r (upd ρ d v) H wr K ⟨⟩:=by
 unfold wo
 conv=>lhs;unfold aBn
 simp only[xN];unfold mJ;rw[if_neg (by simp[h])]
 cases tW H ρ op<;>rfl
abbrev WoR(op:AOp):Prop:=∀{call:Nat->List AV->List AObj->Out} {c:Ctx} {ρ:bH} {H:List AObj} {wr:List Nat} {r:List AOper} {p:List Nat} {d:Nat} {K:bH->List AObj->List Nat->Prop} {t:Tg (call,c,⟨some d,op,none,p⟩::r,K)},
 wo call c (⟨some d,op,none,p⟩::r) ρ H wr K t=bnd (tW H ρ op) fun v=>wo call c r (upd ρ d v) H wr K ⟨⟩
@[go_sem] theorem aXv{x1}:WoR (.mov x1):=aEg rfl
@[go_sem] theorem aWr{x1 y1 z1}:WoR (.pick x1 y1 z1):=aEg rfl
@[go_sem] theorem aUH{zs1 ps1}:WoR (.build zs1 ps1):=aEg rfl
@[go_sem] theorem aWs{k1 agg1 x1}:WoR (.load k1 agg1 x1):=aEg rfl
@[go_sem] theorem aUI{x1}:WoR (.nilck x1):=aEg rfl
@[go_sem] theorem aUJ{n1 x1}:WoR (.isnil n1 x1):=aEg rfl
@[go_sem] theorem aXw{b1 e1 x1 y1}:WoR (.bin b1 e1 x1 y1):=aEg rfl
@[go_sem] theorem aY7{u1 x1}:WoR (.un u1 x1):=aEg rfl
@[go_sem] theorem aWt{cv1 x1}:WoR (.conv cv1 x1):=aEg rfl
@[go_sem] theorem aXx{f1 xs1 ys1}:WoR (.mkf f1 xs1 ys1):=aEg rfl
@[go_sem] theorem aTn{x1 lo1 hi1}:WoR (.sliceS x1 lo1 hi1):=aEg rfl
@[go_sem] theorem aTo{k1 x1 lo1 hi1 mx1}:WoR (.sliceV k1 x1 lo1 hi1 mx1):=aEg rfl
@[go_sem] theorem aY8{o1 x1}:WoR (.fa o1 x1):=aEg rfl
@[go_sem] theorem aXy{o1 k1 agg1 x1}:WoR (.fld o1 k1 agg1 x1):=aEg rfl
@[go_sem] theorem aXz{x1 i1 k1}:WoR (.iaV x1 i1 k1):=aEg rfl
@[go_sem] theorem aXA{n1 k1 x1 i1}:WoR (.iaA n1 k1 x1 i1):=aEg rfl
@[go_sem] theorem aXB{x1 i1}:WoR (.ixS x1 i1):=aEg rfl
@[go_sem] theorem aWu{x1}:WoR (.lenS x1):=aEg rfl
@[go_sem] theorem aWv{x1}:WoR (.lenV x1):=aEg rfl
@[go_sem] theorem aY9{m1 xs1}:WoR (.mm m1 xs1):=aEg rfl
@[go_sem] theorem aXC{i1 x1}:WoR (.ext i1 x1):=aEg rfl
@[go_sem] theorem aWw{z1 m1 k1 ok1}:WoR (.look z1 m1 k1 ok1):=aEg rfl
@[go_sem] theorem aUK{u1 x1}:WoR (.mkifc u1 x1):=aEg rfl
theorem aIY{op:AOp}{d:Option Nat}{t:Tg (call,c,⟨d,op,none,p⟩::r,K)}:wo call c (⟨d,op,none,p⟩::r) ρ H wr K t=bnd (mJ call (c.site d) false ρ H op) fun t=>wo call c r (xT ρ d t.1) t.2.1 (bA c.base wr t.2.2) K ⟨⟩:=by
 unfold wo
 conv=>lhs;unfold aBn
 simp only[xN];cases mJ call (c.site d) false ρ H op<;>rfl
@[go_sem] theorem aUL{k:Nat}{x v:AOpd}{d:Option Nat}{t:Tg (call,c,⟨d,.store k x v,none,p⟩::r,K)}:wo call c (⟨d,.store k x v,none,p⟩::r) ρ H wr K t=bnd (aBj call H ρ (c.site d) (.store k x v)) fun t=>wo call c r (xT ρ d t.1) t.2.1 (bA c.base wr t.2.2) K ⟨⟩:=aIY
@[go_sem] theorem aXD{k b:Nat}{x v:AOpd}{d:Option Nat}{t:Tg (call,c,⟨d,.app k b x v,none,p⟩::r,K)}:wo call c (⟨d,.app k b x v,none,p⟩::r) ρ H wr K t=bnd (fH H (c.site d) k b (x.at ρ) (v.at ρ)) fun t=>wo call c r (xT ρ d t.1) t.2.1 (bA c.base wr t.2.2) K ⟨⟩:=aIY
@[go_sem] theorem aUM{f:AOpd}{xs:List AOpd}{d:Option Nat}{t:Tg (call,c,⟨d,.callv f xs,none,p⟩::r,K)}:wo call c (⟨d,.callv f xs,none,p⟩::r) ρ H wr K t=bnd (cY call H (c.site d) (f.at ρ) (xs.map (AOpd.at ρ))) fun t=>wo call c r (xT ρ d t.1) t.2.1 (bA c.base wr t.2.2) K ⟨⟩:=aIY
@[go_sem] theorem aUN{f:AOpd}{xs:List AOpd}{d:Option Nat}{t:Tg (call,c,⟨d,.callr f xs,none,p⟩::r,K)}:wo call c (⟨d,.callr f xs,none,p⟩::r) ρ H wr K t=bnd (hD call H (c.site d) (f.at ρ) (xs.map (AOpd.at ρ))) fun t=>wo call c r (xT ρ d t.1) t.2.1 (bA c.base wr t.2.2) K ⟨⟩:=aIY
@[go_sem] theorem aWx{tab:List (Nat×Nat)}{x:AOpd}{xs:List AOpd}{d:Option Nat}{t:Tg (call,c,⟨d,.invk tab x xs,none,p⟩::r,K)}:wo call c (⟨d,.invk tab x xs,none,p⟩::r) ρ H wr K t=bnd (aBj call H ρ (c.site d) (.invk tab x xs)) fun t=>wo call c r (xT ρ d t.1) t.2.1 (bA c.base wr t.2.2) K ⟨⟩:=aIY
@[go_sem] theorem aWy{ty k b:Nat}{x v:AOpd}{d:Option Nat}{t:Tg (call,c,⟨d,.tapp ty k b x v,none,p⟩::r,K)}:wo call c (⟨d,.tapp ty k b x v,none,p⟩::r) ρ H wr K t=bnd (tX H (c.site d) ty k b (x.at ρ) (v.at ρ)) fun t=>wo call c r (xT ρ d t.1) t.2.1 (bA c.base wr t.2.2) K ⟨⟩:=aIY
@[go_sem] theorem aTp{ty:Nat}{zs:List AV}{d:Option Nat}{t:Tg (call,c,⟨d,.talloc ty zs,none,p⟩::r,K)}:wo call c (⟨d,.talloc ty zs,none,p⟩::r) ρ H wr K t=bnd (mJ call (c.site d) false ρ H (.talloc ty zs)) fun t=>wo call c r (xT ρ d t.1) t.2.1 (bA c.base wr t.2.2) K ⟨⟩:=aIY
@[go_sem] theorem aXE{ty k:Nat}{x:AOpd}{d:Option Nat}{t:Tg (call,c,⟨d,.tbx ty k x,none,p⟩::r,K)}:wo call c (⟨d,.tbx ty k x,none,p⟩::r) ρ H wr K t=bnd (mJ call (c.site d) false ρ H (.tbx ty k x)) fun t=>wo call c r (xT ρ d t.1) t.2.1 (bA c.base wr t.2.2) K ⟨⟩:=aIY
@[go_sem] theorem aUO {d:Option Nat}{t:Tg (call,c,⟨d,.mkmap,none,p⟩::r,K)}:wo call c (⟨d,.mkmap,none,p⟩::r) ρ H wr K t=bnd (aBj call H ρ (c.site d) .mkmap) fun t=>wo call c r (xT ρ d t.1) t.2.1 (bA c.base wr t.2.2) K ⟨⟩:=aIY
@[go_sem] theorem aXF{m k v:AOpd}{d:Option Nat}{t:Tg (call,c,⟨d,.ins m k v,none,p⟩::r,K)}:wo call c (⟨d,.ins m k v,none,p⟩::r) ρ H wr K t=bnd (aBj call H ρ (c.site d) (.ins m k v)) fun t=>wo call c r (xT ρ d t.1) t.2.1 (bA c.base wr t.2.2) K ⟨⟩:=aIY
@[go_sem] theorem aUP{zs:List AV}{d:Option Nat}{t:Tg (call,c,⟨d,.alloc zs,none,p⟩::r,K)}:wo call c (⟨d,.alloc zs,none,p⟩::r) ρ H wr K t=bnd (mJ call (c.site d) false ρ H (.alloc zs)) fun t=>wo call c r (xT ρ d t.1) t.2.1 (bA c.base wr t.2.2) K ⟨⟩:=aIY
@[go_sem] theorem aXG{k:Nat}{x:AOpd}{d:Option Nat}{t:Tg (call,c,⟨d,.box k x,none,p⟩::r,K)}:wo call c (⟨d,.box k x,none,p⟩::r) ρ H wr K t=bnd (mJ call (c.site d) false ρ H (.box k x)) fun t=>wo call c r (xT ρ d t.1) t.2.1 (bA c.base wr t.2.2) K ⟨⟩:=aIY
@[go_sem] theorem aXH{k n:Nat}{zs:List AV}{ps:List (Nat×AOpd)}{d:Option Nat}{t:Tg (call,c,⟨d,.bsl k zs n ps,none,p⟩::r,K)}:wo call c (⟨d,.bsl k zs n ps,none,p⟩::r) ρ H wr K t=bnd (aBj call H ρ (c.site d) (.bsl k zs n ps)) fun t=>wo call c r (xT ρ d t.1) t.2.1 (bA c.base wr t.2.2) K ⟨⟩:=by
 rw[aIY];have:mJ call (c.site d) false ρ H (.bsl k zs n ps)=aBj call H ρ (c.site d) (.bsl k zs n ps):=by
  unfold mJ;rw[if_pos (by simp[isW])]
 rw[this]
@[go_sem] theorem aXI{k n:Nat}{zs:List AV}{x y:AOpd}{d:Option Nat}{t:Tg (call,c,⟨d,.mks k n zs x y,none,p⟩::r,K)}:wo call c (⟨d,.mks k n zs x y,none,p⟩::r) ρ H wr K t=bnd (aBj call H ρ (c.site d) (.mks k n zs x y)) fun t=>wo call c r (xT ρ d t.1) t.2.1 (bA c.base wr t.2.2) K ⟨⟩:=by
 rw[aIY];have:mJ call (c.site d) false ρ H (.mks k n zs x y)=aBj call H ρ (c.site d) (.mks k n zs x y):=by
  unfold mJ;rw[if_pos (by simp[isW])]
 rw[this]
@[go_sem] theorem aUQ{op:AOp}{t1:Nat}{b:Bool}{d:Option Nat}{t:Tg (call,c,⟨d,op,some (some t1,b),p⟩::r,K)}:wo call c (⟨d,op,some (some t1,b),p⟩::r) ρ H wr K t =
  bnd (aFN b (ρ t1)) fun w=>xO w (wo call c (⟨d,op,none,p⟩::r) ρ H wr K ⟨⟩) (wo call c r (xT ρ d (.tup [])) H wr K ⟨⟩) ⟨⟩:=by
 conv=>lhs;unfold wo aBn
 simp only[xN];cases ht:ρ t1<;>try rfl
 rotate_left
 ·rename_i vs;cases vs<;>rfl
 rename_i b';simp only[aFN,bnd,aCe];cases hb:(b'==b)with
 |false=>rfl
 |true=>simp only[xO];rw[aIY];cases mJ call (c.site d) false ρ H op<;>rfl
variable {keep:List Nat}{n0:Nat}{L:bH->List AObj->List Nat->Log->Prop}
@[go_sem] theorem aXJ{t:Tg (call,c,keep,[],L)}:wd call c keep n0 [] ρ H wr L t=L ρ H wr []:=(rfl)
def aS4(i:Nat)(rd:List Nat)(w:Option (List Nat))(L:bH->List AObj->List Nat->Log->Prop)(tg:Tg L):bH->List AObj->List Nat->Log->Prop:=
 fun ρ H wr log=>L ρ H wr ((i,rd,w)::log)
@[go_sem] theorem aWz{i:Nat}{rd:List Nat}{w:Option (List Nat)}{t:Tg L}{log:Log}:aS4 i rd w L t ρ H wr log=L ρ H wr ((i,rd,w)::log):=(rfl)
def aQL(b:Bool)(x y:Prop)(tg:Tg (x,y)):Prop:=match b with
 |true=>x
 |false=>y
@[go_sem] theorem aTq{x y:Prop}{t:Tg (x,y)}:aQL true x y t=x:=(rfl)
@[go_sem] theorem aS5{x y:Prop}{t:Tg (x,y)}:aQL false x y t=y:=(rfl)
theorem aOl{op:AOp}{d:Option Nat}{t:Tg (call,c,keep,⟨d,op,none,p⟩::r,L)}:wd call c keep n0 (⟨d,op,none,p⟩::r) ρ H wr L t=bnd (nG call (c.site d) ρ H op) fun t=>
  aQL (keep.contains n0) (wd call c keep (n0+1) r (xT ρ d t.1) t.2.1 (bA c.base wr (t.2.2.2.getD [])) (aS4 n0 t.2.2.1 t.2.2.2 L ⟨⟩) ⟨⟩)
   (wd call c keep (n0+1) r (xT ρ d t.1) t.2.1 (bA c.base wr (t.2.2.2.getD [])) L ⟨⟩) ⟨⟩:=by
 unfold wd
 conv=>lhs;unfold wpD
 simp only[xN];cases nG call (c.site d) ρ H op with
 |none=>rfl
 |some v=>cases hk:keep.contains n0<;>rfl
theorem aH3{op:AOp}{t:Tg (call,c,keep,⟨some d,op,none,p⟩::r,L)}(h:isW (c.site (some d)) true op=false)(ha:∀zs,op≠.alloc zs):wd call c keep n0 (⟨some d,op,none,p⟩::r) ρ H wr L t=bnd (tW H ρ op) fun v=>
  aQL (keep.contains n0) (bnd (some (aAB ρ op)) fun rd=>wd call c keep (n0+1) r (upd ρ d v) H wr (aS4 n0 rd none L ⟨⟩) ⟨⟩)
   (wd call c keep (n0+1) r (upd ρ d v) H wr L ⟨⟩) ⟨⟩:=by
 rw[aOl];have:nG call (c.site (some d)) ρ H op=match tW H ρ op with
   |some v=>some (v,H,aAB ρ op,none)
   |none=>none:=by
  cases op<;>first | exact absurd rfl (ha _)|(unfold nG;dsimp only;rw[if_neg (by rw[h];exact Bool.false_ne_true)];rfl)
 rw[this];cases tW H ρ op<;>rfl
abbrev WdR(op:AOp):Prop:=∀{call:Nat->List AV->List AObj->Out} {c:Ctx} {ρ:bH} {H:List AObj} {wr:List Nat} {r:List AOper} {p:List Nat} {d:Nat} {keep:List Nat} {n0:Nat} {L:bH->List AObj->List Nat->Log->Prop} {t:Tg (call,c,keep,⟨some d,op,none,p⟩::r,L)},
 wd call c keep n0 (⟨some d,op,none,p⟩::r) ρ H wr L t=bnd (tW H ρ op) fun v=>
  aQL (keep.contains n0) (bnd (some (aAB ρ op)) fun rd=>wd call c keep (n0+1) r (upd ρ d v) H wr (aS4 n0 rd none L ⟨⟩) ⟨⟩)
   (wd call c keep (n0+1) r (upd ρ d v) H wr L ⟨⟩) ⟨⟩
abbrev WdS(op:AOp):Prop:=∀{call:Nat->List AV->List AObj->Out} {c:Ctx} {ρ:bH} {H:List AObj} {wr:List Nat} {r:List AOper} {p:List Nat} {d:Option Nat} {keep:List Nat} {n0:Nat} {L:bH->List AObj->List Nat->Log->Prop} {t:Tg (call,c,keep,⟨d,op,none,p⟩::r,L)},
 wd call c keep n0 (⟨d,op,none,p⟩::r) ρ H wr L t=bnd (nG call (c.site d) ρ H op) fun t=>
  aQL (keep.contains n0) (wd call c keep (n0+1) r (xT ρ d t.1) t.2.1 (bA c.base wr (t.2.2.2.getD [])) (aS4 n0 t.2.2.1 t.2.2.2 L ⟨⟩) ⟨⟩)
   (wd call c keep (n0+1) r (xT ρ d t.1) t.2.1 (bA c.base wr (t.2.2.2.getD [])) L ⟨⟩) ⟨⟩
@[go_sem] theorem aXK{x1}:WdR (.mov x1):=aH3 rfl (fun _ h=>by cases h)
@[go_sem] theorem aWA{x1 y1 z1}:WdR (.pick x1 y1 z1):=aH3 rfl (fun _ h=>by cases h)
@[go_sem] theorem aUR{zs1 ps1}:WdR (.build zs1 ps1):=aH3 rfl (fun _ h=>by cases h)
@[go_sem] theorem aWB{k1 agg1 x1}:WdR (.load k1 agg1 x1):=aH3 rfl (fun _ h=>by cases h)
@[go_sem] theorem aUS{x1}:WdR (.nilck x1):=aH3 rfl (fun _ h=>by cases h)
@[go_sem] theorem aXL{b1 e1 x1 y1}:WdR (.bin b1 e1 x1 y1):=aH3 rfl (fun _ h=>by cases h)
@[go_sem] theorem aYa{u1 x1}:WdR (.un u1 x1):=aH3 rfl (fun _ h=>by cases h)
@[go_sem] theorem aWC{cv1 x1}:WdR (.conv cv1 x1):=aH3 rfl (fun _ h=>by cases h)
@[go_sem] theorem aXM{f1 xs1 ys1}:WdR (.mkf f1 xs1 ys1):=aH3 rfl (fun _ h=>by cases h)
@[go_sem] theorem aYb{o1 x1}:WdR (.fa o1 x1):=aH3 rfl (fun _ h=>by cases h)
@[go_sem] theorem aXN{x1 i1 k1}:WdR (.iaV x1 i1 k1):=aH3 rfl (fun _ h=>by cases h)
@[go_sem] theorem aXO{n1 k1 x1 i1}:WdR (.iaA n1 k1 x1 i1):=aH3 rfl (fun _ h=>by cases h)
@[go_sem] theorem aXP{x1 i1}:WdR (.ixS x1 i1):=aH3 rfl (fun _ h=>by cases h)
@[go_sem] theorem aWD{x1}:WdR (.lenV x1):=aH3 rfl (fun _ h=>by cases h)
@[go_sem] theorem aYc{m1 xs1}:WdR (.mm m1 xs1):=aH3 rfl (fun _ h=>by cases h)
@[go_sem] theorem aXQ{i1 x1}:WdR (.ext i1 x1):=aH3 rfl (fun _ h=>by cases h)
@[go_sem] theorem aWE{z1 m1 k1 ok1}:WdR (.look z1 m1 k1 ok1):=aH3 rfl (fun _ h=>by cases h)
@[go_sem] theorem aWF{k1 x1 lo1}:WdR (.view k1 x1 lo1):=aH3 rfl (fun _ h=>by cases h)
@[go_sem] theorem aUT{k:Nat}{x v:AOpd}:WdS (.store k x v):=aOl
@[go_sem] theorem aXR{k b:Nat}{x v:AOpd}:WdS (.app k b x v):=aOl
@[go_sem] theorem aUU{f:AOpd}{xs:List AOpd}:WdS (.callv f xs):=aOl
@[go_sem] theorem aUV{f:AOpd}{xs:List AOpd}:WdS (.callr f xs):=aOl
@[go_sem] theorem aUW{zs:List AV}:WdS (.alloc zs):=aOl
@[go_sem] theorem aXS{k n:Nat}{zs:List AV}{ps:List (Nat×AOpd)}:WdS (.bsl k zs n ps):=aOl
@[go_sem] theorem aUX{op:AOp}{t1:Nat}{b:Bool}{d:Option Nat}{t:Tg (call,c,keep,⟨d,op,some (some t1,b),p⟩::r,L)}:wd call c keep n0 (⟨d,op,some (some t1,b),p⟩::r) ρ H wr L t =
  bnd (aFN b (ρ t1)) fun w=>xO w (wd call c keep n0 (⟨d,op,none,p⟩::r) ρ H wr L ⟨⟩) (wd call c keep (n0+1) r (xT ρ d (.tup [])) H wr L ⟨⟩) ⟨⟩:=by
 conv=>lhs;unfold wd wpD
 simp only[xN];cases ht:ρ t1<;>try rfl
 rotate_left
 ·rename_i vs;cases vs<;>rfl
 rename_i b';simp only[aFN,bnd,aCe];cases hb:(b'==b)with
 |false=>rfl
 |true=>
  simp only[xO];rw[aOl];cases nG call (c.site d) ρ H op with
  |none=>rfl
  |some v=>cases hk:keep.contains n0<;>rfl
def nH(H:List AObj):Out->Option (AV×List AObj×List Nat×Option (List Nat))
 |some (v,H',w)=>if H'.length=H.length then some (v,H',[],some w)else none
 |none=>none
@[go_sem] theorem aPz{v:AV}{H':List AObj}{w:List Nat}:nH H (some (v,H',w))=if H'.length=H.length then some (v,H',[],some w)else none:=(rfl)
@[go_sem] theorem aQM{f:AOpd}{xs:List AOpd}{s:Option Nat}:nG call s ρ H (.callr f xs)=nH H (hD call H s (f.at ρ) (xs.map (AOpd.at ρ))):=(rfl)
@[go_sem] theorem aQN{k:Nat}{x v:AOpd}{s:Option Nat}:nG call s ρ H (.store k x v)=nH H (aBj call H ρ s (.store k x v)):=(rfl)
@[go_sem] theorem aQO{f:AOpd}{xs:List AOpd}{s:Option Nat}:nG call s ρ H (.callv f xs)=nH H (cY call H s (f.at ρ) (xs.map (AOpd.at ρ))):=(rfl)
@[go_sem] theorem aTr{k b:Nat}{x v:AOpd}{s:Option Nat}:nG call s ρ H (.app k b x v)=nH H (fH H s k b (x.at ρ) (v.at ρ)):=(rfl)
@[go_sem] theorem aQP{zs:List AV}{id:Nat}:nG call (some id) ρ H (.alloc zs)=some (.ptr id ((H[id]?).elim 0 AObj.ver) 0,H,[id],none):=(rfl)
@[go_sem] theorem aTs{k n:Nat}{zs:List AV}{ps:List (Nat×AOpd)}{id:Nat}:nG call (some id) ρ H (.bsl k zs n ps)=nH H (aBj call H ρ (some id) (.bsl k zs n ps)):=(rfl)
@[go_sem] theorem aNI{k n:Nat}{zs:List AV}{ps:List (Nat×AOpd)}:nG call none ρ H (.bsl k zs n ps)=match tW H ρ (.bsl k zs n ps)with
 |some v=>some (v,H,[],none)
 |none=>none:=(rfl)
@[go_sem] theorem aQQ{zs:List AV}{id:Nat}:mJ call (some id) false ρ H (.alloc zs)=if id<H.length then some (.ptr id (bG H id) 0,make H id (.box · zs),[id])else none:=(rfl)
@[go_sem] theorem aTt{k:Nat}{x:AOpd}{id:Nat}:mJ call (some id) false ρ H (.box k x)=if id<H.length/\(x.at ρ).cells.length=k/\(x.at ρ).cells.all AV.cellOk then some (.ptr id (bG H id) 0,make H id (.box · (x.at ρ).cells),[id])else none:=(rfl)
@[go_sem] theorem aNJ{k:Nat}{x:AOpd}:mJ call none false ρ H (.box k x)=if (x.at ρ).strip.cells.length=k/\(x.at ρ).strip.cells.all AV.still then some (.ep (x.at ρ).strip.cells 0,H,[])else none:=by
 unfold mJ;rw[if_neg (by simp[isW])]
 unfold tW;dsimp only
 by_cases h:(x.at ρ).strip.cells.length=k/\(x.at ρ).strip.cells.all AV.still
 ·rw[if_pos h,if_pos h]
 ·rw[if_neg h,if_neg h]
end
section
variable {A:AProg}{N:Nat}{c:Ctx}{ρ:bH}{H:List AObj}{wr:List Nat}{Q:AExit->bH->List AObj->List Nat->Prop}{a b:ACode}
def aKX(A:AProg)(N:Nat)(c:Ctx)(b:ACode)(Q:AExit->bH->List AObj->List Nat->Prop)(tg:Tg (A,N,c,b,Q)):AExit->bH->List AObj->List Nat->Prop:=fun e ρ H wr=>match e with
 |.normal=>wpc A N c b ρ H wr Q
 |e=>Q e ρ H wr
def aCV(id:Nat)(Q:AExit->bH->List AObj->List Nat->Prop)(tg:Tg Q):AExit->bH->List AObj->List Nat->Prop:=fun e ρ H wr=>match e with
 |.exit id'=>if id'=id then Q .normal ρ H wr else Q (.exit id') ρ H wr
 |e=>Q e ρ H wr
def aEh(ops:List AOper)(Q:bH->List AObj->List Nat->Prop)(tg:Tg (ops,Q)):bH->List AObj->List Nat->Log->Prop:=fun ρ H wr log=>
 fG (fun j=>((ops[j]?).map AOper.pre).getD []) log=true/\Q ρ H wr
@[go_sem] theorem aWG{t:Tg (A,N,c,ACode.skip,Q)}:wc A N c .skip ρ H wr Q t=Q .normal ρ H wr:=(rfl)
@[go_sem] theorem aTu{ops:List AOper}{t:Tg (A,N,c,ACode.region false ops,Q)}:wc A N c (.region false ops) ρ H wr Q t=wo (aL A) c ops ρ H wr (Q .normal) ⟨⟩:=(rfl)
@[go_sem] theorem aXT{t:Tg (A,N,c,ACode.seq a b,Q)}:wc A N c (.seq a b) ρ H wr Q t=wc A N c a ρ H wr (aKX A N c b Q ⟨⟩) ⟨⟩:=(rfl)
@[go_sem] theorem aWH{x:AOpd}{t:Tg (A,N,c,ACode.cond x a b,Q)}:wc A N c (.cond x a b) ρ H wr Q t=bnd (aPy (x.at ρ)) fun v=>xO v (wc A N c a ρ H wr Q ⟨⟩) (wc A N c b ρ H wr Q ⟨⟩) ⟨⟩:=by
 unfold wc;rw[wpc];cases x.at ρ<;>try rfl
 rename_i v;cases v<;>rfl
@[go_sem] theorem aUY{id:Nat}{t:Tg (A,N,c,ACode.block id a,Q)}:wc A N c (.block id a) ρ H wr Q t=wc A N c a ρ H wr (aCV id Q ⟨⟩) ⟨⟩:=(rfl)
@[go_sem] theorem aWI{t:Tg (A,N,c,ACode.loop a,Q)}:wc A N c (.loop a) ρ H wr Q t=wl A N c a ρ H wr Q ⟨⟩:=(rfl)
@[go_sem] theorem aWJ{id:Nat}{t:Tg (A,N,c,ACode.exit id,Q)}:wc A N c (.exit id) ρ H wr Q t=Q (.exit id) ρ H wr:=(rfl)
@[go_sem] theorem aXU{t:Tg (A,N,c,ACode.ret,Q)}:wc A N c .ret ρ H wr Q t=Q .ret ρ H wr:=(rfl)
@[go_sem] theorem aXV{ts:List (Nat×Nat)}{t:Tg (A,N,c,ACode.frz ts,Q)}:wc A N c (.frz ts) ρ H wr Q t=wfz c ts ρ H wr (Q .normal) ⟨⟩:=(rfl)
theorem aQR{ops:List AOper}{t:Tg (A,N,c,ACode.region true ops,Q)}{H0:List AObj}{keep:List Nat}(h:cI c H ops=some H0)(hk:aAh c ops=keep):
  wc A N c (.region true ops) ρ H wr Q t=wd (aL A) c keep 0 ops ρ H0 wr (aEh ops (Q .normal) ⟨⟩) ⟨⟩:=by
 subst hk;unfold wc wd;rw[wpc,h];rfl
theorem bN{ops:List AOper}{t:Tg (A,N,c,ACode.region true ops,Q)}{H0:List AObj}{keep:List Nat}(h:cI c H ops=some H0)(hk:aAh c ops=keep)
  (hw:wd (aL A) c keep 0 ops ρ H0 wr (aEh ops (Q .normal) ⟨⟩) ⟨⟩):wc A N c (.region true ops) ρ H wr Q t:=by
 rw[aQR h hk];exact hw
@[go_sem] theorem aPA{t:Tg (A,N,c,b,Q)}:aKX A N c b Q t .normal ρ H wr=wc A N c b ρ H wr Q ⟨⟩:=(rfl)
@[go_sem] theorem aTv{t:Tg (A,N,c,b,Q)}:aKX A N c b Q t .ret ρ H wr=Q .ret ρ H wr:=(rfl)
@[go_sem] theorem aS6{t:Tg (A,N,c,b,Q)}{id:Nat}:aKX A N c b Q t (.exit id) ρ H wr=Q (.exit id) ρ H wr:=(rfl)
@[go_sem] theorem aOm{t:Tg Q}{id:Nat}:aCV id Q t .normal ρ H wr=Q .normal ρ H wr:=(rfl)
@[go_sem] theorem aS7{t:Tg Q}{id:Nat}:aCV id Q t .ret ρ H wr=Q .ret ρ H wr:=(rfl)
@[go_sem] theorem aQS{t:Tg Q}{id:Nat}:aCV id Q t (.exit id) ρ H wr=Q .normal ρ H wr:=by unfold aCV;dsimp only;rw[if_pos rfl]
theorem aR{ops:List AOper}{K:bH->List AObj->List Nat->Prop}{t:Tg (ops,K)}{log:Log}(h:fG (fun j=>((ops[j]?).map AOper.pre).getD []) log=true):aEh ops K t ρ H wr log=K ρ H wr:=by
 unfold aEh;simp only[h,true_and]
@[go_sem] theorem aQT{ops:List AOper}{K:bH->List AObj->List Nat->Prop}{t:Tg (ops,K)}:aEh ops K t ρ H wr []=K ρ H wr:=aR rfl
@[go_sem] theorem aWK{K:bH->List AObj->List Nat->Prop}{t:Tg (c,[],K)}:wfz c [] ρ H wr K t=K ρ H wr:=(rfl)
@[go_sem] theorem aUZ{K:bH->List AObj->List Nat->Prop}{s:Nat}{r:List (Nat×Nat)}{t:Tg (c,(0,s)::r,K)}:wfz c ((0,s)::r) ρ H wr K t=bnd (aS1 H (ρ s)) fun x=>wfz c r (upd ρ s x.1) x.2.1 (bA c.base wr x.2.2) K ⟨⟩:=by
 unfold wfz
 conv=>lhs;unfold aBp
 cases aS1 H (ρ s)<;>rfl
@[go_sem] theorem aQU{o v off:Nat}:oQ H (.ptr o v off)=none:=(rfl)
@[go_sem] theorem aS8{o v n k i off:Nat}:oQ H (.vp o v n k i off)=none:=(rfl)
@[go_sem] theorem aTw{K:bH->List AObj->List Nat->Prop}{k s:Nat}{r:List (Nat×Nat)}{t:Tg (c,(k+1,s)::r,K)}:wfz c ((k+1,s)::r) ρ H wr K t =
  bnd (some (ρ s).isUndef) fun b=>xO b (wfz c r ρ H wr K ⟨⟩) (bnd (aBo H (k+1) (ρ s)) fun x=>wfz c r ρ x.1 (bA c.base wr x.2) K ⟨⟩) ⟨⟩:=by
 unfold wfz
 conv=>lhs;unfold aBp
 cases hu:(ρ s).isUndef with
 |true=>simp[bnd,xO,aCe]
 |false=>
  simp only[bnd,xO,aCe,Bool.false_eq_true,if_false];cases aBo H (k+1) (ρ s)<;>rfl
end
@[go_sem] theorem aXW{ρ:bH}{t:Nat}:(AOpd.tmp t).at ρ=ρ t:=(rfl)
@[go_sem] theorem aV0{ρ:bH}{v:AV}:(AOpd.const v).at ρ=v:=(rfl)
@[go_sem] theorem aV1{ρ:bH}{d:Nat}{v:AV}:upd ρ d v d=v:=by unfold upd;rw[if_pos rfl]
theorem yP{ρ:bH}{d t:Nat}{v:AV}(h:t≠d):upd ρ d v t=ρ t:=by unfold upd;rw[if_neg h]
@[go_sem] theorem aS9{ρ:bH}{d t:Nat}{v:AV}(h:(t==d)=false):upd ρ d v t=ρ t:=yP (by simpa using h)
@[go_sem] theorem aTx{ρ:bH}{d:Nat}{v:AV}:xT ρ (some d) v=upd ρ d v:=(rfl)
@[go_sem] theorem aTy{ρ:bH}{v:AV}:xT ρ none v=ρ:=(rfl)
end Go.AM
end
