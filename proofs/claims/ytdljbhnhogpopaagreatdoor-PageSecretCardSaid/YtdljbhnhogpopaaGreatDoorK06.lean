/- Part 6: lemmas for the last text. -/
import Derived.Test.YtdljbhnhogpopaaGreatDoorK04
import Derived.Test.YtdljbhnhogpopaaGreatDoorK05
set_option linter.defProp false
set_option linter.unusedVariables false
set_option linter.unusedSimpArgs false
open Bool renaming and_eq_true -> AI, true -> Pa, false -> Po
open Option renaming some -> N1, none -> N2
section
namespace Go.AM
open Go
def aT5{α:Type}(p:α->α->Bool):List α->List α->Bool
 | [],[]=>Pa
 |a::x,b::y=>p a b&&aT5 p x y
 |_,_=>Po
def aEf{α:Type}{p:α->α->Bool}(hp:∀a b,p a b=Pa->a=b):∀x y:List α,aT5 p x y=Pa->x=y
 | [],[],_=>rfl
 |a::x,b::y,h=>by
  simp only[aT5,AI]at h;rw[hp a b h.1,aEf hp x y h.2]
 | [],_::_,h=>by cases h
 |_::_,[],h=>by cases h
def aPG:Nat->AV->AV->Bool
 |0,_,_=>Po
 |n+1,a,b=>match a,b with
  |.int k x,.int k' y=>decide (k=k')&&decide (x=y)
  |.str x,.str y=>aT5 (λa b=>decide (a=b)) x y
  |.sl f x,.sl g y=>(f==g)&&aT5 (aT5 (aPG n)) x y
  |.agg x,.agg y=>aT5 (aPG n) x y
  |_,_=>Po
def aJj:∀(n:Nat) (a b:AV),aPG n a b=Pa->a=b
 |0,_,_,h=>by cases h
 |n+1,a,b,h=>by
  unfold aPG at h;split at h
  ·simp only[AI,decide_eq_true_eq]at h;rw[h.1,h.2]
  ·rw[aEf (λa b h=>by simpa using h) _ _ h]
  ·simp only[AI,beq_iff_eq]at h;rw[h.1,aEf (aEf (aJj n)) _ _ h.2]
  ·rw[aEf (aJj n) _ _ h]
  cases h
def tU:List (LA×AV)->aIP
 | [],_,_=>N2
 | (a,v)::r,args,H=>if aT5 (aPG 10) a args=Pa then N1 (v,[],[])else tU r args H
def aGs:∀{tab:List (LA×AV)} {args:LA} {H:LO} {r},tU tab args H=N1 r->∃v,(args,v)∈tab/\r=(v,[],[])
 | [],_,_,_,h=>by cases h
 | (a,v)::t,args,H,r,h=>by
  unfold tU at h;split at h
  ·rename_i e;cases h;have:=aEf (aJj 10) _ _ e;subst this;exact⟨v,by simp,rfl⟩
  obtain⟨v',h1,h2⟩:=aGs h;exact⟨v',by simp[h1],h2⟩
def aKD{n:Nat}:∀{l:LA},dJ n l=Pa->∀(i:Nat) a,l[i]? = N1 a->a.under n=Pa
 | [],_,i,a,h=>by simp at h
 |v::r,hu,i,a,h=>by
  simp only[dJ,AI]at hu;cases i with
  |zero=>simp at h;subst h;exact hu.1
  |succ i=>exact aKD hu.2 i a (by simpa using h)
def aGt{P:Program}{ab:cu}{A:af}(hA:Good P ab A)(B4:∀n row,ab.row n=N1 row->dJ 0 row=Pa){f:Nat}{tab:List (LA×AV)} (hf:∃F,P.funcs[f]? = N1 F/\(F.name == "runtime.NumGoroutine")=Po/\F.body.isNone=Po) (h:∀a v,(a,v)∈tab->v.atomic=Pa/\dJ 0 a=Pa/\aG A f a []=N1 (v,[],[])):gS P ab λf' args H=>if f'=f then (tU tab args H).map (cT H)else none:=by
 refine oC hf λargs H v ws ns hp g w xs hw hg hx=>?_;obtain⟨v',hm,e⟩:=aGs hp;cases e;obtain⟨jk,hu,hc⟩:=h args v hm;obtain⟨n,hc⟩:=oM hc;have od:WF (g.cut 0) [] w:=by
  refine⟨hw.perm,λo l h=>by simp[G.cut]at h,λo l h=>by simp[G.cut]at h,λo x l _ h=>by simp[G.cut]at h,λo l x h=>?_,λo l x h=>?_,λo o' l l' x x' h=>?_,⟨λb y hy=>⟨(hw.whole.blocks b y hy).1,λo l z hz=>?_⟩,hw.whole.io⟩⟩
  all_goals first
   | (have:=h.Pr;simp at this;done)
   | (have:=hz.Pr;simp at this;done)
 have Q6:bM P ab (g.cut 0):=⟨λn row e=>by
  obtain⟨h1,h2⟩:=hg.row n row e;exact⟨h1.cut (by simpa [AV.under]using B4 n row e),h2⟩,hg.code⟩
 have jr:fU (g.cut 0) args xs:=⟨hx.1,λi a x e1 e2=>(hx.2 i a x e1 e2).cut (aKD hu i a e1)⟩;refine (((sU hA n).1 f args [] v [] [] hc (g.cut 0) w xs od Q6 jr).2).mono λe w' he=>?_;cases e with
 |panicked c=>exact he
 |outgrown=>exact he
 |returned x=>
  obtain⟨g',hs,hr⟩:=he;have kh:w'.os=w.os/\w'.output=w.output:=by have e1:=hs.wf.whole.io;have e2:=hs.le.io;have e3:=hw.whole.io;rw[e2]at e1;have e4:(w.os,w.output)=(w'.os,w'.output):=e3.symm.trans e1;exact⟨(congrArg Prod.fst e4).symm,(congrArg Prod.snd e4).symm⟩
  refine⟨g,by simpa [eU]using Step.nf hw hs.frame.1 (λb hb=>hs.frame.2 b hb λo ho=>by cases ho) kh, ?_⟩;cases v<;>first | (simp[AV.atomic,AV.atom]at jk;done) | exact ai.atomic hr jk
def qH{A:af}{m n f:Nat}{args:LA}(h:aE3 A m n f args [] aJi=Pa):aG A f args []=N1 (.bool Pa,[],[]):=by
 obtain⟨v,H',wr,h1,h2⟩:=xG A m n f args [] aJi h;unfold aJi at h2;split at h2
 ·exact h1
 cases h2
def bE6{A:af}{m n f:Nat}{args:LA}(h:aE3 A m n f args [] bFR=Pa):aG A f args []=N1 (.int .i64 0,[],[]):=by
 obtain⟨v,H',wr,h1,h2⟩:=xG A m n f args [] bFR h;unfold bFR at h2;split at h2
 ·exact h1
 cases h2
def bGz{A:af}{m n f:Nat}{args:LA}(h:aE3 A m n f args [] kHi=Pa):aG A f args []=N1 (.tup [.str [72,105],.int .i64 0],[],[]):=by
 obtain⟨v,H',wr,h1,h2⟩:=xG A m n f args [] kHi h;unfold kHi at h2;split at h2
 ·exact h1
 cases h2
def aBi:∀n row,aBx.row n=N1 row->dJ 0 row=true:=by intro n row h;simp only[aBx,aZA]at h;split at h<;>cases h<;>rfl
def aLW{A:af}(Qd:A.fn=fnK)(Lb:A.bq YF=N2)(Ef:A.bq 233=N2)(Ag:∀f p,A.bq f=N1 p->aO4 f=N1 p∨gS Go.Proofs.Tryz.prog aBx λf' args H=>if f'=f then (p args H).map (cT H)else N2):Good Go.Proofs.Tryz.prog aBx A where
 mixed:=aRS.mixed
 A5:=⟨(congrFun Qd YF).trans (by kernel_rfl),Lb⟩
 fn:=λf fn h=>by
  rw[Qd]at h;by_cases e:f=233
  ·subst e;exact .inr (Go.Proofs.Sa.yu Ef (by rw[Qd];rfl))
  exact .inl (aY0 e h)
 bq:=λf p h=>(Ag f p h).elim (λh=>aRS.bq f p h) id
def bI5:List (LA×AV):=[(bH7,.int .i64 0),(bH8,.int .i64 0),(bH9,.int .i64 0)]
def bFD:gS Go.Proofs.Tryz.prog aBx λf' args H=>if f'=41 then (tU bI5 args H).map (cT H)else none:=by
 refine aGt aRS aBi ⟨Go.Proofs.Tryz.f41,Go.Proofs.Tryz.func41,by kernel_rfl,by kernel_rfl⟩ λa v h=>?_;simp only[bI5,List.mem_cons,Prod.mk.injEq,or_false,List.not_mem_nil]at h;rcases h with⟨rfl,rfl⟩ | ⟨rfl,rfl⟩ | ⟨rfl,rfl⟩
 ·exact⟨rfl,by kernel_rfl,bE6 bGw⟩
 ·exact⟨rfl,by kernel_rfl,bE6 bGx⟩
 exact⟨rfl,by kernel_rfl,bE6 bGy⟩
def bHm(f:Nat):Option aIP:=match f with
 |41=>N1 (tU bI5)
 |f=>aO4 f
noncomputable def AV1:af:=⟨fnK,bHm⟩
def bIb:Good Go.Proofs.Tryz.prog aBx AV1:=aLW rfl (by kernel_rfl) rfl λf p h=>by
 have h:bHm f=N1 p:=h;unfold bHm at h;split at h
 ·cases h;exact .inr bFD
 exact .inl h
end Go.AM
end
