/- Part 6: lemmas for the last text. -/
import Derived.Test.YtjomjibkahijoaaGreatDoorK04
import Derived.Test.YtjomjibkahijoaaGreatDoorK05
set_option linter.unusedVariables false
set_option linter.unusedSimpArgs false
open Bool renaming and_eq_true -> AI, true -> Qt, false -> Qu
open Option renaming some -> Qr, none -> Qs
section
namespace Go.AM
open Go
def aT5{α:Type}(p:α->α->Bool):List α->List α->Bool
 | [],[]=>Qt
 |a::x,b::y=>p a b&&aT5 p x y
 |_,_=>Qu
theorem aEf{α:Type}{p:α->α->Bool}(hp:∀a b,p a b=Qt->a=b):∀x y:List α,aT5 p x y=Qt->x=y
 | [],[],_=>rfl
 |a::x,b::y,h=>by
  simp only[aT5,AI]at h;rw[hp a b h.1,aEf hp x y h.2]
 | [],_::_,h=>by cases h
 |_::_,[],h=>by cases h
def aPG:Nat->AV->AV->Bool
 |0,_,_=>Qu
 |n+1,a,b=>match a,b with
  |.int k x,.int k' y=>decide (k=k')&&decide (x=y)
  |.str x,.str y=>aT5 (fun a b=>decide (a=b)) x y
  |.sl f x,.sl g y=>(f==g)&&aT5 (aT5 (aPG n)) x y
  |.agg x,.agg y=>aT5 (aPG n) x y
  |_,_=>Qu
theorem aJj:∀(n:Nat) (a b:AV),aPG n a b=Qt->a=b
 |0,_,_,h=>by cases h
 |n+1,a,b,h=>by
  unfold aPG at h;split at h
  ·simp only[AI,decide_eq_true_eq]at h;rw[h.1,h.2]
  ·rw[aEf (fun a b h=>by simpa using h) _ _ h]
  ·simp only[AI,beq_iff_eq]at h;rw[h.1,aEf (aEf (aJj n)) _ _ h.2]
  ·rw[aEf (aJj n) _ _ h]
  cases h
def tU:List (LA×AV)->aIP
 | [],_,_=>Qs
 | (a,v)::r,args,H=>if aT5 (aPG 10) a args=Qt then Qr (v,[],[])else tU r args H
theorem aGs:∀{tab:List (LA×AV)} {args:LA} {H:LO} {r},tU tab args H=Qr r->∃v,(args,v)∈tab/\r=(v,[],[])
 | [],_,_,_,h=>by cases h
 | (a,v)::t,args,H,r,h=>by
  unfold tU at h;split at h
  ·rename_i e;cases h;have:=aEf (aJj 10) _ _ e;subst this;exact⟨v,by simp,rfl⟩
  obtain⟨v',h1,h2⟩:=aGs h;exact⟨v',by simp[h1],h2⟩
theorem aKD{n:Nat}:∀{l:LA},dJ n l=Qt->∀(i:Nat) a,l[i]? = Qr a->a.under n=Qt
 | [],_,i,a,h=>by simp at h
 |v::r,hu,i,a,h=>by
  simp only[dJ,AI]at hu;cases i with
  |zero=>simp at h;subst h;exact hu.1
  |succ i=>exact aKD hu.2 i a (by simpa using h)
theorem aGt{P:Program}{ab:cu}{A:af}(hA:Good P ab A)(B4:∀n row,ab.row n=Qr row->dJ 0 row=Qt){f:Nat}{tab:List (LA×AV)} (hf:∃F,P.funcs[f]? = Qr F/\(F.name == "runtime.NumGoroutine")=Qu/\F.body.isNone=Qu) (h:∀a v,(a,v)∈tab->v.atomic=Qt/\dJ 0 a=Qt/\aG A f a []=Qr (v,[],[])):gS P ab fun f' args H=>if f'=f then (tU tab args H).map (cT H)else none:=by
 refine oC hf fun args H v ws ns hp g w xs hw hg hx=>?_;obtain⟨v',hm,e⟩:=aGs hp;cases e;obtain⟨jk,hu,hc⟩:=h args v hm;obtain⟨n,hc⟩:=oM hc;have od:WF (g.cut 0) [] w:=by
  refine⟨hw.perm,fun o l h=>by simp[G.cut]at h,fun o l h=>by simp[G.cut]at h,fun o x l _ h=>by simp[G.cut]at h,fun o l x h=>?_,fun o l x h=>?_,fun o o' l l' x x' h=>?_,⟨fun b y hy=>⟨(hw.whole.blocks b y hy).1,fun o l z hz=>?_⟩,hw.whole.io⟩⟩
  all_goals first
   | (have:=h.Pr;simp at this;done)
   | (have:=hz.Pr;simp at this;done)
 have Q6:bM P ab (g.cut 0):=⟨fun n row e=>by
  obtain⟨h1,h2⟩:=hg.row n row e;exact⟨h1.cut (by simpa [AV.under]using B4 n row e),h2⟩,hg.code⟩
 have jr:fU (g.cut 0) args xs:=⟨hx.1,fun i a x e1 e2=>(hx.2 i a x e1 e2).cut (aKD hu i a e1)⟩;refine (((sU hA n).1 f args [] v [] [] hc (g.cut 0) w xs od Q6 jr).2).mono fun e w' he=>?_;cases e with
 |panicked c=>exact he
 |outgrown=>exact he
 |returned x=>
  obtain⟨g',hs,hr⟩:=he;have kh:w'.os=w.os/\w'.output=w.output:=by have e1:=hs.wf.whole.io;have e2:=hs.le.io;have e3:=hw.whole.io;rw[e2]at e1;have e4:(w.os,w.output)=(w'.os,w'.output):=e3.symm.trans e1;exact⟨(congrArg Prod.fst e4).symm,(congrArg Prod.snd e4).symm⟩
  refine⟨g,by simpa [eU]using Step.nf hw hs.frame.1 (fun b hb=>hs.frame.2 b hb fun o ho=>by cases ho) kh, ?_⟩;cases v<;>first | (simp[AV.atomic,AV.atom]at jk;done) | exact ai.atomic hr jk
theorem qH{A:af}{m n f:Nat}{args:LA}(h:aE3 A m n f args [] aJi=Qt):aG A f args []=Qr (.bool Qt,[],[]):=by
 obtain⟨v,H',wr,h1,h2⟩:=xG A m n f args [] aJi h;unfold aJi at h2;split at h2
 ·exact h1
 cases h2
theorem bDZ{A:af}{m n f:Nat}{args:LA}(h:aE3 A m n f args [] bFA=Qt):aG A f args []=Qr (.int .i64 0,[],[]):=by
 obtain⟨v,H',wr,h1,h2⟩:=xG A m n f args [] bFA h;unfold bFA at h2;split at h2
 ·exact h1
 cases h2
theorem bG6{A:af}{m n f:Nat}{args:LA}(h:aE3 A m n f args [] kHi=Qt):aG A f args []=Qr (.tup [.str [72,105],.int .i64 0],[],[]):=by
 obtain⟨v,H',wr,h1,h2⟩:=xG A m n f args [] kHi h;unfold kHi at h2;split at h2
 ·exact h1
 cases h2
theorem aBi:∀n row,aBx.row n=Qr row->dJ 0 row=true:=by intro n row h;simp only[aBx,aZA]at h;split at h<;>cases h<;>rfl
theorem aLW{A:af}(ta:A.fn=fnK)(Lb:A.bq YF=Qs)(Ef:A.bq 249=Qs)(Ag:∀f p,A.bq f=Qr p->aO4 f=Qr p∨gS Go.Proofs.Tryz.prog aBx fun f' args H=>if f'=f then (p args H).map (cT H)else Qs):Good Go.Proofs.Tryz.prog aBx A where
 mixed:=aRS.mixed
 A5:=⟨(congrFun ta YF).trans (by kernel_rfl),Lb⟩
 fn:=fun f fn h=>by
  rw[ta]at h;by_cases e:f=249
  ·subst e;exact .inr (Go.Proofs.Sa.yu Ef (by rw[ta];rfl))
  exact .inl (aY0 e h)
 bq:=fun f p h=>(Ag f p h).elim (fun h=>aRS.bq f p h) id
def bGE:List (LA×AV):=[(bGj,.int .i64 0),(bGk,.int .i64 0),(bGl,.int .i64 0)]
theorem bFq:gS Go.Proofs.Tryz.prog aBx fun f' args H=>if f'=7 then (tU bGE args H).map (cT H)else none:=by
 refine aGt aRS aBi ⟨Go.Proofs.Tryz.f7,Go.Proofs.Tryz.func7,by kernel_rfl,by kernel_rfl⟩ fun a v h=>?_;simp only[bGE,List.mem_cons,Prod.mk.injEq,or_false,List.not_mem_nil]at h;rcases h with⟨rfl,rfl⟩ | ⟨rfl,rfl⟩ | ⟨rfl,rfl⟩
 ·exact⟨rfl,by kernel_rfl,bDZ bG3⟩
 ·exact⟨rfl,by kernel_rfl,bDZ bG4⟩
 exact⟨rfl,by kernel_rfl,bDZ bG5⟩
def bGn(f:Nat):Option aIP:=match f with
 |7=>Qr (tU bGE)
 |f=>aO4 f
noncomputable def AV1:af:=⟨fnK,bGn⟩
theorem bGJ:Good Go.Proofs.Tryz.prog aBx AV1:=aLW rfl (by kernel_rfl) rfl fun f p h=>by
 have h:bGn f=Qr p:=h;unfold bGn at h;split at h
 ·cases h;exact .inr bFq
 exact .inl h
end Go.AM
end
