/- Part 7: lemmas for the last text. -/
import Derived.Test.YtcndplokeppakaaGreatDoorK02
import Derived.Test.YtcndplokeppakaaGreatDoorK03
import Derived.Test.YtcndplokeppakaaGreatDoorK04
import Derived.Test.YtcndplokeppakaaGreatDoorK05
import Derived.Test.YtcndplokeppakaaGreatDoorK06
import Derived.KernelRfl
set_option linter.unusedVariables false
set_option linter.unusedSimpArgs false
set_option maxHeartbeats 3200000
set_option maxRecDepth 8000
open Bool renaming and_eq_true -> AI, false_and -> BQ, false_beq -> BB, true_and -> BR, true_beq -> CE, true_or -> EP, false_or -> II, or_true -> GV, or_self -> IJ, false_eq_true -> BX, and_false -> MC, not_not -> PE, not_eq_true -> GB, or_eq_false_iff -> MO, true -> QS, false -> QT
open Go.IntKind renaming i64 -> AR, wrap -> GA, bits -> LK, signed -> KC
open Int renaming lt_irrefl -> Pn, natCast_add -> KO, natCast_nonneg -> AU, toNat_natCast -> AT
open List renaming mem_cons -> BD, not_mem_nil -> CC, append_nil -> AJ, exists_cons_of_ne_nil -> ER, range -> GZ, length_map -> AF, all_eq_true -> AO, sizeOf_lt_of_mem -> GY, getElem_mem -> AS, drop_eq_getElem_cons -> FD, take_of_length_le -> CH, drop_eq_nil_of_le -> DH, map_cons -> BI, getElem?_cons_zero -> BG, cons_append -> DO, nil_append -> CW, map_nil -> BY, take_succ_cons -> AA, getElem_cons_succ -> MD, length_cons -> AW, ext_getElem? -> HN, getElem?_set_self -> BW, getElem?_set_ne -> CL, isEmpty_cons -> NM, length_nil -> AZ, length_append -> BA, getElem?_eq_getElem -> AP, map_append -> DQ, set_set -> EO, length_set -> CP, getElem?_cons_succ -> CT, set_append_left -> DX, set_comm -> JR, mem_cons_of_mem -> BZ, mem_cons_self -> HD, replicate -> AX, getElem?_append_left -> BM, getElem?_map -> BN, getElem?_range -> HQ, append_assoc -> CJ, set_append_right -> IP, getElem?_replicate -> IN, mem_append -> AY, reverse_cons -> NN, getElem?_append_right -> BU, contains_iff_mem -> EH, count_cons -> LP, any_cons -> Qj, mem_reverse -> JW, take_zero -> AE, any_eq_false -> KH, take_append_drop -> IQ, length_pos_iff -> MY, length_eq_one_iff -> FQ, drop_zero -> AD, drop_succ_cons -> AB, range' -> FM, mem_range'_1 -> FC, mem_singleton -> CG
open Nat renaming le_of_eq -> PM, le_refl -> AQ, lt_succ_self -> HR, zero_add -> BC, le_add_right -> EG, mul_one -> FK, zero_le -> FF, sub_self -> GD, succ_mul -> JS, mul_le_mul_right -> BO
open Option renaming elim_some -> HC, some -> QQ, none -> N2
open Prod renaming fst -> EM
open Prod.mk renaming injEq -> BK
open UInt8 renaming ofNat -> CN, toNat_lt -> EC
open Nat renaming reduceAdd -> NA
open Bool renaming not_true -> BT, not_false -> BF
section
namespace Go.AM
open Go
def aT5{α:Type}(p:α->α->Bool):List α->List α->Bool
 | [],[]=>QS
 |a::x,b::y=>p a b&&aT5 p x y
 |_,_=>QT
theorem aEf{α:Type}{p:α->α->Bool}(hp:∀a b,p a b=QS->a=b):∀x y:List α,aT5 p x y=QS->x=y
 | [],[],_=>rfl
 |a::x,b::y,h=>by
  simp only[aT5,AI]at h;rw[hp a b h.1,aEf hp x y h.2]
 | [],_::_,h=>by cases h
 |_::_,[],h=>by cases h
def aPG:Nat->AV->AV->Bool
 |0,_,_=>QT
 |n+1,a,b=>match a,b with
  |.int k x,.int k' y=>decide (k=k')&&decide (x=y)
  |.str x,.str y=>aT5 (fun a b=>decide (a=b)) x y
  |.sl f x,.sl g y=>(f==g)&&aT5 (aT5 (aPG n)) x y
  |.agg x,.agg y=>aT5 (aPG n) x y
  |_,_=>QT
theorem aJj:∀(n:Nat) (a b:AV),aPG n a b=QS->a=b
 |0,_,_,h=>by cases h
 |n+1,a,b,h=>by
  unfold aPG at h;split at h
  ·simp only[AI,decide_eq_true_eq]at h;rw[h.1,h.2]
  ·rw[aEf (fun a b h=>by simpa using h) _ _ h]
  ·simp only[AI,beq_iff_eq]at h;rw[h.1,aEf (aEf (aJj n)) _ _ h.2]
  ·rw[aEf (aJj n) _ _ h]
  cases h
def tU:List (LA×AV)->aIP
 | [],_,_=>N2
 | (a,v)::r,args,H=>if aT5 (aPG 10) a args=QS then QQ (v,[],[])else tU r args H
theorem aGs:∀{tab:List (LA×AV)} {args:LA} {H:LO} {r},tU tab args H=QQ r->∃v,(args,v)∈tab/\r=(v,[],[])
 | [],_,_,_,h=>by cases h
 | (a,v)::t,args,H,r,h=>by
  unfold tU at h;split at h
  ·rename_i e;cases h;have:=aEf (aJj 10) _ _ e;subst this;exact⟨v,siT,rfl⟩
  obtain⟨v',h1,h2⟩:=aGs h;exact⟨v',by simp[h1],h2⟩
theorem aKD{n:Nat}:∀{l:LA},dJ n l=QS->∀(i:Nat) a,l[i]? = QQ a->a.under n=QS
 | [],_,i,a,h=>by simp at h
 |v::r,hu,i,a,h=>by
  simp only[dJ,AI]at hu;cases i with
  |zero=>simp at h;subst h;exact hu.1
  |succ i=>exact aKD hu.2 i a (by simpa using h)
theorem aGt{P:Program}{ab:cu}{A:af}(hA:Good P ab A)(B4:∀n row,ab.row n=QQ row->dJ 0 row=QS){f:Nat}{tab:List (LA×AV)} (hf:∃F,P.funcs[f]? = QQ F/\(F.name == "runtime.NumGoroutine")=QT/\F.body.isNone=QT) (h:∀a v,(a,v)∈tab->v.atomic=QS/\dJ 0 a=QS/\aG A f a []=QQ (v,[],[])):gS P ab fun f' args H=>if f'=f then (tU tab args H).map (cT H)else none:=by
 refine oC hf fun args H v ws ns hp g w xs hw hg hx=>?_;obtain⟨v',hm,e⟩:=aGs hp;cases e;obtain⟨jk,hu,hc⟩:=h args v hm;obtain⟨n,hc⟩:=oM hc;have od:WF (g.cut 0) [] w:=by
  refine⟨hw.perm,fun o l h=>by simp[G.cut]at h,fun o l h=>by simp[G.cut]at h,fun o x l _ h=>by simp[G.cut]at h,fun o l x h=>?_,fun o l x h=>?_,fun o o' l l' x x' h=>?_,⟨fun b y hy=>⟨(hw.whole.blocks b y hy).1,fun o l z hz=>?_⟩,hw.whole.io⟩⟩
  all_goals first
   | (have:=h.Pr;simp at this;done)
   | (have:=hz.Pr;simp at this;done)
 have Q6:bM P ab (g.cut 0):=⟨fun n row e=>by
  obtain⟨h1,h2⟩:=hg.row n row e;exact⟨h1.cut (by simpa [AV.under]using B4 n row e),h2⟩,hg.code⟩
 have jr:fU (g.cut 0) args xs:=⟨hx.1,fun i a x e1 e2=>(hx.2 i a x e1 e2).cut (aKD hu i a e1)⟩;refine (((sU hA n).1 f args [] v [] [] hc (g.cut 0) w xs od Q6 jr).2).mono fun e w' he=>?_;cases e with
 |panicked c=>exact he
 |outgrown=>exact he
 |returned x=>
  obtain⟨g',hs,hr⟩:=he;have kh:w'.os=w.os/\w'.output=w.output:=by have e1:=hs.wf.whole.io;have e2:=hs.le.io;have e3:=hw.whole.io;rw[e2]at e1;have e4:(w.os,w.output)=(w'.os,w'.output):=e3.symm.trans e1;exact⟨(congrArg EM e4).symm,(congrArg Prod.snd e4).symm⟩
  refine⟨g,by simpa [eU]using Step.nf hw hs.frame.1 (fun b hb=>hs.frame.2 b hb fun o ho=>by cases ho) kh, ?_⟩;cases v<;>first | (simp[AV.atomic,AV.atom]at jk;done) | exact ai.atomic hr jk
theorem qH{A:af}{m n f:Nat}{args:LA}(h:aE3 A m n f args [] aJi=QS):aG A f args []=QQ (.bool QS,[],[]):=by
 obtain⟨v,H',wr,h1,h2⟩:=xG A m n f args [] aJi h;unfold aJi at h2;split at h2
 ·exact h1
 cases h2
theorem aO5{A:af}{m n f:Nat}{args:LA}(h:aE3 A m n f args [] aRT=QS):aG A f args []=QQ (.str [53],[],[]):=by
 obtain⟨v,H',wr,h1,h2⟩:=xG A m n f args [] aRT h;unfold aRT at h2;split at h2
 ·exact h1
 cases h2
theorem aBi:∀n row,aBx.row n=QQ row->dJ 0 row=true:=by intro n row h;simp only[aBx,aZA]at h;split at h<;>cases h<;>rfl
def aUB:List (LA×AV):=[(aKy,.bool QS),(aKz,.bool QS),(aKA,.bool QS),(aKB,.bool QS),(aKC,.bool QS)]
def bAX:List (LA×AV):=[(aIr,.str [53])]
def aUC(f:Nat):Option aIP:=match f with
 |39=>QQ (tU aUB)
 |40=>QQ (tU bAX)
 |f=>aO4 f
noncomputable def AL:af:=⟨fnK,aUC⟩
theorem aUD:gS Go.Proofs.Tryz.prog aBx fun f' args H=>if f'=39 then (tU aUB args H).map (cT H)else none:=by
 refine aGt aRS aBi ⟨Go.Proofs.Tryz.f39,Go.Proofs.Tryz.func39,bIv,bIv⟩ fun a v h=>?_;simp only[aUB,BD,BK,or_false,CC]at h;rcases h with⟨rfl,rfl⟩ | ⟨rfl,rfl⟩ | ⟨rfl,rfl⟩ | ⟨rfl,rfl⟩ | ⟨rfl,rfl⟩
 ·exact⟨rfl,bIv,qH bAS⟩
 ·exact⟨rfl,bIv,qH bAT⟩
 ·exact⟨rfl,bIv,qH bAU⟩
 ·exact⟨rfl,bIv,qH bAV⟩
 exact⟨rfl,bIv,qH bAW⟩
theorem aPH:gS Go.Proofs.Tryz.prog aBx fun f' args H=>if f'=40 then (tU bAX args H).map (cT H)else none:=by refine aGt aRS aBi ⟨Go.Proofs.Tryz.f40,Go.Proofs.Tryz.func40,bIv,bIv⟩ fun a v h=>?_;simp only[bAX,BD,BK,or_false,CC]at h;obtain⟨rfl,rfl⟩:=h;exact⟨rfl,bIv,aO5 aUA⟩
theorem aLW{A:af}(Qd:A.fn=fnK)(Lb:A.bq YF=N2)(Fa:A.bq 306=N2)(Ag:∀f p,A.bq f=QQ p->aO4 f=QQ p∨gS Go.Proofs.Tryz.prog aBx fun f' args H=>if f'=f then (p args H).map (cT H)else N2):Good Go.Proofs.Tryz.prog aBx A where
 mixed:=aRS.mixed
 A5:=⟨(congrFun Qd YF).trans bIv,Lb⟩
 fn:=fun f fn h=>by
  rw[Qd]at h;by_cases e:f=306
  ·subst e;exact .inr (Go.Proofs.Sa.yu Fa (by rw[Qd];rfl))
  exact .inl (aY0 e h)
 bq:=fun f p h=>(Ag f p h).elim (fun h=>aRS.bq f p h) id
theorem bAY:Good Go.Proofs.Tryz.prog aBx AL:=aLW rfl bIv rfl fun f p h=>by
 have h:aUC f=QQ p:=h;unfold aUC at h;split at h
 ·cases h;exact .inr aUD
 ·cases h;exact .inr aPH
 exact .inl h
theorem aO6:aE3 AL 10000 100 12 [] [] aJi=true:=bIv
def aUE:List (LA×AV):=[([],.bool QS)]
theorem aRU:gS Go.Proofs.Tryz.prog aBx fun f' args H=>if f'=12 then (tU aUE args H).map (cT H)else none:=by refine aGt bAY aBi ⟨Go.Proofs.Tryz.f12,Go.Proofs.Tryz.func12,bIv,bIv⟩ fun a v h=>?_;simp only[aUE,BD,BK,or_false,CC]at h;obtain⟨rfl,rfl⟩:=h;exact⟨rfl,rfl,qH aO6⟩
def aMX(f:Nat):Option aIP:=match f with
 |12=>QQ (tU aUE)
 |f=>aO4 f
noncomputable def AM1:af:=⟨fnK,aMX⟩
theorem aT6:Good Go.Proofs.Tryz.prog aBx AM1:=aLW rfl bIv rfl fun f p h=>by
 have h:aMX f=QQ p:=h;unfold aMX at h;split at h
 ·cases h;exact .inr aRU
 exact .inl h
def xN(g:SN):bw:=⟨12,[],[.tmp 6],qS [qmc 6 (.bool QT)]<|qS [qm 7 0,qq 8 (.conv .s2b (u 7)),qm 9 1,qm 10 2,qc 11 (g "aT") [u 8,u 9,u 10,uf (g "al")],qm 6 11]<|.ret⟩
def nK(g:SN):bw:=⟨9,[],[.tmp 2],qS [qmc 2 (.bool QT)]<|qS [qm 3 0,qq 4 (.bin .geq .no (u 3) (uc (.int .u8 32))),qm 5 4,qT 6 5 (om 0),qT 7 5 (.bin .leq .no (u 6) (uc (.int .u8 126))),qp 8 5 7,qm 2 8]<|.ret⟩
def aCm(g:SN):bw:=⟨6,[],[.tmp 4],qS [qx 2 1 0,qx 3 1 1,qmc 4 .bx]<|qS [qq 5 (.mkf (g "an") [] [(.tmp 2),(.tmp 3)]),qm 4 5]<|.ret⟩
def xO(g:SN):bw:=⟨9,[],[.tmp 4],qS [qmc 4 (.bool QT)]<|qS [qm 5 0,ql 6 1 1,ql 7 1 2,qc 8 (g "R") [u 5,u 6,u 7],qm 4 8]<|.ret⟩
abbrev aFf(g:SN):List ae:=[qm 4 0,⟨QQ 5,.bin .neq .no (u 4) (uc (.str [])),N2,[0]⟩,⟨QQ 6,om 5,N2,[1,0]⟩,⟨QQ 7,ol 1 3,QQ (QQ 6,QS),[2,1,0]⟩,⟨QQ 8,om 0,QQ (QQ 6,QS),[2,1,0]⟩,⟨QQ 9,.ixS (u 8) (ui 0),QQ (QQ 6,QS),[4,2,1,0]⟩,⟨QQ 10,.dm (u 7) [(.tmp 9)],QQ (QQ 6,QS),[3,5,4,2,1,0]⟩,⟨QQ 11,op 6 10,N2,[6,3,5,4,2,1,0]⟩,⟨QQ 12,om 11,N2,[7,6,3,5,4,2,1,0]⟩,⟨QQ 13,om 0,QQ (QQ 12,QS),[8,7,6,3,5,4,2,1,0]⟩,⟨QQ 14,.conv .s2b (u 13),QQ (QQ 12,QS),[9,8,7,6,3,5,4,2,1,0]⟩,⟨QQ 15,.mkf (g "ah") [] [(.tmp 3)],QQ (QQ 12,QS),[8,7,6,3,5,4,2,1,0]⟩,⟨QQ 16,oc (g "aT") [u 14,ui 1,ui 16,u 15],QQ (QQ 12,QS),[10,9,11,8,7,6,3,5,4,2,1,0]⟩,⟨QQ 17,op 12 16,N2,[12,10,9,11,8,7,6,3,5,4,2,1,0]⟩,⟨QQ 2,om 17,N2,[13,12,10,9,11,8,7,6,3,5,4,2,1,0]⟩]
abbrev mE:LN:=[]
def xP(g:SN):bw:=⟨18,[3],[.tmp 2],qS [qmc 2 (.bool QT)]<|qS [qq 3 (.alloc [.bx]),qz (.store 1 (u 3) (uf (g "F")))]<|.seq (.region QS (aFf g))<|.ret⟩
def kP(g:SN):bw:=⟨9,[],[.tmp 2],qS [qmc 2 (.bool QT)]<|qS [qm 3 0,qq 4 (.bin .geq .no (u 3) (uc (.int .u8 97))),qm 5 4,qT 6 5 (om 0),qT 7 5 (.bin .leq .no (u 6) (uc (.int .u8 122))),qp 8 5 7,qm 2 8]<|.ret⟩
def nL(g:SN):bw:=⟨15,[],[.tmp 3],qS [qmc 3 (.bool QT)]<|qS [ql 4 1 1,qm 5 0,qq 6 (.dm (u 4) [(.tmp 5)]),qm 7 6,qF 8 7 (om 0),qF 9 7 (.bin .geq .no (u 8) (uc (.int .u8 48))),qF 10 7 (om 9),qT 11 10 (om 0),qT 12 10 (.bin .leq .no (u 11) (uc (.int .u8 57))),qF 13 7 (op 10 12),qq 14 (.pick (u 7) uT (u 13)),qm 3 14]<|.ret⟩
def xQ(g:SN):bw:=⟨16,[],[.tmp 2],qS [qx 1 3 0,qmc 2 (.bool QT)]<|qS [qf 3 0 1,ql 4 1 3,qc 5 (g "d") [u 4,ui (-1),ui 48],qm 6 5,qT 7 6 (of 1 1),qT 8 6 (ol 1 7),qT 9 6 (oc (g "d") [u 8,ui 0,ui 4]),qp 10 6 9,qm 11 10,qT 12 11 (of 2 1),qT 13 11 (ol 1 12),qT 14 11 (oc (g "d") [u 13,ui (-1),ui 1]),qp 15 11 14,qm 2 15]<|.ret⟩
def tV(g:SN):bw:=⟨11,[],[.tmp 2],qS [qx 1 2 0,qmc 2 (.bool QT)]<|qS [qf 3 0 1,ql 4 1 3,qc 5 (g "d") [u 4,ui 0,ui 2],qm 6 5,qT 7 6 (of 1 1),qT 8 6 (ol 1 7),qT 9 6 (oc (g "cC") [u 8,ui 1,ui 12,uf (g "ak")]),qp 10 6 9,qm 2 10]<|.ret⟩
def mF(g:SN):bw:=⟨11,[],[.tmp 2],qS [qx 1 2 0,qmc 2 (.bool QT)]<|qS [qf 3 0 1,ql 4 1 3,qc 5 (g "d") [u 4,ui 0,ui 1000],qm 6 5,qT 7 6 (of 1 1),qT 8 6 (ol 1 7),qT 9 6 (oc (g "d") [u 8,ui 0,ui 1000]),qp 10 6 9,qm 2 10]<|.ret⟩
@[go_sem] theorem aZB{H:LO}{l:List UInt8}:pT H .s2b (.str l)=if l.length<=1099511627776 then QQ (.sl QT (aJ l))else none:=(rfl)
@[go_sem] theorem aZC{n f:Nat}{a b:LA}:AV.under n (.fn f a b)=(dJ n a&&dJ n b):=(rfl)
@[go_sem] theorem aZD{n o:Nat}{r:LA}:AV.under n (.ep r o)=dJ n r:=(rfl)
@[go_sem] theorem bAZ{base f:Nat}{H:LO}{a b:LA}:aDR base H (.fn f a b)=QQ (.fn f a b,H,[]):=(rfl)
@[go_sem] theorem aUF{base t u:Nat}{ρ:bN}{H:LO}{wr:LN}:iE base [.tmp t,.tmp u] ρ H wr=match aBv H [ρ t,ρ u]with
  |some (vs',H',l)=>QQ (.tup vs',H',bE base wr l)
  |none=>none:=by
 simp only[iE,aEP,aNP];rfl
attribute [go_sem] aBv
def aRV(b:UInt8):LA:=[.int .u8 b.toNat]
theorem aMY:mv 1 QT aRV:=⟨fun _=>rfl,fun _=>rfl,fun _=>rfl⟩
theorem aLX:mv 1 QT bF:=⟨fun _=>rfl,aU,fun _=>rfl⟩
theorem aUG:mv 1 QT aN:=⟨fun _=>rfl,bO,fun _=>rfl⟩
theorem aUH:mv 1 QT bY:=⟨fun _=>rfl,cU,fun _=>rfl⟩
theorem aLY:mv 1 QT gH:=⟨fun _=>rfl,aFA,fun _=>rfl⟩
theorem aJk:mv 1 QT bS:=⟨fun _=>rfl,cR,fun _=>rfl⟩
theorem aUI:mv 2 QS cZ:=⟨fun _=>rfl,cA,fun h=>by cases h⟩
theorem aGu:mv 2 QS bL:=⟨fun _=>rfl,aIq,fun h=>by cases h⟩
theorem aKE:mv 2 QS aH:=⟨fun _=>rfl,bW,fun h=>by cases h⟩
theorem aMZ:mv 3 QS bV:=⟨fun _=>rfl,aD9,fun h=>by cases h⟩
theorem lF:mv 4 QS aI:=⟨fun _=>rfl,eL,fun h=>by cases h⟩
theorem aY1:mv 7 QS gR:=⟨fun _=>rfl,aBI,fun h=>by cases h⟩
theorem aJl:mv 4 QS aO:=⟨fun _=>rfl,dV,fun h=>by cases h⟩
theorem bT:mv 13 QS aE:=⟨cF,bG,fun h=>by cases h⟩
theorem dX:mv 3 QS aF:=⟨dP,aV,fun h=>by cases h⟩
def chB(c:UInt8):Bool:=decide ((c.toNat:Int) ≥ 32)&&decide ((c.toNat:Int)<=126)
def aUJ(c:UInt8):Bool:=decide ((c.toNat:Int) ≥ 97)&&decide ((c.toNat:Int)<=122)
def aKF(c:UInt8):Bool:=aUJ c || (decide ((c.toNat:Int) ≥ 48)&&decide ((c.toNat:Int)<=57))
def vP(lo hi:Int)(s:Str):Bool:=wi s.length lo hi&&s.all chB
def aO7:Str->Bool
 | []=>QT
 |c::r=>aUJ c&&(wi ((c::r).length:Nat) 1 16&&(c::r).all aKF)
def aGv(n:ct):Bool:=wi n.step (-1) 48&&wi n.length 0 4&&wi n.alter (-1) 1
def aKG(p:Int×Int):Bool:=wi p.1 0 1000&&wi p.2 0 1000
def vQ(s:Shape):Bool:=wi s.kind 0 2&&(wi s.points.length 1 12&&s.points.all aKG)
section
variable {A:af}{g:SN}
theorem aUK(h:Has A g "al" (nK g))(c:UInt8)(H:LO):aG A (g "al") [.int .u8 c.toNat] H=QQ (.bool (chB c),H,[]):=by
 refine h.call ?_;simp only[nK,chB];cases e1:decide ((c.toNat:Int) ≥ 32)with
 |false=>simp only[go_sem,↓aB,seval,e1,BQ,BB]
 |true=>simp only[go_sem,↓aB,seval,e1,BR,Zz]
abbrev aFB(A:af)(g:SN):Prop:=∀(s:Str) (lo hi:Int) (H:LO),s.length<=1000000->aG A (g "R") [.str s,vi lo,vi hi] H=QQ (.bool (vP lo hi s),H,[])
theorem qW(h:Has A g "R" (xN g))(h1:Has A g "al" (nK g))(ha:fe A g 1 QT (g "aT"))(hw:eO A g):aFB A g:=by intro s lo hi H hs;refine h.call ?_;have hc:=ha.spec hw aMY cQ (l:=s) (H:=H) (f1:=g "al") (q:=chB) (lo:=lo) (hi:=hi) (by grind) fun _ c _=>aUK h1 c H;simp only[xN];simp only[go_sem,↓aB,seval,show s.length<=1099511627776 by omega];rw[show aJ s=s.map aRV from rfl,hc];simp only[go_sem,↓aB,seval,vP]
theorem aDb(h:Has A g "S" (aCm g))(lo hi:Int)(H:LO):aG A (g "S") [vi lo,vi hi] H=QQ (.fn (g "an") [] [.ep [vi lo] 0,.ep [vi hi] 0],H,[]):=by refine h.call ?_;simp only[aCm];simp only[go_sem,↓aB,seval]
theorem aO8(h:Has A g "an" (xO g))(ht:aFB A g)(s:Str)(lo hi:Int)(H:LO)(hs:s.length<=1000000):aG A (g "an") [.str s,.ep [vi lo] 0,.ep [vi hi] 0] H=QQ (.bool (vP lo hi s),H,[]):=by refine h.call ?_;simp only[xO];simp only[go_sem,↓aB,seval,ht s lo hi H hs]
theorem aN0(h:Has A g "F" (kP g))(c:UInt8)(H:LO):aG A (g "F") [.int .u8 c.toNat] H=QQ (.bool (aUJ c),H,[]):=by
 refine h.call ?_;simp only[kP,aUJ];cases e1:decide ((c.toNat:Int) ≥ 97)with
 |false=>simp only[go_sem,↓aB,seval,e1,BQ,BB]
 |true=>simp only[go_sem,↓aB,seval,e1,BR,Zz]
theorem aLZ(h:Has A g "ah" (nL g))(hl:Has A g "F" (kP g))(c:UInt8){H:LO}{o v:Nat}(ho:H[o]? = QQ (.box v [.fn (g "F") [] []])):aG A (g "ah") [.int .u8 c.toNat,.ptr o v 0] H=QQ (.bool (aKF c),H,[]):=by
 refine h.call ?_;have hc:=aN0 hl c H;simp only[nL,aKF];cases e0:aUJ c with
 |true=>rw[e0]at hc;simp only[go_sem,↓aB,seval,ho,AJ,hc,CE,EP]
 |false=>
  rw[e0]at hc;cases e1:decide ((c.toNat:Int) ≥ 48)with
  |false=>simp only[go_sem,↓aB,seval,ho,AJ,hc,e1,II,BQ,Zz,BB]
  |true=>simp only[go_sem,↓aB,seval,ho,AJ,hc,e1,II,BR,Zz]
theorem aGw(h:Has A g "bN" (xP g))(h1:Has A g "F" (kP g))(h2:Has A g "ah" (nL g))(ha:fe A g 1 QT (g "aT"))(hw:eO A g) (s:Str) (H:LO) (hs:s.length<=1000000):aG A (g "bN") [.str s] H=QQ (.bool (aO7 s),H,[]):=by
 refine h.call ?_;simp only[xP];simp only[go_sem,↓aB,seval];refine aY (aq:=mE) rfT rfT ?_;by_cases h0:s=[]
 ·subst h0;simp only[go_sem,↓aB,seval,mE,aO7,Zz,BB,bne,BT]
 obtain⟨c,r,Fb⟩:=ER h0;have bl:(s != ([]:Str))=true:=by rw[Fb];rfl
 have hg:s[0]? = QQ c:=by rw[Fb];rfl
 have yh:aO7 s=(aUJ c&&(wi s.length 1 16&&s.all aKF)):=by rw[Fb];rfl
 have hl:=aN0 h1 c (H++[.box 1 [.fn (g "F") [] []]]);have hc:=ha.spec hw aMY (cQ.ptr H.length 1 0) (l:=s) (H:=H++[.box 1 [.fn (g "F") [] []]]) (f1:=g "ah") (q:=aKF) (lo:=1) (hi:=16) (by grind)
  fun _ c _=>aLZ h2 h1 c (o:=H.length) (v:=1) siT
 have ax:s.length<=1099511627776:=omT;have cn:aJ s=s.map aRV:=rfl;rw[yh];cases e:aUJ c with
 |false=>rw[e]at hl;simp only[go_sem,↓aB,seval,mE,hl,bl,hg,BQ,Zz,BB]
 |true=>rw[e]at hl;simp only[go_sem,↓aB,seval,mE,hl,bl,hg,BR,Zz,ax,cn,hc]
theorem aM0(h:Has A g "aX" (xQ g))(hw:eO A g)(n:ct)(H:LO):aG A (g "aX") [.agg (bV n)] H=QQ (.bool (aGv n),H,[]):=by
 refine h.call ?_;simp only[xQ,aGv];have h1:=fun H=>hw n.step (-1) 48 H;have h2:=fun H=>hw n.length 0 4 H;have h3:=fun H=>hw n.alter (-1) 1 H;cases e1:wi n.step (-1) 48 with
 |false=>simp only[go_sem,↓aB,seval,bV,h1,e1,BQ,BB]
 |true=>cases e2:wi n.length 0 4 with
  |false=>simp only[go_sem,↓aB,seval,bV,h1,h2,e1,e2,BQ,BR,Zz,BB]
  |true=>simp only[go_sem,↓aB,seval,bV,h1,h2,h3,e1,e2,BR,Zz]
theorem aKH(h:Has A g "ak" (mF g))(hw:eO A g)(p:Int×Int)(H:LO):aG A (g "ak") [.agg (bL p)] H=QQ (.bool (aKG p),H,[]):=by
 refine h.call ?_;simp only[mF,aKG];have h1:=fun H=>hw p.1 0 1000 H;have h2:=fun H=>hw p.2 0 1000 H;cases e1:wi p.1 0 1000 with
 |false=>simp only[go_sem,↓aB,seval,bL,h1,e1,BQ,BB]
 |true=>simp only[go_sem,↓aB,seval,bL,h1,h2,e1,BR,Zz]
theorem aKI(h:Has A g "ba" (tV g))(h1:Has A g "ak" (mF g))(ha:fe A g 2 QS (g "cC"))(hw:eO A g)(s:Shape)(hs:s.points.length<=1000000)(H:LO):aG A (g "ba") [.agg (aH s)] H=QQ (.bool (vQ s),H,[]):=by
 refine h.call ?_;simp only[tV,vQ];have hk:=fun H=>hw s.kind 0 2 H;have hc:=ha.spec hw aGu cQ (l:=s.points) (H:=H) (f1:=g "ak") (q:=aKG) (lo:=1) (hi:=12) (by grind) fun _ p _=>aKH h1 hw p H;cases e1:wi s.kind 0 2 with
 |false=>simp only[go_sem,↓aB,seval,aH,hk,e1,BQ,BB]
 |true=>simp only[go_sem,↓aB,seval,aH,hk,hc,e1,BR,Zz]
end
abbrev aFg(g:SN):List ae:=[qm 9 3,⟨QQ 10,obi .gtr 9 0,N2,[0]⟩,⟨QQ 11,om 10,N2,[1,0]⟩,⟨QQ 12,om 0,QQ (QQ 11,QS),[2,1,0]⟩,⟨QQ 13,om 3,QQ (QQ 11,QS),[2,1,0]⟩,⟨QQ 14,oi 12 13 2,QQ (QQ 11,QS),[3,4,2,1,0]⟩,⟨QQ 15,of 0 14,QQ (QQ 11,QS),[5,3,4,2,1,0]⟩,⟨QQ 16,ol 1 15,QQ (QQ 11,QS),[6,5,3,4,2,1,0]⟩,⟨QQ 17,om 0,QQ (QQ 11,QS),[2,1,0]⟩,⟨QQ 18,om 3,QQ (QQ 11,QS),[2,1,0]⟩,⟨QQ 19,obi .sub 18 1,QQ (QQ 11,QS),[9,2,1,0]⟩,⟨QQ 20,oi 17 19 2,QQ (QQ 11,QS),[8,10,9,2,1,0]⟩,⟨QQ 21,of 0 20,QQ (QQ 11,QS),[11,8,10,9,2,1,0]⟩,⟨QQ 22,ol 1 21,QQ (QQ 11,QS),[12,11,8,10,9,2,1,0]⟩,⟨QQ 23,ob .eql 16 22,QQ (QQ 11,QS),[7,6,5,3,4,13,12,11,8,10,9,2,1,0]⟩,⟨QQ 24,op 11 23,N2,[14,7,6,5,3,4,13,12,11,8,10,9,2,1,0]⟩]
abbrev mH:LN:=[]
abbrev aFh(g:SN):ag:=qS [qb 7 .lss 6 5]<|.seq (qC 7 (.skip) (.exit 0))<|.seq (.block 1 (qS [qm 8 6,qm 3 8]<|.seq (.region QS (aFg g))<|qC 24 (qS [qmc 2 (.bool QT)]<|.ret) (.skip)))<|.region QT [qbi 25 .add 6 1,qm 6 25]
def xR(g:SN):bw:=⟨28,[],[.tmp 2],qS [qmc 2 (.bool QT)]<|.seq (qS [qm 4 0,qn 5 4,qmc 6 z0]<|.block 0 (.loop (aFh g)))<|qS [qm 26 0,qc 27 (g "cD") [u 26,ui 1,ui 8,uf (g "aj")],qm 2 27]<|.ret⟩
def nM(g:SN):bw:=⟨11,[],[.tmp 2],qS [qx 1 2 0,qmc 2 (.bool QT)]<|qS [qf 3 0 1,ql 4 1 3,qc 5 (g "d") [u 4,ui 0,ui 1],qm 6 5,qT 7 6 (of 1 1),qT 8 6 (ol 1 7),qT 9 6 (oc (g "R") [u 8,ui 1,ui 200]),qp 10 6 9,qm 2 10]<|.ret⟩
def aBJ(g:SN):ag:=.block 0 (.seq (qS [qbi 5 .eql 3 0,qm 4 5]<|qC 4 (.skip) (qR [qbi 6 .eql 3 1,qm 4 6]))<|qC 4 (qS [qmc 2 z0]<|.ret) (.seq (qS [qbi 8 .eql 3 2,qm 7 8]<|qC 7 (.skip) (qR [qbi 9 .eql 3 8,qm 7 9]))<|qC 7 (qS [qmc 2 (vi 1)]<|.ret) (.skip)))
def xS(g:SN):bw:=⟨10,[],[.tmp 2],qS [qmc 2 z0]<|.seq (qS [qm 3 0]<|aBJ g)<|qS [qmc 2 (vi 2)]<|.ret⟩
def zH(g:SN):ag:=.block 0 (qS [qbi 15 .eql 13 0,qm 14 15]<|qC 14 (qR [qmc 6 (vi 999999)]) (qS [qbi 17 .eql 13 1,qm 16 17]<|qC 16 (qR [qmc 6 (vi 25)]) (.skip)))
abbrev aFi(g:SN):List ae:=[qm 18 1,⟨QQ 19,obi .gtr 18 16,N2,[0]⟩,⟨QQ 20,om 19,N2,[1,0]⟩,⟨QQ 21,of 0 2,QQ (QQ 20,QT),[2,1,0]⟩,⟨QQ 22,ol 1 21,QQ (QQ 20,QT),yq3⟩,⟨QQ 23,oc (g "d") [u 22,ui 0,ui 10],QQ (QQ 20,QT),yq4⟩,⟨QQ 24,.un .not (u 23),QQ (QQ 20,QT),yq5⟩,⟨QQ 25,.pick (u 20) uT (u 24),N2,yq6⟩,⟨QQ 26,om 25,N2,yq7⟩,⟨QQ 27,of 1 2,QQ (QQ 26,QT),yq8⟩,⟨QQ 28,ol 1 27,QQ (QQ 26,QT),yq9⟩,⟨QQ 29,om 6,QQ (QQ 26,QT),yq8⟩,⟨QQ 30,oc (g "d") [u 28,ui 0,u 29],QQ (QQ 26,QT),10::9::11::yq8⟩,⟨QQ 31,.un .not (u 30),QQ (QQ 26,QT),12::10::9::11::yq8⟩,⟨QQ 32,.pick (u 26) uT (u 31),N2,13::12::10::9::11::yq8⟩,⟨QQ 33,om 32,N2,14::13::12::10::9::11::yq8⟩,⟨QQ 34,of 2 2,QQ (QQ 33,QT),15::14::13::12::10::9::11::yq8⟩,⟨QQ 35,ol 1 34,QQ (QQ 33,QT),16::15::14::13::12::10::9::11::yq8⟩,⟨QQ 36,on 35,QQ (QQ 33,QT),17::16::15::14::13::12::10::9::11::yq8⟩,⟨QQ 37,of 0 2,QQ (QQ 33,QT),15::14::13::12::10::9::11::yq8⟩,⟨QQ 38,ol 1 37,QQ (QQ 33,QT),19::15::14::13::12::10::9::11::yq8⟩,⟨QQ 39,oc (g "bb") [u 38],QQ (QQ 33,QT),20::19::15::14::13::12::10::9::11::yq8⟩,⟨QQ 40,ob .neq 36 39,QQ (QQ 33,QT),18::17::16::21::20::19::15::14::13::12::10::9::11::yq8⟩,⟨QQ 41,.pick (u 33) uT (u 40),N2,22::18::17::16::21::20::19::15::14::13::12::10::9::11::yq8⟩]
abbrev gL:LN:=[17,21]
abbrev aFj(g:SN):ag:=qS [qb 46 .lss 45 44]<|.seq (qC 46 (.skip) (.exit 1))<|.seq (.block 2 (qS [qi 47 43 45 3,qla 48 3 47,qq 9 (.alloc [z0,z0,(.sl QS [])]),qs 3 9 48]<|qS [qla 50 3 9,qm 51 1,qbi 52 .add 51 1,qc 53 (g "aV") [u 50,u 52],qm 49 53,qq 54 (.ext 0 (u 49)),qq 55 (.ext 1 (u 49)),qm 10 54,qm 11 55]<|.seq (qS [qm 56 11,qq 57 (.un .not (u 56))]<|qC 57 (qS [qmc 4 z0,qmc 5 (.bool QT)]<|.ret) (.skip))<|.region QT [qm 58 7,qm 59 10,qb 60 .add 58 59,qm 7 60]))<|.region QT [qbi 61 .add 45 1,qm 45 61]
def xT(g:SN):bw:=⟨65,[9],[.tmp 4,.tmp 5],qS [qx 2 3 0,qmc 4 z0,qmc 5 (.bool QT)]<|qS [qmc 6 z0]<|.seq (qS [qf 12 0 2,ql 13 1 12]<|zH g)<|.seq (.seq (.region QS (aFi g))<|qC 41 (qS [qmc 4 z0,qmc 5 (.bool QT)]<|.ret) (.skip))<|qS [qmc 7 (vi 1)]<|.seq (qS [qf 42 2 2,ql 43 1 42,qn 44 43,qmc 45 z0]<|.block 1 (.loop (aFj g)))<|qS [qm 62 7,qm 63 7,qbi 64 .leq 63 256,qm 4 62,qm 5 64]<|.ret⟩
def aAp(g:SN):bw:=⟨7,[],[.tmp 2],qS [qx 1 1 0,qmc 2 (.bool QT)]<|qS [qf 3 0 1,ql 4 1 3,qq 5 (.mkf (g "bL") [] [(.tmp 1)]),qc 6 (g "dg") [u 4,ui 1,ui 2,u 5],qm 2 6]<|.ret⟩
def vR(g:SN):bw:=⟨16,[],[.tmp 3],qS [qmc 3 (.bool QT)]<|qS [qm 4 0,qn 5 4,qf 6 0 1,ql 7 1 6,qq 8 (.iaV (u 7) (ui 0) 1),ql 9 1 8,qn 10 9,qb 11 .eql 5 10,qm 12 11,qT 13 12 (om 0),qT 14 12 (oc (g "dh") [u 13,ui 1,ui 32,uf (g "bM")]),qp 15 12 14,qm 3 15]<|.ret⟩
def qX(g:SN):bw:=⟨5,[],[.tmp 2],qS [qmc 2 (.bool QT)]<|qS [qm 3 0,qc 4 (g "dl") [u 3,ui 1,ui 16,uf (g "aX")],qm 2 4]<|.ret⟩
section
variable {A:af}{g:SN}
def sY(l:List mr)(i:Nat):Int:=((l[i]?).map mr.gg).getD 0
def aWm(l:List mr):Bool:=(GZ (l.length - 1)).all fun i=>sY l (i+1) != sY l i
def aUL(r:mr):Bool:=wi r.gg 0 1&&vP 1 200 r.text
def aGx(l:List mr):Bool:=aWm l&&(wi l.length 1 8&&l.all aUL)
theorem aIs{l:List mr}{i:Nat}(h:i<l.length):sY l i=l[i].gg:=by unfold sY;grind
theorem aRW(h:Has A g "aj" (nM g))(hw:eO A g)(ht:aFB A g)(r:mr)(hr:r.text.length<=1000000)(H:LO):aG A (g "aj") [.agg (cZ r)] H=QQ (.bool (aUL r),H,[]):=by
 refine h.call ?_;simp only[nM,aUL];have h1:=fun H=>hw r.gg 0 1 H;have h2:=fun H=>ht r.text 1 200 H hr;cases e1:wi r.gg 0 1 with
 |false=>simp only[go_sem,↓aB,seval,cZ,h1,e1,BQ,BB]
 |true=>simp only[go_sem,↓aB,seval,cZ,h1,h2,e1,BR,Zz]
theorem aGy(h:Has A g "aZ" (xR g))(h1:Has A g "aj" (nM g))(ha:fe A g 2 QS (g "cD"))(hw:eO A g)(ht:aFB A g) (l:List mr) (hl:l.length<=1000000) (hr:∀r∈l,r.text.length<=1000000) (H:LO):aG A (g "aZ") [.sl QT (l.map cZ)] H=QQ (.bool (aGx l),H,[]):=by
 refine h.call ?_;have hc:=ha.spec hw aUI cQ (l:=l) (H:=H) (f1:=g "aj") (q:=aUL) (lo:=1) (hi:=8) (by grind) fun _ r hm=>aRW h1 hw ht r (hr r hm) H;simp only[xR];simp only[go_sem,↓aB,seval,AF];refine bJ (id:=0) (fun i ρ1 H1 wr=>wr=[]/\H1=H/\ρ1 6=vi i/\∀j,j+1<i->sY l (j+1)≠sY l j) l.length
  (fun ρ1 H1 wr=>wr=[]/\H1=H/\∀j,j+1<l.length->sY l (j+1)≠sY l j)
  bIv rfl ⟨rfl,siT,rfl,fun j hj=>omT⟩ ?_ ?_
 ·rintro i ρ1 H1 dc mg ⟨rfl,rfl,e6,hn⟩ hf;have e0:ρ1 0=.sl QT (l.map cZ):=hf 0 rfl;have e5:ρ1 5=vi l.length:=hf 5 rfl;simp only[go_sem,↓aB,seval,e6,e5];refine aD (fun hb=>?_) (fun hb=>?_)
  ·have hlt:i<l.length:=by simpa using hb
   have Qe:=wS (i:=i) omT;have Ih:(l.map cZ)[i]? = QQ [vi (sY l i),.str l[i].text]:=by rw[getElem?_map_of hlt,aIs hlt];rfl
   simp only[go_sem,↓aB,seval];refine aY (aq:=mH) rfT rfT ?_;cases i with
   |zero=>simp only[go_sem,↓aB,seval,mH,e6,BB,Int.ofNat_zero,Pn,decide_false];grind
   |succ i=>
    have V8:decide (((i+1:Nat):Int)>0)=true:=by grind
    have dy:AR.wrap (((i+1:Nat):Int) - 1)=(i:Int):=by rw[wrap_i64 omT omT];omega
    have Ii:(l.map cZ)[i]? = QQ [vi (sY l i),.str (l[i]'omT).text]:=by rw[getElem?_map_of omT,aIs omT];rfl
    have gq:(0:Int)<=((i+1:Nat):Int):=omT;have lx:(0:Int)<=(i:Int):=omT;have kx:(((i+1:Nat):Int)).toNat=i+1:=omT;have zt:((i:Int)).toNat=i:=omT;cases hq:(sY l (i+1)==sY l i)with
    |true=>
     have hb:aGx l=false:=by
      have:aWm l=false:=by rw[Bool.eq_false_iff];intro hc;unfold aWm at hc;grind
      unfold aGx;grind
     simp only[go_sem,↓aB,seval,mH,e0,e6,Zz,V8,Ih,Ii,gq,lx,kx,zt,dy,hq,hb]
    |false=>simp only[go_sem,↓aB,seval,mH,e0,e6,Zz,V8,Ih,Ii,gq,lx,kx,zt,dy,hq,Qe];grind
  have hi:i=l.length:=by grind
  subst hi;simp only[go_sem,seval];grind
 rintro ρ' H' ba ⟨rfl,rfl,hn⟩ hf;have e0:ρ' 0=.sl QT (l.map cZ):=hf 0 rfl;have Fc:aWm l=true:=by grind [aWm,AO]
 simp only[go_sem,↓aB,seval,e0,hc,aGx,Fc,BR]
def aAq(op:Int):Int:=if op=0 then 999999 else if op=1 then 25 else 0
def aCn(op:Int):Nat:=if op=0∨op=1 then 0 else if op=2∨op=8 then 1 else 2
theorem aPI(h:Has A g "bb" (xS g))(op:Int)(H:LO):aG A (g "bb") [vi op] H=QQ (vi (aCn op),H,[]):=by
 refine h.call ?_;simp only[xS,aBJ,aCn];by_cases e0:op=0
 ·subst e0;simp only[go_sem,↓aB,seval,true_or]
 by_cases e1:op=1
 ·subst e1;simp only[go_sem,↓aB,seval,or_true]
 have n0:(op==0)=false:=by simpa using e0
 have n1:(op==1)=false:=by simpa using e1
 by_cases e2:op=2
 ·subst e2;simp only[go_sem,↓aB,seval,or_self,true_or]
 by_cases e8:op=8
 ·subst e8;simp only[go_sem,↓aB,seval,or_self,or_true]
 have n2:(op==2)=false:=by simpa using e2
 have n8:(op==8)=false:=by simpa using e8
 simp only[go_sem,↓aB,seval,n0,n1,n2,n8,e0,e1,e2,e8,or_self]
mutual
def exS:Expr->Int->Nat×Bool
 |.mk op n ks,d=>if ((decide (d>16) || !wi op 0 10) || !wi n 0 (aAq op)) || ((ks.length:Int) != (aCn op:Int))then (0,QT)else match exL ks (d+1) 1 with
  |some s=>(s,decide ((s:Int)<=256))
  |none=>(0,QT)
def exL:List Expr->Int->Nat->Option Nat
 | [],_,s=>QQ s
 |k::r,d,s=>match exS k d with
  | (m,QS)=>exL r d (s+m)
  | (_,QT)=>N2
end
theorem aT7{e:Expr}{d:Int}(h:(exS e d).2=QS):(exS e d).1<=256:=by obtain⟨op,n,ks⟩:=e;unfold exS at h ⊢;grind
mutual
theorem aN1:∀(e:Expr) (d:Int),(exS e d).2=QS->(exS e d).1=gY e
 |.mk op n ks,d,h=>by
  unfold exS at h ⊢;split at h
  ·cases h
  rename_i hc;rw[Zx hc];cases hx:exL ks (d+1) 1 with
  |none=>grind
  |some s=>have:=aN2 ks (d+1) 1 s hx;show s=cP ks+1;omega
theorem aN2:∀(l:List Expr) (d:Int) (s t:Nat),exL l d s=QQ t->t=s+cP l
 | [],d,s,t,h=>by
  unfold exL at h;cases h;rfl
 |k::r,d,s,t,h=>by
  unfold exL at h;split at h
  ·rename_i m hm;have h1:=aN2 r d _ _ h;have h2:=aN1 k d (by rw[hm]);grind [gY,cP]
  cases h
end
theorem aN3(op:Int):aCn op<=2:=by unfold aCn;grind
theorem aM1(h:Has A g "aV" (xT g))(hk:Has A g "bb" (xS g))(hw:eO A g):∀(n:Nat) (e:Expr) (d:Int) (H:LO),SizeOf.sizeOf e<n->e.Ok->0<=d->d<=1000000 ->aG A (g "aV") [.agg (aF e),vi d] H=QQ (.tup [vi (exS e d).1,.bool (exS e d).2],H,[]):=by
 intro n
 induction n with
 |zero=>grind
 |succ n ih=>
  intro e d H hs he Cr Oh;obtain⟨op,m,ks⟩:=e;obtain⟨_,_,_,_,_,zp,E7⟩:=he;refine h.call ?_;simp only[xT];have gd:∀k∈ks,SizeOf.sizeOf k<n:=fun k hm=>by
   have:=GY hm;grind
  simp only[go_sem,↓aB,seval,aF,aZ];refine aPw (W:=[15,14,6,17,16,6]) (fun ρ' H' ba=>ba=[]/\H'=H++[.gone 0]/\ρ' 6=vi (aAq op)) rfT ?_ ?_
  ·simp only[zH];by_cases e0:op=0
   ·subst e0;simp only[go_sem,↓aB,seval];rfl
   have n0:(op==0)=false:=by simpa using e0
   by_cases e1:op=1
   ·subst e1;simp only[go_sem,↓aB,seval];rfl
   have n1:(op==1)=false:=by simpa using e1
   simp only[go_sem,↓aB,seval,n0,n1];unfold aAq;grind
  rintro ρ H' ba ⟨rfl,rfl,r6⟩ hf;have r1:ρ 1=vi d:=hf 1 rfl;have r2:ρ 2=.ep [vi op,vi m,.sl QT (ks.map aF)] 0:=hf 2 rfl;have k1:=fun H=>hw op 0 10 H;have k2:=fun H=>hw m 0 (aAq op) H;have k3:=fun H=>aPI hk op H;have pt:=aN3 op;simp only[go_sem,seval];refine aY (aq:=gL) rfT rfT ?_;have hx:exS (.mk op m ks) d=if ((decide (d>16) || !wi op 0 10) || !wi m 0 (aAq op)) || ((ks.length:Int) != (aCn op:Int))then (0,QT)else match exL ks (d+1) 1 with
   |some s=>(s,decide ((s:Int)<=256))
   |none=>(0,QT):=by conv=>lhs;unfold exS
  cases e1:decide (d>16)with
  |true=>rw[e1]at hx;simp only[go_sem,↓aB,seval,gL,r1,e1,CE,hx,EP]
  |false=>
  rw[e1]at hx;cases e2:wi op 0 10 with
  |false=>rw[e2]at hx;simp only[go_sem,↓aB,seval,gL,r1,r2,e1,e2,k1,Zz,CE,hx,EP,GV]
  |true=>
  rw[e2]at hx;cases e3:wi m 0 (aAq op)with
  |false=>rw[e3]at hx;simp only[go_sem,↓aB,seval,gL,r1,r2,r6,e1,e2,e3,k1,k2,Zz,CE,hx,EP,GV]
  |true=>
  rw[e3]at hx;cases e4:((ks.length:Int) != (aCn op:Int))with
  |true=>rw[e4]at hx;simp only[go_sem,↓aB,seval,gL,eH,dG,r1,r2,r6,e1,e2,e3,e4,k1,k2,k3,Zz,aL,hx,EP,GV,AF]
  |false=>
  rw[e4]at hx;simp only[BT,IJ,BX,Zu]at hx;have ax:ks.length<=2:=by grind
  simp only[go_sem,↓aB,seval,gL,eH,dG,r1,r2,r6,e1,e2,e3,e4,k1,k2,k3,Zz,aL,AF];refine bJ (id:=1) (fun i ρ1 H1 wr=>wr=[]/\ρ1 45=vi i/\(∃o1,H1=H++[o1])/\∃s:Nat,ρ1 7=vi s/\s<=1+256*i/\exL ks (d+1) 1=exL (ks.drop i) (d+1) s) ks.length
   (fun ρ1 H1 wr=>wr=[]/\(∃o1,H1=H++[o1])/\∃s:Nat,ρ1 7=vi s/\s<=1000/\exL ks (d+1) 1=QQ s)
   bIv rfl ⟨rfl,rfl,⟨_,rfl⟩,1,rfl,omT,rfl⟩ ?_ ?_
  ·rintro i ρ1 H1 dc mg ⟨rfl,e45,⟨o1,rfl⟩,s,e7,lq,n9⟩ cq;have f1:ρ1 1=vi d:=(cq 1 rfl).trans r1;have f43:ρ1 43=.sl QT (ks.map aF):=cq 43 rfl;have f44:ρ1 44=vi ks.length:=cq 44 rfl;simp only[go_sem,↓aB,seval,e45,f44];refine aD (fun hb=>?_) (fun hb=>?_)
   ·have hlt:i<ks.length:=by simpa using hb
    have hg:(ks.map aF)[i]? = QQ (aF ks[i]):=getElem?_map_of hlt;have gq:(0:Int)<=(i:Int):=omT;have kx:((i:Int)).toNat=i:=omT;have Qe:=wS (i:=i) omT;have F3:AR.wrap (d+1)=d+1:=by rw[wrap_i64 omT omT]
    have tk:=AS hlt;have az:=fun H=>ih ks[i] (d+1) H (gd _ tk) (E7 _ tk) omT (by grind);have bn:exL (ks.drop i) (d+1) s=match exS ks[i] (d+1)with
      | (k,QS)=>exL (ks.drop (i+1)) (d+1) (s+k)
      | (_,QT)=>none:=by rw[FD hlt];conv=>lhs;unfold exL
    have hle:=aT7 (e:=ks[i]) (d:=d+1);cases C9:exS ks[i] (d+1)with
    |mk k b=>
     rw[C9]at bn hle;simp only[C9]at az;cases b with
     |false=>
      have sc:exS (.mk op m ks) d=(0,QT):=by grind
      simp only[go_sem,↓aB,seval,f1,f43,e45,hg,gq,kx,F3,dP,CH (PM (dP ks[i])),bQ (aV ks[i]),aS (aV ks[i]),aK (aV ks[i]),az,sc]
     |true=>
      have z8:k<=256:=hle rfl;have zh:AR.wrap ((s:Int)+(k:Int))=((s+k:Nat):Int):=by rw[wrap_i64 omT omT];omega
      simp only[go_sem,↓aB,seval,f1,f43,e45,e7,hg,gq,kx,F3,dP,CH (PM (dP ks[i])),bQ (aV ks[i]),aS (aV ks[i]),aK (aV ks[i]),az,Qe,zh];grind
   have hi:i=ks.length:=by grind
   subst hi;simp only[go_sem,seval];exact⟨⟨_,rfl⟩,s,e7,omT,by rw[n9,DH (AQ _)];rfl⟩
  rintro ρ' H' ba ⟨rfl,⟨o1,rfl⟩,s,e7,lq,n9⟩ cq;rw[n9]at hx;simp only[go_sem,↓aB,seval,e7,hx]
end
theorem aKJ{n:Nat}(h:n<256):(CN n).toNat=n:=soT
def lev(op:Int):Nat:=if op=3∨op=4 then 1 else if op=5∨op=6 then 2 else if op=2∨op=7 then 3 else if op=9∨op=10 then 0 else 4
def sg(op:Int):UInt8:=if op=3 then 43 else if op=4 then 45 else if op=5 then 42 else if op=6 then 47 else if op=9 then 61 else 60
def bB1:Expr->Nat
 |.mk op _ _=>lev op
def par(e:Expr)(L:Nat)(s:Str):Str:=if bB1 e<L then 40::(s++[41])else s
def wX:Expr->Str
 |.mk op n []=>if op=0 then dec n.toNat else [CN (97+n.toNat)]
 |.mk op n [a]=>if op=2 then 45::par a 3 (wX a)else 82::40::(par a 1 (wX a)++[41])
 |.mk op n [a,b]=>if op=7 then par a 4 (wX a)++94::par b 3 (wX b)else par a (max 1 (lev op)) (wX a)++sg op::par b (lev op+1) (wX b)
 |.mk _ _ (_::_::_::_)=>[]
inductive Rt:Bool->Expr->Prop where
 |num (r:Bool) (n:Int):0<=n->n<=999999->Rt r (.mk 0 n [])
 |var (r:Bool) (n:Int):0<=n->n<=25->Rt r (.mk 1 n [])
 |un (r:Bool) (op:Int) (a:Expr):op=2∨op=8->Rt QT a->Rt r (.mk op 0 [a])
 |bin (r:Bool) (op:Int) (a b:Expr):3<=op->op<=7->Rt QT a->Rt QT b->Rt r (.mk op 0 [a,b])
 |cmp (op:Int) (a b:Expr):op=9∨op=10->Rt QT a->Rt QT b->Rt QS (.mk op 0 [a,b])
theorem aY2{e:Expr}{L:Nat}{s:Str}(h:bB1 e<L):par e L s=40::(s++[41]):=Zy h
theorem aT8{e:Expr}{L:Nat}{s:Str}(h:L<=bB1 e):par e L s=s:=Zx omT
theorem aUM{op:Int}(h1:3<=op)(h2:op<=7):op=3∨op=4∨op=5∨op=6∨op=7:=omT
def sb(sep:Str):List Str->Str
 | []=>[]
 | [s]=>s
 |s::t::r=>s++sep++sb sep (t::r)
def esc(M:UInt8->Bool)(s:Str):Str:=s.flatMap fun c=>if M c then [126,c] else [c]
theorem aFC(M:UInt8->Bool)(c:UInt8)(s:Str):esc M (c::s)=(if M c then [126,c] else [c])++esc M s:=rfl
def mL(c:UInt8):Bool:=c==126
def aPJ(l:List Str):Str:=sb [126,124] (l.map (esc mL))
def mG(c:UInt8):Bool:=c==126 || c==124 || c==59
def aRX(l:List (List Str)):Str:=sb [59] (l.map fun r=>sb [124] (r.map (esc mG)))
def aUN:List Int->Str
 | []=>[]
 |n::r=>32::dec n.toNat++aUN r
def aWn(op:Int)(l:List Int):Str:=sg op::aUN l
def aPK(k:Nat):UInt8:=([99,100,101,102,103,97,98]:List UInt8).getD k 0
def aBy(n:ct):Str:=(if n.step<0 then [114] else [aPK (n.step % 7).toNat])++((if n.alter=1 then [35] else if n.alter = -1 then [95] else [])++((if 0<=n.step then [CN (48+(n.step / 7).toNat)] else [])++[CN (48+n.length.toNat)]))
def aO9(l:List ct):Str:=sb [32] (l.map aBy)
def aJm(l:List (List (List ct))):Str:=sb [47] (l.map fun h=>sb [124] (h.map aO9))
def aHA:Int->List mr->Str
 |_,[]=>[]
 |p,r::l=>(if r.gg=p then [] else [126,124])++(esc mL r.text++aHA r.gg l)
def aKK(b:Block):Block:=⟨b.kind,if b.kind=0 then b.runs else [],if b.kind=1 then b.expr else .mk 0 0 [],if b.kind=2 then b.dn else 0,if b.kind=2 then b.eg else [],if b.kind=3 then b.cd else [],
 if b.kind=4 then b.w else 0,if b.kind=4 then b.h else 0,if b.kind=4 then b.aw else [],if b.kind=5 then b.bo else [],if b.kind=6 then b.lines else []⟩
def wB(b:Block):Str:=if b.kind=0 then aHA 0 b.runs else if b.kind=1 then wX b.expr else if b.kind=2 then aWn b.dn b.eg else if b.kind=3 then aRX b.cd else if b.kind=5 then aJm b.bo else aPJ b.lines
def iG(g:SN):bw:=⟨9,[],[.tmp 4],qS [qmc 4 (.bool QT)]<|qS [qm 5 0,qm 6 1,qc 7 (g "bo") [u 5,u 6],qbi 8 .geq 7 0,qm 4 8]<|.ret⟩
abbrev vS(g:SN):ag:=qS [qb 9 .lss 8 7]<|.seq (qC 9 (.skip) (.exit 0))<|.seq (.block 1 (qS [qm 10 8,qm 5 10]<|qS [qm 11 1,qm 12 0,qm 13 5,qi 14 12 13 1,ql 15 1 14,qb 16 .eql 11 15]<|qC 16 (qS [qm 17 5,qm 4 17]<|.ret) (.skip)))<|.region QT [qbi 18 .add 8 1,qm 8 18]
def gP(g:SN):bw:=⟨19,[],[.tmp 4],qS [qmc 4 z0]<|.seq (qS [qm 6 0,qn 7 6,qmc 8 z0]<|.block 0 (.loop (vS g)))<|qS [qmc 4 (.int .i64 (-1))]<|.ret⟩
def aBK(g:SN):ag:=.block 0 (qS [qbi 10 .eql 8 0,qm 9 10]<|qC 9 (qR [qf 11 1 1,ql 12 1 11,qf 13 1 3,qs 1 13 12]) (qS [qbi 15 .eql 8 1,qm 14 15]<|qC 14 (qR [qf 16 2 1,qla 17 3 16,qf 18 2 3,qs 3 18 17]) (qS [qbi 20 .eql 8 2,qm 19 20]<|qC 19 (qR [qf 21 5 1,qla 22 2 21,qf 23 5 3,qs 2 23 22]) (qS [qbi 25 .eql 8 3,qm 24 25]<|qC 24 (qR [qf 26 7 1,qla 27 1 26,qf 28 7 3,qs 1 28 27]) (qS [qbi 30 .eql 8 4,qm 29 30]<|qC 29 (qR [qf 31 8 1,qla 32 3 31,qf 33 8 3,qs 3 33 32]) (qS [qbi 35 .eql 8 5,qm 34 35]<|qC 34 (qR [qf 36 11 1,qla 37 1 36,qf 38 11 3,qs 1 38 37]) (qS [qbi 40 .eql 8 6,qm 39 40]<|qC 39 (qR [qf 41 12 1,ql 42 1 41,qf 43 12 3,qs 1 43 42]) (.skip))))))))
def aCo(g:SN):bw:=⟨45,[2,3],[.cell 2 13 QS],qS [qx 1 13 0,qq 2 (.alloc [z0,(.sl QS []),z0,z0,(.sl QS []),z0,(.sl QS []),(.sl QS []),z0,z0,(.sl QS []),(.sl QS []),(.sl QS [])])]<|qS [qf 4 0 1,ql 5 1 4,qq 6 (.build [z0,(.sl QS []),z0,z0,(.sl QS []),z0,(.sl QS []),(.sl QS []),z0,z0,(.sl QS []),(.sl QS []),(.sl QS [])] [(0,1,(.tmp 5))]),qq 3 (.alloc [z0,(.sl QS []),z0,z0,(.sl QS []),z0,(.sl QS []),(.sl QS []),z0,z0,(.sl QS []),(.sl QS []),(.sl QS [])]),qs 13 3 6]<|.seq (qS [qf 7 0 1,ql 8 1 7]<|aBK g)<|qS [qla 44 13 3,qs 13 2 44]<|.ret⟩
section
variable {A:af}{g:SN}
def aT9(l:List ct):Bool:=wi l.length 1 16&&l.all aGv
def aKL(n:Nat)(l:List (List ct)):Bool:=((l.length:Int)==(n:Int))&&(wi l.length 1 32&&l.all aT9)
def aUO(l:List (List (List ct))):Bool:=wi l.length 1 2&&l.all (aKL (l.headD []).length)
structure si(A:af)(g:SN):Prop where
 mel:Has A g "cF" (aAp g)
 Fe:Has A g "bL" (vR g)
 Ff:Has A g "bM" (qX g)
 note:Has A g "aX" (xQ g)
 Aj:fe A g 1 QT (g "dg")
 sj:fe A g 1 QT (g "dh")
 Ak:fe A g 3 QS (g "dl")
theorem aOa(h:si A g)(hw:eO A g)(l:List ct)(hl:l.length<=16)(H:LO):aG A (g "bM") [.sl QT (l.map bV)] H=QQ (.bool (aT9 l),H,[]):=by refine h.Ff.call ?_;have hc:=h.Ak.spec hw aMZ cQ (l:=l) (H:=H) (f1:=g "aX") (q:=aGv) (lo:=1) (hi:=16) (by show l.length<_;omega) fun _ n _=>aM0 h.note hw n H;simp only[qX];simp only[go_sem,↓aB,seval,hc,aT9]
theorem aM2(h:si A g)(hw:eO A g){l0:List (List ct)}{ls:List (List (List ct))}(l:List (List ct))(hl:l.length<=16)(hb:∀b∈l,b.length<=16)(H:LO):aG A (g "bL") [.sl QT (l.map gH),.ep [.sl QT ((l0::ls).map bS)] 0] H=QQ (.bool (aKL l0.length l),H,[]):=by
 refine h.Fe.call ?_;have hc:=h.sj.spec hw aLY cQ (l:=l) (H:=H) (f1:=g "bM") (q:=aT9) (lo:=1) (hi:=32) (by show l.length<_;omega) fun _ b hm=>aOa h hw b (hb b hm) H;simp only[vR,aKL];cases e:((l.length:Int)==(l0.length:Int))with
 |false=>simp only[go_sem,↓aB,seval,AF,BI,BG,bS,e,BQ,BB]
 |true=>simp only[go_sem,↓aB,seval,AF,BI,BG,bS,e,BR,Zz,hc]
theorem aJn(h:si A g)(hw:eO A g)(l:List (List (List ct)))(hl:l.length<=16)(hb:∀x∈l,x.length<=16/\∀b∈x,b.length<=16)(H:LO):aG A (g "cF") [.agg [.sl QT (l.map bS)]] H=QQ (.bool (aUO l),H,[]):=by
 refine h.mel.call ?_;have hc:=h.Aj.spec hw aJk (cQ.ep [.sl QT (l.map bS)] 0) (l:=l) (H:=H) (f1:=g "bL") (q:=aKL (l.headD []).length) (lo:=1) (hi:=2) (by show l.length<_;omega) fun _ x hm=>by
  cases l with
  |nil=>cases hm
  |cons l0 ls=>exact aM2 h hw x (hb x hm).1 (hb x hm).2 H
 simp only[aAp];simp only[go_sem,↓aB,seval,hc,aUO]
theorem aM3(h:Has A g "bo" (gP g))(l:List Int)(s:Int)(hl:l.length<=1000000000)(H:LO):aG A (g "bo") [.sl QT (l.map bF),vi s] H=QQ (vi (aMW (fun x=>s==x) l),H,[]):=by
 refine h.call ?_;simp only[gP];simp only[go_sem,↓aB,seval,AF];refine bJ (id:=0) (fun i ρ1 H1 wr=>wr=[]/\H1=H/\ρ1 8=vi i/\∀j (hj:j<i) (hl:j<l.length),(s==l[j])=QT) l.length
  (fun ρ1 H1 wr=>wr=[]/\H1=H/\∀j (hl:j<l.length),(s==l[j])=QT)
  bIv rfl ⟨rfl,siT,rfl,fun j hj=>omT⟩ ?_ ?_
 ·rintro i ρ1 H1 dc mg ⟨rfl,rfl,e8,hn⟩ hf;have e0:ρ1 0=.sl QT (l.map bF):=hf 0 rfl;have e1:ρ1 1=vi s:=hf 1 rfl;have e7:ρ1 7=vi l.length:=hf 7 rfl;simp only[go_sem,↓aB,seval,e8,e7];refine aD (fun hb=>?_) (fun hb=>?_)
  ·have hlt:i<l.length:=by simpa using hb
   have hg:(l.map bF)[i]? = QQ [vi l[i]]:=getElem?_map_of hlt;have gq:(0:Int)<=(i:Int):=omT;have kx:((i:Int)).toNat=i:=omT;have Qe:=wS (i:=i) omT;cases hc:(s==l[i])with
   |true=>simp only[go_sem,↓aB,seval,e0,e1,e8,hg,gq,kx,hc];exact (aLT (p:=fun x=>s==x) hlt hc fun j hj=>hn j hj omT).symm ▸ rfl
   |false=>
    simp only[go_sem,↓aB,seval,e0,e1,e8,hg,gq,kx,hc,Qe];refine⟨hlt,fun j hj mo=>?_⟩;by_cases e:j=i
    ·subst e;exact hc
    exact hn j omT mo
  have hi:i=l.length:=by simp at hb;omega
  subst hi;simp only[go_sem,seval];exact fun j hj=>hn j hj hj
 rintro ρ' H' ba ⟨rfl,rfl,hn⟩ hf;simp only[go_sem,↓aB,seval,aGq (p:=fun x=>s==x) hn]
theorem aHB(h:Has A g "bV" (iG g))(hi:Has A g "bo" (gP g))(l:List Int)(s:Int)(hl:l.length<=1000000000)(H:LO):aG A (g "bV") [.sl QT (l.map bF),vi s] H=QQ (.bool (l.any fun x=>s==x),H,[]):=by refine h.call ?_;simp only[iG];simp only[go_sem,↓aB,seval,aM3 hi l s hl,aLU]
theorem aKM(h:Has A g "bO" (aCo g))(b:Block)(H:LO):aG A (g "bO") [.agg (aE b)] H=QQ (.agg (aE (aKK b)),H,[]):=by
 refine h.call ?_;obtain⟨kind,runs,⟨op,n,ks⟩,dn,eg,cd,w,hh,aw,bo,lines⟩:=b;simp only[aCo,aBK,aE,aF,aZ,aKK,DO,CW];have ur:∀n,eR n (runs.map cZ)=true:=fun _=>aA (aC cA runs);have ue:∀n,eR n (ks.map aF)=true:=fun _=>aA (aC aV ks);have ua:∀n,eR n (eg.map bF)=true:=fun _=>aA (aC aU eg);have ug:∀n,eR n (cd.map bY)=true:=fun _=>aA (aC cU cd);have us:∀n,eR n (aw.map aH)=true:=fun _=>aA (aC bW aw);have uh:∀n,eR n (bo.map bS)=true:=fun _=>aA (aC cR bo);have ul:∀n,eR n (lines.map aN)=true:=fun _=>aA (aC bO lines);by_cases e0:kind=0
 ·subst e0;simp only[go_sem,↓aB,seval,BY,aF,aZ,ur]
 have n0:(kind==0)=false:=by simpa using e0
 by_cases e1:kind=1
 ·subst e1;simp only[go_sem,↓aB,seval,BY,aF,aZ,ue]
 have n1:(kind==1)=false:=by simpa using e1
 by_cases e2:kind=2
 ·subst e2;simp only[go_sem,↓aB,seval,BY,aF,aZ,ua]
 have n2:(kind==2)=false:=by simpa using e2
 by_cases e3:kind=3
 ·subst e3;simp only[go_sem,↓aB,seval,BY,aF,aZ,ug]
 have n3:(kind==3)=false:=by simpa using e3
 by_cases e4:kind=4
 ·subst e4;simp only[go_sem,↓aB,seval,BY,aF,aZ,us]
 have n4:(kind==4)=false:=by simpa using e4
 by_cases e5:kind=5
 ·subst e5;simp only[go_sem,↓aB,seval,BY,aF,aZ,uh]
 have n5:(kind==5)=false:=by simpa using e5
 by_cases e6:kind=6
 ·subst e6;simp only[go_sem,↓aB,seval,BY,aF,aZ,ul]
 have n6:(kind==6)=false:=by simpa using e6
 simp only[go_sem,↓aB,seval,BY,aF,aZ,e0,e1,e2,e3,e4,e5,e6,n0,n1,n2,n3,n4,n5,n6]
end
abbrev aEg(g:SN):List ae:=[qla 5 13 1,qla 6 13 1,⟨QQ 7,oc (g "bO") [u 6],N2,[1]⟩,⟨QQ 8,oc (g "bP") [u 5,u 7],N2,[0,2,1]⟩,⟨QQ 9,.un .not (u 8),N2,[3,0,2,1]⟩]
abbrev vT:LN:=[0,2]
abbrev aEh(g:SN):List ae:=[qf 71 12 1,⟨QQ 72,ol 1 71,N2,[0]⟩,qc 73 (g "S") [ui 0,ui 80],⟨QQ 74,oc (g "ag") [u 72,ui 1,ui 64,u 73],N2,[1,0,2]⟩,⟨QQ 2,om 74,N2,[3,1,0,2]⟩]
abbrev vU:LN:=[1,2]
def vV(g:SN):ag:=.block 0 (qS [qbi 13 .eql 11 0,qm 12 13]<|qC 12 (qS [qf 14 1 1,ql 15 1 14,qc 16 (g "aZ") [u 15],qm 2 16]<|.ret) (qS [qbi 18 .eql 11 1,qm 17 18]<|qC 17 (qS [qf 20 2 1,qla 21 3 20,qc 22 (g "aV") [u 21,ui 1],qm 19 22,qq 23 (.ext 0 (u 19)),qq 24 (.ext 1 (u 19)),qm 3 23,qm 4 24]<|qS [qm 25 4,qm 2 25]<|.ret) (qS [qbi 27 .eql 11 2,qm 26 27]<|qC 26 (qS [qq 28 (.bsl 1 [z0] 4 [(0,(.const (vi 3))),(1,(.const (vi 4))),(2,(.const (vi 5))),(3,(.const (vi 6)))]),qf 29 5 1,qf 30 0 29,ql 31 1 30,qc 32 (g "bV") [u 28,u 31],qm 33 32,qT 34 33 (of 5 1),qT 35 33 (of 1 34),qT 36 33 (ol 1 35),qT 37 33 (oc (g "cE") [u 36,ui 1,ui 8,uf (g "bI")]),qp 38 33 37,qm 2 38]<|.ret) (qS [qbi 40 .eql 11 3,qm 39 40]<|qC 39 (qS [qf 41 7 1,qf 42 0 41,ql 43 1 42,qq 44 (.mkf (g "bJ") [] [(.tmp 1)]),qc 45 (g "cB") [u 43,ui 1,ui 12,u 44],qm 2 45]<|.ret) (qS [qbi 47 .eql 11 4,qm 46 47]<|qC 46 (qS [qf 48 8 1,qf 49 0 48,ql 50 1 49,qc 51 (g "d") [u 50,ui 1,ui 1000],qm 52 51,qT 53 52 (of 8 1),qT 54 52 (of 1 53),qT 55 52 (ol 1 54),qT 56 52 (oc (g "d") [u 55,ui 1,ui 1000]),qp 57 52 56,qm 58 57,qT 59 58 (of 8 1),qT 60 58 (of 2 59),qT 61 58 (ol 1 60),qT 62 58 (oc (g "dn") [u 61,ui 1,ui 8,uf (g "ba")]),qp 63 58 62,qm 2 63]<|.ret) (qS [qbi 65 .eql 11 5,qm 64 65]<|qC 64 (qS [qf 66 11 1,qla 67 1 66,qc 68 (g "cF") [u 67],qm 2 68]<|.ret) (qS [qbi 70 .eql 11 6,qm 69 70]<|qC 69 (.seq (.region QS (aEh g))<|.ret) (.skip))))))))
def aBL(g:SN):bw:=⟨75,[],[.tmp 2],qS [qx 1 13 0,qmc 2 (.bool QT)]<|.seq (.seq (.region QS (aEg g))<|qC 9 (qS [qmc 2 (.bool QT)]<|.ret) (.skip))<|.seq (qS [qf 10 0 1,ql 11 1 10]<|vV g)<|qS [qmc 2 (.bool QT)]<|.ret⟩
def zI(g:SN):bw:=⟨5,[],[.tmp 2],qS [qmc 2 (.bool QT)]<|qS [qm 3 0,qc 4 (g "d") [u 3,ui 0,ui 999999],qm 2 4]<|.ret⟩
def zJ(g:SN):bw:=⟨18,[],[.tmp 3],qS [qmc 3 (.bool QT)]<|qS [qm 4 0,qn 5 4,qf 6 7 1,qf 7 0 6,ql 8 1 7,qq 9 (.iaV (u 8) (ui 0) 1),ql 10 1 9,qn 11 10,qb 12 .eql 5 11,qm 13 12,qT 14 13 (om 0),qT 15 13 (oc (g "S") [ui 0,ui 20]),qT 16 13 (oc (g "ag") [u 14,ui 1,ui 12,u 15]),qp 17 13 16,qm 3 17]<|.ret⟩
section
variable {A:af}{g:SN}
def aUP(n:Int):Bool:=wi n 0 999999
def aUQ(n:Nat)(r:List Str):Bool:=((r.length:Int)==(n:Int))&&(wi r.length 1 12&&r.all (vP 0 20))
noncomputable def xU(b:Block):Bool:=
 if b.kind=0 then aGx b.runs
 else if b.kind=1 then (exS b.expr 1).2
 else if b.kind=2 then ([3,4,5,6]:List Int).any (fun x=>b.dn==x)&&(wi b.eg.length 1 8&&b.eg.all aUP)
 else if b.kind=3 then wi b.cd.length 1 12&&b.cd.all (aUQ (b.cd.headD []).length)
 else if b.kind=4 then (wi b.w 1 1000&&wi b.h 1 1000)&&(wi b.aw.length 1 8&&b.aw.all vQ)
 else if b.kind=5 then aUO b.bo
 else if b.kind=6 then wi b.lines.length 1 64&&b.lines.all (vP 0 80)
 else QT
noncomputable def dQ(b:Block):Bool:=eqv b (aKK b)&&xU b
structure kb(A:af)(g:SN):Prop where
 block:Has A g "bH" (aBL g)
 xy:Has A g "bI" (zI g)
 xz:Has A g "bJ" (zJ g)
 only:Has A g "bO" (aCo g)
 runs:Has A g "aZ" (xR g)
 L8:Has A g "aj" (nM g)
 expr:Has A g "aV" (xT g)
 kids:Has A g "bb" (xS g)
 Sb:Has A g "S" (aCm g)
 Al:Has A g "an" (xO g)
 shape:Has A g "ba" (tV g)
 Q7:Has A g "ak" (mF g)
 within:Has A g "d" (xM g)
 text:Has A g "R" (xN g)
 wg:Has A g "al" (nK g)
 con:Has A g "bV" (iG g)
 ind:Has A g "bo" (gP g)
 mel:si A g
 same:HasSameB A g
 sj:fe A g 1 QT (g "aT")
 Q8:fe A g 2 QS (g "cD")
 allI:fe A g 1 QT (g "cE")
 Am:fe A g 1 QT (g "cB")
 An:fe A g 1 QT (g "ag")
 Ao:fe A g 2 QS (g "dn")
 Ap:fe A g 2 QS (g "cC")
theorem aRY(h:kb A g)(n:Int)(H:LO):aG A (g "bI") [vi n] H=QQ (.bool (aUP n),H,[]):=by refine h.xy.call ?_;have hw:=kO h.within n 0 999999;simp only[zI,aUP];simp only[go_sem,↓aB,seval,hw]
theorem aBj(h:kb A g)(l:List Str)(hl:l.length<=16)(ht:∀s∈l,s.length<=1000000)(a b lo hi:Int)(H:LO):aG A (g "ag") [.sl QT (l.map aN),vi lo,vi hi,.fn (g "an") [] [.ep [vi a] 0,.ep [vi b] 0]] H=QQ (.bool (wi l.length lo hi&&l.all (vP a b)),H,[]):=
 have hw:=kO h.within
 h.An.spec hw aUG ((cQ.ep [vi b] 0).ep [vi a] 0) (by grind) fun _ s hm=>aO8 h.Al (qW h.text h.wg h.sj hw) s a b H (ht s hm)
theorem aKN(h:kb A g){r0:List Str}{rs:List (List Str)}{c0 c1 c2 c3 c4 c5 c6 c8 c9 c10 c11 c12:AV}(r:List Str)(hl:r.length<=16)(ht:∀s∈r,s.length<=1000000)(H:LO):aG A (g "bJ") [.sl QT (r.map aN),.ep [c0,c1,c2,c3,c4,c5,c6,.sl QT ((r0::rs).map bY),c8,c9,c10,c11,c12] 0] H=QQ (.bool (aUQ r0.length r),H,[]):=by
 refine h.xz.call ?_;have hu:=fun H=>aDb h.Sb 0 20 H;have hc:=aBj h r hl ht 0 20 1 12 H;simp only[zJ,aUQ];cases e:((r.length:Int)==(r0.length:Int))with
 |false=>simp only[go_sem,↓aB,seval,AF,BI,BG,bY,e,BQ,BB]
 |true=>simp only[go_sem,↓aB,seval,AF,BI,BG,bY,e,BR,Zz,hu,hc]
theorem aEX(h:kb A g)(b:Block)(hb:b.Ok)(H:LO):aG A (g "bH") [.agg (aE b)] H=QQ (.bool (dQ b),H,[]):=by
 refine h.block.call ?_;have hw:=kO h.within;have ht:=qW h.text h.wg h.sj hw;have Lc:=aKM h.only b H;have Fg:=aO0 h.same b (aKK b) H hb;have tx:∀{s:Str},lI s->s.length<=1000000:=fun h=>by grind
 have h0:=aGy h.runs h.L8 h.Q8 hw ht b.runs (by have:=hb.vw;omega) (fun r hr=>tx (hb.runs r hr).text) H;have h1:=aM1 h.expr h.kids hw _ b.expr 1 H (HR _) hb.expr deT deT;have h2:=aHB h.con h.ind [3,4,5,6] b.dn deT H;have zc:=h.allI.spec hw aLX cQ (l:=b.eg) (H:=H) (f1:=g "bI") (q:=aUP) (lo:=1) (hi:=8) (by have:=hb.tj;grind) fun _ n _=>aRY h n H;have h4:=h.Ao.spec hw aKE cQ (l:=b.aw) (H:=H) (f1:=g "ba") (q:=vQ) (lo:=1) (hi:=8) (by have:=hb.fg;grind)
  fun _ s hm=>aKI h.shape h.Q7 h.Ap hw s (by have:=(hb.aw s hm).len;omega) H
 have Fh:=fun H=>hw b.w 1 1000 H;have Ij:=fun H=>hw b.h 1 1000 H;have h5:=aJn h.mel hw b.bo hb.uv (fun x hx=>⟨(hb.bo x hx).1,fun l hl=>((hb.bo x hx).2 l hl).1⟩) H;have h6:=aBj h b.lines hb.vz (fun s hs=>tx (hb.lines s hs)) 0 80 1 64 H;have Ld:=fun H=>aDb h.Sb 0 80 H;have G3:=hb.uu;have Aq:=hb.cd;have jy:∃c0 c1 c2 c3 c4 c5 c6 c8 c9 c10 c11 c12,aE b=[c0,c1,c2,c3,c4,c5,c6,.sl QT (b.cd.map bY),c8,c9,c10,c11,c12]:=by obtain⟨_,_,⟨_,_,_⟩,_,_,_,_,_,_,_,_⟩:=b;exact⟨_,_,_,_,_,_,_,_,_,_,_,_,rfl⟩
 have h3:aG A (g "cB") [.sl QT (b.cd.map bY),vi 1,vi 12,.fn (g "bJ") [] [.ep (aE b) 0]] H=QQ (.bool (wi b.cd.length 1 12&&b.cd.all (aUQ (b.cd.headD []).length)),H,[]):=by
  obtain⟨c0,c1,c2,c3,c4,c5,c6,c8,c9,c10,c11,c12,e⟩:=jy;rw[e];refine h.Am.spec hw aUH (cQ.ep _ 0) (l:=b.cd) (by grind) fun _ r hm=>?_;cases xg:b.cd with
  |nil=>grind
  |cons r0 rs=>have:=aKN h (r0:=r0) (rs:=rs) (c0:=c0) (c1:=c1) (c2:=c2) (c3:=c3) (c4:=c4) (c5:=c5) (c6:=c6) (c8:=c8) (c9:=c9) (c10:=c10) (c11:=c11) (c12:=c12) r (Aq r hm).1 (fun s hs=>tx ((Aq r hm).2 s hs)) H;exact this
 simp only[aBL];simp only[go_sem,↓aB,seval,cF,bT.still,bT.ga];refine aY (aq:=vT) rfT rfT ?_;simp only[go_sem,↓aB,seval,vT,eH,dG,aL,cF,bT.take,aS (bG b),aS (bG (aKK b)),aK (bG b),aK (bG (aKK b)),Lc,Fg];cases e:eqv b (aKK b)with
 |false=>simp only[go_sem,↓aB,seval,dQ,e,BQ]
 |true=>
  have V5:dQ b=xU b:=by unfold dQ;grind
  rw[V5];obtain⟨op,n,ks,mn⟩:∃op n ks,b.expr=Expr.mk op n ks:=by cases b.expr;grind
  have Ra:aF b.expr=[vi op,vi n,.sl QT (ks.map aF)]:=by rw[mn,aF,aZ]
  have ig:aE b=[vi b.kind,.sl QT (b.runs.map cZ),vi op,vi n,.sl QT (ks.map aF),vi b.dn,.sl QT (b.eg.map bF),.sl QT (b.cd.map bY),vi b.w,vi b.h,.sl QT (b.aw.map aH),.sl QT (b.bo.map bS),.sl QT (b.lines.map aN)]:=by unfold aE;grind
  rw[Ra]at h1;rw[ig]at h3;simp only[go_sem,↓aB,seval,ig];simp only[vV];unfold xU;by_cases e0:b.kind=0
  ·rw[e0];simp only[go_sem,↓aB,seval,h0]
  have n0:(b.kind==0)=false:=by simpa using e0
  rw[Zx e0];by_cases e1:b.kind=1
  ·rw[e1];simp only[go_sem,↓aB,seval,h1]
  have n1:(b.kind==1)=false:=by simpa using e1
  rw[Zx e1];by_cases e2:b.kind=2
  ·rw[e2];simp only[BI,BY,bF]at h2;cases k:([3,4,5,6]:List Int).any (fun x=>b.dn==x)with
   |false=>rw[k]at h2;simp only[go_sem,↓aB,seval,h2,BQ,Zz,BB]
   |true=>rw[k]at h2;simp only[go_sem,↓aB,seval,h2,BR,Zz,zc]
  have n2:(b.kind==2)=false:=by simpa using e2
  rw[Zx e2];by_cases e3:b.kind=3
  ·rw[e3]at h3 ⊢;simp only[go_sem,↓aB,seval,h3]
  have n3:(b.kind==3)=false:=by simpa using e3
  rw[Zx e3];by_cases e4:b.kind=4
  ·rw[e4];cases k1:wi b.w 1 1000 with
   |false=>simp only[go_sem,↓aB,seval,Fh,k1,BQ,Zz,BB]
   |true=>cases k2:wi b.h 1 1000 with
    |false=>simp only[go_sem,↓aB,seval,Fh,Ij,k1,k2,BQ,MC,Zz,BB]
    |true=>simp only[go_sem,↓aB,seval,Fh,Ij,k1,k2,h4,BR,Zz]
  have n4:(b.kind==4)=false:=by simpa using e4
  rw[Zx e4];by_cases e5:b.kind=5
  ·rw[e5];simp only[go_sem,↓aB,seval,h5]
  have n5:(b.kind==5)=false:=by simpa using e5
  rw[Zx e5];by_cases e6:b.kind=6
  ·rw[e6];simp only[go_sem,↓aB,seval];refine aY (aq:=vU) rfT rfT ?_;simp only[go_sem,↓aB,seval,vU,eH,dG,aL,Ld,h6]
  have n6:(b.kind==6)=false:=by simpa using e6
  rw[Zx e6];simp only[go_sem,↓aB,seval,n0,n1,n2,n3,n4,n5,n6]
end
def sgI(op:Int):Int:=if op=0∨op=1 then 0 else if op=2 then 45 else if op=3 then 43 else if op=4 then 45 else if op=5 then 42 else if op=6 then 47 else if op=7 then 94 else if op=8 then 82 else if op=9 then 61 else 60
def aAr(op:Int):LA:=[vi (aCn op),vi (aAq op),vi (lev op),.int .u8 (sgI op)]
def aRZ:LA:=[vi 0,vi 999999,vi 4,.int .u8 0,vi 0,vi 25,vi 4,.int .u8 0,vi 1,vi 0,vi 3,.int .u8 45,vi 2,vi 0,vi 1,.int .u8 43,vi 2,vi 0,vi 1,.int .u8 45,vi 2,vi 0,vi 2,.int .u8 42,vi 2,vi 0,vi 2,.int .u8 47,
 vi 2,vi 0,vi 3,.int .u8 94,vi 1,vi 0,vi 4,.int .u8 82,vi 2,vi 0,vi 0,.int .u8 61,vi 2,vi 0,vi 0,.int .u8 60]
theorem hD{op:Int}(h0:0<=op)(h1:op<11):(aRZ.drop (op.toNat*4)).take 4=aAr op/\op.toNat*4+4<=aRZ.length:=by have:op=0∨op=1∨op=2∨op=3∨op=4∨op=5∨op=6∨op=7∨op=8∨op=9∨op=10:=omT;rcases this with rfl | rfl | rfl | rfl | rfl | rfl | rfl | rfl | rfl | rfl | rfl<;>exact⟨rfl,deT⟩
def xV(g:SN):bw:=⟨49,[5],[.tmp 4],qS [qx 2 3 0,qmc 4 (.bool QT)]<|.seq (qS [qf 6 0 2,ql 7 1 6,qbi 8 .lss 7 0,qm 9 8,qF 10 9 (of 0 2),qF 11 9 (ol 1 10),qF 12 9 (obi .geq 11 11),qq 13 (.pick (u 9) uT (u 12))]<|qC 13 (qS [qmc 4 (.bool QT)]<|.ret) (.skip))<|qS [qf 14 0 2,ql 15 1 14,qq 16 (.iaA 11 4 (uc (.ep aRZ 0)) (u 15)),qla 17 4 16,qq 5 (.alloc [z0,z0,z0,(.int .u8 0)]),qs 4 5 17]<|.seq (qS [qf 18 2 2,ql 19 1 18,qn 20 19,qf 21 0 5,ql 22 1 21,qb 23 .neq 20 22,qm 24 23,qF 25 24 (of 1 2),qF 26 24 (ol 1 25),qF 27 24 (obi .lss 26 0),qq 28 (.pick (u 24) uT (u 27)),qm 29 28,qF 30 29 (of 1 2),qF 31 29 (ol 1 30),qF 32 29 (of 1 5),qF 33 29 (ol 1 32),qF 34 29 (ob .gtr 31 33),qq 35 (.pick (u 29) uT (u 34)),qm 36 35,qF 37 36 (of 2 5),qF 38 36 (ol 1 37),qF 39 36 (obi .eql 38 0),qF 40 36 (om 39),qT 41 40 (om 1),qT 42 40 (.un .not (u 41)),qF 43 36 (op 40 42),qq 44 (.pick (u 36) uT (u 43))]<|qC 44 (qS [qmc 4 (.bool QT)]<|.ret) (.skip))<|qS [qf 45 2 2,ql 46 1 45,qc 47 (g "ao") [u 46,uf (g "aR")],qq 48 (.un .not (u 47)),qm 4 48]<|.ret⟩
def qY(g:SN):bw:=⟨6,[],[.tmp 2],qS [qx 1 3 0,qmc 2 (.bool QT)]<|qS [qla 3 3 1,qc 4 (g "aQ") [u 3,uF],qq 5 (.un .not (u 4)),qm 2 5]<|.ret⟩
abbrev aGz(g:SN):ag:=qS [qb 10 .lss 9 8]<|.seq (qC 10 (.skip) (.exit 0))<|.seq (.block 1 (qS [qi 11 7 9 3,qla 12 3 11,qq 5 (.alloc [z0,z0,(.sl QS [])]),qs 3 5 12]<|.region QT [qm 13 3,qla 14 3 5,qc 15 (g "aO") [u 14],qb 16 .add 13 15,qm 3 16]))<|.region QT [qbi 17 .add 9 1,qm 9 17]
def aAs(g:SN):bw:=⟨19,[5],[.tmp 2],qS [qx 1 3 0,qmc 2 z0]<|qS [qmc 3 (vi 1)]<|.seq (qS [qf 6 2 1,ql 7 1 6,qn 8 7,qmc 9 z0]<|.block 0 (.loop (aGz g)))<|qS [qm 18 3,qm 2 18]<|.ret⟩
abbrev aFk(g:SN):ag:=qS [qb 10 .lss 9 8]<|.seq (qC 10 (.skip) (.exit 0))<|.seq (.block 1 (qS [qi 11 7 9 3,qla 12 3 11,qq 5 (.alloc [z0,z0,(.sl QS [])]),qs 3 5 12]<|.region QT [qm 13 3,qla 14 3 5,qc 15 (g "aN") [u 14],qq 16 (.mm QS [(.tmp 13),(.tmp 15)]),qm 3 16]))<|.region QT [qbi 17 .add 9 1,qm 9 17]
def xW(g:SN):bw:=⟨20,[5],[.tmp 2],qS [qx 1 3 0,qmc 2 z0]<|qS [qmc 3 z0]<|.seq (qS [qf 6 2 1,ql 7 1 6,qn 8 7,qmc 9 z0]<|.block 0 (.loop (aFk g)))<|qS [qm 18 3,qbi 19 .add 18 1,qm 2 19]<|.ret⟩
def zK(g:SN):ag:=.block 0 (qS [qla 4 3 1,qc 5 (g "aO") [u 4],qbi 6 .gtr 5 256,qm 7 6,qF 8 7 (ola 3 1),qF 9 7 (oc (g "aN") [u 8]),qF 10 7 (obi .gtr 9 16),qq 11 (.pick (u 7) uT (u 10)),qm 3 11]<|qC 3 (qS [qmc 2 (vi 4)]<|.ret) (qS [qla 13 3 1,qc 14 (g "aQ") [u 13,uT],qq 15 (.un .not (u 14)),qm 12 15]<|qC 12 (qS [qmc 2 (vi 1)]<|.ret) (.skip)))
def aDc(g:SN):bw:=⟨16,[],[.tmp 2],qS [qx 1 3 0,qmc 2 z0]<|.seq (zK g)<|qS [qmc 2 z0]<|.ret⟩
mutual
def aBM:Expr->Nat
 |.mk _ _ ks=>mN ks+1
def mN:List Expr->Nat
 | []=>0
 |k::r=>max (aBM k) (mN r)
end
mutual
theorem aPL:∀e:Expr,aBM e<=gY e
 |.mk _ _ ks=>by unfold aBM gY;have:=aEi ks;omega
theorem aEi:∀l:List Expr,mN l<=cP l
 | []=>AQ _
 |k::r=>by unfold mN cP;have:=aPL k;have:=aEi r;omega
end
theorem aGA:∀(l:List Expr) (i:Nat),cP (l.take i)<=cP l
 | [],i=>by simp
 |k::r,0=>by simp[cP]
 |k::r,i+1=>by simp only[AA,cP];have:=aGA r i;omega
theorem aGB:∀(l:List Expr) (i:Nat) (h:i<l.length),cP (l.take (i+1))=cP (l.take i)+gY l[i]
 |k::r,0,h=>by simp[cP]
 |k::r,i+1,h=>by
  simp only[AA,cP,MD];rw[aGB r i (by simpa using h)];omega
theorem aEY:∀(l:List Expr) (i:Nat) (h:i<l.length),mN (l.take (i+1))=max (mN (l.take i)) (aBM l[i])
 |k::r,0,h=>by simp[mN]
 |k::r,i+1,h=>by
  simp only[AA,mN,MD];rw[aEY r i (by simpa using h)];omega
theorem aIt{l:List Expr}{k:Expr}(h:k∈l):gY k<=cP l:=by
 induction l with
 |nil=>cases h
 |cons a r ih=>unfold cP;grind
theorem aEj:∀l:List Expr,l.length<=cP l
 | []=>AQ _
 |k::r=>by
  have:=aEj r;have:1<=gY k:=by cases k;unfold gY;omega
  simp only[AW,cP];omega
section
variable {A:af}{g:SN}
theorem aPM(h:Has A g "aO" (aAs g)):∀(n:Nat) (e:Expr) (H:LO),SizeOf.sizeOf e<n->gY e<=1000->aG A (g "aO") [.agg (aF e)] H=QQ (vi (gY e),H,[]):=by
 intro n
 induction n with
 |zero=>grind
 |succ n ih=>
  intro e H hs he;obtain⟨op,m,ks⟩:=e;refine h.call ?_;have gd:∀k∈ks,SizeOf.sizeOf k<n:=fun k hm=>by
   have:=GY hm;grind
  unfold gY at he;have ax:=aEj ks;simp only[aAs];simp only[go_sem,↓aB,seval,aF,aZ,AF];refine bJ (id:=0) (fun i ρ1 H1 wr=>wr=[]/\ρ1 9=vi i/\(∃o1,H1=H++[o1])/\ρ1 3=vi ((cP (ks.take i)+1:Nat):Int)) ks.length
   (fun ρ1 H1 wr=>wr=[]/\(∃o1,H1=H++[o1])/\ρ1 3=vi ((cP ks+1:Nat):Int))
   bIv rfl ⟨rfl,rfl,⟨_,rfl⟩,rfl⟩ ?_ ?_
  ·rintro i ρ1 H1 dc mg ⟨rfl,e9,⟨o1,rfl⟩,e3⟩ cq;have f7:ρ1 7=.sl QT (ks.map aF):=cq 7 rfl;have f8:ρ1 8=vi ks.length:=cq 8 rfl;simp only[go_sem,↓aB,seval,e9,f8];refine aD (fun hb=>?_) (fun hb=>?_)
   ·have hlt:i<ks.length:=by simpa using hb
    have hg:(ks.map aF)[i]? = QQ (aF ks[i]):=getElem?_map_of hlt;have gq:(0:Int)<=(i:Int):=omT;have kx:((i:Int)).toNat=i:=omT;have Qe:=wS (i:=i) omT;have tk:=AS hlt;have Fg:=aIt tk;have az:=fun H=>ih ks[i] H (gd _ tk) omT;have Oi:=aGB ks i hlt;have pk:=aGA ks i;have zh:AR.wrap (((cP (ks.take i)+1:Nat):Int)+(gY ks[i]:Int))=((cP (ks.take (i+1))+1:Nat):Int):=by rw[wrap_i64 omT omT];omega
    simp only[go_sem,↓aB,seval,f7,e9,e3,hg,gq,kx,dP,dX.take,bQ (aV ks[i]),aS (aV ks[i]),aK (aV ks[i]),az,Qe,zh];grind
   have hi:i=ks.length:=by grind
   subst hi;simp only[go_sem,seval];grind
  rintro ρ' H' ba ⟨rfl,⟨o1,rfl⟩,e3⟩ cq;simp only[go_sem,↓aB,seval,e3,gY]
theorem aOb(h:Has A g "aN" (xW g)):∀(n:Nat) (e:Expr) (H:LO),SizeOf.sizeOf e<n->gY e<=1000->aG A (g "aN") [.agg (aF e)] H=QQ (vi (aBM e),H,[]):=by
 intro n
 induction n with
 |zero=>grind
 |succ n ih=>
  intro e H hs he;obtain⟨op,m,ks⟩:=e;refine h.call ?_;have gd:∀k∈ks,SizeOf.sizeOf k<n:=fun k hm=>by
   have:=GY hm;grind
  unfold gY at he;have ax:=aEj ks;have Ik:=aEi ks;simp only[xW];simp only[go_sem,↓aB,seval,aF,aZ,AF];refine bJ (id:=0) (fun i ρ1 H1 wr=>wr=[]/\ρ1 9=vi i/\(∃o1,H1=H++[o1])/\ρ1 3=vi (mN (ks.take i))) ks.length
   (fun ρ1 H1 wr=>wr=[]/\(∃o1,H1=H++[o1])/\ρ1 3=vi (mN ks))
   bIv rfl ⟨rfl,rfl,⟨_,rfl⟩,rfl⟩ ?_ ?_
  ·rintro i ρ1 H1 dc mg ⟨rfl,e9,⟨o1,rfl⟩,e3⟩ cq;have f7:ρ1 7=.sl QT (ks.map aF):=cq 7 rfl;have f8:ρ1 8=vi ks.length:=cq 8 rfl;simp only[go_sem,↓aB,seval,e9,f8];refine aD (fun hb=>?_) (fun hb=>?_)
   ·have hlt:i<ks.length:=by simpa using hb
    have hg:(ks.map aF)[i]? = QQ (aF ks[i]):=getElem?_map_of hlt;have gq:(0:Int)<=(i:Int):=omT;have kx:((i:Int)).toNat=i:=omT;have Qe:=wS (i:=i) omT;have tk:=AS hlt;have Fg:=aIt tk;have az:=fun H=>ih ks[i] H (gd _ tk) omT;have zm:(if mN (ks.take i)<aBM ks[i] then (aBM ks[i]:Int)else (mN (ks.take i):Int))=((mN (ks.take (i+1)):Nat):Int):=by rw[aEY ks i hlt];grind
    simp only[go_sem,↓aB,seval,f7,e9,e3,hg,gq,kx,dP,dX.take,bQ (aV ks[i]),aS (aV ks[i]),aK (aV ks[i]),az,Qe,mmV,aEE,mm2];grind
   have hi:i=ks.length:=by grind
   subst hi;simp only[go_sem,seval];grind
  rintro ρ' H' ba ⟨rfl,⟨o1,rfl⟩,e3⟩ cq;have dy:AR.wrap ((mN ks:Int)+1)=((mN ks+1:Nat):Int):=by rw[wrap_i64 omT omT];omega
  simp only[go_sem,↓aB,seval,e3,aBM,dy]
mutual
def aBN:Bool->Expr->Bool
 |r,.mk op n ks => !(decide (op<0) || decide (op ≥ 11))&&(!((((((ks.length:Int) != (aCn op:Int)) || decide (n<0)) || decide (n>aAq op)) || ((((lev op:Nat):Int)==0) && !r)))&&aEZ ks)
def aEZ:List Expr->Bool
 | []=>QS
 |k::r=>aBN QT k&&aEZ r
end
theorem aIu:∀l:List Expr,aEZ l=l.all (aBN QT)
 | []=>rfl
 |k::r=>by unfold aEZ;rw[aIu r];rfl
theorem aOc(h:Has A g "aQ" (xV g))(h1:Has A g "aR" (qY g)){fi:Nat}(hc:A.fn (g "ao")=QQ (aLV fi)/\A.bq (g "ao")=N2) (hi:A.fn fi=QQ (aKx 3 QS)/\A.bq fi=N2):∀(n:Nat) (e:Expr) (r:Bool) (H:LO),SizeOf.sizeOf e<n->e.Ok->aG A (g "aQ") [.agg (aF e),.bool r] H=QQ (.bool (aBN r e),H,[]):=by
 intro n
 induction n with
 |zero=>grind
 |succ n ih=>
  intro e r H hs he;obtain⟨op,m,ks⟩:=e;obtain⟨_,_,_,_,_,zp,E7⟩:=he;refine h.call ?_;have gd:∀k∈ks,SizeOf.sizeOf k<n:=fun k hm=>by
   have:=GY hm;grind
  have po:∀H,aG A (g "ao") [.sl QT (ks.map aF),.fn (g "aR") [] []] H=QQ (.bool (!aEZ ks),H,[]):=fun H=>by
   have lq:aUw A (g "aR") [] (fun k=>.agg (aF k)) (fun k => !aBN QT k) ks H:=fun k hk=>by
    have:=ih k QT H (gd k hk) (E7 k hk);refine h1.call ?_;simp only[qY];simp only[go_sem,↓aB,seval,dP,dX.take,dX.still,dX.ga,aS (aV k),this]
   have:=aGr hc.1 hc.2 cQ (aDa hi.1 hi.2 dX cQ (by grind) lq);rw[this,aPC,aIu]
  have hx:aBN r (.mk op m ks)=(!(decide (op<0) || decide (op ≥ 11))&&(!((((((ks.length:Int) != (aCn op:Int)) || decide (m<0)) || decide (m>aAq op)) || ((((lev op:Nat):Int)==0) && !r)))&&aEZ ks)):=by conv=>lhs;unfold aBN
  simp only[xV];cases e1:decide (op<0)with
  |true=>rw[e1]at hx;simp only[go_sem,↓aB,seval,aF,aZ,e1,hx,EP,BQ,CE]
  |false=>
  cases e2:decide (op ≥ 11)with
  |true=>rw[e1,e2]at hx;simp only[go_sem,↓aB,seval,aF,aZ,e1,e2,hx,GV,BQ,Zz]
  |false=>
  rw[e1,e2]at hx;simp only[IJ,BF,BR]at hx;have o0:0<=op:=by grind
  have o1:op<11:=by grind
  simp only[go_sem,↓aB,seval,aF,aZ,e1,e2,o0,o1,Zz,BC,(hD o0 o1).1,(hD o0 o1).2,aAr];cases e3:((ks.length:Int) != (aCn op:Int))with
  |true=>rw[e3]at hx;simp only[go_sem,↓aB,seval,hx,EP,BT,BQ,CE]
  |false=>
  cases e4:decide (m<0)with
  |true=>rw[e3,e4]at hx;simp only[go_sem,↓aB,seval,e4,hx,EP,GV,BT,BQ,Zz,CE]
  |false=>
  cases e5:decide (m>aAq op)with
  |true=>rw[e3,e4,e5]at hx;simp only[go_sem,↓aB,seval,e4,e5,hx,EP,GV,BT,BQ,Zz,CE]
  |false=>
  rw[e3,e4,e5]at hx;simp only[IJ,II]at hx;cases e6:(((lev op:Nat):Int)==0)with
  |false=>rw[e6]at hx;simp only[go_sem,↓aB,seval,e4,e5,e6,hx,BF,BQ,BR,Zz,po,PE]
  |true=>
   rw[e6]at hx;cases r with
   |true=>simp only[go_sem,↓aB,seval,e4,e5,e6,hx,BT,BF,BR,MC,Zz,po,PE]
   |false=>simp only[go_sem,↓aB,seval,e4,e5,e6,hx,BT,BF,BQ,Bool.and_true,Zz]
end
inductive ew(id k:Nat):List LA->AV->ah->Prop
 |nil (o:ah):ew id k [] (.sl QS []) o
 |obj (ver:Nat) (rows:List LA):ew id k rows (.sr id ver rows.length) (.vec ver k rows)
section
variable {id k:Nat}{rows:List LA}{v:AV}{o:ah}
theorem ew.ak(h:ew id k rows v o):v.ak=true:=by cases h<;>rfl
theorem ew.aj(h:ew id k rows v o):v.cells=[v]:=by cases h<;>rfl
theorem getElem?_lt{α:Type}{l:List α}{i:Nat}{a:α}(h:l[i]? = QQ a):i<l.length:=by
 rcases Nat.lt_or_ge i l.length with h1 | h1
 ·exact h1
 rw[List.getElem?_eq_none h1]at h;cases h
theorem aJo{α:Type}{l:List α}{i:Nat}{a:α}(h:l[i]? = QQ a):l.set i a=l:=by
 apply HN;intro j;by_cases e:i=j
 ·subst e;rw[BW (getElem?_lt h),h]
 rw[CL e]
theorem ew.app(h:ew id k rows v o){new:List LA}{bytes:Nat}(hn:new≠[])(hk:dF k new=QS)(hr:(rows.length+new.length)*(bytes+1)<=1099511627776):∃v' o',ew id k (rows++new) v' o'/\∀H f,H[id]? = QQ o->eX H (QQ id) k bytes v (.sl f new)=QQ (v',H.set id o',[id]):=by
 obtain⟨a,l,rfl⟩:=ER hn;have ed:bP (rows.length+(a::l).length) bytes=true:=by unfold bP;simpa using hr
 cases h with
 |nil=>refine⟨.sr id (o.ver+1) (a::l).length,.vec (o.ver+1) k (a::l),ew.obj _ _,fun H f ho=>?_⟩;unfold eX;simp only[cG,dO,hk];simp only[NM,dF,BT,BX,Zu,BR,AZ,BC];simp only[AZ,BC]at ed;rw[Zy (by rw[ed]),Zy (getElem?_lt ho)];simp only[bH,make,ho,HC,CW]
 |obj ver=>refine⟨.sr id ver (rows++a::l).length,.vec ver k (rows++a::l),ew.obj _ _,fun H f ho=>?_⟩;unfold eX;simp only[cG,dO,hk];simp only[BT,BX,Zu,ho,ed,and_self,Zv,NM,BA]
theorem ew.dw(h:ew id k rows v o)(hd:gG rows=QS):∃f l o',(∀H,H[id]? = QQ o->aA2 H v=QQ (.sl f rows,l))/\(∀H,H[id]? = QQ o->dL H l=H.set id o')/\(∀b wr,b<=id->bE b wr l=wr):=by
 cases h with
 |nil=>exact⟨QS,[],o,fun H _=>rfl,fun H ho=>by rw[aJo ho];rfl,fun _ _ _=>rfl⟩
 |obj ver=>
  refine⟨QT,[id],.gone ver,fun H ho=>?_,fun H ho=>?_,fun b wr hb=>?_⟩
  ·show (match H[id]? with
    |some (.vec v' _ bt)=>if v'=ver/\bt.length=rows.length/\bt.all (fun r=>r.all AV.still)then QQ (AV.sl QT bt,[id])else N2
    |_=>N2)=_
   rw[ho];simp only[aT hd,and_self,Zv]
  ·simp only[dL,ho];rfl
  unfold bE;rw[Zx omT];rfl
end
section
variable {α β:Type}{f:Nat->α->β}{l:List α}{i:Nat}
def bIM(f:Nat->α->β)(l:List α)(i:Nat):List β:=(l.mapIdx f).take i
theorem bJr(h:i<l.length):bIM f l i++[f i l[i]]=bIM f l (i+1):=by unfold bIM;rw[List.take_add_one,List.getElem?_mapIdx,AP h];rfl
theorem bJb:bIM f l l.length=l.mapIdx f:=by unfold bIM;exact CH siT
theorem bJ0(h:i<=l.length):(bIM f l i).length=i:=by unfold bIM;simp[h]
theorem bIU{γ:Type}{enc:β->γ}(h:i<l.length){x:γ}(hx:x=enc (f i l[i])):(bIM f l i).map enc++[x]=(bIM f l (i+1)).map enc:=by rw[hx,<- bJr h,DQ];rfl
end
abbrev aHC(g:SN):List ae:=[qm 16 0,qq 17 (.bsl 1 [(.int .u8 0)] 1 [(0,(.const (.int .u8 40)))]),⟨QQ 18,oa 1 1 16 17,N2,[0,1]⟩,qla 19 3 4,⟨QQ 20,.ee (uf (g "b")) [(.tmp 18),(.tmp 19),(.const z0)],N2,[3,2,0,1]⟩,qq 21 (.bsl 1 [(.int .u8 0)] 1 [(0,(.const (.int .u8 41)))]),⟨QQ 22,oa 1 1 20 21,N2,[5,4,3,2,0,1]⟩,⟨QQ 6,om 22,N2,[6,5,4,3,2,0,1]⟩]
abbrev aBO:LN:=[2,3]
abbrev aHD(g:SN):List ae:=[qm 42 0,qq 43 (.bsl 1 [(.int .u8 0)] 1 [(0,(.const (.int .u8 45)))]),⟨QQ 44,oa 1 1 42 43,N2,[0,1]⟩,qf 45 2 4,⟨QQ 46,ol 1 45,N2,[3]⟩,⟨QQ 47,.iaV (u 46) (ui 0) 3,N2,[4,3]⟩,⟨QQ 48,ola 3 47,N2,[5,4,3]⟩,⟨QQ 49,.ee (uf (g "b")) [(.tmp 44),(.tmp 48),(.const (vi 3))],N2,[6,5,4,3,2,0,1]⟩,⟨QQ 6,om 49,N2,[7,6,5,4,3,2,0,1]⟩]
abbrev aBP:LN:=[2,4,6]
abbrev aHE(g:SN):List ae:=[qm 52 0,qq 53 (.bsl 1 [(.int .u8 0)] 2 [(0,(.const (.int .u8 82))),(1,(.const (.int .u8 40)))]),⟨QQ 54,oa 1 1 52 53,N2,[0,1]⟩,qf 55 2 4,⟨QQ 56,ol 1 55,N2,[3]⟩,⟨QQ 57,.iaV (u 56) (ui 0) 3,N2,[4,3]⟩,⟨QQ 58,ola 3 57,N2,[5,4,3]⟩,⟨QQ 59,.ee (uf (g "b")) [(.tmp 54),(.tmp 58),(.const (vi 1))],N2,[6,5,4,3,2,0,1]⟩,qq 60 (.bsl 1 [(.int .u8 0)] 1 [(0,(.const (.int .u8 41)))]),⟨QQ 61,oa 1 1 59 60,N2,[8,7,6,5,4,3,2,0,1]⟩,⟨QQ 6,om 61,N2,[9,8,7,6,5,4,3,2,0,1]⟩]
abbrev aBQ:LN:=[2,4,6]
abbrev aHF(g:SN):List ae:=[qm 64 0,qf 65 2 4,⟨QQ 66,ol 1 65,N2,[1]⟩,⟨QQ 67,.iaV (u 66) (ui 0) 3,N2,[2,1]⟩,⟨QQ 68,ola 3 67,N2,[3,2,1]⟩,⟨QQ 69,.ee (uf (g "b")) [(.tmp 64),(.tmp 68),(.const (vi 4))],N2,[0,4,3,2,1]⟩,qq 70 (.bsl 1 [(.int .u8 0)] 1 [(0,(.const (.int .u8 94)))]),⟨QQ 71,oa 1 1 69 70,N2,[6,5,0,4,3,2,1]⟩,qf 72 2 4,⟨QQ 73,ol 1 72,N2,[8]⟩,⟨QQ 74,.iaV (u 73) (ui 1) 3,N2,[9,8]⟩,⟨QQ 75,ola 3 74,N2,[10,9,8]⟩,⟨QQ 76,.ee (uf (g "b")) [(.tmp 71),(.tmp 75),(.const (vi 3))],N2,[11,10,9,8,7,6,5,0,4,3,2,1]⟩,⟨QQ 6,om 76,N2,[12,11,10,9,8,7,6,5,0,4,3,2,1]⟩]
abbrev aBR:LN:=[5,7,9,11]
def gV(g:SN):ag:=.block 0 (qS [qbi 26 .eql 24 0,qm 25 26]<|qC 25 (qS [qm 27 0,qf 28 1 4,ql 29 1 28,qq 30 (.ee (uf (g "bX")) [(.tmp 27),(.tmp 29),(.const (vi 10))]),qm 6 30]<|.ret) (qS [qbi 32 .eql 24 1,qm 31 32]<|qC 31 (qS [qm 33 0,qf 34 1 4,ql 35 1 34,qq 36 (.bin .add .no (ui 97) (u 35)),qq 37 (.conv (.toInt .u8) (u 36)),qq 38 (.bsl 1 [(.int .u8 0)] 1 [(0,(.tmp 37))]),qa 39 1 1 33 38,qm 6 39]<|.ret) (qS [qbi 41 .eql 24 2,qm 40 41]<|qC 40 (.seq (.region QS (aHD g))<|.ret) (qS [qbi 51 .eql 24 8,qm 50 51]<|qC 50 (.seq (.region QS (aHE g))<|.ret) (qS [qbi 63 .eql 24 7,qm 62 63]<|qC 62 (.seq (.region QS (aHF g))<|.ret) (.skip))))))
abbrev aHG(g:SN):List ae:=[qm 77 0,qf 78 2 4,⟨QQ 79,ol 1 78,N2,[1]⟩,⟨QQ 80,.iaV (u 79) (ui 0) 3,N2,[2,1]⟩,⟨QQ 81,ola 3 80,N2,[3,2,1]⟩,qf 82 2 7,⟨QQ 83,ol 1 82,N2,[5]⟩,⟨QQ 84,.mm QS [(.const (vi 1)),(.tmp 83)],N2,[6,5]⟩,⟨QQ 85,.ee (uf (g "b")) [(.tmp 77),(.tmp 81),(.tmp 84)],N2,[0,4,3,2,1,7,6,5]⟩,qf 86 3 7,⟨QQ 87,ol 1 86,N2,[9]⟩,⟨QQ 88,.bsl 1 [(.int .u8 0)] 1 [(0,(.tmp 87))],N2,[10,9]⟩,⟨QQ 89,oa 1 1 85 88,N2,[11,10,9,8,0,4,3,2,1,7,6,5]⟩,qf 90 2 4,⟨QQ 91,ol 1 90,N2,[13]⟩,⟨QQ 92,.iaV (u 91) (ui 1) 3,N2,[14,13]⟩,⟨QQ 93,ola 3 92,N2,[15,14,13]⟩,qf 94 2 7,⟨QQ 95,ol 1 94,N2,[17]⟩,⟨QQ 96,obi .add 95 1,N2,[18,17]⟩,⟨QQ 97,.ee (uf (g "b")) [(.tmp 89),(.tmp 93),(.tmp 96)],N2,[16,15,14,13,19,18,17,12,11,10,9,8,0,4,3,2,1,7,6,5]⟩,⟨QQ 6,om 97,N2,[20,16,15,14,13,19,18,17,12,11,10,9,8,0,4,3,2,1,7,6,5]⟩]
abbrev aBS:LN:=[8,10,12,14,16,18]
def dN(g:SN):bw:=⟨98,[7,18,30,39,44,54,69,85],[.tmp 6],qS [qx 4 3 1,qmc 6 (.sl QS [])]<|qS [qf 8 0 4,ql 9 1 8,qq 10 (.iaA 11 4 (uc (.ep aRZ 0)) (u 9)),qla 11 4 10,qq 7 (.alloc [z0,z0,z0,(.int .u8 0)]),qs 4 7 11]<|.seq (qS [qf 12 2 7,ql 13 1 12,qm 14 2,qb 15 .lss 13 14]<|qC 15 (.seq (.region QS (aHC g))<|.ret) (.skip))<|.seq (qS [qf 23 0 4,ql 24 1 23]<|gV g)<|.seq (.region QS (aHG g))<|.ret⟩
def aF0(g:SN):bw:=⟨9,[],[.tmp 2],qS [qx 1 3 0,qmc 2 (.str [])]<|.seq (qS [qla 3 3 1,qc 4 (g "aP") [u 3],qbi 5 .neq 4 0]<|qC 5 (qS [qmc 2 (.str [])]<|.ret) (.skip))<|qS [qla 6 3 1,qq 7 (.ee (uf (g "b")) [(.const (.sl QS [])),(.tmp 6),(.const z0)]),qq 8 (.conv .b2s (u 7)),qm 2 8]<|.ret⟩
def vW(g:SN):bw:=⟨11,[10],[.tmp 6],qS [qmc 6 (.sl QS [])]<|qS [qm 7 0,qm 8 1,qm 9 2,qq 10 (.ee (uf (g "bS")) [(.tmp 7),(.tmp 8),(.tmp 9)]),qm 6 10]<|.ret⟩
abbrev rb(s:Str):List LA:=s.map aRV
theorem aJp(s:Str):gG (rb s)=true:=aC (fun b=>rfl) s
theorem aEk(s:Str):dF 1 (rb s)=true:=by cases s<;>rfl
theorem kG(s:Str):(rb s).length=s.length:=AF ..
inductive Q9(H:LO):Str->AV->Prop where
 |nil:Q9 H [] (.sl QS [])
 |obj (id ver:Nat) (s:Str):H[id]? = QQ (.vec ver 1 (rb s))->Q9 H s (.sr id ver s.length)
def oX(H:LO)(t s:Str):AV->Out
 |.sr id ver _=>QQ (.sr id ver (t.length+s.length),H.set id (.vec ver 1 (rb (t++s))),[id])
 |_=>QQ (.own 1 (rb s),H,[])
def fY(A:af)(f:Nat)(args:LA)(s:Str):Prop:=∀(H:LO) (t:Str) (v:AV),Q9 H t v->t.length+s.length<=1000000->aG A f (v::args) H=oX H t s v
structure At(H:LO)(i:Nat)(t:Str)(v:AV)(L:LO)(o ver:Nat):Prop where
 place:o=H.length+i∨o<H.length
 lt:o<(H++L).length
 fin:∀(L':LO) (s:Str),L'.length=L.length->(match aDR H.length ((H++L').set o (.vec ver 1 (rb (t++s)))) (.sr o ver (t++s).length)with
  |some (v',H',l)=>QQ (cJ H.length (v',H',bE H.length (bE H.length [] [o]) l))
  |none=>N2)=oX H t s v
theorem vX(a b:Str):rb (a++b)=rb a++rb b:=DQ ..
theorem aS0{H L:LO}{o:Nat}{x:ah}(h:o<H.length):((H++L).set o x).take H.length=H.set o x:=by grind
theorem aPN{H L:LO}{i:Nat}{x:ah}:((H++L).set (H.length+i) x).take H.length=H:=by grind
theorem At.own{H L:LO}{i ver:Nat}(hi:i<L.length):At H i [] (.sl QS []) L (H.length+i) ver:=by
 refine⟨.inl rfl,soT,fun L' s hl=>?_⟩;have h1:((H++L').set (H.length+i) (.vec ver 1 (rb s)))[H.length+i]? = QQ (.vec ver 1 (rb s)):=BW soT;have bd:((rb s).all fun r=>r.all AV.still)=true:=aT (aJp s);simp only[CW,aDR,h1,Nat.not_lt.2 (EG H.length i),Zu,kG,EG,bd,and_self,Zv,oX];have hg:dL ((H++L').set (H.length+i) (.vec ver 1 (rb s))) [H.length+i]=(H++L').set (H.length+i) (.gone ver):=by simp only[dL,h1,HC,ah.ver,EO]
 have hw:bE H.length (bE H.length [] [H.length+i]) [H.length+i]=[]:=by simp[bE,show ¬(H.length+i<H.length)by omega]
 rw[hg,hw,qQ (by show eR H.length (rb s)=QS;exact aA (aJp s)),aPN]
theorem At.old{H L:LO}{i id ver:Nat}{t:Str}(h:H[id]? = QQ (.vec ver 1 (rb t))):At H i t (.sr id ver t.length) L id ver:=by
 have hid:=getElem?_lt h;refine⟨.inr hid,soT,fun L' s hl=>?_⟩;have h1:((H++L').set id (.vec ver 1 (rb (t++s))))[id]? = QQ (.vec ver 1 (rb (t++s))):=BW soT;have hw:bE H.length [] [id]=[id]:=by simp[bE,hid]
 have gn:bE H.length [id] []=[id]:=rfl;simp only[aDR,hid,Zv,hw,gn,oX,BA];rw[xI (x:=.vec ver 1 (rb (t++s))) (by simp[AV.under,hid]) h1 (by show eR H.length (rb (t++s))=QS;exact aA (aJp _)),aS0 hid]
@[go_sem] theorem aUR{b o:Nat}:bE b (bE b [] [o]) [o]=bE b [] [o]:=by by_cases h:o<b<;>simp[bE,h]
theorem Q9.app{H L:LO}{i:Nat}{t:Str}{v:AV}(hb:Q9 H t v)(ht:t.length<=1000000)(hi:i<L.length)(new:Str)(hn:new≠[])(hl:new.length<=1000000):∃o ver,At H i t v L o ver /\ ∀f,eX (H++L) (QQ (H.length+i)) 1 1 v (.sl f (rb new))=QQ (.sr o ver (t++new).length,(H++L).set o (.vec ver 1 (rb (t++new))),[o]):=by
 have bl:(rb new).isEmpty=false:=by simp_all
 cases hb with
 |nil=>
  refine⟨H.length+i,((L[i]?).elim 0 ah.ver)+1,.own hi,fun f=>?_⟩;have hr:bP (rb new).length 1=true:=by unfold bP;grind
  have pw:bP (0+(rb new).length) 1=true:=by grind
  have hlt:H.length+i<(H++L).length:=soT;have hv:bH (H++L) (H.length+i)=((L[i]?).elim 0 ah.ver)+1:=by unfold bH;grind
  unfold eX;simp only[cG,dO,aEk,bl,BT,BX,Zu,BR,show dF 1 []=QS from rfl,AZ,Zv,hlt,hv,CW,BC];unfold make;grind
 |obj id ver t h=>
  refine⟨id,ver,.old h,fun f=>?_⟩;have hid:=getElem?_lt h;have h1:(H++L)[id]? = QQ (.vec ver 1 (rb t)):=by grind
  have hr:bP (t.length+(rb new).length) 1=true:=by unfold bP;grind
  unfold eX;simp only[cG,dO,aEk,bl,BT,BX,Zu,h1,kG,vX,BA];grind
theorem Q9.call{A:af}{f:Nat}{args:LA}{H L:LO}{i:Nat}{t s:Str}{v:AV}(hb:Q9 H t v)(ht:t.length+s.length<=1000000)(hi:i<L.length)(hf:fY A f args s):∃o ver,At H i t v L o ver /\ dY (QQ (H.length+i)) QS (H++L) (aG A f (v::args) (H++L))=QQ (.sr o ver (t++s).length,(H++L).set o (.vec ver 1 (rb (t++s))),[o]):=by
 cases hb with
 |nil=>
  refine⟨H.length+i,((L[i]?).elim 0 ah.ver)+1,.own hi, ?_⟩;rw[hf (H++L) [] (.sl QS []) .nil ht];have hlt:H.length+i<(H++L).length:=soT;have hv:bH (H++L) (H.length+i)=((L[i]?).elim 0 ah.ver)+1:=by unfold bH;grind
  simp only[oX,dY,Zv,hlt,hv,kG,CW,List.contains_nil,BX,Zu];unfold make;grind
 |obj id ver t h=>
  refine⟨id,ver,.old h, ?_⟩;have hid:=getElem?_lt h;have h1:(H++L)[id]? = QQ (.vec ver 1 (rb t)):=by grind
  rw[hf (H++L) t _ (.obj id ver t h1) ht];simp only[oX,dY,Zv,BA]
theorem aN4{Z:LO}{o ver:Nat}{t new:Str}{f:Bool}{site:Option Nat}(ho:o<Z.length)(hn:new≠[])(hl:t.length+new.length<=10000000):eX (Z.set o (.vec ver 1 (rb t))) site 1 1 (.sr o ver t.length) (.sl f (rb new))=QQ (.sr o ver (t++new).length,Z.set o (.vec ver 1 (rb (t++new))),[o]):=by
 have bl:(rb new).isEmpty=false:=by simp_all
 have h1:(Z.set o (.vec ver 1 (rb t)))[o]? = QQ (.vec ver 1 (rb t)):=BW ho;have hr:bP (t.length+(rb new).length) 1=true:=by unfold bP;grind
 unfold eX;simp only[cG,dO,aEk,bl,BT,BX,Zu,h1,kG,vX,BA,EO];grind
theorem aGC{A:af}{f:Nat}{args:LA}{Z:LO}{o ver:Nat}{t s:Str}(ho:o<Z.length)(ht:t.length+s.length<=1000000)(hf:fY A f args s):aG A f (.sr o ver t.length::args) (Z.set o (.vec ver 1 (rb t)))=QQ (.sr o ver (t++s).length,Z.set o (.vec ver 1 (rb (t++s))),[o]):=by rw[hf (Z.set o (.vec ver 1 (rb t))) t _ (.obj o ver t (BW ho)) ht];simp only[oX,BA,EO]
theorem At.done{H L:LO}{i:Nat}{t:Str}{v:AV}{o ver:Nat}(a:At H i t v L o ver){L':LO}(hl:L'.length=L.length)(s:Str):bnd (match (if o<H.length then QQ (AV.sr o ver (t.length+s.length),(H++L').set o (.vec ver 1 (rb (t++s))),[])else match ((H++L').set o (.vec ver 1 (rb (t++s))))[o]? with
    |some (.vec v' k rows)=>if v'=ver/\rows.length=t.length+s.length/\H.length<=o/\(rows.all fun r=>r.all AV.still)=QS then
      QQ (.own k rows,(H++L').set o (.gone ((((H++L').set o (.vec ver 1 (rb (t++s))))[o]?).elim 0 ah.ver)),[o])else N2
    |_=>N2)with
   |some (v',H',l)=>QQ (v',H',bE H.length (bE H.length [] [o]) l)
   |none=>N2) fun r=>bnd (QQ (cJ H.length r)) fun r=>QQ (r.1,r.2.1,r.2.2)=oX H t s v:=by
 have h:=a.fin L' s hl;rw[BA,aUq]at h;simp only[dL,EO]at h;generalize (if o<H.length then QQ (AV.sr o ver (t.length+s.length),(H++L').set o (.vec ver 1 (rb (t++s))),[])else match ((H++L').set o (.vec ver 1 (rb (t++s))))[o]? with
    |some (.vec v' k rows)=>if v'=ver/\rows.length=t.length+s.length/\H.length<=o/\(rows.all fun r=>r.all AV.still)=QS then
      QQ (.own k rows,(H++L').set o (.gone ((((H++L').set o (.vec ver 1 (rb (t++s))))[o]?).elim 0 ah.ver)),[o])else N2
    |_=>N2)=z at h ⊢
 cases z with
 |none=>dsimp only at h;cases v<;>cases h
 |some r=>obtain⟨v',H',l⟩:=r;exact h
theorem bIC(op:Int):(aAr op).length=4:=rfl
theorem oF(op:Int):(aAr op).all AV.ak=true:=rfl
theorem kS(op:Int):((aAr op).drop 2).take 1=[vi (lev op)]:=rfl
theorem aOd(op:Int):((aAr op).drop 3).take 1=[.int .u8 (sgI op)]:=rfl
theorem aPO(op n:Int)(a:Expr):wX (.mk op n [a])=if op=2 then 45::par a 3 (wX a)else 82::40::(par a 1 (wX a)++[41]):=by conv=>lhs;unfold wX
theorem aN5(op n:Int)(a b:Expr):wX (.mk op n [a,b])=if op=7 then par a 4 (wX a)++94::par b 3 (wX b)else par a (max 1 (lev op)) (wX a)++sg op::par b (lev op+1) (wX b):=by conv=>lhs;unfold wX
section
variable {A:af}{g:SN}
abbrev aFl(op:Int):LO:=[.box 1 (aAr op),.gone 0,.gone 0,.gone 0,.gone 0,.gone 0,.gone 0,.gone 0]
theorem aUS(h:Has A g "b" (dN g))(hi:∀n:Int,0<=n->n<=999999->fY A (g "bX") [vi n,vi 10] (dec n.toNat)){n:Int}(h0:0<=n)(h9:n<=999999){op:Int}(eo:op=0){L:Nat}(hL:L<=lev op):fY A (g "b") [.agg (aF (.mk op (n) [])),vi L] (wX (.mk op (n) [])):=by
 intro H t v hb ht;obtain⟨v1,H1,dc,h1,h2⟩:=h.bp (args:=[v,.agg (aF (.mk op (n) [])),vi L]) (H:=H) (K:=fun v' H'' ba=>QQ (v',H'',ba)=oX H t (wX (.mk op (n) [])) v) (by
  have pq:decide (lev op<L)=false:=by grind
  have o0:0<=op:=omT;have o1:op<11:=omT;simp only[dN];simp only[go_sem,↓aB,seval,aF,aZ,o0,o1,BC,(hD o0 o1).1,(hD o0 o1).2,bIC,oF,AJ,kS,pq];subst eo;have hw:wX (.mk 0 n [])=dec n.toNat:=by unfold wX;rfl
  rw[hw]at ht ⊢;obtain⟨o,ver,jk,kq⟩:=hb.call (L:=aFl 0) (i:=2) ht deT (hi n h0 h9);simp only[gV];simp only[go_sem,↓aB,seval,kq];exact jk.done rfl _)
 rw[h1,h2]
theorem aUT(h:Has A g "b" (dN g)){n:Int}(h0:0<=n)(h1:n<=25){op:Int}(eo:op=1){L:Nat}(hL:L<=lev op):fY A (g "b") [.agg (aF (.mk op (n) [])),vi L] (wX (.mk op (n) [])):=by
 intro H t v hb ht;obtain⟨v1,H1,dc,h1,h2⟩:=h.bp (args:=[v,.agg (aF (.mk op (n) [])),vi L]) (H:=H) (K:=fun v' H'' ba=>QQ (v',H'',ba)=oX H t (wX (.mk op (n) [])) v) (by
  have pq:decide (lev op<L)=false:=by grind
  have o0:0<=op:=omT;have o1:op<11:=omT;simp only[dN];simp only[go_sem,↓aB,seval,aF,aZ,o0,o1,BC,(hD o0 o1).1,(hD o0 o1).2,bIC,oF,AJ,kS,pq];subst eo;have hw:wX (.mk 1 n [])=[CN (97+n.toNat)]:=by unfold wX;rfl
  rw[hw]at ht ⊢;obtain⟨o,ver,jk,kq⟩:=hb.app (L:=aFl 1) (i:=3) (by grind) deT [CN (97+n.toNat)] siT siT;have kq:eX (H++aFl 1) (QQ (H.length+3)) 1 1 v (.sl QS [[.int .u8 ((CN (97+n.toNat)).toNat:Nat)]])=_:=kq QS;have hc:IntKind.u8.wrap (AR.wrap (97+n))=(((CN (97+n.toNat)).toNat:Nat):Int):=by rw[aKJ omT,wrap_i64 omT omT];grind [GA,LK,KC]
  simp only[gV];simp only[go_sem,↓aB,seval,pT,hc,kq];exact jk.done rfl _)
 rw[h1,h2]
theorem aUU(h:Has A g "b" (dN g)){a:Expr}(ia:∀L:Nat,L<=4->fY A (g "b") [.agg (aF a),vi L] (par a L (wX a))){op:Int}(eo:op=2){L:Nat}(hL:L<=lev op):fY A (g "b") [.agg (aF (.mk op (0) [a])),vi L] (wX (.mk op (0) [a])):=by
 intro H t v hb ht;obtain⟨v1,H1,dc,h1,h2⟩:=h.bp (args:=[v,.agg (aF (.mk op (0) [a])),vi L]) (H:=H) (K:=fun v' H'' ba=>QQ (v',H'',ba)=oX H t (wX (.mk op (0) [a])) v) (by
  have pq:decide (lev op<L)=false:=by grind
  have o0:0<=op:=omT;have o1:op<11:=omT;simp only[dN];simp only[go_sem,↓aB,seval,aF,aZ,o0,o1,BC,(hD o0 o1).1,(hD o0 o1).2,bIC,oF,AJ,kS,pq];subst eo;have hw:wX (.mk 2 0 [a])=45::par a 3 (wX a):=aPO 2 0 a;rw[hw]at ht ⊢;have hl:t.length+(1+(par a 3 (wX a)).length)<=1000000:=by grind
  obtain⟨o,ver,jk,db⟩:=hb.app (L:=aFl 2) (i:=4) omT deT [45] siT siT;have db:eX (H++aFl 2) (QQ (H.length+4)) 1 1 v (.sl QS [[.int .u8 45]])=_:=db QS;have az:aG A (g "b") [.sr o ver (t++[45]).length,.agg (aF a),vi 3] _=_:=aGC (t:=t++[45]) (ver:=ver) jk.lt soT (ia 3 deT);simp only[BA,AW,AZ,BC]at db az;have hd:=jk.done (L':=aFl 2) rfl (45::par a 3 (wX a));rw[show t++45::par a 3 (wX a)=t++[45]++par a 3 (wX a)by simp,show t.length+(45::par a 3 (wX a)).length=t.length+1+(par a 3 (wX a)).length by simp;omega]at hd;simp only[gV];simp only[go_sem,↓aB,seval];refine aY (aq:=aBP) rfT rfT ?_;simp only[go_sem,↓aB,seval,aBP,eH,dG,aL,db,az,BI,BY,BG,dP,dX.take,CP];exact hd)
 rw[h1,h2]
theorem aS1(h:Has A g "b" (dN g)){a:Expr}(ia:∀L:Nat,L<=4->fY A (g "b") [.agg (aF a),vi L] (par a L (wX a))){op:Int}(eo:op=8){L:Nat}(hL:L<=lev op):fY A (g "b") [.agg (aF (.mk op (0) [a])),vi L] (wX (.mk op (0) [a])):=by
 intro H t v hb ht;obtain⟨v1,H1,dc,h1,h2⟩:=h.bp (args:=[v,.agg (aF (.mk op (0) [a])),vi L]) (H:=H) (K:=fun v' H'' ba=>QQ (v',H'',ba)=oX H t (wX (.mk op (0) [a])) v) (by
  have pq:decide (lev op<L)=false:=by grind
  have o0:0<=op:=omT;have o1:op<11:=omT;simp only[dN];simp only[go_sem,↓aB,seval,aF,aZ,o0,o1,BC,(hD o0 o1).1,(hD o0 o1).2,bIC,oF,AJ,kS,pq];subst eo;have hw:wX (.mk 8 0 [a])=82::40::(par a 1 (wX a)++[41]):=aPO 8 0 a;rw[hw]at ht ⊢;have hl:t.length+(3+(par a 1 (wX a)).length)<=1000000:=by grind
  obtain⟨o,ver,jk,db⟩:=hb.app (L:=aFl 8) (i:=5) omT deT [82,40] siT siT;have db:eX (H++aFl 8) (QQ (H.length+5)) 1 1 v (.sl QS [[.int .u8 82],[.int .u8 40]])=_:=db QS;have az:aG A (g "b") [.sr o ver (t++[82,40]).length,.agg (aF a),vi 1] _=_:=aGC (t:=t++[82,40]) (ver:=ver) jk.lt soT (ia 1 deT);have ll:∀site,eX _ site 1 1 _ (.sl QS [[.int .u8 41]])=_:=fun site=>aN4 (Z:=H++aFl 8) (ver:=ver) (t:=t++[82,40]++par a 1 (wX a)) (new:=[41]) (f:=QS) (site:=site) jk.lt siT soT;simp only[BA,AW,AZ,BC,NA]at db az ll;have hd:=jk.done (L':=aFl 8) rfl (82::40::(par a 1 (wX a)++[41]));rw[show t++82::40::(par a 1 (wX a)++[41])=t++[82,40]++par a 1 (wX a)++[41] by simp,show t.length+(82::40::(par a 1 (wX a)++[41])).length=t.length+2+(par a 1 (wX a)).length+1 by simp;omega]at hd;simp only[gV];simp only[go_sem,↓aB,seval];refine aY (aq:=aBQ) rfT rfT ?_;simp only[go_sem,↓aB,seval,aBQ,eH,dG,aL,db,az,ll,BI,BY,BG,dP,dX.take,CP];exact hd)
 rw[h1,h2]
theorem aUV(h:Has A g "b" (dN g)){a b:Expr}(ia:∀L:Nat,L<=4->fY A (g "b") [.agg (aF a),vi L] (par a L (wX a)))(ib:∀L:Nat,L<=4->fY A (g "b") [.agg (aF b),vi L] (par b L (wX b))){op:Int}(eo:op=7){L:Nat}(hL:L<=lev op):fY A (g "b") [.agg (aF (.mk op (0) [a,b])),vi L] (wX (.mk op (0) [a,b])):=by
 intro H t v hb ht;obtain⟨v1,H1,dc,h1,h2⟩:=h.bp (args:=[v,.agg (aF (.mk op (0) [a,b])),vi L]) (H:=H) (K:=fun v' H'' ba=>QQ (v',H'',ba)=oX H t (wX (.mk op (0) [a,b])) v) (by
  have pq:decide (lev op<L)=false:=by grind
  have o0:0<=op:=omT;have o1:op<11:=omT;simp only[dN];simp only[go_sem,↓aB,seval,aF,aZ,o0,o1,BC,(hD o0 o1).1,(hD o0 o1).2,bIC,oF,AJ,kS,pq];subst eo;have hw:wX (.mk 7 0 [a,b])=par a 4 (wX a)++94::par b 3 (wX b):=aN5 7 0 a b;rw[hw]at ht ⊢;have hl:t.length+((par a 4 (wX a)).length+(1+(par b 3 (wX b)).length))<=1000000:=by grind
  obtain⟨o,ver,jk,kq⟩:=hb.call (L:=aFl 7) (i:=6) omT deT (ia 4 deT);have kq:dY (QQ (H.length+6)) QS (H++aFl 7) (aG A (g "b") [v,.agg (aF a),vi 4] (H++aFl 7))=_:=kq;have ll:∀site,eX _ site 1 1 _ (.sl QS [[.int .u8 94]])=_:=fun site=>aN4 (Z:=H++aFl 7) (ver:=ver) (t:=t++par a 4 (wX a)) (new:=[94]) (f:=QS) (site:=site) jk.lt siT soT;have az:aG A (g "b") [.sr o ver (t++par a 4 (wX a)++[94]).length,.agg (aF b),vi 3] _=_:=aGC (t:=t++par a 4 (wX a)++[94]) (ver:=ver) jk.lt soT (ib 3 deT);simp only[BA,AW,AZ,BC]at kq az ll;have hd:=jk.done (L':=aFl 7) rfl (par a 4 (wX a)++94::par b 3 (wX b));rw[show t++(par a 4 (wX a)++94::par b 3 (wX b))=t++par a 4 (wX a)++[94]++par b 3 (wX b)by simp,show t.length+(par a 4 (wX a)++94::par b 3 (wX b)).length=t.length+(par a 4 (wX a)).length+1+(par b 3 (wX b)).length by simp;omega]at hd;simp only[gV];simp only[go_sem,↓aB,seval];refine aY (aq:=aBR) rfT rfT ?_;simp only[go_sem,↓aB,seval,aBR,eH,dG,aL,kq,az,ll,BI,BY,BG,CT,dP,dX.take,CP];exact hd)
 rw[h1,h2]
theorem aGD(h:Has A g "b" (dN g)){op:Int}(ho:op=3∨op=4∨op=5∨op=6∨op=9∨op=10){a b:Expr}(ia:∀L:Nat,L<=4->fY A (g "b") [.agg (aF a),vi L] (par a L (wX a)))(ib:∀L:Nat,L<=4->fY A (g "b") [.agg (aF b),vi L] (par b L (wX b))){L:Nat}(hL:L<=lev op):fY A (g "b") [.agg (aF (.mk (op) (0) [a,b])),vi L] (wX (.mk (op) (0) [a,b])):=by
 intro H t v hb ht;obtain⟨v1,H1,dc,h1,h2⟩:=h.bp (args:=[v,.agg (aF (.mk (op) (0) [a,b])),vi L]) (H:=H) (K:=fun v' H'' ba=>QQ (v',H'',ba)=oX H t (wX (.mk (op) (0) [a,b])) v) (by
  have pq:decide (lev (op)<L)=false:=by grind
  have o0:0<=op:=omT;have o1:op<11:=omT;simp only[dN];simp only[go_sem,↓aB,seval,aF,aZ,o0,o1,BC,(hD o0 o1).1,(hD o0 o1).2,bIC,oF,AJ,kS,pq];have hw:wX (.mk op 0 [a,b])=par a (max 1 (lev op)) (wX a)++sg op::par b (lev op+1) (wX b):=by rw[aN5,Zx omT]
  rw[hw]at ht ⊢;have hl:t.length+((par a (max 1 (lev op)) (wX a)).length+(1+(par b (lev op+1) (wX b)).length))<=1000000:=by grind
  have yv:lev op<=2:=by have:op=3∨op=4∨op=5∨op=6∨op=9∨op=10:=omT;rcases this with rfl | rfl | rfl | rfl | rfl | rfl<;>decide
  have ot:sgI op=(((sg op).toNat:Nat):Int):=by have:op=3∨op=4∨op=5∨op=6∨op=9∨op=10:=omT;rcases this with rfl | rfl | rfl | rfl | rfl | rfl<;>decide
  obtain⟨o,ver,jk,kq⟩:=hb.call (L:=aFl op) (i:=7) omT (by grind) (ia (max 1 (lev op)) omT);have kq:dY (QQ (H.length+7)) QS (H++aFl op) (aG A (g "b") [v,.agg (aF a),vi ((max 1 (lev op):Nat):Int)] (H++aFl op))=_:=kq;have ll:∀site,eX _ site 1 1 _ (.sl QS [[.int .u8 (((sg op).toNat:Nat):Int)]])=_:=fun site=>aN4 (Z:=H++aFl op) (ver:=ver) (t:=t++par a (max 1 (lev op)) (wX a)) (new:=[sg op]) (f:=QS) (site:=site) jk.lt siT soT;have az:aG A (g "b") [.sr o ver (t++par a (max 1 (lev op)) (wX a)++[sg op]).length,.agg (aF b),vi ((lev op+1:Nat):Int)] _=_:=aGC (t:=t++par a (max 1 (lev op)) (wX a)++[sg op]) (ver:=ver) jk.lt soT (ib (lev op+1) omT);simp only[BA,AW,AZ,BC]at kq az ll;have hd:=jk.done (L':=aFl op) rfl (par a (max 1 (lev op)) (wX a)++sg op::par b (lev op+1) (wX b));rw[show t++(par a (max 1 (lev op)) (wX a)++sg op::par b (lev op+1) (wX b))=t++par a (max 1 (lev op)) (wX a)++[sg op]++par b (lev op+1) (wX b)by simp,show t.length+(par a (max 1 (lev op)) (wX a)++sg op::par b (lev op+1) (wX b)).length=t.length+(par a (max 1 (lev op)) (wX a)).length+1+(par b (lev op+1) (wX b)).length by simp;omega]at hd;have n0:(op==0)=false:=soT;have n1:(op==1)=false:=soT;have n2:(op==2)=false:=soT;have n7:(op==7)=false:=soT;have n8:(op==8)=false:=soT;have E1:(if ((lev op:Nat):Int)>1 then ((lev op:Nat):Int)else 1)=((max 1 (lev op):Nat):Int):=by grind
  have L9:AR.wrap (((lev op:Nat):Int)+1)=((lev op+1:Nat):Int):=by rw[wrap_i64 omT omT];omega
  have bl:o≠H.length:=by rcases jk.place with h | h<;>omega
  have cj:∀x,((H++aFl op).set o x)[H.length]? = QQ (.box 1 (aAr op)):=fun x=>by
   grind
  have Le:(H.length==o)=false:=by grind
  simp only[gV];simp only[go_sem,↓aB,seval,n0,n1,n2,n7,n8];refine aY (aq:=aBS) rfT rfT ?_;simp only[go_sem,↓aB,seval,aBS,eH,dG,aL,kq,az,ll,ot,mmV,aEE,mm2,E1,L9,cj,Le,bIC,kS,aOd,BI,BY,BG,CT,dP,dX.take,CP];exact hd)
 rw[h1,h2]
end
def cO(g:SN):bw:=⟨19,[14],[.tmp 4,.tmp 5],qS [qmc 4 z0,qmc 5 .bj]<|qS [qm 6 0,qc 7 (g "u") [u 6]]<|qS [qm 8 0,qm 9 0,qq 10 (.cz (u 9)),qf 11 1 10,ql 12 1 11,qm 13 1,qq 14 (.ni 5 1 1 (u 12) (u 13)),qq 15 (.cz (u 8)),qf 16 1 15,qs 1 16 14]<|qS [qm 17 1,qq 18 (.fg (u 17)),qm 4 18,qmc 5 .bj]<|.ret⟩
def gW(g:SN):bw:=⟨17,[14],[.tmp 4],qS [qmc 4 .bj]<|qS [qm 5 0,qc 6 (g "u") [u 5]]<|qS [qm 7 0,qm 8 0,qq 9 (.cz (u 8)),qf 10 1 9,ql 11 1 10,qm 12 1,qq 13 (.bsl 1 [(.int .u8 0)] 1 [(0,(.tmp 12))]),qq 14 (.ni 5 1 1 (u 11) (u 13)),qq 15 (.cz (u 7)),qf 16 1 15,qs 1 16 14]<|qS [qmc 4 .bj]<|.ret⟩
def iY(g:SN):bw:=⟨8,[],[.tmp 2],qS [qmc 2 z0]<|qS [qm 3 0,qq 4 (.cz (u 3)),qf 5 1 4,ql 6 1 5,qn 7 6,qm 2 7]<|.ret⟩
@[go_sem] theorem aTa{base:Nat}{ρ:bN}{H:LO}{wr:LN}:iE base [] ρ H wr=QQ (.tup [],H,wr):=(rfl)
@[go_sem] theorem aUW{n:Nat}:AV.under n .ar=true:=(rfl)
@[go_sem] theorem aUX{base:Nat}{H:LO}:aDR base H .bj=QQ (.bj,H,[]):=(rfl)
theorem aBT{tB tP o v ty:Nat}{x:AV}{H:LO}(h:H[o]? = QQ (.cw v ty [.ptr o v 0,x])):fB tB tP [.ptr o v 0] H=QQ (.tup [],[],[]):=by simp[fB,h]
def PSt(H:LO)(ty o v o2 v2:Nat)(T:Str):LO:=(H.set o (.cw v ty [.ptr o v 0,.sr o2 v2 T.length])).set o2 (.gl v2 5 1 (rb T))
structure gf(n o o2:Nat):Prop where
 lo:o<n
 lo2:o2<n
 ne:o≠o2
section
variable {H L:LO}{ty o v o2 v2:Nat}{T S:Str}
theorem iZ:(PSt H ty o v o2 v2 T).length=H.length:=by unfold PSt;simp
theorem tW(c:gf H.length o o2):(PSt H ty o v o2 v2 T)[o]? = QQ (.cw v ty [.ptr o v 0,.sr o2 v2 T.length]):=by unfold PSt;rw[CL (Ne.symm c.ne),BW c.lo]
theorem aM4(c:gf H.length o o2):(PSt H ty o v o2 v2 T)[o2]? = QQ (.gl v2 5 1 (rb T)):=by unfold PSt;rw[BW (by have:=c.lo2;simpa using this)]
theorem aEl(c:gf H.length o o2):PSt H ty o v o2 v2 T++L=PSt (H++L) ty o v o2 v2 T:=by unfold PSt;rw[<- DX _ _ (by have:=c.lo2;simpa using this),<- DX _ _ c.lo]
theorem aM5(c:gf H.length o o2){x:ah}(hx:x=.gl v2 5 1 (rb S)):((PSt H ty o v o2 v2 T).set o2 x).set o (.cw v ty [.ptr o v 0,.sr o2 v2 S.length])=PSt H ty o v o2 v2 S:=by subst hx;unfold PSt;rw[EO,JR _ _ (Ne.symm c.ne),EO]
theorem aKO(c:gf H.length o o2):(PSt H ty o v o2 v2 T).set o (.cw v ty [.ptr o v 0,.sr o2 v2 T.length])=PSt H ty o v o2 v2 T:=aJo (tW c)
theorem gf.mono{n m:Nat}(c:gf n o o2)(h:n<=m):gf m o o2:=⟨by have:=c.lo;omega,by have:=c.lo2;omega,c.ne⟩
theorem aS2(c:gf H.length o o2):(PSt (H++L) ty o v o2 v2 T).take H.length=PSt H ty o v o2 v2 T:=by rw[<- aEl c,<- iZ (H:=H) (ty:=ty) (o:=o) (v:=v) (o2:=o2) (v2:=v2) (T:=T)];exact List.take_left' rfl
end
abbrev Wr2(o o2:Nat)(wr:LN):Prop:=∀x∈wr,x=o∨x=o2
theorem bZ{o o2 b:Nat}:∀{l wr:LN},Wr2 o o2 wr->Wr2 o o2 l->Wr2 o o2 (bE b wr l)
 | [],wr,h,_=>h
 |x::r,wr,h,hl=>by
  unfold bE;split
  ·refine bZ (fun y hy=>?_) fun y hy=>hl y (BZ _ hy);rcases BD.1 hy with rfl | hy
   ·exact hl _ HD
   exact h y hy
  exact bZ h fun y hy=>hl y (BZ _ hy)
theorem kT{o o2:Nat}:Wr2 o o2 []:=fun x h=>by cases h
theorem aM6{H L:LO}{ty o v o2 v2:Nat}{T:Str}{res:AV}{wr:LN}(c:gf H.length o o2)(R0:res.under H.length=QS)(ma:Wr2 o o2 wr):cJ H.length (res,PSt (H++L) ty o v o2 v2 T,wr)=(res,PSt H ty o v o2 v2 T,wr):=by
 have c':=c.mono (m:=(H++L).length) siT;rw[aEb R0,aS2 c];rw[AO];intro x hx;rcases ma x hx with rfl | rfl
 ·rw[tW c'];have:=c.lo;have:=c.lo2;simp[ah.under,dJ,AV.under, *]
 rw[aM4 c'];show eR H.length (rb T)=QS;exact aA (aJp T)
section
variable {A:af}{g:SN}
theorem aS3(h:Has A g "aB" (iY g)){H:LO}{ty o v o2 v2:Nat}{T:Str}(c:gf H.length o o2):aG A (g "aB") [.ptr o v 0] (PSt H ty o v o2 v2 T)=QQ (vi T.length,PSt H ty o v o2 v2 T,[]):=by refine h.call ?_;have hb:=tW (ty:=ty) (v:=v) (v2:=v2) (T:=T) c;have hl:=iZ (H:=H) (ty:=ty) (o:=o) (v:=v) (o2:=o2) (v2:=v2) (T:=T);simp only[iY];simp only[go_sem,↓aB,seval,AJ,hb]
theorem aN6{H:LO}{ty o v o2 v2:Nat}{T s:Str}{site:Option Nat}(c:gf H.length o o2)(hl:T.length+s.length<=100000000):∃Z w,vB (PSt H ty o v o2 v2 T) site 5 1 1 (.sr o2 v2 T.length) (.str s)=QQ (.sr o2 v2 (T++s).length,Z,w)/\Wr2 o o2 w/\Z.set o (.cw v ty [.ptr o v 0,.sr o2 v2 (T++s).length])=PSt H ty o v o2 v2 (T++s)/\Z[o]? = QQ (.cw v ty [.ptr o v 0,.sr o2 v2 T.length])/\Z.length=H.length:=by
 have h1:=aM4 (ty:=ty) (v:=v) (v2:=v2) (T:=T) c;have hr:bP (T.length+s.length) 1=true:=by unfold bP;simp;omega
 have tz:dF 1 (aJ s)=true:=aEk s;have ax:(aJ s).length=s.length:=kG s;cases s with
 |nil=>refine⟨PSt H ty o v o2 v2 T,[], ?_,kT,by rw[AJ];exact aKO c,tW c,iZ⟩;unfold vB;simp only[cG,tz,BT,BX,Zu,h1,kG,ax,hr,and_self,Zv];simp[aJ]
 |cons a r=>have bl:(aJ (a::r)).isEmpty=false:=rfl;refine⟨(PSt H ty o v o2 v2 T).set o2 (.gl v2 5 1 (rb T++aJ (a::r))),[o2], ?_,fun x hx=>by simp at hx;exact .inr hx,aM5 c (by rw[vX];rfl),by rw[CL (Ne.symm c.ne)];exact tW c,by rw[CP];exact iZ⟩;unfold vB;simp only[cG,tz,BT,BX,Zu,h1,kG,ax,hr,and_self,Zv,bl,BA]
theorem vY(h:Has A g "h" (cO g)){tB tP:Nat}(hp:A.bq (g "u")=QQ (fB tB tP)){H:LO}{ty o v o2 v2:Nat}{T s:Str}(c:gf H.length o o2)(hl:T.length+s.length<=100000000):∃wr,aG A (g "h") [.ptr o v 0,.str s] (PSt H ty o v o2 v2 T)=QQ (.tup [vi s.length,.bj],PSt H ty o v o2 v2 (T++s),wr)/\Wr2 o o2 wr:=by
 have c1:=c.mono (m:=(H++[ah.gone 0]).length) siT;obtain⟨v1,H1,dc,h1,h2,h3,h4⟩:=h.bp (args:=[.ptr o v 0,.str s]) (H:=PSt H ty o v o2 v2 T) (K:=fun v' H'' ba=>v'=.tup [vi s.length,.bj]/\H''=PSt H ty o v o2 v2 (T++s)/\Wr2 o o2 ba) (by
  have sx:aG A (g "u") [.ptr o v 0] (PSt (H++[.gone 0]) ty o v o2 v2 T)=QQ (.tup [],PSt (H++[.gone 0]) ty o v o2 v2 T,[]):=by refine dT ?_;rw[hp];show fB tB tP [.ptr o v 0] _=_;exact aBT (tW c1)
  have hb:=tW (ty:=ty) (v:=v) (v2:=v2) (T:=T) c1;have Qk:=iZ (H:=H) (ty:=ty) (o:=o) (v:=v) (o2:=o2) (v2:=v2) (T:=T);obtain⟨Z,w,e1,e2,e3,e4,e5⟩:=aN6 (site:=QQ H.length) (ty:=ty) (v:=v) (v2:=v2) (s:=s) c1 hl;simp only[cO];simp only[go_sem,↓aB,seval,Qk,aEl c,sx,hb,e1,e4];rw[BA]at e3;have hw:Wr2 o o2 (bE H.length (bE H.length [] w) [o]):=bZ (bZ kT e2) fun x hx=>by simp at hx;exact .inl hx
  rw[e3,aM6 c rfl hw];exact⟨rfl,rfl,hw⟩)
 subst h2 h3;exact⟨dc,h1,h4⟩
theorem tX(h:Has A g "N" (gW g)){tB tP:Nat}(hp:A.bq (g "u")=QQ (fB tB tP)){H:LO}{ty o v o2 v2:Nat}{T:Str}{b:UInt8}(c:gf H.length o o2)(hl:T.length+1<=100000000):∃wr,aG A (g "N") [.ptr o v 0,.int .u8 b.toNat] (PSt H ty o v o2 v2 T)=QQ (.bj,PSt H ty o v o2 v2 (T++[b]),wr)/\Wr2 o o2 wr:=by
 have c1:=c.mono (m:=(H++[ah.gone 0]).length) siT;obtain⟨v1,H1,dc,h1,h2,h3,h4⟩:=h.bp (args:=[.ptr o v 0,.int .u8 b.toNat]) (H:=PSt H ty o v o2 v2 T) (K:=fun v' H'' ba=>v'=.bj/\H''=PSt H ty o v o2 v2 (T++[b])/\Wr2 o o2 ba) (by
  have sx:aG A (g "u") [.ptr o v 0] (PSt (H++[.gone 0]) ty o v o2 v2 T)=QQ (.tup [],PSt (H++[.gone 0]) ty o v o2 v2 T,[]):=by refine dT ?_;rw[hp];show fB tB tP [.ptr o v 0] _=_;exact aBT (tW c1)
  have hb:=tW (ty:=ty) (v:=v) (v2:=v2) (T:=T) c1;have Qk:=iZ (H:=H) (ty:=ty) (o:=o) (v:=v) (o2:=o2) (v2:=v2) (T:=T);obtain⟨Z,w,e1,e2,e3,e4,e5⟩:=aN6 (site:=QQ H.length) (ty:=ty) (v:=v) (v2:=v2) (s:=[b]) c1 hl;have e1:vB (PSt (H++[.gone 0]) ty o v o2 v2 T) (QQ H.length) 5 1 1 (.sr o2 v2 T.length) (.sl QS [[.int .u8 b.toNat]])=QQ (.sr o2 v2 (T++[b]).length,Z,w):=e1;simp only[gW];simp only[go_sem,↓aB,seval,Qk,aEl c,sx,hb,e1,e4];rw[BA]at e3;have hw:Wr2 o o2 (bE H.length (bE H.length [] w) [o]):=bZ (bZ kT e2) fun x hx=>by simp at hx;exact .inl hx
  simp only[AW,AZ,BC]at e3;rw[e3,aM6 c rfl hw];exact⟨rfl,rfl,hw⟩)
 subst h2 h3;exact⟨dc,h1,h4⟩
end
@[go_sem] theorem aZE{base o v f:Nat}{H:LO}:aDR base H (.ptr o v f)=QQ (.ptr o v f,H,[]):=(rfl)
@[go_sem] theorem aY3{o v f:Nat}:AV.tn (.ptr o v f)=true:=(rfl)
@[go_sem] theorem aZF{base t:Nat}{H:LO}{x:AV}:aDR base H (.ifc t x)=QQ (.ifc t x,H,[]):=(rfl)
@[go_sem] theorem aUY{base i v f:Nat}{H:LO}{wr:LN}:cJ base (.ptr (base+i) v f,H,wr)=(.ptr (base+i) v f,H,wr):=by unfold cJ;dsimp only;rw[Zx];have:decide (base+i<base)=false:=siT;simp[AV.under,this]
@[go_sem] theorem aUZ{base i v f t:Nat}{H:LO}{wr:LN}:cJ base (.ifc t (.ptr (base+i) v f),H,wr)=(.ifc t (.ptr (base+i) v f),H,wr):=by unfold cJ;dsimp only;rw[Zx];have:decide (base+i<base)=false:=siT;simp[AV.under,this]
def aBU:LA:=AX 257 .ar
def aPP:LA:=AX 256 (.int .u8 0)
def aEm(f:UInt8->Option Str)(i:Nat):AV:=match f (CN i)with
 |some l=>.sl QT (aJ l)
 |none=>.ar
def bsr(f:UInt8->Option Str)(x:AV):LA:=(GZ 256).map (aEm f)++[x]
theorem pH{f:UInt8->Option Str}{x:AV}:(bsr f x).length=257:=by simp[bsr]
theorem aV0{f:UInt8->Option Str}{x:AV}{i:Nat}(h:i<256):(bsr f x)[i]? = QQ (aEm f i):=by simp_all [bsr,BM,BN,HQ]
theorem aN7{α:Type}{L:List α}{i:Nat}{a:α}(h:L[i]? = QQ a):(L.drop i).take 1=[a]:=by grind [getElem?_lt,AP,FD]
theorem aGE{f:UInt8->Option Str}{x:AV}(c:UInt8):((bsr f x).drop c.toNat).take 1=[aEm f c.toNat]:=aN7 (aV0 (EC c))
theorem aJq{f:UInt8->Option Str}{x:AV}:((bsr f x).drop 256).take 1=[x]:=aN7 (by unfold bsr;grind)
theorem aJr{L:LA}{i:Nat}{v:AV}(h:i<L.length):L.take i++[v]++L.drop (i+1)=L.set i v:=by rw[List.set_eq_take_append_cons_drop,Zy h,CJ];rfl
theorem aV1{f:UInt8->Option Str}{x:AV}(c:UInt8)(s:Str):(bsr f x).take c.toNat++[.sl QT (aJ s)]++(bsr f x).drop (c.toNat+1)=bsr (fun d=>if d=c then QQ s else f d) x:=by
 have hc:=EC c;rw[aJr (by rw[pH];omega)];unfold bsr;rw[DX _ _ (by simpa using hc)];congr 1;apply HN;intro j;by_cases hj:j<256
 ·by_cases e:c.toNat=j
  ·subst e;simp_all [BW,BN,HQ,aEm]
  rw[CL e,BN,BN,HQ hj];have:¬(CN j=c):=fun h=>e (by rw[<- h];simp;omega);simp[aEm,this]
 grind
theorem aM7{f:UInt8->Option Str}{x y:AV}:(bsr f x).take 256++[y]++(bsr f x).drop 257=bsr f y:=by simp_all [aJr,pH,bsr,IP,siT]
theorem aIv:aBU.length=257:=List.length_replicate
theorem aGF:aBU.drop 257=[]:=DH (by rw[aIv];grind)
theorem aS4{x:AV}:aBU.take 256++[x]=bsr (fun _=>N2) x:=by
 rw[show aBU.take 256++[x]=aBU.take 256++[x]++aBU.drop (256+1)by rw[aGF,AJ],aJr (by simp[aBU])];unfold bsr aBU;apply HN;intro j;by_cases hj:j<256
 ·rw[CL omT,BM (by simpa using hj),BN,HQ hj,IN,Zy omT];rfl
 by_cases e:256=j
 all_goals grind
theorem aY4{f:UInt8->Option Str}{x:AV}(hx:x.ak=QS):(bsr f x).all AV.ak=true:=by
 rw[AO];intro a ha;unfold bsr at ha;rw[AY,List.mem_map]at ha;rcases ha with⟨i,_,rfl⟩ | ha
 ·unfold aEm;split<;>rfl
 grind
def fP(ps:List (UInt8×Str)):List LA:=ps.flatMap fun p=>[[.str [p.1]],[.str p.2]]
def gI:List (UInt8×Str)->UInt8->Option Str
 | [],_=>N2
 |p::r,c=>if c=p.1 then QQ p.2 else gI r c
theorem aGG:∀ps:List (UInt8×Str),(fP ps).length=2*ps.length
 | []=>rfl
 |p::r=>by
  have:=aGG r;unfold fP at this ⊢;grind
theorem aGH:∀(ps:List (UInt8×Str)) (j:Nat) (h:j<ps.length),(fP ps)[2*j]? = QQ [.str [ps[j].1]]/\(fP ps)[2*j+1]? = QQ [.str ps[j].2]
 |p::r,0,h=>⟨rfl,rfl⟩
 |p::r,j+1,h=>by
  have:=aGH r j (by simpa using h);exact this
theorem aGI:∀{ps:List (UInt8×Str)} {c:UInt8},c∉ps.map EM->gI ps c=N2
 | [],_,_=>rfl
 |p::r,c,h=>by
  simp only[BI,BD,not_or]at h;unfold gI;rw[Zx h.1,aGI h.2]
def jA(g:SN):bw:=⟨12,[9,11],[.tmp 2],qS [qmc 2 .nilPtr]<|.seq (qS [qm 3 0,qn 4 3,qbi 5 .rem 4 2,qbi 6 .eql 5 1]<|qC 6 (qR [qq 7 (.km 9 (uc (.str [115,116,114,105,110,103,115,46,78,101,119,82,101,112,108,97,99,101,114,58,32,111,100,100,32,97,114,103,117,109,101,110,116,32,99,111,117,110,116]))),qz (.bad)]) (.skip))<|qS [qm 8 0,qq 9 (.app 1 16 (uc .ar) (u 8)),qq 10 (.build [(.int .u32 0),(.int .i32 0),(.int .u32 0),.bj,.ar] [(4,1,(.tmp 9))]),qx 11 5 10,qm 2 11]<|.ret⟩
abbrev tY(g:SN):List ae:=[qm 29 3,⟨QQ 30,.iaV (u 29) (ui 0) 1,N2,[0]⟩,⟨QQ 31,ol 1 30,N2,[1,0]⟩,qm 32 3,⟨QQ 33,.iaV (u 32) (ui 1) 1,N2,[3]⟩,⟨QQ 34,ol 1 33,N2,[4,3]⟩,⟨QQ 35,oc (g "dE") [u 31,u 34],N2,[2,1,0,5,4,3]⟩,⟨QQ 36,.km 388 (u 35),N2,[6,2,1,0,5,4,3]⟩,⟨QQ 2,om 36,N2,[7,6,2,1,0,5,4,3]⟩]
abbrev tZ(g:SN):ag:=.seq (qS [qm 37 5,qm 38 3,qn 39 38,qb 40 .lss 37 39]<|qC 40 (.skip) (.exit 0))<|.seq (.block 1 (.seq (qS [qm 43 3,qm 44 5,qi 45 43 44 1,ql 46 1 45,qq 47 (.fg (u 46)),qbi 48 .neq 47 1]<|qC 48 (qS [qm 49 3,qc 50 (g "dD") [u 49],qq 51 (.km 390 (u 50)),qm 2 51]<|.ret) (.skip))<|qS [qm 52 3,qm 53 5,qbi 54 .add 53 1,qi 55 52 54 1,ql 56 1 55,qq 57 (.fg (u 56)),qbi 58 .neq 57 1]<|qC 58 (qR [qmc 4 (.bool QT)]) (.skip)))<|.region QT [qm 41 5,qbi 42 .add 41 2,qm 5 42]
abbrev uA(g:SN):ag:=qS [qbi 62 .lss 61 256]<|.seq (qC 62 (.skip) (.exit 2))<|.seq (.block 3 (qS [qm 63 61,qm 7 63]<|.region QT [qm 64 7,qm 65 7,qq 66 (.conv (.toInt .u8) (u 65)),qq 67 (.iaA 256 1 (u 6) (u 64)),qs 1 67 66]))<|.region QT [qbi 68 .add 61 1,qm 61 68]
abbrev uB(g:SN):ag:=.seq (qS [qm 72 8,qbi 73 .geq 72 0]<|qC 73 (.skip) (.exit 4))<|.seq (.block 5 (qS [qm 76 3,qm 77 8,qi 78 76 77 1,ql 79 1 78,qq 80 (.ixS (u 79) (ui 0)),qm 9 80]<|qS [qm 81 3,qm 82 8,qbi 83 .add 82 1,qi 84 81 83 1,ql 85 1 84,qq 86 (.ixS (u 85) (ui 0)),qm 10 86]<|.region QT [qm 87 9,qm 88 10,qq 89 (.iaA 256 1 (u 6) (u 87)),qs 1 89 88]))<|.region QT [qm 74 8,qbi 75 .sub 74 2,qm 8 75]
abbrev uC(g:SN):ag:=.seq (qS [qm 99 12,qbi 100 .geq 99 0]<|qC 100 (.skip) (.exit 6))<|.seq (.block 7 (qS [qm 103 3,qm 104 12,qi 105 103 104 1,ql 106 1 105,qq 107 (.ixS (u 106) (ui 0)),qm 13 107]<|qS [qm 108 3,qm 109 12,qbi 110 .add 109 1,qi 111 108 110 1,ql 112 1 111,qm 14 112]<|.seq (qS [qm 113 13,qf 114 0 11,qq 115 (.iaA 256 1 (u 114) (u 113)),ql 116 1 115,qq 117 (.ky QT (u 116))]<|qC 117 (qR [qf 118 256 11,ql 119 1 118,qm 120 13,qq 121 (.bsl 1 [(.int .u8 0)] 1 [(0,(.tmp 120))]),qq 122 (.conv .b2s (u 121)),qq 123 (.bsl 1 [(.str [])] 1 [(0,(.tmp 122))]),qa 124 1 16 119 123,qf 125 256 11,qs 1 125 124]) (.skip))<|.region QT [qm 126 13,qm 127 14,qq 128 (.conv .s2b (u 127)),qf 129 0 11,qq 130 (.iaA 256 1 (u 129) (u 126)),qs 1 130 128]))<|.region QT [qm 101 12,qbi 102 .sub 101 2,qm 12 102]
def gA(g:SN):bw:=⟨132,[94,11],[.tmp 2],qS [qmc 2 .bj]<|qS [qm 15 0,qq 16 (.cz (u 15)),qf 17 4 16,ql 18 1 17,qm 3 18]<|.seq (qS [qm 19 3,qn 20 19,qbi 21 .eql 20 2,qm 22 21,qT 23 22 (om 3),qT 24 22 (.iaV (u 23) (ui 0) 1),qT 25 22 (ol 1 24),qT 26 22 (.fg (u 25)),qT 27 22 (obi .gtr 26 1),qp 28 22 27]<|qC 28 (.seq (.region QS (tY g))<|.ret) (.skip))<|qS [qmc 4 (.bool QS)]<|.seq (qS [qmc 5 z0]<|.block 0 (.loop (tZ g)))<|.seq (qS [qm 59 4]<|qC 59 (qS [qq 60 (.build aPP []),qq 6 (.alloc aPP),qs 256 6 60]<|.seq (qS [qmc 61 z0]<|.block 2 (.loop (uA g)))<|.seq (qS [qm 69 3,qn 70 69,qbi 71 .sub 70 2,qm 8 71]<|.block 4 (.loop (uB g)))<|qS [qq 90 (.km 394 (u 6)),qm 2 90]<|.ret) (.skip))<|qS [qm 91 3,qn 92 91,qbi 93 .quo 92 2,qq 94 (.mks 1 16 [(.str [])] (ui 0) (u 93)),qq 95 (.build aBU [(256,1,(.tmp 94))]),qq 11 (.alloc aBU),qs 257 11 95]<|.seq (qS [qm 96 3,qn 97 96,qbi 98 .sub 97 2,qm 12 98]<|.block 6 (.loop (uC g)))<|qS [qq 131 (.km 398 (u 11)),qm 2 131]<|.ret⟩
def gJ(g:SN):bw:=⟨10,[],[],qS [qm 2 0,qm 3 0,qc 4 (g "aC") [u 3],qq 5 (.cz (u 2)),qf 6 3 5,qs 1 6 4]<|.region QT [qm 7 0,qq 8 (.cz (u 7)),qf 9 4 8,qz (.store 1 (u 9) (uc (.sl QS [])))]⟩
section
variable {A:af}{g:SN}
theorem zL(h:Has A g "ar" (jA g))(ps:List (UInt8×Str))(h0:ps≠[])(h1:ps.length<=1000)(H:LO):aG A (g "ar") [.sl QT (fP ps)] H = QQ (.ptr (H.length+1) 1 0,H++[.vec 1 1 (fP ps),.box 1 [.int .u32 0,.int .i32 0,.int .u32 0,.bj,.sr H.length 1 (fP ps).length]],[]):=by
 refine h.call ?_;have hl:=aGG ps;obtain⟨p,r,rfl⟩:=ER h0;have bl:(fP (p::r)).isEmpty=false:=rfl;have tz:dF 1 (fP (p::r))=true:=rfl;have hr:bP (fP (p::r)).length 16=true:=by unfold bP;grind
 have zu:∀ek,kJ .rem ek (vi ((fP (p::r)).length:Nat)) (vi 2)=QQ (vi 0):=fun ek=>by
  rw[tS deT,hl];grind
 generalize fP (p::r)=rows at *;simp only[jA];simp only[go_sem,↓aB,seval,zu,eX,cG,dO,bl,tz,hr,BT,BX]
theorem aOe(h:Has A g "aC" (gA g))(ps:List (UInt8×Str))(h0:2<=ps.length)(h1:ps.length<=1000)(hd:(ps.map EM).Nodup)(hp:∀p∈ps,p.2.length≠1/\p.2.length<=1000){H:LO}{o v o1 v1:Nat}{a b c d:AV} (ho:H[o]? = QQ (.box v [a,b,c,d,.sr o1 v1 (fP ps).length])) (zw:H[o1]? = QQ (.vec v1 1 (fP ps))):aG A (g "aC") [.ptr o v 0] H=QQ (.ifc 398 (.ptr (H.length+1) 1 0),H++[.vec 1 1 (ps.reverse.map fun p=>[.str [p.1]]),.box 1 (bsr (gI ps) (.sr H.length 1 ps.length))],[]):=by
 refine h.call ?_;have gr:=getElem?_lt ho;have Fi:=getElem?_lt zw;have go:∀L,(H++L)[o]? = QQ (.box v [a,b,c,d,.sr o1 v1 (fP ps).length]):=fun L=>by grind
 have go1:∀L,(H++L)[o1]? = QQ (.vec v1 1 (fP ps)):=fun L=>by grind
 have hl:=aGG ps;have ya:(((fP ps).length:Int)==2)=false:=by grind
 simp only[gA];simp only[go_sem,↓aB,seval,go,ya,BB];refine bJ (id:=0) (fun i ρ1 H1 wr=>wr=[]/\H1=H++[.gone 0,.gone 0]/\ρ1 5=vi ((2*i:Nat):Int)/\ρ1 4=.bool (i==0)) ps.length
  (fun ρ1 H1 wr=>wr=[]/\H1=H++[.gone 0,.gone 0]/\ρ1 4=.bool QT)
  bIv rfl ⟨rfl,rfl,rfl,rfl⟩ ?_ ?_
 ·rintro i ρ1 H1 dc mg ⟨rfl,rfl,e5,e4⟩ hf;have e3:ρ1 3=.sr o1 v1 (fP ps).length:=hf 3 rfl;simp only[go_sem,↓aB,seval,e5,e3];refine aD (fun hb=>?_) (fun hb=>?_)
  ·have hlt:i<ps.length:=by grind
   obtain⟨Q6,V4⟩:=aGH ps i hlt;obtain⟨q1,q2⟩:=hp _ (AS hlt);have gq:(0:Int)<=((2*i:Nat):Int):=omT;have cr:((2*i:Nat):Int)<(((fP ps).length:Nat):Int):=by rw[hl];omega
   have kx:(((2*i:Nat):Int)).toNat=2*i:=omT;have dy:AR.wrap (((2*i:Nat):Int)+1)=((2*i+1:Nat):Int):=by rw[wrap_i64 omT omT];omega
   have lx:(0:Int)<=((2*i+1:Nat):Int):=omT;have Ql:((2*i+1:Nat):Int)<(((fP ps).length:Nat):Int):=by rw[hl];omega
   have zt:(((2*i+1:Nat):Int)).toNat=2*i+1:=omT;have gn:AR.wrap (((2*i:Nat):Int)+2)=((2*(i+1):Nat):Int):=by rw[wrap_i64 omT omT];omega
   have Fj:((((ps[i].2).length:Nat):Int) != 1)=true:=soT;simp only[go_sem,↓aB,seval,e5,e3,gq,cr,kx,dy,lx,Ql,zt,go1,Q6,V4,Fj,gn,AW,AZ];exact hlt
  have hi:i=ps.length:=by grind
  subst hi;simp only[go_sem,seval];rw[e4,show (ps.length==0)=QT from by grind]
 rintro ρ' H' ba ⟨rfl,rfl,e4⟩ hf;have e3:ρ' 3=.sr o1 v1 (fP ps).length:=hf 3 rfl;have hq:∀ek,kJ .quo ek (.int .i64 (((fP ps).length:Nat):Int)) (vi 2)=QQ (vi (ps.length:Nat)):=fun ek=>by
  rw[aAl deT,hl];have:(((2*ps.length:Nat):Int)).tdiv 2=(ps.length:Int):=by grind
  rw[this,wrap_i64 omT omT]
 have Il:¬((0:Int)=(ps.length:Int)):=omT;have V9:(0:Int)<(ps.length:Int):=omT;have R1:bP ps.length 16=true:=by unfold bP;simp;omega
 have gn:AR.wrap ((((fP ps).length:Nat):Int) - 2)=2*((ps.length:Int) - 1 - (0:Nat)):=by rw[hl,wrap_i64 omT omT];omega
 simp only[go_sem,↓aB,seval,e4,e3,hq,Il,V9,R1,pH,aS4,aIv,aGF,aY4,AJ,gn];refine bJ (id:=6) (fun i ρ1 H1 wr=>wr=[]/\ρ1 12=vi (2*((ps.length:Int) - 1 - (i:Nat)))/\H1=H++[.vec 1 1 ((ps.drop (ps.length - i)).reverse.map fun p=>[.str [p.1]]),.box 1 (bsr (gI (ps.drop (ps.length - i))) (.sr H.length 1 i))]) ps.length
  (fun ρ1 H1 wr=>wr=[]/\H1=H++[.vec 1 1 (ps.reverse.map fun p=>[.str [p.1]]),.box 1 (bsr (gI ps) (.sr H.length 1 ps.length))])
  bIv rfl ⟨rfl,rfl,by rw[Nat.sub_zero,DH (AQ _)];rfl⟩ ?_ ?_
 ·rintro i ρ1 H1 dc mg ⟨rfl,e12,rfl⟩ cq;have f3:ρ1 3=.sr o1 v1 (fP ps).length:=(cq 3 rfl).trans e3;have f11:ρ1 11=.ptr (H.length+1) 1 0:=cq 11 rfl;simp only[go_sem,↓aB,seval,e12];refine aD (fun hb=>?_) (fun hb=>?_)
  ·obtain⟨k,hk⟩:∃k,ps.length=i+1+k:=⟨ps.length - 1 - i,by grind⟩;have hlt:k<ps.length:=omT;have ek:2*((ps.length:Int) - 1 - (i:Nat))=((2*k:Nat):Int):=omT;rw[ek]at e12;rw[show ps.length - i=k+1 by omega];obtain⟨Q6,V4⟩:=aGH ps k hlt;obtain⟨q1,q2⟩:=hp _ (AS hlt);have gq:(0:Int)<=((2*k:Nat):Int):=omT;have cr:((2*k:Nat):Int)<(((fP ps).length:Nat):Int):=by rw[hl];omega
   have kx:(((2*k:Nat):Int)).toNat=2*k:=omT;have dy:AR.wrap (((2*k:Nat):Int)+1)=((2*k+1:Nat):Int):=by rw[wrap_i64 omT omT];omega
   have lx:(0:Int)<=((2*k+1:Nat):Int):=omT;have Ql:((2*k+1:Nat):Int)<(((fP ps).length:Nat):Int):=by rw[hl];omega
   have zt:(((2*k+1:Nat):Int)).toNat=2*k+1:=omT;have pr:AR.wrap (((2*k:Nat):Int) - 2)=2*((ps.length:Int) - 1 - ((i+1:Nat):Int)):=by rw[wrap_i64 omT omT];omega
   have Im:ps.drop k=ps[k]::ps.drop (k+1):=FD hlt;generalize Oj:ps[k]=p at *;obtain⟨c,s⟩:=p;have F5:c∉(ps.drop (k+1)).map EM:=by
    have h1:((ps.drop k).map EM).Nodup:=by grind
    grind
   have bc:aEm (gI (ps.drop (k+1))) c.toNat=.ar:=by simp_all [aEm,CN,aGI]
   have jg:(0:Int)<=((c.toNat:Nat):Int):=omT;have mj:((c.toNat:Nat):Int)<256:=by have:=EC c;omega
   have D2:(((c.toNat:Nat):Int)).toNat=c.toNat:=omT;have nc:c.toNat+1<=257:=by grind
   have ax:((ps.drop (k+1)).reverse.map fun p=>[AV.str [p.1]]).length=i:=soT;have R1:bP (i+1) 16=true:=by unfold bP;simp;omega
   have rh:∀H:LO,pT H .b2s (.sl QS [[.int .u8 ((c.toNat:Nat):Int)]])=QQ (.str [c]):=fun H=>by
    simp[pT,dO,cM]
   have nu:s.length<=1099511627776:=by grind
   simp only[go_sem,↓aB,seval,e12,f3,f11,go1,gq,cr,kx,dy,lx,Ql,zt,Q6,V4,BG,jg,mj,D2,nc,BC,FK,pH,aGE,aJq,bc,rh,eX,cG,dO,ax,R1,aM7,aV1,nu,pr];refine⟨omT, ?_⟩;rw[show ps.length - (i+1)=k by omega,Im,NN,DQ];rfl
  have hi:i=ps.length:=by grind
  subst hi;simp only[go_sem,seval];grind
 rintro ρ2 H2 en ⟨rfl,rfl⟩ cq;have f11:ρ2 11=.ptr (H.length+1) 1 0:=cq 11 rfl;simp only[go_sem,↓aB,seval,f11]
theorem mY{base o:Nat}{v:AV}{H:LO}{x:ah}(h1:H[o]? = QQ x)(h2:x.under base=QT):cJ base (v,H,[o])=(v,H,[o]):=by unfold cJ;grind
theorem aEn{n k:Nat}{a b c d:AV}:dJ n [a,b,c,.ifc 398 (.ptr (n+k) 1 0),d]=false:=by have:decide (n+k<n)=false:=siT;simp[dJ,AV.under,this]
theorem aHH(h:Has A g "aD" (gJ g))(hb:Has A g "aC" (gA g))(ps:List (UInt8×Str))(h0:2<=ps.length)(h1:ps.length<=1000)(hd:(ps.map EM).Nodup)(hp:∀p∈ps,p.2.length≠1/\p.2.length<=1000){H:LO}{o v o1 v1:Nat}{a b c d:AV} (ho:H[o]? = QQ (.box v [a,b,c,d,.sr o1 v1 (fP ps).length])) (zw:H[o1]? = QQ (.vec v1 1 (fP ps))):aG A (g "aD") [.ptr o v 0] H=QQ (.tup [],H.set o (.box v [a,b,c,.ifc 398 (.ptr (H.length+1) 1 0),.sl QS []])++[.vec 1 1 (ps.reverse.map fun p=>[.str [p.1]]),.box 1 (bsr (gI ps) (.sr H.length 1 ps.length))],[o]):=by
 refine h.call ?_;have gr:=getElem?_lt ho;have go:∀L,(H++L)[o]? = QQ (.box v [a,b,c,d,.sr o1 v1 (fP ps).length]):=fun L=>by grind
 have go2:∀L x,((H++L).set o x)[o]? = QQ x:=fun L x=>BW soT;have ss:=aOe hb ps h0 h1 hd hp ho zw;simp only[gJ];simp only[go_sem,↓aB,seval,AJ,ss,go,go2];rw[nJ gr,vN,mY (go2 _ _) (by rw[aBg];exact aEn),DX _ _ gr];exact⟨rfl,rfl,rfl⟩
end
section
variable {A:af}{g:SN}
theorem aPQ(h:Has A g "bs" nI){F:Nat}{H H':LO}{o v:Nat}{d e d' e':AV} (ho:H[o]? = QQ (.box v [.int .u32 0,.int .i32 0,.int .u32 0,d,e])) (hc:aG A F [.ptr o v 0] (H.set o (.box v [.int .u32 0,.int .i32 1,.int .u32 0,d,e]))=QQ (.tup [],H',[o])) (z7:H'[o]? = QQ (.box v [.int .u32 0,.int .i32 1,.int .u32 0,d',e'])) (hu:dJ H.length [d',e']=QT) (ax:H.length<=H'.length):aG A (g "bs") [.ptr o v 0,.fn F [.ptr o v 0] []] H=QQ (.tup [],H'.set o (.box v [.int .u32 1,.int .i32 0,.int .u32 0,d',e']),[o]):=by
 have gr:=getElem?_lt ho;have Fk:=getElem?_lt z7;refine h.call ?_;simp only[nI,aRp,aWZ,aX0,aTS];have g1:∀x,(H.set o x)[o]? = QQ x:=fun x=>BW gr;have g2:∀x,(H'.set o x)[o]? = QQ x:=fun x=>BW Fk;simp only[go_sem,↓aB,seval,AJ,ho,hc,z7,g2,EO,nJ gr,vN,aPt];have Rz:ah.under H.length (.box v [.int .u32 1,.int .i32 0,.int .u32 0,d',e'])=false:=by rw[aBg];simpa only[aLO,aPu,BR,aNX]using hu
 rw[mY (g2 _) Rz];exact⟨rfl,rfl,rfl⟩
def aAt(g:SN):bw:=⟨12,[],[],qS [qm 4 0,qq 5 (.cz (u 4)),qf 6 0 5,qc 7 (g "cf") [u 6],qq 8 (.un .not (u 7))]<|qC 8 (qR [qm 9 0,qm 10 1,qc 11 (g "bs") [u 9,u 10]]) (.skip)⟩
def iH(g:SN):bw:=⟨17,[],[.tmp 4],qS [qmc 4 (.str [])]<|qS [qm 5 0,qq 6 (.cz (u 5)),qf 7 0 6,qm 8 0,qq 9 (.mkf (g "aD") [(.tmp 8)] []),qc 10 (g "aE") [u 7,u 9]]<|qS [qm 11 0,qq 12 (.cz (u 11)),qf 13 3 12,ql 14 1 13,qm 15 1,qq 16 (.nb [(258,207),(388,388),(390,391),(394,395),(398,397)] (u 14) [(.tmp 15)]),qm 4 16]<|.ret⟩
structure mh(A:af)(g:SN):Prop where
 build:Has A g "aC" (gA g)
 zx:Has A g "aD" (gJ g)
 Fl:Has A g "bs" nI
 load:A.bq (g "cf")=QQ aAi
 once:Has A g "aE" (aAt g)
 Ar:Has A g "Z" (iH g)
def aIw(v o1 v1 n:Nat):ah:=.box v [.int .u32 0,.int .i32 0,.int .u32 0,.bj,.sr o1 v1 n]
def qZ(v b:Nat):ah:=.box v [.int .u32 1,.int .i32 0,.int .u32 0,.ifc 398 (.ptr b 1 0),.sl QS []]
def uD(ps:List (UInt8×Str))(k:Nat):LO:=[.vec 1 1 (ps.reverse.map fun p=>[.str [p.1]]),.box 1 (bsr (gI ps) (.sr k 1 ps.length))]
theorem aKP(F:mh A g){H:LO}{o v:Nat}{n:Int}{r:LA}(ho:H[o]? = QQ (.box v (.int .u32 n::r))):aG A (g "cf") [.ptr o v 0] H=QQ (.bool (n != 0),H,[]):=by
 refine dT ?_;rw[F.load];simp only[Option.bind_some,aAi];have:bC H 1 (.ptr o v 0)=QQ [.int .u32 n]:=by unfold bC;simp[ho]
 rw[this]
theorem aOf(F:mh A g){H:LO}{o v b:Nat}{f:AV}(ho:H[o]? = QQ (qZ v b)):aG A (g "aE") [.ptr o v 0,f] H=QQ (.tup [],H,[]):=by refine F.once.call ?_;have hl:=aKP F ho;rw[show ((1:Int) != 0)=QS from rfl]at hl;simp only[aAt];simp only[go_sem,↓aB,seval,AJ,hl]
theorem aOg(F:mh A g)(ps:List (UInt8×Str))(h0:2<=ps.length)(h1:ps.length<=1000)(hd:(ps.map EM).Nodup)(hp:∀p∈ps,p.2.length≠1/\p.2.length<=1000){H:LO}{o v o1 v1:Nat} (ho:H[o]? = QQ (aIw v o1 v1 (fP ps).length)) (zw:H[o1]? = QQ (.vec v1 1 (fP ps))):aG A (g "aE") [.ptr o v 0,.fn (g "aD") [.ptr o v 0] []] H=QQ (.tup [],H.set o (qZ v (H.length+1))++uD ps H.length,[o]):=by
 have gr:=getElem?_lt ho;have bl:o≠o1:=fun e=>by subst e;rw[ho]at zw;cases zw
 refine F.once.call ?_;have hl:=aKP F ho;rw[show ((0:Int) != 0)=QT from rfl]at hl;have g1:∀x,(H.set o x)[o]? = QQ x:=fun x=>BW gr;have hb:=aHH F.zx F.build ps h0 h1 hd hp (a:=.int .u32 0) (b:=.int .i32 1) (c:=.int .u32 0) (d:=.bj) (v:=v) (o:=o) (g1 _) (by rw[CL bl];exact zw);have hs:=aPQ F.Fl ho hb (by rw[BM (by simpa using gr),EO,g1]) (by
  have:decide (H.length+1<H.length)=false:=siT;simp[dJ,AV.under,this]) siT
 rw[DX _ _ (by simpa using gr),EO,EO,CP]at hs;simp only[aAt];simp only[go_sem,↓aB,seval,AJ,hl,hs];rw[nJ gr,vN,mY (x:=qZ v (H.length+1)) (by rw[BM (by simpa using gr),g1];rfl) (by unfold qZ;rw[aBg];exact aEn)];exact⟨rfl,rfl,rfl⟩
def nS(f:UInt8->Option Str)(s:Str):Str:=s.flatMap fun c=>match f c with
 |some t=>t
 |none=>[c]
def aM8(A:af)(n:Nat)(ps:List (UInt8×Str)):Prop:=∀(H:LO) (b k:Nat) (s:Str),H[b]? = QQ (.box 1 (bsr (gI ps) (.sr k 1 ps.length)))->H[k]? = QQ (.vec 1 1 (ps.reverse.map fun p=>[.str [p.1]]))->s.length<=1000 ->
 aG A n [.ptr b 1 0,.str s] H=QQ (.str (nS (gI ps) s),H,[])
theorem aY5:List.lookup (398:Nat) [((258:Nat),(207:Nat)),(388,388),(390,391),(394,395),(398,397)]=QQ 397:=rfl
theorem aJs(F:mh A g){ps:List (UInt8×Str)}(hB:aM8 A 397 ps){H:LO}{o v b k:Nat}{s:Str}(hs:s.length<=1000)(ho:H[o]? = QQ (qZ v b))(hb:H[b]? = QQ (.box 1 (bsr (gI ps) (.sr k 1 ps.length))))(hk:H[k]? = QQ (.vec 1 1 (ps.reverse.map fun p=>[.str [p.1]]))):aG A (g "Z") [.ptr o v 0,.str s] H=QQ (.str (nS (gI ps) s),H,[]):=by refine F.Ar.call ?_;have h1:∀f,aG A (g "aE") [.ptr o v 0,f] H=QQ (.tup [],H,[]):=fun f=>aOf F ho;have h2:=hB H b k s hb hk hs;unfold qZ at ho;simp only[iH];simp only[go_sem,↓aB,seval,AJ,h1,h2,ho,aY5]
theorem aDd(F:mh A g){ps:List (UInt8×Str)}(hB:aM8 A 397 ps)(h0:2<=ps.length)(h1:ps.length<=1000)(hd:(ps.map EM).Nodup)(hp:∀p∈ps,p.2.length≠1/\p.2.length<=1000){H:LO}{o v o1 v1:Nat} {s:Str} (hs:s.length<=1000) (ho:H[o]? = QQ (aIw v o1 v1 (fP ps).length)) (zw:H[o1]? = QQ (.vec v1 1 (fP ps))):aG A (g "Z") [.ptr o v 0,.str s] H=QQ (.str (nS (gI ps) s),H.set o (qZ v (H.length+1))++uD ps H.length,[o]):=by
 have gr:=getElem?_lt ho;refine F.Ar.call ?_;have hO:=aOg F ps h0 h1 hd hp ho zw;have g1:(H.set o (qZ v (H.length+1))++uD ps H.length)[o]? = QQ (qZ v (H.length+1)):=by rw[BM (by simpa using gr)];exact BW gr
 have g2:(H.set o (qZ v (H.length+1))++uD ps H.length)[H.length+1]? = QQ (.box 1 (bsr (gI ps) (.sr H.length 1 ps.length))):=by rw[BU siT,CP];simp[uD]
 have g3:(H.set o (qZ v (H.length+1))++uD ps H.length)[H.length]? = QQ (.vec 1 1 (ps.reverse.map fun p=>[.str [p.1]])):=by rw[BU siT,CP];simp[uD]
 have h2:=hB _ _ _ s g2 g3 hs;generalize Ol:(H.set o (qZ v (H.length+1))++uD ps H.length)=H' at *;have g1':H'[o]? = QQ (.box v [.int .u32 1,.int .i32 0,.int .u32 0,.ifc 398 (.ptr (H.length+1) 1 0),.sl QS []]):=g1;simp only[iH];simp only[go_sem,↓aB,seval,AJ,hO,h2,g1',aY5];rw[nJ gr,vN,mY g1 (by unfold qZ;rw[aBg];exact aEn)];exact⟨rfl,rfl,rfl⟩
end
theorem xX{A:af}{N:Nat}{c:Ctx}{b:Bool}{x1 x2 rest:ag}{ρ:bN}{H:LO}{wr:LN}{Q:bf->bN->LO->LN->Prop}{t1 t2 t3 tg}{W:LN}(P:bN->LO->LN->Prop) (hW:xJ x1++xJ x2=W) (h1:b=QS->wc A N c x1 ρ H wr (aZy P ⟨⟩) ⟨⟩) (h2:b=QT->wc A N c x2 ρ H wr (aZy P ⟨⟩) ⟨⟩) (hr:∀ρ' H' ba,P ρ' H' ba->(∀t,W.contains t=QT->ρ' t=ρ t)->wc A N c rest ρ' H' ba Q ⟨⟩):zF b (wc A N c x1 ρ H wr (aNW A N c rest Q t1) t2) (wc A N c x2 ρ H wr (aNW A N c rest Q t1) t3) tg:=by
 have sub:∀(V:LN) (ρ':bN),(∀t∈V,t∈W)->(∀t,V.contains t=QT->ρ' t=ρ t)->∀t,W.contains t=QT->ρ' t=ρ t:=fun V ρ' hs h t ht=>h t (by
  rw[<- GB,EH]at ht ⊢;exact fun hm=>ht (hs t hm))
 refine aD (fun hb=>?_) (fun hb=>?_)
 ·exact aPw (W:=xJ x1) P rfl (h1 hb) fun ρ' H' ba hP hf=>hr ρ' H' ba hP (sub _ ρ' (fun t ht=>by rw[<- hW];exact List.mem_append_left _ ht) hf)
 exact aPw (W:=xJ x2) P rfl (h2 hb) fun ρ' H' ba hP hf=>hr ρ' H' ba hP (sub _ ρ' (fun t ht=>by rw[<- hW];exact List.mem_append_right _ ht) hf)
theorem aDe:∀(e:Expr) (r:Bool),aBN r e=QS->Rt r e
 |.mk op n ks,r,h=>by
  unfold aBN at h;simp only[AI,Bool.not_eq_true',MO,decide_eq_false_iff_not,bne_eq_false_iff_eq,Bool.and_eq_false_iff,beq_eq_false_iff_ne]at h;obtain⟨⟨h1,h2⟩,⟨⟨⟨h3,h4⟩,h5⟩,h6⟩,h7⟩:=h;have h3:ks.length=aCn op:=omT;have:op=0∨op=1∨op=2∨op=3∨op=4∨op=5∨op=6∨op=7∨op=8∨op=9∨op=10:=omT;have two:aCn op=2->(op=9∨op=10->r=QS)->(op≠9/\op≠10->3<=op/\op<=7)->aAq op=0->Rt r (.mk op n ks):=fun hk hr ho hm=>by
   rw[hk]at h3
   match ks,h3 with
   | [a,b],_=>
    simp only[aEZ,AI]at h7;have ra:=aDe a QT h7.1;have rb:=aDe b QT h7.2.1;have hn:n=0:=omT;subst hn;by_cases hc:op=9∨op=10
    ·have:=hr hc;subst this;exact .cmp op a b hc ra rb
    have:=ho ⟨fun h=>hc (.inl h),fun h=>hc (.inr h)⟩;exact .bin r op a b this.1 this.2 ra rb
  have one:aCn op=1->(op=2∨op=8)->aAq op=0->Rt r (.mk op n ks):=fun hk ho hm=>by
   rw[hk]at h3
   match ks,h3 with
   | [a],_=>simp only[aEZ,AI]at h7;have ra:=aDe a QT h7.1;have hn:n=0:=omT;subst hn;exact .un r op a ho ra
  have nil:aCn op=0->ks=[]:=fun hk=>by grind
  have root:((lev op:Nat):Int)=0->r=true:=fun hl=>by
   grind
  rcases this with rfl | rfl | rfl | rfl | rfl | rfl | rfl | rfl | rfl | rfl | rfl
  ·rw[nil rfl];exact .num r n omT (by have:aAq 0=999999:=rfl;omega)
  ·rw[nil rfl];exact .var r n omT (by have:aAq 1=25:=rfl;omega)
  ·exact one rfl (.inl rfl) rfl
  ·exact two rfl omT omT rfl
  ·exact two rfl omT omT rfl
  ·exact two rfl omT omT rfl
  ·exact two rfl omT omT rfl
  ·exact two rfl omT omT rfl
  ·exact one rfl (.inr rfl) rfl
  ·exact two rfl (fun _=>root rfl) omT rfl
  exact two rfl (fun _=>root rfl) omT rfl
theorem uE{e:Expr}{L:Nat}{s:Str}:(par e L s).length<=s.length+2:=by unfold par;split<;>simp
theorem aIx:∀{e:Expr} {r:Bool},Rt r e->(wX e).length<=10*gY e
 |_,_,.num _ n h0 h9=>by
  have h1:wX (.mk 0 n [])=dec n.toNat:=by unfold wX;rfl
  have h2:=aGn 5 n.toNat omT;rw[h1];simp only[gY,cP];omega
 |_,_,.var _ n h0 h1=>by
  grind [wX,CN,gY,cP,AW,AZ]
 |_,_,.un _ op a ho ha=>by
  have ih:=aIx ha;have h3:=uE (e:=a) (L:=3) (s:=wX a);have h1:=uE (e:=a) (L:=1) (s:=wX a);grind [aPO,gY,cP,AW,BA,AZ]
 |_,_,.bin _ op a b h1 h2 ha hb=>by
  have ia:=aIx ha;have ib:=aIx hb;have k1:=uE (e:=a) (L:=4) (s:=wX a);have k2:=uE (e:=a) (L:=max 1 (lev op)) (s:=wX a);have k3:=uE (e:=b) (L:=3) (s:=wX b);have k4:=uE (e:=b) (L:=lev op+1) (s:=wX b);grind [aN5,gY,cP,AW,BA]
 |_,_,.cmp op a b ho ha hb=>by
  have ia:=aIx ha;have ib:=aIx hb;have k1:=uE (e:=a) (L:=4) (s:=wX a);have k2:=uE (e:=a) (L:=max 1 (lev op)) (s:=wX a);have k3:=uE (e:=b) (L:=3) (s:=wX b);have k4:=uE (e:=b) (L:=lev op+1) (s:=wX b);grind [aN5,gY,cP,AW,BA]
section
variable {A:af}{g:SN}
theorem aPR(h:Has A g "b" (dN g)){op n:Int}{ks:List Expr}(o0:0<=op)(o1:op<11)(h0:fY A (g "b") [.agg (aF (.mk op n ks)),vi 0] (wX (.mk op n ks))){L:Nat}(hL:lev op<L):fY A (g "b") [.agg (aF (.mk op n ks)),vi L] (40::(wX (.mk op n ks)++[41])):=by
 intro H t v hb ht;obtain⟨v1,H1,dc,h1,h2⟩:=h.bp (args:=[v,.agg (aF (.mk op n ks)),vi L]) (H:=H) (K:=fun v' H'' ba=>QQ (v',H'',ba)=oX H t (40::(wX (.mk op n ks)++[41])) v) (by
  have pq:decide (lev op<L)=true:=by simpa using hL
  have hl:t.length+(2+(wX (.mk op n ks)).length)<=1000000:=by grind
  obtain⟨o,ver,jk,db⟩:=hb.app (L:=aFl op) (i:=1) omT (by grind) [40] siT siT;have db:eX (H++aFl op) (QQ (H.length+1)) 1 1 v (.sl QS [[.int .u8 40]])=_:=db QS;have az:aG A (g "b") [.sr o ver (t++[40]).length,.agg (aF (.mk op n ks)),vi 0] _=_:=aGC (t:=t++[40]) (ver:=ver) jk.lt soT h0;have ll:∀site,eX _ site 1 1 _ (.sl QS [[.int .u8 41]])=_:=fun site=>aN4 (Z:=H++aFl op) (ver:=ver) (t:=t++[40]++wX (.mk op n ks)) (new:=[41]) (f:=QS) (site:=site) jk.lt siT soT;simp only[BA,AW,AZ,BC,aF,aZ]at db az ll;have hd:=jk.done (L':=aFl op) rfl (40::(wX (.mk op n ks)++[41]));rw[show t++40::(wX (.mk op n ks)++[41])=t++[40]++wX (.mk op n ks)++[41] by simp,show t.length+(40::(wX (.mk op n ks)++[41])).length=t.length+1+(wX (.mk op n ks)).length+1 by simp;omega]at hd;simp only[dN];simp only[go_sem,↓aB,seval,aF,aZ,o0,o1,BC,(hD o0 o1).1,(hD o0 o1).2,bIC,oF,AJ,kS,pq];refine aY (aq:=aBO) rfT rfT ?_;simp only[go_sem,↓aB,seval,aBO,eH,dG,aL,db,az,ll,BI,BY,CP];exact hd)
 rw[h1,h2]
abbrev aBk(A:af)(g:SN):Prop:=∀n:Int,0<=n->n<=999999->fY A (g "bX") [vi n,vi 10] (dec n.toNat)
theorem aS5(h:Has A g "b" (dN g))(hi:aBk A g):∀{e:Expr} {r:Bool},Rt r e->∀L:Nat,L<=4->fY A (g "b") [.agg (aF e),vi L] (par e L (wX e)):=by
 have fin:∀{op n:Int} {ks:List Expr},0<=op->op<11->(∀L:Nat,L<=lev op->fY A (g "b") [.agg (aF (.mk op n ks)),vi L] (wX (.mk op n ks))) ->
   ∀L:Nat,L<=4->fY A (g "b") [.agg (aF (.mk op n ks)),vi L] (par (.mk op n ks) L (wX (.mk op n ks))):=fun {op n ks} o0 o1 hh L hL=>by
  by_cases hl:lev op<L
  ·rw[aY2 (e:=.mk op n ks) hl];exact aPR h o0 o1 (hh 0 (FF _)) hl
  rw[aT8 (e:=.mk op n ks) (Nat.le_of_not_lt hl)];grind
 intro e r hr
 induction hr with
 |num _ n h0 h9=>exact fin deT deT fun L hL=>aUS h hi h0 h9 rfl hL
 |var _ n h0 h1=>exact fin deT deT fun L hL=>aUT h h0 h1 rfl hL
 |un _ op a ho ha ih=>
  rcases ho with rfl | rfl
  ·exact fin deT deT fun L hL=>aUU h ih rfl hL
  exact fin deT deT fun L hL=>aS1 h ih rfl hL
 |bin _ op a b h1 h2 ha hb ia ib=>
  refine fin omT omT fun L hL=>?_;rcases aUM h1 h2 with h3 | h3 | h3 | h3 | h3
  ·exact aGD h omT ia ib hL
  ·exact aGD h omT ia ib hL
  all_goals simp_all [aGD,omT,aUV]
 |cmp op a b ho ha hb ia ib=>exact fin omT omT fun L hL=>aGD h omT ia ib hL
def aBV(e:Expr):Int:=if decide ((gY e:Int)>256) || decide ((aBM e:Int)>16)then 4 else if aBN QS e then 0 else 1
structure lu(A:af)(g:SN):Prop where
 valid:Has A g "aP" (aDc g)
 size:Has A g "aO" (aAs g)
 depth:Has A g "aN" (xW g)
 right:Has A g "aQ" (xV g)
 R3:Has A g "aR" (qY g)
 con:∃fi,(A.fn (g "ao")=QQ (aLV fi)/\A.bq (g "ao")=N2)/\(A.fn fi=QQ (aKx 3 QS)/\A.bq fi=N2)
 put:Has A g "b" (dN g)
 text:Has A g "cg" (aF0 g)
theorem aCp(h:lu A g)(e:Expr)(he:e.Ok)(hs:gY e<=1000)(H:LO):aG A (g "aP") [.agg (aF e)] H=QQ (vi (aBV e),H,[]):=by
 refine h.valid.call ?_;have h1:=fun H=>aPM h.size _ e H (HR _) hs;have h2:=fun H=>aOb h.depth _ e H (HR _) hs;obtain⟨fi,c1,c2⟩:=h.con;have h3:=fun H=>aOc h.right h.R3 c1 c2 _ e QS H (HR _) he;simp only[aDc,zK];unfold aBV;cases e1:decide ((gY e:Int)>256)with
 |true=>simp only[go_sem,↓aB,seval,dP,dX.take,dX.still,dX.ga,aS (aV e),h1,e1,CE,EP]
 |false=>cases e2:decide ((aBM e:Int)>16)with
  |true=>simp only[go_sem,↓aB,seval,dP,dX.take,dX.still,dX.ga,aS (aV e),h1,h2,e1,e2,Zz,GV]
  |false=>cases e3:aBN QS e with
   |true=>simp only[go_sem,↓aB,seval,dP,dX.take,dX.still,dX.ga,aS (aV e),h1,h2,h3,e1,e2,e3,Zz,IJ,BX]
   |false=>simp only[go_sem,↓aB,seval,dP,dX.take,dX.still,dX.ga,aS (aV e),h1,h2,h3,e1,e2,e3,Zz,IJ,BX]
theorem aKQ{e:Expr}(h:aBV e=0):Rt QS e:=by grind [aBV,aDe]
theorem oO:∀s:Str,cM (rb s)=QQ s
 | []=>rfl
 |c::r=>by
  show (cM (rb r)).map (CN ((c.toNat:Int).toNat) :: ·)=_;rw[oO r];simp
theorem aJt(h:lu A g)(hi:aBk A g)(e:Expr)(he:e.Ok)(hs:gY e<=1000)(hv:aBV e=0)(H:LO):aG A (g "cg") [.agg (aF e)] H=QQ (.str (wX e),H,[]):=by refine h.text.call ?_;have h1:=aCp h e he hs;rw[hv]at h1;have hr:=aKQ hv;have hl:=aIx hr;have h2:=aS5 h.put hi hr 0 deT;rw[aT8 (FF _)]at h2;have h3:∀H,aG A (g "b") [.sl QS [],.agg (aF e),vi 0] H=QQ (.own 1 (rb (wX e)),H,[]):=fun H=>h2 H [] (.sl QS []) .nil soT;simp only[aF0];simp only[go_sem,↓aB,seval,dP,dX.take,dX.still,dX.ga,aS (aV e),h1,h3,pT,oO]
end
section
variable {call:Nat->LA->LO->Out}{c:Ctx}{aq:LN}{n0:Nat}{ρ:bN}{H:LO}{wr:LN}{L:bN->LO->LN->Log->Prop}{p:LN}{r:List ae}
@[go_sem] theorem bC3{k:Nat}{x v:aa}{d:Option Nat}{t:Tg (call,c,aq,⟨d,.cpy k x v,N2,p⟩::r,L)}:wd call c aq n0 (⟨d,.cpy k x v,N2,p⟩::r) ρ H wr L t=bnd (oB call (c.site d) ρ H (.cpy k x v)) fun t=>aU0 (aq.contains n0) (wd call c aq (n0+1) r (zX ρ d t.1) t.2.1 (bE c.base wr (t.2.2.2.getD [])) (aVK n0 t.2.2.1 t.2.2.2 L ⟨⟩) ⟨⟩) (wd call c aq (n0+1) r (zX ρ d t.1) t.2.1 (bE c.base wr (t.2.2.2.getD [])) L ⟨⟩) ⟨⟩:=aRs
@[go_sem] theorem aY6{k:Nat}{x v:aa}{s:Option Nat}:oB call s ρ H (.cpy k x v)=oD H (aD0 call H ρ s (.cpy k x v)):=(rfl)
end
theorem aS6{f:UInt8->Option Str}:nS f []=[]:=rfl
theorem xY{f:UInt8->Option Str}(a b:Str):nS f (a++b)=nS f a++nS f b:=List.flatMap_append
theorem aFD{f:UInt8->Option Str}{c:UInt8}{t:Str}(h:f c=QQ t):nS f [c]=t:=by simp[nS,h]
theorem aEo{f:UInt8->Option Str}{c:UInt8}(h:f c=N2):nS f [c]=[c]:=by simp[nS,h]
theorem aAu{f:UInt8->Option Str}(c:UInt8)(s:Str):nS f (c::s)=nS f [c]++nS f s:=xY [c] s
theorem aGJ{f:UInt8->Option Str}:∀{s:Str},(∀c∈s,f c=N2)->nS f s=s
 | [],_=>rfl
 |c::s,h=>by rw[aAu,aEo (h c siT),aGJ fun d hd=>h d (by simp[hd])];rfl
theorem aDf{f:UInt8->Option Str}{M:Nat}(h:∀c t,f c=QQ t->t.length<=M)(hM:1<=M):∀s:Str,(nS f s).length<=M*s.length
 | []=>by simp[nS]
 |c::s=>by
  rw[aAu,BA,AW,Nat.mul_succ];have:=aDf h hM s;cases e:f c with
  |none=>rw[aEo e];simp;omega
  |some t=>rw[aFD e];grind
theorem vZ{p:UInt8×Str}{c:UInt8}:∀{l:List (UInt8×Str)},p.1∉l.map EM->gI (l++[p]) c=if c=p.1 then QQ p.2 else gI l c
 | [],_=>rfl
 |q::l,h=>by
  simp only[BI,BD,not_or]at h;have:=vZ (c:=c) h.2;show (if c=q.1 then QQ q.2 else gI (l++[p]) c)=_;rw[this];by_cases e:c=q.1
  ·subst e;rw[Zy rfl,Zx (fun e=>h.1 e.symm)];show _=(if q.1=q.1 then _ else _);grind
  rw[Zx e];by_cases e2:c=p.1
  ·grind
  rw[Zx e2,Zx e2];show _=(if c=q.1 then _ else _);rw[Zx e]
theorem aN8{c:UInt8}:∀{l:List (UInt8×Str)},(l.map EM).Nodup->gI l.reverse c=gI l c
 | [],_=>rfl
 |p::l,h=>by
  rw[BI,List.nodup_cons]at h;rw[NN,vZ (by grind),aN8 h.2];rfl
theorem aDg{c:UInt8}{t:Str}:∀{l:List (UInt8×Str)},gI l c=QQ t->(c,t)∈l
 | [],h=>by cases h
 |p::l,h=>by
  unfold gI at h;split at h
  ·grind
  exact BZ _ (aDg h)
theorem aKR{c:UInt8}{t:Str}{r:List (UInt8×Str)}:∀{l:List (UInt8×Str)},gI l c=QQ t->gI (l++r) c=QQ t
 | [],h=>by cases h
 |p::l,h=>by
  show (if c=p.1 then QQ p.2 else gI (l++r) c)=QQ t;unfold gI at h;split at h
  ·grind
  rename_i e;rw[Zx e];exact aKR h
theorem aKS{l:List (UInt8×Str)}{p:UInt8×Str}(h:p.1∉l.map EM):∀s:Str,((nS (gI (l++[p])) s).length:Int)=(nS (gI l) s).length+(s.count p.1:Nat)*((p.2.length:Int) - 1)
 | []=>by simp[nS]
 |c::s=>by
  have ih:=aKS h s;rw[aAu c s,aAu c s,BA,BA,KO,KO,ih,LP];by_cases e:c=p.1
  ·subst e;rw[aFD (by rw[vZ h,Zy rfl]),aEo (aGI h),Zy siT];grind
  have e2:(c==p.1)=false:=by simpa using e
  have:nS (gI (l++[p])) [c]=nS (gI l) [c]:=by unfold nS;simp[vZ h,e]
  grind
theorem aN9{l:List (UInt8×Str)}{p:UInt8×Str}(h:p.1∉l.map EM):∀s:Str,(s.any fun c=>(gI (l++[p]) c).isSome)=((s.any fun c=>(gI l c).isSome) || (s.count p.1 != 0))
 | []=>by simp
 |c::s=>by
  rw[Qj,aN9 h s,Qj,LP,vZ h];grind
theorem oG{α:Type}{l:List α}{i:Nat}(h:i<l.length):l.take (i+1)=l.take i++[l[i]]:=by simp_all
abbrev lQ(g:SN):List ae:=[qm 41 5,qm 42 9,qm 43 0,qm 44 8,⟨QQ 45,.ixS (u 44) (ui 0),N2,[3]⟩,⟨QQ 46,.cz (u 43),N2,[2]⟩,⟨QQ 47,of 0 46,N2,[5,2]⟩,⟨QQ 48,.iaA 256 1 (u 47) (u 45),N2,[6,5,2,4,3]⟩,⟨QQ 49,ol 1 48,N2,[7,6,5,2,4,3]⟩,⟨QQ 50,on 49,N2,[8,7,6,5,2,4,3]⟩,⟨QQ 51,obi .sub 50 1,N2,[9,8,7,6,5,2,4,3]⟩,⟨QQ 52,ob .mul 42 51,N2,[1,10,9,8,7,6,5,2,4,3]⟩,⟨QQ 53,ob .add 41 52,N2,[0,11,1,10,9,8,7,6,5,2,4,3]⟩,⟨QQ 5,om 53,N2,[12,0,11,1,10,9,8,7,6,5,2,4,3]⟩]
abbrev fK:LN:=[]
abbrev lR(g:SN):ag:=qS [qb 33 .lss 32 31]<|.seq (qC 33 (.skip) (.exit 0))<|.seq (.block 1 (qS [qi 34 30 32 1,ql 35 1 34,qm 8 35]<|qS [qm 36 1,qm 37 8,qc 38 (g "U") [u 36,u 37],qm 9 38]<|qS [qm 39 9,qbi 40 .neq 39 0]<|qC 40 (.seq (.region QS (lQ g))<|.region QT [qmc 6 (.bool QS)]) (.skip)))<|.region QT [qbi 54 .add 32 1,qm 32 54]
abbrev lS(g:SN):ag:=.seq (qS [qm 55 10,qm 56 1,qq 57 (.fg (u 56)),qb 58 .lss 55 57]<|qC 58 (.skip) (.exit 2))<|.seq (.block 3 (qS [qm 61 1,qm 62 10,qq 63 (.ixS (u 61) (u 62)),qm 11 63]<|qS [qm 64 0,qm 65 11,qq 66 (.cz (u 64)),qf 67 0 66,qq 68 (.iaA 256 1 (u 67) (u 65)),ql 69 1 68,qq 70 (.ky QS (u 69))]<|qC 70 (qS [qm 71 5,qm 72 0,qm 73 11,qq 74 (.cz (u 72)),qf 75 0 74,qq 76 (.iaA 256 1 (u 75) (u 73)),ql 77 1 76,qn 78 77,qbi 79 .sub 78 1,qb 80 .add 71 79,qm 5 80]<|.region QT [qmc 6 (.bool QS)]) (.skip)))<|.region QT [qm 59 10,qbi 60 .add 59 1,qm 10 60]
abbrev lT(g:SN):List ae:=[qm 102 13,qm 103 12,qm 104 13,⟨QQ 105,.view 1 (u 103) (QQ (.tmp 104)),N2,[1,2]⟩,qm 106 0,qm 107 15,⟨QQ 108,.cz (u 106),N2,[4]⟩,⟨QQ 109,of 0 108,N2,[6,4]⟩,⟨QQ 110,.iaA 256 1 (u 109) (u 107),N2,[7,6,4,5]⟩,⟨QQ 111,ol 1 110,N2,[8,7,6,4,5]⟩,⟨QQ 112,.cpy 1 (u 105) (u 111),N2,[3,1,2,9,8,7,6,4,5]⟩,⟨QQ 113,ob .add 102 112,N2,[0,10,3,1,2,9,8,7,6,4,5]⟩,⟨QQ 13,om 113,N2,[11,0,10,3,1,2,9,8,7,6,4,5]⟩]
abbrev fM:LN:=[]
abbrev lU(g:SN):ag:=.seq (qS [qm 86 14,qm 87 1,qq 88 (.fg (u 87)),qb 89 .lss 86 88]<|qC 89 (.skip) (.exit 4))<|.seq (.block 5 (qS [qm 92 1,qm 93 14,qq 94 (.ixS (u 92) (u 93)),qm 15 94]<|qS [qm 95 0,qm 96 15,qq 97 (.cz (u 95)),qf 98 0 97,qq 99 (.iaA 256 1 (u 98) (u 96)),ql 100 1 99,qq 101 (.ky QS (u 100))]<|qC 101 (.region QS (lT g)) (qS [qm 114 12,qm 115 13,qm 116 15,qi 117 114 115 1,qs 1 117 116]<|.region QT [qm 118 13,qbi 119 .add 118 1,qm 13 119])))<|.region QT [qm 90 14,qbi 91 .add 90 1,qm 14 91]
def dB(g:SN):bw:=⟨122,[85],[.tmp 4],qS [qmc 4 (.str [])]<|qS [qm 16 1,qq 17 (.fg (u 16)),qm 5 17]<|qS [qmc 6 (.bool QT)]<|.seq (qS [qm 18 0,qq 19 (.cz (u 18)),qf 20 256 19,ql 21 1 20,qn 22 21,qbi 23 .mul 22 8,qm 24 1,qq 25 (.fg (u 24)),qb 26 .leq 23 25]<|qC 26 (qS [qm 27 0,qq 28 (.cz (u 27)),qf 29 256 28,ql 30 1 29,qn 31 30,qmc 32 z0]<|.block 0 (.loop (lR g))) (qS [qmc 10 z0]<|.block 2 (.loop (lS g))))<|.seq (qS [qm 81 6,qq 82 (.un .not (u 81))]<|qC 82 (qS [qm 83 1,qm 4 83]<|.ret) (.skip))<|qS [qm 84 5,qq 85 (.mks 1 1 [(.int .u8 0)] (u 84) (u 84)),qm 12 85]<|qS [qmc 13 z0]<|.seq (qS [qmc 14 z0]<|.block 4 (.loop (lU g)))<|qS [qm 120 12,qq 121 (.conv .b2s (u 120)),qm 4 121]<|.ret⟩
theorem aEp{f:UInt8->Option Str}{c:UInt8}{t:Str}(h:f c=QQ t):aEm f c.toNat=.sl QT (aJ t):=by unfold aEm;simp_all
theorem aIy{f:UInt8->Option Str}{c:UInt8}(h:f c=N2):aEm f c.toNat=.ar:=by unfold aEm;simp_all
theorem rA(t:Str):(aJ t).length=t.length:=AF ..
theorem zM(c:UInt8)(t:Str):aJ (c::t)=[.int .u8 ((c.toNat:Nat):Int)]::aJ t:=rfl
section
variable {A:af}{g:SN}
theorem aNa(h:Has A g "aa" (dB g))(hg:g "aa" = 397)(hc:A.bq (g "U")=QQ aE7) (ps:List (UInt8×Str)) (h0:2<=ps.length) (h1:ps.length<=1000) (hd:(ps.map EM).Nodup) (hp:∀p∈ps,2<=p.2.length/\p.2.length<=1000):aM8 A 397 ps:=by
 intro H b k s hb hk hs;rw[<- hg];have P0:=getElem?_lt hb;have ow:=getElem?_lt hk;have gb:∀L,(H++L)[b]? = QQ (.box 1 (bsr (gI ps) (.sr k 1 ps.length))):=fun L=>by grind
 have gk:∀L,(H++L)[k]? = QQ (.vec 1 1 (ps.reverse.map fun p=>[.str [p.1]])):=fun L=>by grind
 have R4:∀(c:UInt8) (H:LO),aG A (g "U") [.str s,.str [c]] H=QQ (vi (s.count c:Nat),H,[]):=fun c H=>dT (by rw[hc];rfl);have Fm:∀c t,gI ps c=QQ t->2<=t.length/\t.length<=1000:=fun c t e=>hp _ (aDg e);have Io:∀u:Str,(nS (gI ps) u).length<=1000*u.length:=aDf (fun c t e=>(Fm c t e).2) omT;have H8:((ps.reverse.map fun p=>[AV.str [p.1]])).length=ps.length:=siT;have Lf:AR.wrap ((ps.length:Int)*8)=(ps.length:Int)*8:=wrap_i64 omT omT;refine h.call ?_;simp only[dB];simp only[go_sem,↓aB,seval,gb,pH,aJq,Lf];refine xX (W:=[27,28,29,30,31,32,33,34,35,8,36,37,38,9,39,40,41,42,43,44,45,46,47,48,49,50,51,52,53,5,6,54,32,10,55,56,57,58,61,62,63,11,64,65,66,67,68,69,70,71,72,73,74,75,76,77,78,79,80,5,6,59,60,10])
  (fun ρ' H' ba=>ba=[]/\H'=H++[.gone 0]/\ρ' 5=vi ((nS (gI ps) s).length:Nat)/\ρ' 6=.bool (s.any fun c=>(gI ps c).isSome)) rfT (fun fo=>?_) (fun fo=>?_) ?_
 ·let qs:=ps.reverse
  have Lg:(qs.map EM).Nodup:=by grind
  have Cs:qs.length=ps.length:=List.length_reverse;have Lh:∀i (hi:i<ps.length),qs[i]'omT∈ps:=fun i hi=>JW.1 (AS (by omega:i<qs.length));have Ip:∀c,gI qs c=gI ps c:=fun c=>aN8 hd;have Iq:∀i u,(nS (gI (qs.take i)) u).length<=1000*u.length:=fun i u=>aDf (fun c t e=>(hp _ (JW.1 (List.mem_of_mem_take (aDg e)))).2) omT u;simp only[go_sem,↓aB,seval,gb,pH,aJq];refine bJ (id:=0) (fun i ρ1 H1 wr=>wr=[]/\H1=H++[.gone 0]/\ρ1 32=vi ((i:Nat):Int)/\ρ1 5=vi ((nS (gI (qs.take i)) s).length:Nat)/\ρ1 6=.bool (s.any fun c=>(gI (qs.take i) c).isSome)) ps.length
   (fun ρ1 H1 wr=>wr=[]/\H1=H++[.gone 0]/\ρ1 5=vi ((nS (gI ps) s).length:Nat)/\ρ1 6=.bool (s.any fun c=>(gI ps c).isSome))
   bIv rfl ⟨rfl,rfl,rfl,by rw[AE,aGJ (f:=gI []) fun c _=>rfl];rfl,by
    rw[AE,show (s.any fun c=>(gI [] c).isSome)=QT from by rw[KH];intro c _;simp[gI]];rfl⟩ ?_ ?_
  ·rintro i ρ1 H1 dc mg ⟨rfl,rfl,e32,e5,e6⟩ hf;have e30:ρ1 30=.sr k 1 ps.length:=hf 30 rfl;have e31:ρ1 31=vi (ps.length:Nat):=hf 31 rfl;have e1:ρ1 1=.str s:=hf 1 rfl;have e0:ρ1 0=.ptr b 1 0:=hf 0 rfl;simp only[go_sem,↓aB,seval,e32,e31];refine aD (fun hb=>?_) (fun hb=>?_)
   ·have hlt:i<ps.length:=by grind
    have Fo:i<qs.length:=omT;obtain⟨m1,m2⟩:=hp _ (Lh i hlt);have Ct:qs[i].1∉(qs.take i).map EM:=by have:=Lg;rw[<- IQ (i+1) qs,oG Fo,DQ,DQ]at this;grind
    have cn:((ps.reverse.map fun p=>[AV.str [p.1]]))[i]? = QQ [.str [qs[i].1]]:=by grind
    have gq:(0:Int)<=(i:Int):=omT;have lx:(i:Int)<(ps.length:Int):=omT;have kx:((i:Int)).toNat=i:=omT;have dy:=wS (i:=i) omT;have mb:=aKS Ct s;have mw:=aN9 Ct s;rw[<- oG Fo]at mb mw;have Om:=Iq (i+1) s;have On:=Iq i s;have F5:s.count qs[i].1<=s.length:=List.count_le_length;have bc:aEm (gI ps) qs[i].1.toNat=.sl QT (aJ qs[i].2):=aEp (by
     rw[<- Ip];have:gI (qs.take (i+1)) qs[i].1=QQ qs[i].2:=by rw[oG Fo,vZ Ct,Zy rfl]
     grind [aKR,IQ])
    generalize qs[i]=q at *;obtain⟨c,t⟩:=q;dsimp only at mb mw F5 m1 m2 Ct cn bc;have jg:(0:Int)<=((c.toNat:Nat):Int):=omT;have mj:((c.toNat:Nat):Int)<256:=by have:=EC c;omega
    have D2:(((c.toNat:Nat):Int)).toNat=c.toNat:=omT;have nc:c.toNat+1<=257:=by grind
    simp only[go_sem,↓aB,seval,e32,e30,e1,gq,lx,kx,gk,H8,cn,R4];refine aD (fun dp=>?_) (fun dp=>?_)
    ·have bl:s.count c≠0:=by grind
     have sx:(s.count c:Int)*((t.length:Int) - 1)<=1000000:=by grind
     have Li:0<=(s.count c:Int)*((t.length:Int) - 1):=Int.mul_nonneg omT omT;have gn:AR.wrap ((t.length:Int) - 1)=(t.length:Int) - 1:=wrap_i64 omT omT;have pr:AR.wrap ((s.count c:Int)*((t.length:Int) - 1))=(s.count c:Int)*((t.length:Int) - 1):=wrap_i64 omT omT;have As:AR.wrap (((nS (gI (qs.take i)) s).length:Int)+(s.count c:Int)*((t.length:Int) - 1))=((nS (gI (qs.take (i+1))) s).length:Int):=by rw[<- mb];exact wrap_i64 omT omT
     simp only[go_sem,seval];refine aY (aq:=fK) (H0:=_) (by simp only[go_sem,seval,cS];rfl) rfT ?_;simp only[go_sem,↓aB,seval,fK,e32,e5,e0,gb,pH,aGE,jg,mj,D2,nc,bc,rA,dy,gn,pr,As,BG,BC,FK];grind
    have bl:s.count c=0:=by grind
    rw[bl]at mb mw;simp only[go_sem,↓aB,seval,e32,e5,e6,dy];grind
   have hi:i=ps.length:=by grind
   subst hi;simp only[go_sem,seval];rw[e5,e6,show qs.take ps.length=qs from CH omT,show gI qs=gI ps from funext Ip];grind
  rintro ρ' H' ba ⟨rfl,rfl,e5,e6⟩ hf;simp only[go_sem,seval,e5,e6]
 ·simp only[go_sem,↓aB,seval];refine bJ (id:=2) (fun i ρ1 H1 wr=>wr=[]/\H1=H++[.gone 0]/\ρ1 10=vi ((i:Nat):Int)/\ρ1 5=vi (((s.length:Nat):Int)+((nS (gI ps) (s.take i)).length:Nat) - (i:Nat))/\ρ1 6=.bool ((s.take i).any fun c=>(gI ps c).isSome)) s.length
   (fun ρ1 H1 wr=>wr=[]/\H1=H++[.gone 0]/\ρ1 5=vi ((nS (gI ps) s).length:Nat)/\ρ1 6=.bool (s.any fun c=>(gI ps c).isSome))
   bIv rfl ⟨rfl,rfl,rfl,by
    rw[AE,aS6];show vi ((s.length:Nat):Int)=_;congr 1,rfl⟩ ?_ ?_
  ·rintro i ρ1 H1 dc mg ⟨rfl,rfl,e10,e5,e6⟩ hf;have e1:ρ1 1=.str s:=hf 1 rfl;have e0:ρ1 0=.ptr b 1 0:=hf 0 rfl;simp only[go_sem,↓aB,seval,e10,e1];refine aD (fun hb=>?_) (fun hb=>?_)
   ·have hlt:i<s.length:=by grind
    have gq:(0:Int)<=(i:Int):=omT;have lx:(i:Int)<(s.length:Int):=omT;have kx:((i:Int)).toNat=i:=omT;have dy:=wS (i:=i) omT;have cj:s[i]? = QQ s[i]:=AP hlt;have hL:=Io (s.take i);rw[List.length_take]at hL;have mb:nS (gI ps) (s.take (i+1))=nS (gI ps) (s.take i)++nS (gI ps) [s[i]]:=by rw[oG hlt,xY]
    have mw:((s.take (i+1)).any fun c=>(gI ps c).isSome)=(((s.take i).any fun c=>(gI ps c).isSome) || (gI ps s[i]).isSome):=by rw[oG hlt,List.any_append];simp
    generalize s[i]=c at *;have jg:(0:Int)<=((c.toNat:Nat):Int):=omT;have mj:((c.toNat:Nat):Int)<256:=by have:=EC c;omega
    have D2:(((c.toNat:Nat):Int)).toNat=c.toNat:=omT;have nc:c.toNat+1<=257:=by grind
    cases e:gI ps c with
    |none=>rw[e]at mw;rw[aEo e]at mb;have bc:=aIy e;simp only[go_sem,↓aB,seval,e10,e1,e0,gq,kx,cj,gb,pH,aGE,jg,mj,D2,nc,bc,BC,FK,dy,e5,e6];refine⟨hlt, ?_,by grind⟩;rw[mb,BA];congr 1;grind
    |some t=>
     rw[e]at mw;rw[aFD e]at mb;have bc:=aEp e;obtain⟨m1,m2⟩:=Fm c t e;obtain⟨x,r,rfl⟩:=ER (show t≠[] from fun e=>by grind);rw[zM]at bc;have gn:AR.wrap ((((r.length+1:Nat)):Int) - 1)=(r.length:Int):=by simp at m2;rw[wrap_i64 omT omT];omega
     have pr:AR.wrap (((s.length:Nat):Int)+((nS (gI ps) (s.take i)).length:Nat) - (i:Nat)+(r.length:Int))=((s.length:Nat):Int)+((nS (gI ps) (s.take (i+1))).length:Nat) - ((i+1:Nat):Nat):=by rw[mb,BA,AW];simp at m2;rw[wrap_i64 omT omT];omega
     simp only[go_sem,↓aB,seval,e10,e1,e0,gq,kx,cj,gb,pH,aGE,jg,mj,D2,nc,bc,BC,FK,dy,e5,AW,rA,gn,pr];grind
   have hi:i=s.length:=by grind
   subst hi;simp only[go_sem,seval];grind
  rintro ρ' H' ba ⟨rfl,rfl,e5,e6⟩ hf;simp only[go_sem,seval,e5,e6]
 rintro ρ' H' ba ⟨rfl,rfl,e5,e6⟩ hf;have e1:ρ' 1=.str s:=hf 1 rfl;have e0:ρ' 0=.ptr b 1 0:=hf 0 rfl;cases ea:s.any fun c=>(gI ps c).isSome with
 |false=>
  have hs:nS (gI ps) s=s:=aGJ fun c hm=>by
   rw[KH]at ea;simpa using ea c hm
  rw[ea]at e6;simp only[go_sem,↓aB,seval,e6,e1,hs]
 |true=>
  rw[ea]at e6;generalize hN:(nS (gI ps) s).length=N at *;have Oo:N<=1000000:=by grind
  have R1:bP N 1=true:=by unfold bP;simp;omega
  have Lj:(0:Int)<=(N:Int):=omT;have Lk:((N:Nat):Int).toNat=N:=omT;simp only[go_sem,↓aB,seval,e6,e5,Lj,Lk,R1];refine bJ (id:=4) (fun i ρ1 H1 wr=>wr=[]/\H1=H++[.vec 1 1 (rb (nS (gI ps) (s.take i))++AX (N - (nS (gI ps) (s.take i)).length) [.int .u8 0])]/\ρ1 14=vi ((i:Nat):Int)/\ρ1 13=vi ((nS (gI ps) (s.take i)).length:Nat)) s.length
   (fun ρ1 H1 wr=>wr=[]/\H1=H++[.vec 1 1 (rb (nS (gI ps) s))])
   bIv rfl ⟨rfl,rfl,rfl,rfl⟩ ?_ ?_
  ·rintro i ρ1 H1 dc mg ⟨rfl,rfl,e14,e13⟩ cq;have f1:ρ1 1=.str s:=(cq 1 rfl).trans e1;have f0:ρ1 0=.ptr b 1 0:=(cq 0 rfl).trans e0;have f12:ρ1 12=.sr H.length 1 N:=cq 12 rfl;simp only[go_sem,↓aB,seval,e14,f1];refine aD (fun hb=>?_) (fun hb=>?_)
   ·have hlt:i<s.length:=by grind
    have gq:(0:Int)<=(i:Int):=omT;have lx:(i:Int)<(s.length:Int):=omT;have kx:((i:Int)).toNat=i:=omT;have dy:=wS (i:=i) omT;have cj:s[i]? = QQ s[i]:=AP hlt;have mb:nS (gI ps) (s.take (i+1))=nS (gI ps) (s.take i)++nS (gI ps) [s[i]]:=by rw[oG hlt,xY]
    have H9:(nS (gI ps) (s.take (i+1))).length<=N:=by rw[<- hN];have:=congrArg List.length (xY (f:=gI ps) (s.take (i+1)) (s.drop (i+1)));grind [IQ,BA]
    generalize s[i]=c at *;have jg:(0:Int)<=((c.toNat:Nat):Int):=omT;have mj:((c.toNat:Nat):Int)<256:=by have:=EC c;omega
    have D2:(((c.toNat:Nat):Int)).toNat=c.toNat:=omT;have nc:c.toNat+1<=257:=by grind
    generalize hu:nS (gI ps) (s.take i)=u at *;have Cp:∀L:LO,(H++.vec 1 1 (rb u++AX (N - u.length) [.int .u8 0])::L)[H.length]? = QQ (.vec 1 1 (rb u++AX (N - u.length) [.int .u8 0])):=fun L=>by
     grind
    have Si:u.length<=N->u.length+(AX (N - u.length) [AV.int .u8 0]).length=N:=fun h=>by grind
    have Fp:u.length<=N->iL 0 N (QQ (vi u.length))=QQ u.length:=fun h=>by
     unfold iL vi;dsimp only;rw[Zy ⟨omT,omT⟩];rfl
    cases e:gI ps c with
    |none=>
     rw[aEo e]at mb;have bc:=aIy e;rw[mb,BA,AW,AZ]at H9;have Ll:(0:Int)<=(u.length:Int):=omT;have yw:u.length<=N:=omT;have Lm:(rb u++AX (N - u.length) [AV.int .u8 0])[u.length]? = QQ [.int .u8 0]:=by rw[BU (by grind),kG,GD,IN,Zy omT]
     have lg:(rb u++AX (N - u.length) [AV.int .u8 0]).set u.length [AV.int .u8 (c.toNat:Nat)]=rb (u++[c])++AX (N - (u.length+1)) [.int .u8 0]:=by rw[IP _ _ (by grind),kG,GD,vX,CJ];rw[show N - u.length=(N - (u.length+1))+1 by omega];rfl
     have Au:AR.wrap ((u.length:Int)+1)=((u.length+1:Nat):Int):=by rw[wrap_i64 omT omT];omega
     have yi:(u.length:Int)<(N:Int):=omT;have Ln:((u.length:Int)).toNat=u.length:=omT;simp only[go_sem,↓aB,seval,e14,f1,f0,gq,kx,cj,gb,pH,aGE,jg,mj,D2,nc,bc,BC,FK,dy,f12,e13,Ll,yi,Ln,Au,Si yw,Lm,AW,AZ];refine⟨hlt, ?_⟩;rw[mb,BA,lg];simp
    |some t=>
     rw[aFD e]at mb;have bc:=aEp e;obtain⟨m1,m2⟩:=Fm c t e;rw[mb,BA]at H9;have yw:u.length<=N:=omT;obtain⟨x,r,rfl⟩:=ER (show t≠[] from fun e=>by grind);rw[zM]at bc;rw[AW]at H9 m2;have hle:u.length+(r.length+1)<=N:=H9;have Ir:∀a b:ah,(H++[a]).length=(H++[b]).length:=fun a b=>by simp
     have Au:AR.wrap ((u.length:Int)+((r.length+1:Nat):Int))=((u.length+(r.length+1):Nat):Int):=by rw[wrap_i64 omT omT];omega
     have Fq:List.take u.length (rb u++AX (N - u.length) [AV.int .u8 0])++[AV.int .u8 (x.toNat:Nat)]::aJ r++List.drop (u.length+(r.length+1)) (rb u++AX (N - u.length) [AV.int .u8 0])=rb (u++x::r)++AX (N - (u.length+(r.length+1))) [.int .u8 0]:=by rw[List.take_append_of_le_length (by grind),CH (by grind),List.drop_append,kG,DH (by grind),CW,List.drop_replicate,vX];rw[show N - u.length - (u.length+(r.length+1) - u.length)=N - (u.length+(r.length+1))by omega];rfl
     simp only[go_sem,↓aB,seval,e14,f1,f0,gq,kx,cj,gb,pH,aGE,jg,mj,D2,nc,bc,BC,FK];refine aY (aq:=fM) (H0:=_) (by simp only[go_sem,seval,cS];rfl) rfT ?_;simp only[go_sem,↓aB,seval,fM,e14,f0,gb,pH,aGE,jg,mj,D2,nc,bc,BC,FK,f12,e13,Si yw,Fp yw,rA,hle,Au,dy];refine⟨hlt, ?_⟩;rw[mb,BA,AW,Fq];grind
   have hi:i=s.length:=by grind
   subst hi;simp only[go_sem,seval];rw[hN,GD];simp
  rintro ρ2 H2 en ⟨rfl,rfl⟩ cq;have f12:ρ2 12=.sr H.length 1 N:=cq 12 rfl;have Av:pT (H++[.vec 1 1 (rb (nS (gI ps) s))]) .b2s (.sr H.length 1 N)=QQ (.str (nS (gI ps) s)):=by
   unfold pT dO;dsimp only;rw[BU (AQ _),GD];show (match (if 1=1/\(rb (nS (gI ps) s)).length=N then QQ (rb (nS (gI ps) s))else N2)with
    |some rows=>(cM rows).map AV.str
    |none=>N2)=_
   rw[Zy ⟨rfl,by grind⟩];show (cM (rb _)).map AV.str=_;rw[oO];rfl
  simp only[go_sem,↓aB,seval,f12,Av]
end
section
variable {H X:LO}{ty o v o2 v2 i:Nat}{T:Str}{x:ah}
theorem aTb(c:gf H.length o o2):(PSt X ty o v o2 v2 T)[H.length+i]? = X[H.length+i]? := by unfold PSt;rw[CL (by have:=c.lo2;omega),CL (by have:=c.lo;omega)]
theorem mO(c:gf H.length o o2):(PSt X ty o v o2 v2 T)[H.length]? = X[H.length]? := aTb (i:=0) c
theorem aM9(c:gf H.length o o2):(PSt X ty o v o2 v2 T).set (H.length+i) x=PSt (X.set (H.length+i) x) ty o v o2 v2 T:=by unfold PSt;have h1:=c.lo;have h2:=c.lo2;rw[JR (i:=o2) _ _ omT,JR (i:=o) _ _ omT]
theorem aFE(c:gf H.length o o2):(PSt X ty o v o2 v2 T).set H.length x=PSt (X.set H.length x) ty o v o2 v2 T:=aM9 (i:=0) c
end
def aNb(A:af)(f:Nat)(args:LA)(M:Nat):Prop:=∀(H:LO) (ty o v o2 v2:Nat) (T:Str),gf H.length o o2->T≠[]->T.length+M<=100000000 ->
 ∃T' wr,T'≠[]/\T'.length<=T.length+M/\aG A f (.ptr o v 0::args) (PSt H ty o v o2 v2 T)=QQ (.tup [],PSt H ty o v o2 v2 T',wr)/\Wr2 o o2 wr
theorem aNb.mono{A:af}{f:Nat}{args:LA}{M M':Nat}(h:aNb A f args M)(hm:M<=M'):aNb A f args M':=by intro H ty o v o2 v2 T c hT hb;obtain⟨T',wr,h1,h2,h3⟩:=h H ty o v o2 v2 T c hT omT;grind
def bB2(H:LO)(ty o v o2 v2 N:Nat)(e:bf)(ρ:bN)(H1:LO)(wr:LN):Prop:=
 e=.normal/\∃L T',T'≠[]/\T'.length<=N/\H1=PSt (H++L) ty o v o2 v2 T'/\Wr2 o o2 wr
theorem Has.prt{A:af}{g:SN}{name:String}{fn:bw}(h:Has A g name fn){args:LA}{M:Nat}(R0:fn.results=[])(hN:args.length+1<=fn.ntmps)(hok:∀n,dK fn.ntmps ⟨n,fn.sites⟩ fn.body=QS) (hw:∀(H:LO) (ty o v o2 v2:Nat) (T:Str),gf H.length o o2->T≠[]->T.length+M<=100000000 ->wc A fn.ntmps ⟨H.length,fn.sites⟩ fn.body (pO (.ptr o v 0::args)) (PSt (H++AX fn.sites.length (.gone 0)) ty o v o2 v2 T) [] (bB2 H ty o v o2 v2 (T.length+M)) ⟨⟩):aNb A (g name) args M:=by
 intro H ty o v o2 v2 T c hT hb;have hl:=iZ (H:=H) (ty:=ty) (o:=o) (v:=v) (o2:=o2) (v2:=v2) (T:=T);obtain⟨r,H',wr,h1,h2,T',h3,h4,h5,h6⟩:=h.bp (args:=.ptr o v 0::args) (H:=PSt H ty o v o2 v2 T) (K:=fun r H' wr=>r=.tup []/\∃T',T'≠[]/\T'.length<=T.length+M/\H'=PSt H ty o v o2 v2 T'/\Wr2 o o2 wr) (hN:=Nat.ble_eq_true_of_le (by simpa using hN)) (hok:=hok _) (by
  rw[aEl c,hl,R0];refine iF (fun e ρ H1 wr hh hf=>?_) (hw H ty o v o2 v2 T c hT hb);obtain⟨rfl,L,T',h1,h2,rfl,h3⟩:=hh;simp only[go_sem,↓aB,seval];rw[aM6 c rfl h3];grind)
 grind
theorem bI{A:af}{f:Nat}{args:LA}{M:Nat}(hp:aNb A f args M){X:LO}{ty o v o2 v2:Nat}{T:Str}{H2:LO}{site:Option Nat}{q:Bool}{k:AV×LO×LN->Prop}{tg} (c:gf X.length o o2) (hT:T≠[]) (hb:T.length+M<=100000000) (hk:∀T' wr,T'≠[]->T'.length<=T.length+M->Wr2 o o2 wr->bnd (dY site q H2 (QQ (.tup [],PSt X ty o v o2 v2 T',wr))) k):aCi (dY site q H2 (aG A f (.ptr o v 0::args) (PSt X ty o v o2 v2 T))) k tg:=by obtain⟨T',wr,h1,h2,h3,h4⟩:=hp X ty o v o2 v2 T c hT hb;rw[h3];exact hk T' wr h1 h2 h4
section
variable {A:af}{g:SN}
def jB(g:SN):bw:=⟨18,[],[],.seq (qS [qm 4 0,qq 5 (.cz (u 4)),qf 6 0 5,qc 7 (g "aB") [u 6],qbi 8 .gtr 7 0]<|qC 8 (qR [qm 9 0,qq 10 (.cz (u 9)),qf 11 0 10,qc 12 (g "N") [u 11,uc (.int .u8 10)]]) (.skip))<|.region QT [qm 13 0,qq 14 (.cz (u 13)),qf 15 0 14,qm 16 1,qc 17 (g "h") [u 15,u 16]]⟩
def mP(g:SN):bw:=⟨10,[],[],.region QT [qm 4 0,qq 5 (.cz (u 4)),qf 6 0 5,qm 7 1,qq 8 (.bin .add .no (uc (.str [32])) (u 7)),qc 9 (g "h") [u 6,u 8]]⟩
abbrev uG(g:SN):ag:=qS [qb 9 .lss 8 7]<|.seq (qC 9 (.skip) (.exit 0))<|.seq (.block 1 (qS [qi 10 6 8 1,ql 11 1 10,qm 5 11]<|.region QT [qm 12 0,qm 13 5,qc 14 (g "g") [u 13],qc 15 (g "t") [u 12,u 14]]))<|.region QT [qbi 16 .add 8 1,qm 8 16]
def bIz(g:SN):bw:=⟨17,[],[],qS [qm 6 1,qn 7 6,qmc 8 z0]<|.block 0 (.loop (uG g))⟩
def mR(g:SN):bw:=⟨12,[],[],.region QT [qm 4 0,qq 5 (.bsl 1 [(.str [])] 4 [(0,(.const (.str [92]))),(1,(.const (.str [92,92]))),(2,(.const (.str [34]))),(3,(.const (.str [92,34])))]),qc 6 (g "ar") [u 5],qm 7 1,qc 8 (g "Z") [u 6,u 7],qq 9 (.bin .add .no (uc (.str [34])) (u 8)),qq 10 (.bin .add .no (u 9) (uc (.str [34]))),qc 11 (g "t") [u 4,u 10]]⟩
abbrev zY(g:SN):ag:=qS [qb 9 .lss 8 7]<|.seq (qC 9 (.skip) (.exit 0))<|.seq (.block 1 (qS [qi 10 6 8 2,qla 11 2 10,qq 5 (.alloc [z0,(.str [])]),qs 2 5 11]<|qS [qm 12 0,qc 13 (g "e") [u 12,uc (.str [114,117,110])]]<|qS [qm 14 0,qf 15 0 5,ql 16 1 15,qq 17 (.bsl 1 [z0] 1 [(0,(.tmp 16))]),qc 18 (g "o") [u 14,u 17]]<|.region QT [qm 19 0,qf 20 1 5,ql 21 1 20,qc 22 (g "A") [u 19,u 21]]))<|.region QT [qbi 23 .add 8 1,qm 8 23]
abbrev zZ:LN:=[9,10,11,5,12,13,14,15,16,17,18,19,20,21,22,23,8]
def jC(g:SN):bw:=⟨24,[5],[],qS [qm 6 1,qn 7 6,qmc 8 z0]<|.block 0 (.loop (zY g))⟩
structure OutFns(A:af)(g:SN)(tB tP:Nat):Prop where
 ws:Has A g "h" (cO g)
 wb:Has A g "N" (gW g)
 len:Has A g "aB" (iY g)
 cc:A.bq (g "u")=QQ (fB tB tP)
 itoa:A.bq (g "g")=QQ sC
 line:Has A g "e" (jB g)
 word:Has A g "t" (mP g)
 numbers:Has A g "o" (bIz g)
 text:Has A g "A" (mR g)
variable {tB tP:Nat}
theorem jX{H L:LO}{ty o v o2 v2 N:Nat}{T':Str}{wr:LN}{ρ:bN}(h1:T'≠[])(h2:T'.length<=N)(h3:Wr2 o o2 wr):bB2 H ty o v o2 v2 N .normal ρ (PSt (H++L) ty o v o2 v2 T') wr:=⟨rfl,L,T',h1,h2,rfl,h3⟩
theorem aCq{H:LO}{ty o v o2 v2 N:Nat}{T':Str}{wr:LN}{ρ:bN}(h1:T'≠[])(h2:T'.length<=N)(h3:Wr2 o o2 wr):bB2 H ty o v o2 v2 N .normal ρ (PSt H ty o v o2 v2 T') wr:=⟨rfl,[],T',h1,h2,by rw[AJ],h3⟩
theorem aPS{T s:Str}(h:T≠[]):T++s≠[]:=fun e=>h (List.append_eq_nil_iff.1 e).1
theorem pY(F:OutFns A g tB tP)(s:Str)(hs:s.length<=1000000):aNb A (g "t") [.str s] (s.length+1):=by refine F.word.prt rfl (by simp[mP]) (fun n=>bIv) ?_;intro H ty o v o2 v2 T c hT hb;simp only[mP];obtain⟨wr,h1,h2⟩:=vY F.ws F.cc (ty:=ty) (v:=v) (v2:=v2) (T:=T) (s:=32::s) c soT;have ha:kJ .add .no (.str [32]) (.str s)=QQ (.str (32::s)):=kE soT;simp only[go_sem,↓aB,seval,AJ,ha,h1];exact aCq (aPS hT) siT (bZ kT h2)
theorem fQ(F:OutFns A g tB tP)(s:Str)(hs:s.length<=10000):aNb A (g "e") [.str s] (s.length+1):=by refine F.line.prt rfl (by simp[jB]) (fun n=>bIv) ?_;intro H ty o v o2 v2 T c hT hb;have hl:=aS3 F.len (ty:=ty) (v:=v) (v2:=v2) (T:=T) c;obtain⟨wr,h1,h2⟩:=tX F.wb F.cc (ty:=ty) (v:=v) (v2:=v2) (T:=T) (b:=10) c omT;obtain⟨ba,h3,h4⟩:=vY F.ws F.cc (ty:=ty) (v:=v) (v2:=v2) (T:=T++[10]) (s:=s) c soT;have hp:0<T.length:=MY.2 hT;have h1:aG A (g "N") [.ptr o v 0,.int .u8 10] (PSt H ty o v o2 v2 T)=QQ (.bj,PSt H ty o v o2 v2 (T++[10]),wr):=h1;have hd:decide ((0:Int)<(T.length:Int))=true:=soT;simp only[jB];simp only[go_sem,↓aB,seval,AJ,hl,hd,h1,h3];exact aCq (aPS (aPS hT)) siT (bZ (bZ kT h2) h4)
theorem aPT(h:A.bq (g "g")=QQ sC){n:Int}(h0 : -1000000<n)(h1:n<1000000):∃s:Str,s.length<=8/\∀H,aG A (g "g") [vi n] H=QQ (.str s,H,[]):=by
 have nl:∀k m,(nC k m).length<=k:=by
  intro k
  induction k with
  |zero=>intro m;exact AQ _
  |succ k ih=>grind [nC]
 by_cases hn:0<=n
 ·refine⟨nC 7 n.toNat,by grind,fun H=>dT ?_⟩;simp_all [sC,Zy]
 refine⟨45::nC 7 (-n).toNat,by grind,fun H=>dT ?_⟩;simp_all [sC,Zx,Zy,omT]
theorem aKT{k m:Nat}(h:m<100):(nC (k+2) m).length<=2:=by
 unfold nC;split
 ·simp
 unfold nC;grind
theorem aOh(h:A.bq (g "g")=QQ sC){n:Int}(h0 : -100<n)(h1:n<100):∃s:Str,s.length+1<=4/\∀H,aG A (g "g") [vi n] H=QQ (.str s,H,[]):=by
 by_cases hn:0<=n
 ·refine⟨nC 7 n.toNat,by have:(nC 7 n.toNat).length<=2:=aKT (k:=5) omT;omega,fun H=>dT ?_⟩;rw[h];show sC [.int .i64 n] H=_;simp only[sC];grind
 refine⟨45::nC 7 (-n).toNat,by have:(nC 7 (-n).toNat).length<=2:=aKT (k:=5) omT;simp;omega,fun H=>dT ?_⟩;rw[h];show sC [.int .i64 n] H=_;simp only[sC];grind
theorem aF1(F:OutFns A g tB tP)(l:List Int)(b:Bool)(M:Nat)(hM:M<=9)(hl:l.length<=10000)(hs:∀n∈l,∃s:Str,s.length+1<=M/\∀H,aG A (g "g") [vi n] H=QQ (.str s,H,[])):aNb A (g "o") [.sl b (l.map fun n=>[vi n])] (l.length*M):=by
 refine F.numbers.prt rfl (by simp[bIz]) (fun n=>bIv) ?_;intro H ty o v o2 v2 T c hT hb;have ax:(l.map fun n=>[vi n]).length=l.length:=AF ..;simp only[bIz];simp only[go_sem,↓aB,seval,AJ,ax];refine bJ (id:=0) (fun i ρ1 H1 wr=>∃T',H1=PSt H ty o v o2 v2 T'/\T'≠[]/\T'.length<=T.length+i*M/\Wr2 o o2 wr/\ρ1 8=vi ((i:Nat):Int)) l.length
  (fun ρ1 H1 wr=>∃T',H1=PSt H ty o v o2 v2 T'/\T'≠[]/\T'.length<=T.length+l.length*M/\Wr2 o o2 wr)
  bIv rfl ⟨T,rfl,hT,omT,kT,rfl⟩ ?_ ?_
 ·rintro i ρ1 H1 dc mg ⟨T1,rfl,g1,g2,g3,e8⟩ hf;have e6:ρ1 6=.sl b (l.map fun n=>[vi n]):=hf 6 rfl;have e7:ρ1 7=vi (l.length:Nat):=hf 7 rfl;have e0:ρ1 0=.ptr o v 0:=hf 0 rfl;simp only[go_sem,↓aB,seval,e8,e7];refine aD (fun hb=>?_) (fun hb=>?_)
  ·have hlt:i<l.length:=by grind
   have gq:(0:Int)<=(i:Int):=omT;have lx:(i:Int)<(l.length:Int):=omT;have kx:((i:Int)).toNat=i:=omT;have dy:=wS (i:=i) omT;have cj:(l.map fun n=>[vi n])[i]? = QQ [vi l[i]]:=by grind
   obtain⟨s,lq,nu⟩:=hs _ (AS hlt);have Y0:i*M+M<=l.length*M:=by rw[<- JS];exact BO _ hlt
   simp only[go_sem,↓aB,seval,e8,e6,e0,gq,kx,cj,nu];refine bI ((pY F s omT).mono (M':=M) omT) c g1 omT ?_;rintro T2 en k1 k2 k3;simp only[go_sem,↓aB,seval,e8,dy];exact⟨hlt,T2,rfl,k1,by grind,bZ g3 k3⟩
  have hi:i=l.length:=by grind
  subst hi;simp only[go_sem,seval];grind
 rintro ρ' H' ba ⟨T1,rfl,g1,g2,g3⟩ hf;simp only[go_sem,seval];exact aCq g1 g2 g3
theorem mS(F:OutFns A g tB tP)(l:List Int)(b:Bool)(hl:l.length<=10000)(hs:∀n∈l,-1000000<n/\n<1000000):aNb A (g "o") [.sl b (l.map fun n=>[vi n])] (l.length*9):=
 aF1 F l b 9 (AQ _) hl fun n hn=>by
  obtain⟨s,h1,h2⟩:=aPT F.itoa (hs n hn).1 (hs n hn).2;grind
def mQ:List (UInt8×Str):=[(92,[92,92]),(34,[92,34])]
structure TextFns(A:af)(g:SN)(tB tP:Nat) extends OutFns A g tB tP where
 R5:Has A g "ar" (jA g)
 rep:mh A g
 bsr:Has A g "aa" (dB g)
 num:g "aa" = 397
 cnt:A.bq (g "U")=QQ aE7
theorem aPU:∀p∈mQ,2<=p.2.length/\p.2.length<=1000:=deT
theorem aY7(s:Str):(nS (gI mQ) s).length<=2*s.length:=aDf (fun c t e=>by
 have:=aDg e;have h2:∀p∈mQ,p.2.length<=2:=deT;grind) omT s
theorem sZ(F:TextFns A g tB tP)(s:Str)(hs:s.length<=1000):aNb A (g "A") [.str s] (2*s.length+3):=by
 refine F.text.prt rfl (by simp[mR]) (fun n=>bIv) ?_;intro H ty o v o2 v2 T c hT hb;have hX:=iZ (H:=H) (ty:=ty) (o:=o) (v:=v) (o2:=o2) (v2:=v2) (T:=T);have h1:=zL F.R5 mQ deT deT (PSt H ty o v o2 v2 T);have hB:=aNa F.bsr F.num F.cnt mQ deT deT deT aPU;have ho:(PSt H ty o v o2 v2 T++[.vec 1 1 (fP mQ),.box 1 [.int .u32 0,.int .i32 0,.int .u32 0,.bj,.sr (PSt H ty o v o2 v2 T).length 1 (fP mQ).length]])[H.length+1]? = QQ (aIw 1 (PSt H ty o v o2 v2 T).length 1 (fP mQ).length):=by rw[<- hX,BU omT,show (PSt H ty o v o2 v2 T).length+1 - (PSt H ty o v o2 v2 T).length=1 by omega];rfl
 have zw:(PSt H ty o v o2 v2 T++[.vec 1 1 (fP mQ),.box 1 [.int .u32 0,.int .i32 0,.int .u32 0,.bj,.sr (PSt H ty o v o2 v2 T).length 1 (fP mQ).length]])[(PSt H ty o v o2 v2 T).length]? = QQ (.vec 1 1 (fP mQ)):=by grind
 have h2:=aDd F.rep hB deT deT deT (fun p hp=>⟨by have:=(aPU p hp).1;omega,(aPU p hp).2⟩) hs ho zw;rw[hX]at h1 h2;rw[aEl c]at h1 h2;have cn:[[AV.str [92]],[AV.str [92,92]],[AV.str [34]],[AV.str [92,34]]]=fP mQ:=rfl;rw[aM9 c,aEl (c.mono siT),eS,CJ]at h2;generalize Oq:[ah.vec 1 1 (fP mQ),ah.box 1 [.int .u32 0,.int .i32 0,.int .u32 0,.bj,.sr H.length 1 (fP mQ).length]]=L1 at h1 h2;generalize yx:(L1.set 1 _++uD mQ _)=L2 at h2;clear ho zw;generalize hu:nS (gI mQ) s=u at *;have R6:u.length<=2*s.length:=by rw[<- hu];exact aY7 s
 have ha:kJ .add .no (.str [34]) (.str u)=QQ (.str (34::u)):=kE soT;have dp:kJ .add .no (.str (34::u)) (.str [34])=QQ (.str (34::u++[34])):=kE soT;simp only[mR];simp only[go_sem,↓aB,seval,AJ,cn,h1,h2,ha,dp];refine bI (pY F.toOutFns (34::(u++[34])) soT) (c.mono siT) hT soT ?_;rintro T2 en k1 k2 k3;simp only[AW,BA,AZ]at k2;have od:bE H.length [] [H.length+1]=[]:=aKs (i:=1);simp only[go_sem,↓aB,seval];exact jX k1 omT (bZ kT k3)
end
def aOi:LA:=[[],[],[110,101,103],[43],[45],[42],[47],[94],[114,111,111,116],[61],[60]].map AV.str
def aPV:LA:=[[100,111,116],[108,105,110,101],[97,114,101,97]].map AV.str
abbrev aF2(id id2 ic lc c1 c2:Nat)(body:ag):ag:=
 qS [⟨QQ c1,.bin .lss .no (.tmp ic) (.tmp lc),N2,[]⟩] <|.seq (.cond (.tmp c1) .skip (.exit id)) <|.seq (.block id2 body) <|.region QT [⟨QQ c2,.bin .add .no (.tmp ic) (.const (vi 1)),N2,[]⟩,⟨QQ ic,.mov (.tmp c2),N2,[]⟩]
def bCl(P:LO->LN->Prop)(H:LO)(ty o v o2 v2 N:Nat)(e:bf)(ρ:bN)(H1:LO)(wr:LN):Prop:=
 e=.normal/\∃L T',P L wr/\T'≠[]/\T'.length<=N/\H1=PSt (H++L) ty o v o2 v2 T'
theorem kU{A:af}{N:Nat}{c:Ctx}{H L:LO}{ty o v o2 v2:Nat}{T:Str}{ρ:bN}{wr:LN}{Q:bf->bN->LO->LN->Prop}(P:LO->LN->Prop) (id id2 ic lc c1 c2 n m:Nat) {body:ag} {W:LN} {tg:Tg (A,N,c,aF2 id id2 ic lc c1 c2 body,Q)} (hW:xJ (aF2 id id2 ic lc c1 c2 body)=W) (hok:dK N c (aF2 id id2 ic lc c1 c2 body)=QS) (hs:(W.contains lc || (xJ body).contains ic || (ic==c1) || (lc==c1))=QT) (hi:ρ ic=vi 0) (hl:ρ lc=vi n) (hn:n<=1000000) (hT:T≠[]) (hP:P L wr) (gh:∀i ρ1 L1 T1 dc,i<n->ρ1 ic=vi i->(∀t,W.contains t=QT->ρ1 t=ρ t)->P L1 dc->T1≠[]->T1.length<=T.length+i*m ->wc A N c body ρ1 (PSt (H++L1) ty o v o2 v2 T1) dc (bCl P H ty o v o2 v2 (T1.length+m)) ⟨⟩) (hQ:∀ρ' L' T' ba,P L' ba->T'≠[]->T'.length<=T.length+n*m->(∀t,W.contains t=QT->ρ' t=ρ t)->Q (.exit id) ρ' (PSt (H++L') ty o v o2 v2 T') ba):wl A N c (aF2 id id2 ic lc c1 c2 body) ρ (PSt (H++L) ty o v o2 v2 T) wr Q tg:=by
 simp only[MO,beq_eq_false_iff_ne]at hs;obtain⟨⟨⟨s1,s2⟩,s3⟩,s4⟩:=hs;refine bJ (id:=id) (W:=W) (fun i ρ1 H1 wr=>∃L1 T1,H1=PSt (H++L1) ty o v o2 v2 T1/\P L1 wr/\T1≠[]/\T1.length<=T.length+i*m/\ρ1 ic=vi i) n
  (fun ρ1 H1 wr=>∃L1 T1,H1=PSt (H++L1) ty o v o2 v2 T1/\P L1 wr/\T1≠[]/\T1.length<=T.length+n*m)
  hok hW ⟨L,T,rfl,hP,hT,omT,hi⟩ ?_ ?_
 ·rintro i ρ1 H1 dc mg ⟨L1,T1,rfl,g0,g1,g2,e8⟩ hf;have e7:ρ1 lc=vi n:=by grind
  simp only[go_sem,↓aB,seval,e8,e7];refine aD (fun hb=>?_) (fun hb=>?_)
  ·have hlt:i<n:=by grind
   have dy:=wS (i:=i) omT;have hx:∀x,upd ρ1 c1 x ic=vi i:=fun x=>by rw[aAk s3];exact e8
   have Pw:∀x t,W.contains t=QT->upd ρ1 c1 x t=ρ t:=fun x t ht=>by
    grind [aAk,xJ,bIA]
   simp only[go_sem,seval];refine iF (fun e ρ' H' ba hh xb=>?_) (gh i _ L1 T1 dc hlt (hx _) (Pw _) g0 g1 g2);obtain⟨rfl,L2,T2,k0,k1,k2,rfl⟩:=hh;have e9:ρ' ic=vi i:=by grind
   simp only[go_sem,↓aB,seval,e9,dy];grind
  have hi:i=n:=by grind
  subst hi;simp only[go_sem,seval];grind
 grind
def bCm(H:LO)(ty o v o2 v2 k N:Nat)(e:bf)(ρ:bN)(H1:LO)(wr:LN):Prop:=
 e=.normal/\∃L T',L.length=k/\T'≠[]/\T'.length<=N/\H1=PSt (H++L) ty o v o2 v2 T'/\Wr2 o o2 wr
theorem pZ{A:af}{N:Nat}{c:Ctx}{H L:LO}{ty o v o2 v2:Nat}{T:Str}{ρ:bN}{wr:LN}{Q:bf->bN->LO->LN->Prop} (id id2 ic lc c1 c2 n m:Nat) {body:ag} {W:LN} {tg:Tg (A,N,c,aF2 id id2 ic lc c1 c2 body,Q)} (hW:xJ (aF2 id id2 ic lc c1 c2 body)=W) (hok:dK N c (aF2 id id2 ic lc c1 c2 body)=QS) (hs:(W.contains lc || (xJ body).contains ic || (ic==c1) || (lc==c1))=QT) (hi:ρ ic=vi 0) (hl:ρ lc=vi n) (hn:n<=1000000) (hT:T≠[]) (ma:Wr2 o o2 wr) (gh:∀i ρ1 L1 T1 dc,i<n->ρ1 ic=vi i->(∀t,W.contains t=QT->ρ1 t=ρ t)->L1.length=L.length->T1≠[]->T1.length<=T.length+i*m->Wr2 o o2 dc ->wc A N c body ρ1 (PSt (H++L1) ty o v o2 v2 T1) dc (bCm H ty o v o2 v2 L.length (T1.length+m)) ⟨⟩) (hQ:∀ρ' L' T' ba,L'.length=L.length->T'≠[]->T'.length<=T.length+n*m->Wr2 o o2 ba->(∀t,W.contains t=QT->ρ' t=ρ t)->Q (.exit id) ρ' (PSt (H++L') ty o v o2 v2 T') ba):wl A N c (aF2 id id2 ic lc c1 c2 body) ρ (PSt (H++L) ty o v o2 v2 T) wr Q tg:=by
 refine kU (fun L1 dc=>L1.length=L.length/\Wr2 o o2 dc) id id2 ic lc c1 c2 n m hW hok hs hi hl hn hT ⟨rfl,ma⟩ ?_ ?_
 ·rintro i ρ1 L1 T1 dc hlt h1 h2 ⟨h3,h6⟩ h4 h5;refine iF (fun e ρ' H' ba hh xb=>?_) (gh i ρ1 L1 T1 dc hlt h1 h2 h3 h4 h5 h6);obtain⟨rfl,L2,T2,k0,k1,k2,rfl,k3⟩:=hh;exact⟨rfl,L2,T2,⟨k0,k3⟩,k1,k2,rfl⟩
 rintro ρ' L' T' ba ⟨h1,h4⟩ h2 h3 hf;exact hQ ρ' L' T' ba h1 h2 h3 h4 hf
abbrev xZ(g:SN):ag:=qS [qb 29 .lss 28 27]<|.seq (qC 29 (.skip) (.exit 4))<|.seq (.block 5 (qS [qi 30 26 28 3,qla 31 3 30,qq 9 (.alloc [z0,z0,z0]),qs 3 9 31]<|.region QT [qm 32 0,qf 33 0 9,ql 34 1 33,qf 35 1 9,ql 36 1 35,qf 37 2 9,ql 38 1 37,qq 39 (.bsl 1 [z0] 3 [(0,(.tmp 34)),(1,(.tmp 36)),(2,(.tmp 38))]),qc 40 (g "o") [u 32,u 39]]))<|.region QT [qbi 41 .add 28 1,qm 28 41]
abbrev yA:LN:=[29,30,31,9,32,33,34,35,36,37,38,39,40,41,28]
abbrev yB(g:SN):ag:=qS [qb 21 .lss 20 19]<|.seq (qC 21 (.skip) (.exit 2))<|.seq (.block 3 (qS [qi 22 18 20 1,ql 23 1 22,qm 7 23]<|qS [qm 24 0,qc 25 (g "e") [u 24,uc (.str [98,97,114])]]<|qS [qm 26 7,qn 27 26,qmc 28 z0]<|.block 4 (.loop (xZ g))))<|.region QT [qbi 42 .add 20 1,qm 20 42]
abbrev yC:LN:=[21,22,23,7,24,25,26,27,28,29,30,31,9,32,33,34,35,36,37,38,39,40,41,28,42,20]
abbrev yD(g:SN):ag:=qS [qb 13 .lss 12 11]<|.seq (qC 13 (.skip) (.exit 0))<|.seq (.block 1 (qS [qi 14 10 12 1,ql 15 1 14,qm 5 15]<|qS [qm 16 0,qc 17 (g "e") [u 16,uc (.str [104,97,110,100])]]<|qS [qm 18 5,qn 19 18,qmc 20 z0]<|.block 2 (.loop (yB g))))<|.region QT [qbi 43 .add 12 1,qm 12 43]
abbrev yE:LN:=[13,14,15,5,16,17,18,19,20,21,22,23,7,24,25,26,27,28,29,30,31,9,32,33,34,35,36,37,38,39,40,41,28,42,20,43,12]
def hJ(g:SN):bw:=⟨44,[9],[],qS [qm 10 1,qn 11 10,qmc 12 z0]<|.block 0 (.loop (yD g))⟩
def wA(g:SN):ag:=.block 0 (qS [qbi 9 .eql 7 0,qm 8 9]<|qC 8 (qS [qf 10 1 1,ql 11 1 10,qc 12 (g "g") [u 11],qm 2 12]<|.ret) (qS [qbi 14 .eql 7 1,qm 13 14]<|qC 13 (qS [qf 15 1 1,ql 16 1 15,qq 17 (.bin .add .no (ui 97) (u 16)),qq 18 (.conv (.toInt .i32) (u 17)),qq 19 (.conv .i2s (u 18)),qm 2 19]<|.ret) (.skip)))
abbrev aEq(g:SN):ag:=qS [qb 29 .lss 28 27]<|.seq (qC 29 (.skip) (.exit 1))<|.seq (.block 2 (qS [qi 30 26 28 3,qla 31 3 30,qq 5 (.alloc [z0,z0,(.sl QS [])]),qs 3 5 31]<|.region QT [qm 32 3,qla 33 3 5,qc 34 (g "aU") [u 33],qq 35 (.bin .add .no (uc (.str [32])) (u 34)),qb 36 .add 32 35,qm 3 36]))<|.region QT [qbi 37 .add 28 1,qm 28 37]
def uH(g:SN):bw:=⟨40,[5],[.tmp 2],qS [qx 1 3 0,qmc 2 (.str [])]<|.seq (qS [qf 6 0 1,ql 7 1 6]<|wA g)<|qS [qf 20 0 1,ql 21 1 20,qq 22 (.iaA 11 1 (uc (.ep aOi 0)) (u 21)),ql 23 1 22,qq 24 (.bin .add .no (uc (.str [40])) (u 23)),qm 3 24]<|.seq (qS [qf 25 2 1,ql 26 1 25,qn 27 26,qmc 28 z0]<|.block 1 (.loop (aEq g)))<|qS [qm 38 3,qq 39 (.bin .add .no (u 38) (uc (.str [41]))),qm 2 39]<|.ret⟩
section
variable {A:af}{g:SN}{tB tP:Nat}
theorem aSn{i n m:Nat}(h:i<n):i*m+m<=n*m:=by rw[<- JS];exact BO _ h
theorem aNc(F:TextFns A g tB tP)(h:Has A g "aA" (jC g))(l:List mr)(m:Nat)(hl:l.length<=16)(hr:∀r∈l,(r.text.length<=200 /\ -1000000<r.gg/\r.gg<1000000)/\2*r.text.length+20<=m):aNb A (g "aA") [.sl QT (l.map cZ)] (l.length*m):=by
 refine h.prt rfl (by simp[jC]) (fun n=>bIv) ?_;intro H ty o v o2 v2 T c hT hb;have ax:(l.map cZ).length=l.length:=AF ..;simp only[jC];simp only[go_sem,↓aB,seval,ax];refine pZ 0 1 8 7 9 23 l.length m (W:=zZ) (L:=[.gone 0]) rfT bIv rfl rfl rfl omT hT kT ?_ ?_
 ·rintro i ρ1 L1 T1 dc hlt e8 hf hL g1 g2 g3;obtain⟨x,rfl⟩:=FQ.1 hL;have e6:ρ1 6=.sl QT (l.map cZ):=hf 6 rfl;have e0:ρ1 0=.ptr o v 0:=hf 0 rfl;have gq:(0:Int)<=(i:Int):=omT;have lx:(i:Int)<(l.length:Int):=omT;have kx:((i:Int)).toNat=i:=omT;have cj:=mgE cZ hlt;obtain⟨⟨q1,q2,q3⟩,q4⟩:=hr _ (AS hlt);generalize l[i]=r at *;have dp:=aSn (m:=m) hlt;simp only[go_sem,↓aB,seval,e8,e6,e0,gq,kx,cj,cZ,mO c,aFE c,iZ];have c':∀y:ah,gf (H++[y]).length o o2:=fun y=>c.mono siT;have I0:=mS F.toOutFns [r.gg] QT siT soT;refine bI (fQ F.toOutFns [114,117,110] deT) (c' _) g1 (by grind) ?_;rintro T2 en k1 k2 k3;simp only[go_sem,↓aB,seval,e0,mO c,AD,AA,AE];refine bI I0 (c' _) k1 (by grind) ?_;rintro T3 wr3 m1 m2 m3;simp only[go_sem,↓aB,seval,e0,mO c,AB,AD,AA,AE];refine bI (sZ F r.text omT) (c' _) m1 (by grind) ?_;rintro T4 wr4 n1 n2 n3;simp only[go_sem,↓aB,seval];refine⟨rfl,_,T4, ?_,n1, ?_,rfl,bZ (bZ (bZ g3 k3) m3) n3⟩
  ·rfl
  grind
 rintro ρ' L' T' ba k0 k1 k2 k3 hf;simp only[go_sem,seval];exact jX k1 k2 k3
theorem aPW(F:TextFns A g tB tP)(h:Has A g "br" (hJ g))(l:List (List (List ct)))(m k:Nat)(hl:l.length<=16)(hb:∀x∈l,x.length<=16/\5+x.length*k<=m/\∀b∈x,(b.length<=16/\∀n∈b,aGv n=QS)/\4+b.length*12<=k):aNb A (g "br") [.sl QT (l.map bS)] (l.length*m):=by
 refine h.prt rfl (by simp[hJ]) (fun n=>bIv) ?_;intro H ty o v o2 v2 T c hT Aw;have ax:(l.map bS).length=l.length:=AF ..;have c':∀y:ah,gf (H++[y]).length o o2:=fun y=>c.mono siT;simp only[hJ];simp only[go_sem,↓aB,seval,ax];refine pZ 0 1 12 11 13 43 l.length m (W:=yE) (L:=[.gone 0]) rfT bIv rfl rfl rfl omT hT kT ?_ ?_
 ·rintro i ρ1 L1 T1 dc hlt e8 hf hL g1 g2 g3;obtain⟨x,rfl⟩:=FQ.1 hL;have e10:ρ1 10=.sl QT (l.map bS):=hf 10 rfl;have e0:ρ1 0=.ptr o v 0:=hf 0 rfl;have gq:(0:Int)<=(i:Int):=omT;have lx:(i:Int)<(l.length:Int):=omT;have kx:((i:Int)).toNat=i:=omT;have cj:=mgE bS hlt;obtain⟨q1,q3,q2⟩:=hb _ (AS hlt);generalize l[i]=hd at *;have gz:(hd.map gH).length=hd.length:=AF ..;have dp:=aSn (m:=m) hlt;simp only[go_sem,↓aB,seval,e8,e10,e0,gq,kx,cj,bS];refine bI (fQ F.toOutFns [104,97,110,100] deT) (c' _) g1 (by grind) ?_;rintro T2 en k1 k2 k3;have k2:T2.length<=T1.length+5:=k2;simp only[go_sem,↓aB,seval,gz];refine pZ 2 3 20 19 21 42 hd.length k (W:=yC) (L:=[x]) rfT bIv rfl rfl rfl omT k1 (bZ g3 k3) ?_ ?_
  ·rintro j ρ2 L2 T3 wr3 jlt f20 cq yx m1 m2 m3;obtain⟨x2,rfl⟩:=FQ.1 yx;have f18:ρ2 18=.sl QT (hd.map gH):=cq 18 rfl;have f0:ρ2 0=.ptr o v 0:=(cq 0 rfl).trans e0;have jn0:(0:Int)<=(j:Int):=omT;have jn1:(j:Int)<(hd.length:Int):=omT;have jto:((j:Int)).toNat=j:=omT;have fh:=mgE gH jlt;obtain⟨⟨r1,r2⟩,r3⟩:=q2 _ (AS jlt);generalize hd[j]=bar at *;have Ax:(bar.map bV).length=bar.length:=AF ..;have D3:=aSn (m:=k) jlt;simp only[go_sem,↓aB,seval,f20,f18,f0,jn0,jto,fh,gH];refine bI (fQ F.toOutFns [98,97,114] deT) (c' _) m1 (by grind) ?_;rintro T4 wr4 p1 p2 p3;have p2:T4.length<=T3.length+4:=p2;simp only[go_sem,↓aB,seval,Ax];refine pZ 4 5 28 27 29 41 bar.length 12 (W:=yA) (L:=[x2]) rfT bIv rfl rfl rfl omT p1 (bZ m3 p3) ?_ ?_
   ·rintro k ρ3 L3 T5 wr5 klt u28 im I1 s1 s2 s3;obtain⟨x3,rfl⟩:=FQ.1 I1;have u26:ρ3 26=.sl QT (bar.map bV):=im 26 rfl;have u0:ρ3 0=.ptr o v 0:=(im 0 rfl).trans f0;have kn0:(0:Int)<=(k:Int):=omT;have kn1:(k:Int)<(bar.length:Int):=omT;have kto:((k:Int)).toNat=k:=omT;have aIc:=mgE bV klt;have t1:=r2 _ (AS klt);generalize bar[k]=n at *;have Ot:k*12+12<=bar.length*12:=omT;have Ou:bar.length*12<=192:=omT;have I0:=aF1 F.toOutFns [n.step,n.length,n.alter] QT 4 deT siT (fun z hz=>by
     unfold aGv wi at t1;simp at t1 hz;rcases hz with rfl | rfl | rfl<;>exact aOh F.itoa omT omT)
    simp only[go_sem,↓aB,seval,u28,u26,u0,kn0,kto,aIc,bV,mO c,aFE c,iZ,AB,AD,AA,AE];refine bI I0 (c' _) s1 soT ?_;rintro T6 wr6 w1 w2 w3;have w2:T6.length<=T5.length+12:=w2;simp only[go_sem,↓aB,seval];exact⟨rfl,_,T6,rfl,w1,omT,rfl,bZ s3 w3⟩
   rintro ρ' L' T' ba s0 s1 s2 s3 im;simp only[go_sem,seval];exact⟨rfl,L',T',s0,s1,omT,rfl,s3⟩
  rintro ρ' L' T' ba s0 s1 s2 s3 im;simp only[go_sem,seval];exact⟨rfl,L',T',s0,s1,omT,rfl,s3⟩
 rintro ρ' L' T' ba k0 k1 k2 k3 hf;simp only[go_sem,seval];exact jX k1 k2 k3
end
inductive Cu:Expr->Prop
 |mk (op n:Int) (ks:List Expr):0<=op->op<=10->0<=n->n<=aAq op->ks.length<=2->(∀k∈ks,Cu k)->Cu (.mk op n ks)
theorem aPX:∀{l:List Expr} {d:Int} {s t:Nat},exL l d s=QQ t->∀k∈l,(exS k d).2=QS
 | [],_,_,_,_,k,hk=>by cases hk
 |e::r,d,s,t,h,k,hk=>by
  unfold exL at h;split at h
  ·rename_i m he;rcases BD.1 hk with rfl | hk
   ·rw[he]
   exact aPX h k hk
  cases h
theorem aY8:∀(m:Nat) (e:Expr) (d:Int),SizeOf.sizeOf e<m->(exS e d).2=QS->Cu e:=by
 intro m
 induction m with
 |zero=>intro e d h;omega
 |succ m ih=>
  intro e d hs he;obtain⟨op,n,ks⟩:=e;unfold exS at he;split at he
  ·cases he
  rename_i hc;simp only[Bool.or_eq_true,not_or,GB,Bool.not_eq_false']at hc;obtain⟨⟨⟨c1,c2⟩,c3⟩,c4⟩:=hc;have z8:=aN3 op;simp[wi]at c1 c2 c3 c4;refine .mk op n ks c2.1 c2.2 c3.1 c3.2 omT fun k hk=>ih k (d+1) (by
   have:=GY hk;simp only[Expr.mk.sizeOf_spec]at hs;omega) ?_
  split at he
  ·rename_i t ht;exact aPX ht k hk
  cases he
theorem aNd{op:Int}(h0:0<=op)(h1:op<=10):∃w:Str,w.length<=4/\(aOi.drop op.toNat).take 1=[.str w]/\op.toNat+1<=aOi.length:=by
 have:∀i<11,∃w:Str,w.length<=4/\(aOi.drop i).take 1=[.str w]/\i+1<=aOi.length:=by
  intro i hi;rcases i with _ | _ | _ | _ | _ | _ | _ | _ | _ | _ | _ | i
  all_goals first | exact⟨_,deT,rfl,deT⟩ | omega
 exact this op.toNat omT
theorem aIz:∀{l:List Expr} {i:Nat} (h:i<l.length),gY l[i]+cP (l.drop (i+1))=cP (l.drop i)
 |e::r,0,h=>by simp[cP]
 |e::r,i+1,h=>by simpa using aIz (l:=r) (by simpa using h)
theorem aGK:∀(l:List Expr) (i:Nat),i<=l.length->cP (l.drop i)<=cP l
 |l,0,_=>AQ _
 | [],i+1,h=>by simp
 |e::r,i+1,h=>by
  have:=aGK r i (by simpa using h);simp only[AB,cP];omega
section
variable {A:af}{g:SN}
theorem aKU(h:Has A g "aU" (uH g))(hi:A.bq (g "g")=QQ sC){e:Expr}(he:Cu e):gY e<=1000->∀H,∃s:Str,s.length<=20*gY e/\aG A (g "aU") [.agg (aF e)] H=QQ (.str s,H,[]):=by
 induction he with
 |mk op n ks o0 o1 n0 n1 hk E7 ih=>
  intro gd H;have Lo:cP ks+1<=1000:=gd;obtain⟨v',H',ba,h1,rfl,s,rfl,rfl,h2⟩:=h.bp (args:=[.agg (aF (.mk op n ks))]) (H:=H) (K:=fun v H' wr=>wr=[]/\∃s:Str,v=.str s/\H'=H/\s.length<=20*(cP ks+1)) (by
   simp only[uH];simp only[go_sem,↓aB,seval,aF,aZ];simp only[wA];by_cases e0:op=0
   ·subst e0;obtain⟨s,lq,nu⟩:=aPT hi (n:=n) omT (by unfold aAq at n1;rw[Zy rfl]at n1;omega);simp only[go_sem,↓aB,seval,nu];exact⟨s,rfl,omT⟩
   have b0:(op==0)=false:=by simpa using e0
   by_cases e1:op=1
   ·subst e1;have hn:n<=25:=by unfold aAq at n1;simpa using n1
    have hw:AR.wrap (97+n)=97+n:=wrap_i64 omT omT;have hc:∀H,pT H (.toInt .i32) (vi (97+n))=QQ (.int .i32 (97+n)):=fun H=>by
     show QQ (AV.int .i32 (GA .i32 (97+n)))=_;congr 2;simp only[GA,LK,KC];simp;omega
    have nc:∀H,pT H .i2s (.int .i32 (97+n))=QQ (.str [CN (97+n).toNat]):=fun H=>by
     show (if 0<=97+n/\97+n<128 then QQ (AV.str [CN (97+n).toNat])else N2)=_;rw[Zy ⟨omT,omT⟩]
    simp only[go_sem,↓aB,seval,hw,hc,nc];exact⟨_,rfl,soT⟩
   have b1:(op==1)=false:=by simpa using e1
   obtain⟨w,dy,gn,pr⟩:=aNd o0 o1;have o2:op<11:=omT;have ha:kJ .add .no (.str [40]) (.str w)=QQ (.str (40::w)):=kE soT;simp only[go_sem,↓aB,seval,b0,b1,o0,o2,gn,pr,BC,FK,ha,AF];have hE:∀i≤ks.length,cP (ks.drop i)<=cP ks:=aGK ks;refine bJ (id:=1) (fun i ρ1 H1 wr=>wr=[]/\ρ1 28=vi (i:Nat)/\(∃x,H1=H++[x])/\∃s:Str,ρ1 3=.str s/\s.length+20*cP (ks.drop i)<=5+i+20*cP ks) ks.length
    (fun ρ1 H1 wr=>wr=[]/\(∃x,H1=H++[x])/\∃s:Str,ρ1 3=.str s/\s.length<=7+20*cP ks)
    bIv rfl ⟨rfl,rfl,⟨_,rfl⟩,40::w,rfl,soT⟩ ?_ ?_
   ·rintro i ρ1 H1 dc mg ⟨rfl,e28,⟨x,rfl⟩,s,e3,hs⟩ hf;have e26:ρ1 26=.sl QT (ks.map aF):=hf 26 rfl;have e27:ρ1 27=vi (ks.length:Nat):=hf 27 rfl;simp only[go_sem,↓aB,seval,e28,e27];refine aD (fun hb=>?_) (fun hb=>?_)
    ·have hlt:i<ks.length:=by simp at hb;omega
     have gq:(0:Int)<=(i:Int):=omT;have lx:(i:Int)<(ks.length:Int):=omT;have kx:((i:Int)).toNat=i:=omT;have dy:=wS (i:=i) omT;have cj:=mgE aF hlt;have hm:=aIz hlt;have Ov:=hE i omT;obtain⟨t,It,Iu⟩:=ih ks[i] (AS hlt) omT (H++[.box (x.ver+1) (aF ks[i])]);have M1:kJ .add .no (.str [32]) (.str t)=QQ (.str (32::t)):=kE soT;have R7:kJ .add .no (.str s) (.str (32::t))=QQ (.str (s++32::t)):=kE soT;generalize ks[i]=k at *;obtain⟨ok,nk,kk⟩:=k;simp only[aF,aZ]at cj Iu;simp only[go_sem,↓aB,seval,e28,e26,gq,kx,cj,e3,Iu,M1,R7,dy];exact⟨hlt,soT⟩
    have hi:i=ks.length:=by simp at hb;omega
    subst hi;simp only[go_sem,seval];refine⟨⟨x,rfl⟩,s,e3, ?_⟩;rw[List.drop_length]at hs;simp[cP]at hs;omega
   rintro ρ' H' ba ⟨rfl,⟨x,rfl⟩,s,e3,hs⟩ hf;have Ay:kJ .add .no (.str s) (.str [41])=QQ (.str (s++[41])):=kE soT;simp only[go_sem,↓aB,seval,e3,Ay];exact⟨_,rfl,soT⟩)
  exact⟨s,h2,h1⟩
end
abbrev yF(g:SN):ag:=qS [qb 66 .lss 65 64]<|.seq (qC 66 (.skip) (.exit 3))<|.seq (.block 4 (qS [qi 67 63 65 1,ql 68 1 67,qm 7 68]<|.region QT [qm 69 0,qm 70 7,qc 71 (g "A") [u 69,u 70]]))<|.region QT [qbi 72 .add 65 1,qm 65 72]
abbrev yG:LN:=[66,67,68,7,69,70,71,72,65]
abbrev jD(g:SN):ag:=qS [qb 58 .lss 57 56]<|.seq (qC 58 (.skip) (.exit 1))<|.seq (.block 2 (qS [qi 59 55 57 1,ql 60 1 59,qm 5 60]<|qS [qm 61 0,qc 62 (g "e") [u 61,uc (.str [114,111,119])]]<|qS [qm 63 5,qn 64 63,qmc 65 z0]<|.block 3 (.loop (yF g))))<|.region QT [qbi 73 .add 57 1,qm 57 73]
abbrev yH:LN:=[58,59,60,5,61,62,63,64,65,66,67,68,7,69,70,71,72,65,73,57]
abbrev yI(g:SN):ag:=qS [qb 107 .lss 106 105]<|.seq (qC 107 (.skip) (.exit 7))<|.seq (.block 8 (qS [qi 108 104 106 2,qla 109 2 108,qq 11 (.alloc [z0,z0]),qs 2 11 109]<|.region QT [qm 110 0,qf 111 0 11,ql 112 1 111,qf 113 1 11,ql 114 1 113,qq 115 (.bsl 1 [z0] 2 [(0,(.tmp 112)),(1,(.tmp 114))]),qc 116 (g "o") [u 110,u 115]]))<|.region QT [qbi 117 .add 106 1,qm 106 117]
abbrev yJ:LN:=[107,108,109,11,110,111,112,113,114,115,116,117,106]
abbrev jE(g:SN):ag:=qS [qb 92 .lss 91 90]<|.seq (qC 92 (.skip) (.exit 5))<|.seq (.block 6 (qS [qi 93 89 91 2,qla 94 2 93,qq 9 (.alloc [z0,(.sl QS [])]),qs 2 9 94]<|qS [qm 95 0,qc 96 (g "e") [u 95,uc (.str [115,104,97,112,101])]]<|qS [qm 97 0,qf 98 0 9,ql 99 1 98,qq 100 (.iaA 3 1 (uc (.ep aPV 0)) (u 99)),ql 101 1 100,qc 102 (g "t") [u 97,u 101]]<|qS [qf 103 1 9,ql 104 1 103,qn 105 104,qmc 106 z0]<|.block 7 (.loop (yI g))))<|.region QT [qbi 118 .add 91 1,qm 91 118]
abbrev yK:LN:=[92,93,94,9,95,96,97,98,99,100,101,102,103,104,105,106,107,108,109,11,110,111,112,113,114,115,116,117,106,118,91]
abbrev jF(g:SN):ag:=qS [qb 136 .lss 135 134]<|.seq (qC 136 (.skip) (.exit 9))<|.seq (.block 10 (qS [qi 137 133 135 1,ql 138 1 137,qm 13 138]<|qS [qm 139 0,qc 140 (g "e") [u 139,uc (.str [108,105,110,101])]]<|.region QT [qm 141 0,qm 142 13,qc 143 (g "A") [u 141,u 142]]))<|.region QT [qbi 144 .add 135 1,qm 135 144]
abbrev yL:LN:=[136,137,138,13,139,140,141,142,143,144,135]
def nN(g:SN):ag:=.block 0 (qS [qbi 17 .eql 15 0,qm 16 17]<|qC 16 (qS [qm 18 0,qc 19 (g "e") [u 18,uc (.str [116,101,120,116])]]<|.region QT [qm 20 0,qf 21 1 3,ql 22 1 21,qc 23 (g "aA") [u 20,u 22]]) (qS [qbi 25 .eql 15 1,qm 24 25]<|qC 24 (qS [qm 26 0,qc 27 (g "e") [u 26,uc (.str [102,111,114,109,117,108,97])]]<|.region QT [qm 28 0,qf 29 2 3,qla 30 3 29,qc 31 (g "aU") [u 30],qc 32 (g "t") [u 28,u 31]]) (qS [qbi 34 .eql 15 2,qm 33 34]<|qC 33 (qS [qm 35 0,qc 36 (g "e") [u 35,uc (.str [99,111,108,117,109,110])]]<|qS [qm 37 0,qf 38 5 3,qf 39 0 38,ql 40 1 39,qq 41 (.iaA 11 1 (uc (.ep aOi 0)) (u 40)),ql 42 1 41,qc 43 (g "t") [u 37,u 42]]<|.region QT [qm 44 0,qf 45 5 3,qf 46 1 45,ql 47 1 46,qc 48 (g "o") [u 44,u 47]]) (qS [qbi 50 .eql 15 3,qm 49 50]<|qC 49 (qS [qm 51 0,qc 52 (g "e") [u 51,uc (.str [101,110,116,114,105,101,115])]]<|qS [qf 53 7 3,qf 54 0 53,ql 55 1 54,qn 56 55,qmc 57 z0]<|.block 1 (.loop (jD g))) (qS [qbi 75 .eql 15 4,qm 74 75]<|qC 74 (qS [qm 76 0,qc 77 (g "e") [u 76,uc (.str [100,114,97,119,105,110,103])]]<|qS [qm 78 0,qf 79 8 3,qf 80 0 79,ql 81 1 80,qf 82 8 3,qf 83 1 82,ql 84 1 83,qq 85 (.bsl 1 [z0] 2 [(0,(.tmp 81)),(1,(.tmp 84))]),qc 86 (g "o") [u 78,u 85]]<|qS [qf 87 8 3,qf 88 2 87,ql 89 1 88,qn 90 89,qmc 91 z0]<|.block 5 (.loop (jE g))) (qS [qbi 120 .eql 15 5,qm 119 120]<|qC 119 (qS [qm 121 0,qc 122 (g "e") [u 121,uc (.str [109,117,115,105,99])]]<|.region QT [qm 123 0,qf 124 11 3,qf 125 0 124,ql 126 1 125,qc 127 (g "br") [u 123,u 126]]) (qS [qbi 129 .eql 15 6,qm 128 129]<|qC 128 (qS [qm 130 0,qc 131 (g "e") [u 130,uc (.str [108,105,115,116,105,110,103])]]<|qS [qf 132 12 3,ql 133 1 132,qn 134 133,qmc 135 z0]<|.block 9 (.loop (jF g))) (.skip))))))))
def lV(g:SN):bw:=⟨145,[9,11],[],qS [qx 3 13 1]<|qS [qf 14 0 3,ql 15 1 14]<|nN g⟩
theorem aPY{α:Type}{l:List α}(h:l.length=2):∃a b,l=[a,b]:=by
 match l,h with
 | [a,b],_=>grind
theorem eG{n a b:Int}:wi n a b=QS↔a<=n/\n<=b:=by unfold wi;simp
theorem aS7{k:Int}(h0:0<=k)(h1:k<=2):∃w:Str,w.length<=4/\(aPV.drop k.toNat).take 1=[.str w]/\k.toNat+1<=aPV.length:=by
 have:∀i<3,∃w:Str,w.length<=4/\(aPV.drop i).take 1=[.str w]/\i+1<=aPV.length:=by
  intro i hi;rcases i with _ | _ | _ | i
  all_goals first | exact⟨_,deT,rfl,deT⟩ | omega
 exact this k.toNat omT
structure BlockPrt(A:af)(g:SN)(tB tP:Nat) extends TextFns A g tB tP where
 runs:Has A g "aA" (jC g)
 bo:Has A g "br" (hJ g)
 I2:Has A g "aU" (uH g)
 block:Has A g "cd" (lV g)
section
variable {A:af}{g:SN}{tB tP:Nat}
theorem aS8(F:TextFns A g tB tP){H:LO}{ty o v o2 v2:Nat}{T:Str}{ρ:bN}{wr:LN}{L:LO}{l:List (List Str)}{N m k:Nat}(c:gf H.length o o2)(hl:l.length<=12)(hb:∀r∈l,(r.length<=12/\4+r.length*k<=m)/\∀s∈r,s.length<=20/\2*s.length+3<=k) (h0:ρ 0=.ptr o v 0) (Tn:ρ 55=.sl QT (l.map bY)) (Ft:ρ 56=vi l.length) (Fu:ρ 57=vi 0) (hT:T≠[]) (Aw:T.length+l.length*m<=100000000) (ma:Wr2 o o2 wr) {Q:bf->bN->LO->LN->Prop} {tg:Tg (A,145,(⟨H.length,[9,11]⟩:Ctx),jD g,Q)} (hQ:∀ρ' L' T' ba,L'.length=L.length->T'≠[]->T'.length<=T.length+l.length*m->Wr2 o o2 ba->Q (.exit 1) ρ' (PSt (H++L') ty o v o2 v2 T') ba):wl A 145 ⟨H.length,[9,11]⟩ (jD g) ρ (PSt (H++L) ty o v o2 v2 T) wr Q tg:=by
 have c':∀L:LO,gf (H++L).length o o2:=fun y=>c.mono siT;refine pZ 1 2 57 56 58 73 l.length m (W:=yH) rfT bIv rfl Fu Ft omT hT ma ?_ ?_
 ·rintro i ρ1 L1 T1 dc hlt e8 hf hL g1 g2 g3;have e55:ρ1 55=.sl QT (l.map bY):=(hf 55 rfl).trans Tn;have e0:ρ1 0=.ptr o v 0:=(hf 0 rfl).trans h0;have cj:=mgE bY hlt;obtain⟨⟨q1,q3⟩,q2⟩:=hb _ (AS hlt);generalize l[i]=r at *;have dp:=aSn (m:=m) hlt;simp only[go_sem,↓aB,seval,e8,e55,e0,AU,AT,cj,bY];refine bI (fQ F.toOutFns [114,111,119] deT) (c' _) g1 (by grind) ?_;rintro T2 en k1 k2 k3;have k2:T2.length<=T1.length+4:=k2;simp only[go_sem,↓aB,seval,AF];refine pZ 3 4 65 64 66 72 r.length k (W:=yG) rfT bIv rfl rfl rfl omT k1 (bZ g3 k3) ?_ ?_
  ·rintro j ρ2 L2 T3 wr3 jlt f65 cq yx m1 m2 m3;have f63:ρ2 63=.sl QT (r.map aN):=cq 63 rfl;have f0:ρ2 0=.ptr o v 0:=(cq 0 rfl).trans e0;have fh:=mgE aN jlt;have r1:=q2 _ (AS jlt);generalize r[j]=s at *;have D3:=aSn (m:=k) jlt;simp only[go_sem,↓aB,seval,f65,f63,f0,AU,AT,fh,aN];refine bI (sZ F s omT) (c' _) m1 omT ?_;rintro T4 wr4 p1 p2 p3;simp only[go_sem,↓aB,seval];exact⟨rfl,L2,T4,yx,p1,omT,rfl,bZ m3 p3⟩
  rintro ρ' L' T' ba s0 s1 s2 s3 im;simp only[go_sem,seval];exact⟨rfl,L',T',s0.trans hL,s1,omT,rfl,s3⟩
 grind
theorem aPZ(F:TextFns A g tB tP){H:LO}{ty o v o2 v2:Nat}{T:Str}{ρ:bN}{wr:LN}{x1 x2:ah}{l:List Shape}{N m:Nat}(c:gf H.length o o2)(hl:l.length<=8)(hb:∀s∈l,vQ s=QS/\11+s.points.length*20<=m) (h0:ρ 0=.ptr o v 0) (Lp:ρ 89=.sl QT (l.map aH)) (Lq:ρ 90=vi l.length) (I0:ρ 91=vi 0) (hT:T≠[]) (Aw:T.length+l.length*m<=100000000) (ma:Wr2 o o2 wr) {Q:bf->bN->LO->LN->Prop} {tg:Tg (A,145,(⟨H.length,[9,11]⟩:Ctx),jE g,Q)} (hQ:∀ρ' L' T' ba,L'.length=2->T'≠[]->T'.length<=T.length+l.length*m->Wr2 o o2 ba->Q (.exit 5) ρ' (PSt (H++L') ty o v o2 v2 T') ba):wl A 145 ⟨H.length,[9,11]⟩ (jE g) ρ (PSt (H++[x1,x2]) ty o v o2 v2 T) wr Q tg:=by
 have c':∀L:LO,gf (H++L).length o o2:=fun y=>c.mono siT;refine pZ 5 6 91 90 92 118 l.length m (L:=[x1,x2]) (W:=yK) rfT bIv rfl I0 Lq omT hT ma ?_ ?_
 ·rintro i ρ1 L1 T1 dc hlt e8 hf hL g1 g2 g3;obtain⟨y1,y2,rfl⟩:=aPY hL;have e55:ρ1 89=.sl QT (l.map aH):=(hf 89 rfl).trans Lp;have e0:ρ1 0=.ptr o v 0:=(hf 0 rfl).trans h0;have cj:=mgE aH hlt;obtain⟨q1,q2⟩:=hb _ (AS hlt);generalize l[i]=r at *;have dp:=aSn (m:=m) hlt;unfold vQ at q1;simp only[AI,eG]at q1;obtain⟨⟨a1,a2⟩,⟨a3,a4⟩,a5⟩:=q1;rw[AO]at a5;obtain⟨w,dy,gn,pr⟩:=aS7 a1 a2;have a2':r.kind<3:=omT;simp only[go_sem,↓aB,seval,e8,e55,e0,AU,AT,cj,aH,mO c,aFE c,iZ];refine bI (fQ F.toOutFns [115,104,97,112,101] deT) (c' _) g1 (by grind) ?_;rintro T2 en k1 k2 k3;have k2:T2.length<=T1.length+6:=k2;simp only[go_sem,↓aB,seval,e0,mO c,AD,AA,AE,a1,a2',gn,pr,BC,FK];refine bI (pY F.toOutFns w omT) (c' _) k1 omT ?_;rintro T7 wr7 n1 n2 n3;simp only[go_sem,↓aB,seval,AF,mO c,AB,AD,AA,AE];refine pZ 7 8 106 105 107 117 r.points.length 20 (W:=yJ) rfT bIv rfl rfl rfl omT n1 (bZ (bZ g3 k3) n3) ?_ ?_
  ·rintro j ρ2 L2 T3 wr3 jlt f65 cq yx m1 m2 m3;obtain⟨z1,z2,rfl⟩:=aPY yx;have f63:ρ2 104=.sl QT (r.points.map bL):=cq 104 rfl;have f0:ρ2 0=.ptr o v 0:=(cq 0 rfl).trans e0;have fh:=mgE bL jlt;have r1:=a5 _ (AS jlt);generalize r.points[j]=s at *;unfold aKG at r1;simp only[AI,eG]at r1;have D3:j*20+20<=r.points.length*20:=omT;have I0:=mS F.toOutFns [s.1,s.2] QT siT soT;simp only[go_sem,↓aB,seval,f65,f63,f0,AU,AT,fh,bL,aTb (i:=1) c,aM9 (i:=1) c,iZ,AB,AD,AA,AE];refine bI I0 (c' _) m1 (by grind) ?_;rintro T4 wr4 p1 p2 p3;have p2:T4.length<=T3.length+18:=p2;simp only[go_sem,↓aB,seval];exact⟨rfl,_,T4,rfl,p1,omT,rfl,bZ m3 p3⟩
  rintro ρ' L' T' ba s0 s1 s2 s3 im;simp only[go_sem,seval];exact⟨rfl,L',T',s0,s1,omT,rfl,s3⟩
 grind
theorem aS9(F:TextFns A g tB tP){H:LO}{ty o v o2 v2:Nat}{T:Str}{ρ:bN}{wr:LN}{L:LO}{l:List Str}{N m:Nat}(c:gf H.length o o2)(hl:l.length<=16)(hb:∀s∈l,s.length<=80/\2*s.length+8<=m) (h0:ρ 0=.ptr o v 0) (Tn:ρ 133=.sl QT (l.map aN)) (Ft:ρ 134=vi l.length) (Fu:ρ 135=vi 0) (hT:T≠[]) (Aw:T.length+l.length*m<=100000000) (ma:Wr2 o o2 wr) {Q:bf->bN->LO->LN->Prop} {tg:Tg (A,145,(⟨H.length,[9,11]⟩:Ctx),jF g,Q)} (hQ:∀ρ' L' T' ba,L'.length=L.length->T'≠[]->T'.length<=T.length+l.length*m->Wr2 o o2 ba->Q (.exit 9) ρ' (PSt (H++L') ty o v o2 v2 T') ba):wl A 145 ⟨H.length,[9,11]⟩ (jF g) ρ (PSt (H++L) ty o v o2 v2 T) wr Q tg:=by
 have c':∀L:LO,gf (H++L).length o o2:=fun y=>c.mono siT;refine pZ 9 10 135 134 136 144 l.length m (W:=yL) rfT bIv rfl Fu Ft omT hT ma ?_ ?_
 ·rintro i ρ1 L1 T1 dc hlt e8 hf hL g1 g2 g3;have e55:ρ1 133=.sl QT (l.map aN):=(hf 133 rfl).trans Tn;have e0:ρ1 0=.ptr o v 0:=(hf 0 rfl).trans h0;have cj:=mgE aN hlt;obtain⟨q1,q2⟩:=hb _ (AS hlt);generalize l[i]=s at *;have dp:=aSn (m:=m) hlt;simp only[go_sem,↓aB,seval,e8,e55,e0,AU,AT,cj,aN];refine bI (fQ F.toOutFns [108,105,110,101] deT) (c' _) g1 (by grind) ?_;rintro T2 en k1 k2 k3;have k2:T2.length<=T1.length+5:=k2;simp only[go_sem,↓aB,seval,e0];refine bI (sZ F s omT) (c' _) k1 omT ?_;rintro T4 wr4 p1 p2 p3;simp only[go_sem,↓aB,seval];exact⟨rfl,L1,T4,hL,p1,omT,rfl,bZ (bZ g3 k3) p3⟩
 grind
structure Sc(b:Block)(M:Nat):Prop where
 runs:b.kind=0->∃m,(∀r∈b.runs,2*r.text.length+20<=m)/\5+b.runs.length*m<=M
 expr:b.kind=1->9+20*gY b.expr<=M
 sum:b.kind=2->12+b.eg.length*9<=M
 cd:b.kind=3->∃m k,(∀r∈b.cd,4+r.length*k<=m/\∀s∈r,2*s.length+3<=k)/\8+b.cd.length*m<=M
 ye:b.kind=4->∃m,(∀s∈b.aw,11+s.points.length*20<=m)/\26+b.aw.length*m<=M
 L7:b.kind=5->∃m k,(∀x∈b.bo,5+x.length*k<=m/\∀l∈x,4+l.length*12<=k)/\6+b.bo.length*m<=M
 lines:b.kind=6->∃m,(∀s∈b.lines,2*s.length+8<=m)/\8+b.lines.length*m<=M
theorem bHb{b:Block}(hk:xU b=QS)(hb:b.Ok):Sc b 6500:=by
 unfold xU at hk;refine⟨fun e=>?_,fun e=>?_,fun e=>?_,fun e=>?_,fun e=>?_,fun e=>?_,fun e=>?_⟩
 ·rw[Zy e]at hk;simp only[aGx,aUL,vP,AI,eG,AO]at hk;exact⟨420,fun r hr=>by grind,by grind⟩
 ·rw[Zx omT,Zy e]at hk;grind [gY,aN1,aT7]
 ·have:=hb.tj;omega
 ·rw[Zx omT,Zx omT,Zx omT,Zy e]at hk;simp only[aUQ,vP,AI,eG,AO]at hk;exact⟨520,43,fun r hr=>⟨by grind,fun s hs=>by grind⟩,by grind⟩
 ·rw[Zx omT,Zx omT,Zx omT,Zx omT,Zy e]at hk;simp only[vQ,AI,eG,AO]at hk;exact⟨251,fun s hs=>by grind,by grind⟩
 ·have h2:b.bo.length<=2:=by
   rw[Zx omT,Zx omT,Zx omT,Zx omT,Zx omT,Zy e]at hk;simp only[aUO,AI,eG]at hk;omega
  exact⟨3141,196,fun x hx=>⟨by have:=(hb.bo x hx).1;omega,fun l hl=>by have:=((hb.bo x hx).2 l hl).1;omega⟩,omT⟩
 rw[Zx omT,Zx omT,Zx omT,Zx omT,Zx omT,Zx omT,Zy e]at hk;simp only[vP,AI,eG,AO]at hk;exact⟨168,fun s hs=>by grind,by have:=hb.vz;omega⟩
theorem aKV(F:BlockPrt A g tB tP)(b:Block)(hk:xU b=QS)(hb:b.Ok){M:Nat}(hM:Sc b M):aNb A (g "cd") [.agg (aE b)] M:=by
 refine F.block.prt rfl (by simp[lV]) (fun n=>bIv) ?_;intro H ty o v o2 v2 T c hT Aw;have c':∀L:LO,gf (H++L).length o o2:=fun y=>c.mono siT;obtain⟨op,n,ks,mn⟩:∃op n ks,b.expr=Expr.mk op n ks:=by cases b.expr;grind
 have Ra:aF b.expr=[vi op,vi n,.sl QT (ks.map aF)]:=by rw[mn,aF,aZ]
 have ig:aE b=[vi b.kind,.sl QT (b.runs.map cZ),vi op,vi n,.sl QT (ks.map aF),vi b.dn,.sl QT (b.eg.map bF),.sl QT (b.cd.map bY),vi b.w,vi b.h,.sl QT (b.aw.map aH),.sl QT (b.bo.map bS),.sl QT (b.lines.map aN)]:=by unfold aE;grind
 rw[ig];simp only[lV];simp only[go_sem,↓aB,seval];simp only[nN];unfold xU at hk;by_cases k0:b.kind=0
 ·rw[Zy k0]at hk;simp only[aGx,AI,eG]at hk;obtain⟨_,⟨_,U8⟩,B5⟩:=hk;obtain⟨m,V9,Ep⟩:=hM.runs k0;have hr:=aNc F.toTextFns F.runs b.runs m hb.vw (fun r hr=>by
   have h2:=V9 r hr;have h1:=AO.1 B5 r hr;simp only[aUL,AI,eG]at h1;simp only[vP,AI,eG]at h1;grind)
  have Ow:b.runs.length<=8:=omT;simp only[go_sem,↓aB,seval,k0];refine bI (fQ F.toOutFns [116,101,120,116] deT) (c' _) hT (by grind) ?_;rintro T2 en k1 k2 k3;have k2:T2.length<=T.length+5:=k2;simp only[go_sem,↓aB,seval,AB,AD,AA,AE];refine bI hr (c' _) k1 omT ?_;rintro T3 wr3 m1 m2 m3;simp only[go_sem,↓aB,seval];exact jX m1 omT (bZ (bZ kT k3) m3)
 rw[Zx k0]at hk;have b0:(b.kind==0)=false:=by simpa using k0
 by_cases k1:b.kind=1
 ·rw[Zy k1]at hk;have hx:=aY8 _ b.expr 1 (HR _) hk;have gd:=hb.size;have Q1:gY b.expr<=256:=by rw[<- aN1 _ _ hk];exact aT7 hk
  have P6:=hM.expr k1;simp only[go_sem,↓aB,seval,k1];refine bI (fQ F.toOutFns [102,111,114,109,117,108,97] deT) (c' _) hT (by show T.length+8<=_;omega) ?_;rintro T2 en j1 j2 j3;have j2:T2.length<=T.length+8:=j2;obtain⟨s,lq,nu⟩:=aKU F.I2 F.itoa hx gd (PSt (H++[.gone 0,.gone 0]) ty o v o2 v2 T2);rw[Ra]at nu;simp only[go_sem,↓aB,seval,AB,AD,AA,AE,nu];refine bI (pY F.toOutFns s omT) (c' _) j1 omT ?_;rintro T3 wr3 m1 m2 m3;simp only[go_sem,↓aB,seval];exact jX m1 omT (bZ (bZ kT j3) m3)
 rw[Zx k1]at hk;have b1:(b.kind==1)=false:=by simpa using k1
 by_cases k2:b.kind=2
 ·rw[Zy k2]at hk;simp only[AI,eG]at hk;obtain⟨Qx,⟨_,Lr⟩,Az⟩:=hk;have R8:0<=b.dn/\b.dn<=10:=by grind
  have Fv:b.dn<11:=omT;have P6:=hM.sum k2;obtain⟨w,dy,gn,pr⟩:=aNd R8.1 R8.2;have hn:=mS F.toOutFns b.eg QT omT (fun n hn=>by
   grind [AO,aUP,eG])
  simp only[go_sem,↓aB,seval,k2];refine bI (fQ F.toOutFns [99,111,108,117,109,110] deT) (c' _) hT (by grind) ?_;rintro T2 en j1 j2 j3;have j2:T2.length<=T.length+7:=j2;simp only[go_sem,↓aB,seval,AB,AD,AA,AE,R8.1,Fv,gn,pr,BC,FK];refine bI (pY F.toOutFns w omT) (c' _) j1 omT ?_;rintro T3 wr3 m1 m2 m3;simp only[go_sem,↓aB,seval,AB,AD,AA,AE];refine bI hn (c' _) m1 omT ?_;rintro T4 wr4 n1 n2 n3;simp only[go_sem,↓aB,seval];exact jX n1 omT (bZ (bZ (bZ kT j3) m3) n3)
 rw[Zx k2]at hk;have b2:(b.kind==2)=false:=by simpa using k2
 by_cases k3:b.kind=3
 ·rw[Zy k3]at hk;simp only[AI,eG,AO]at hk;obtain⟨⟨_,Ox⟩,Ls⟩:=hk;obtain⟨m,k,V9,Ep⟩:=hM.cd k3;have Lt:∀r∈b.cd,(r.length<=12/\4+r.length*k<=m)/\∀s∈r,s.length<=20/\2*s.length+3<=k:=fun r hr=>by
   have h1:=Ls r hr;simp only[aUQ,vP,AI,eG,AO]at h1;grind
  simp only[go_sem,↓aB,seval,k3];refine bI (fQ F.toOutFns [101,110,116,114,105,101,115] deT) (c' _) hT (by grind) ?_;rintro T2 en j1 j2 j3;have j2:T2.length<=T.length+8:=j2;simp only[go_sem,↓aB,seval,AB,AD,AA,AE,AF];refine aS8 (N:=0) F.toTextFns c omT Lt rfT rfT rfT rfT j1 omT (bZ kT j3) ?_;rintro ρ' L' T' ba n0 n1 n2 n3;simp only[go_sem,seval];exact jX n1 omT n3
 rw[Zx k3]at hk;have b3:(b.kind==3)=false:=by simpa using k3
 by_cases k4:b.kind=4
 ·rw[Zy k4]at hk;simp only[AI,eG]at hk;obtain⟨⟨hw,hh⟩,⟨_,Iv⟩,hS⟩:=hk;obtain⟨m,V9,Ep⟩:=hM.ye k4;have hn:=mS F.toOutFns [b.w,b.h] QT siT soT;simp only[go_sem,↓aB,seval,k4];refine bI (fQ F.toOutFns [100,114,97,119,105,110,103] deT) (c' _) hT (by grind) ?_;rintro T2 en j1 j2 j3;have j2:T2.length<=T.length+8:=j2;simp only[go_sem,↓aB,seval,AB,AD,AA,AE];refine bI hn (c' _) j1 (by grind) ?_;rintro T3 wr3 m1 m2 m3;have m2:T3.length<=T2.length+18:=m2;simp only[go_sem,↓aB,seval,AB,AD,AA,AE,AF];refine aPZ (N:=0) F.toTextFns c omT (fun s hs=>⟨AO.1 hS s hs,V9 s hs⟩) rfT rfT rfT rfT m1 omT (bZ (bZ kT j3) m3) ?_;rintro ρ' L' T' ba n0 n1 n2 n3;simp only[go_sem,seval];exact jX n1 omT n3
 rw[Zx k4]at hk;have b4:(b.kind==4)=false:=by simpa using k4
 by_cases k5:b.kind=5
 ·rw[Zy k5]at hk;simp only[aUO,AI,eG]at hk;obtain⟨⟨_,Cq⟩,hH⟩:=hk;obtain⟨m,k,V9,Ep⟩:=hM.L7 k5;have hn:=aPW F.toTextFns F.bo b.bo m k hb.uv (fun x hx=>⟨(hb.bo x hx).1,(V9 x hx).1,fun bar sk=>⟨⟨((hb.bo x hx).2 bar sk).1,fun nt Fw=>by
   have h1:=AO.1 hH x hx;simp only[aKL,AI]at h1;have h2:=AO.1 h1.2.2 bar sk;simp_all [aT9,AI,AO]⟩,(V9 x hx).2 bar sk⟩⟩)
  have Oy:b.bo.length<=2:=omT;simp only[go_sem,↓aB,seval,k5];refine bI (fQ F.toOutFns [109,117,115,105,99] deT) (c' _) hT (by grind) ?_;rintro T2 en j1 j2 j3;have j2:T2.length<=T.length+6:=j2;simp only[go_sem,↓aB,seval,AB,AD,AA,AE];refine bI hn (c' _) j1 omT ?_;rintro T3 wr3 m1 m2 m3;simp only[go_sem,↓aB,seval];exact jX m1 omT (bZ (bZ kT j3) m3)
 rw[Zx k5]at hk;have b5:(b.kind==5)=false:=by simpa using k5
 by_cases k6:b.kind=6
 ·rw[Zy k6]at hk;simp only[AI,eG,AO]at hk;obtain⟨m,V9,Ep⟩:=hM.lines k6;have I1:∀s∈b.lines,s.length<=80/\2*s.length+8<=m:=fun s hs=>by
   have h1:=hk.2 s hs;have h2:=V9 s hs;simp only[vP,AI,eG]at h1;omega
  simp only[go_sem,↓aB,seval,k6];refine bI (fQ F.toOutFns [108,105,115,116,105,110,103] deT) (c' _) hT (by grind) ?_;rintro T2 en j1 j2 j3;have j2:T2.length<=T.length+8:=j2;simp only[go_sem,↓aB,seval,AB,AD,AA,AE,AF];refine aS9 (N:=0) F.toTextFns c hb.vz I1 rfT rfT rfT rfT j1 omT (bZ kT j3) ?_;rintro ρ' L' T' ba n0 n1 n2 n3;simp only[go_sem,seval];exact jX n1 omT n3
 rw[Zx k6]at hk;cases hk
end
def aQ0:LA:=[[119,104,111,108,101],[101,110,116,114,121],[105,110,115,105,100,101],[108,101,102,116],[108,111,110,103,101,114],[98,97,114],[114,111,119]].map AV.str
abbrev aFm(g:SN):ag:=qS [qb 37 .lss 36 35]<|.seq (qC 37 (.skip) (.exit 2))<|.seq (.block 3 (qS [qi 38 34 36 13,qla 39 13 38,qq 7 (.alloc [z0,.ar,z0,z0,.ar,z0,.ar,.ar,z0,z0,.ar,.ar,.ar]),qs 13 7 39]<|.region QT [qm 40 3,qla 41 13 7,qc 42 (g "cd") [u 40,u 41]]))<|.region QT [qbi 43 .add 36 1,qm 36 43]
abbrev zN:LN:=[37,38,39,7,40,41,42,43,36]
abbrev aFn(g:SN):ag:=qS [qb 48 .lss 47 46]<|.seq (qC 48 (.skip) (.exit 4))<|.seq (.block 5 (qS [qi 49 45 47 4,qla 50 4 49,qq 9 (.alloc [z0,z0,z0,z0]),qs 4 9 50]<|qS [qm 51 3,qc 52 (g "e") [u 51,uc (.str [102,97,99,116])]]<|qS [qm 53 3,qf 54 0 9,ql 55 1 54,qq 56 (.iaA 7 1 (uc (.ep aQ0 0)) (u 55)),ql 57 1 56,qc 58 (g "t") [u 53,u 57]]<|.region QT [qm 59 3,qf 60 1 9,ql 61 1 60,qf 62 2 9,ql 63 1 62,qf 64 3 9,ql 65 1 64,qq 66 (.bsl 1 [z0] 3 [(0,(.tmp 61)),(1,(.tmp 63)),(2,(.tmp 65))]),qc 67 (g "o") [u 59,u 66]]))<|.region QT [qbi 68 .add 47 1,qm 47 68]
abbrev zO:LN:=[48,49,50,9,51,52,53,54,55,56,57,58,59,60,61,62,63,64,65,66,67,68,47]
abbrev aFo(g:SN):ag:=qS [qb 73 .lss 72 71]<|.seq (qC 73 (.skip) (.exit 6))<|.seq (.block 7 (qS [qi 74 70 72 7,qla 75 7 74,qq 11 (.alloc [z0,.ar,.ar,.ar,(.str []),z0,.ar]),qs 7 11 75]<|.region QT [qm 76 3,qla 77 7 11,qc 78 (g "az") [u 76,u 77]]))<|.region QT [qbi 79 .add 72 1,qm 72 79]
abbrev zP:LN:=[73,74,75,11,76,77,78,79,72]
abbrev aFp(g:SN):ag:=qS [qb 24 .lss 23 22]<|.seq (qC 24 (.skip) (.exit 0))<|.seq (.block 1 (qS [qi 25 21 23 4,qla 26 4 25,qq 5 (.alloc [(.str []),.ar,.ar,.ar]),qs 4 5 26]<|qS [qm 27 3,qc 28 (g "e") [u 27,uc (.str [105,116,101,109])]]<|qS [qm 29 3,qf 30 0 5,ql 31 1 30,qc 32 (g "t") [u 29,u 31]]<|.seq (qS [qf 33 1 5,ql 34 1 33,qn 35 34,qmc 36 z0]<|.block 2 (.loop (aFm g)))<|.seq (qS [qf 44 2 5,ql 45 1 44,qn 46 45,qmc 47 z0]<|.block 4 (.loop (aFn g)))<|qS [qf 69 3 5,ql 70 1 69,qn 71 70,qmc 72 z0]<|.block 6 (.loop (aFo g))))<|.region QT [qbi 80 .add 23 1,qm 23 80]
abbrev zQ:LN:=[24,25,26,5,27,28,29,30,31,32,33,34,35,36,37,38,39,7,40,41,42,43,36,44,45,46,47,48,49,50,9,51,52,53,54,55,56,57,58,59,60,61,62,63,64,65,66,67,68,47,69,70,71,72,73,74,75,11,76,77,78,79,72,80,23]
def yM(g:SN):bw:=⟨89,[13,5,7,9,11],[.tmp 2],qS [qx 1 2 0,qmc 2 (.str [])]<|qS [qq 12 (.build [.nilPtr,.ar] []),qq 13 (.tbx 189 2 (u 12)),qm 3 13]<|qS [qm 14 3,qc 15 (g "e") [u 14,uc (.str [101,120,97,109])]]<|qS [qm 16 3,qf 17 0 1,ql 18 1 17,qc 19 (g "A") [u 16,u 18]]<|.seq (qS [qf 20 1 1,ql 21 1 20,qn 22 21,qmc 23 z0]<|.block 0 (.loop (aFp g)))<|qS [qm 81 3,qq 82 (.cz (u 81)),qf 83 0 82,qc 84 (g "N") [u 83,uc (.int .u8 10)]]<|qS [qm 85 3,qq 86 (.cz (u 85)),qf 87 0 86,qc 88 (g "Y") [u 87],qm 2 88]<|.ret⟩
@[go_sem] theorem aY9{call:Nat->LA->LO->Out}{ρ:bN}{H:LO}{ty k:Nat}{x:aa}{id:Nat}:nB call (QQ id) QT ρ H (.tbx ty k x)=if id<H.length/\(x.at ρ).cells.length=k/\(x.at ρ).cells.all AV.ak then QQ (.ptr id (bH H id) 0,make H id (.cw · ty (x.at ρ).cells),[id])else none:=(rfl)
section
variable {A:af}{g:SN}{tB tP:Nat}
theorem yN{f:Nat}{args:LA}{H:LO}{r:AV×List (Nat×ah)×LO}(h:(A.bq f).bind (· args H)=QQ r):aG A f args H=QQ (cT H r):=
 oL (n:=0) (by unfold dD qL;rw[h])
theorem aMa(h:Has A g "h" (cO g))(hp:A.bq (g "u")=QQ (fB tB tP)){H:LO}{o v:Nat}{s:Str} (ho:H[o]? = QQ (.cw v tP [.nilPtr,.ar])) (hs:s≠[]) (hl:s.length<=100000000):aG A (g "h") [.ptr o v 0,.str s] H=QQ (.tup [vi s.length,.bj],H.set o (.cw v tP [.ptr o v 0,.sr H.length 1 s.length])++[.gl 1 5 1 (rb s)],[o]):=by
 refine h.call ?_;have gr:=getElem?_lt ho;have go:∀L,(H++L)[o]? = QQ (.cw v tP [.nilPtr,.ar]):=fun L=>by rw[BM gr];exact ho
 have sx:aG A (g "u") [.ptr o v 0] (H++[.gone 0])=QQ (.tup [],H.set o (.cw v tP [.ptr o v 0,.ar])++[.gone 0],[o]):=by
  rw[yN (r:=(.tup [],[(o,.cw v tP [.ptr o v 0,.ar])],[]))]
  ·simp[cT,eU,DX _ _ gr]
  rw[hp];show fB tB tP [.ptr o v 0] _=_;simp[fB,go]
 have g1:∀x L,(H.set o x++L)[o]? = QQ x:=fun x L=>by rw[BM (by simpa using gr)];exact BW gr
 have g2:∀x y L,(H.set o x++L).set o y=H.set o y++L:=fun x y L=>by rw[DX _ _ (by simpa using gr),EO]
 have bl:(rb s).isEmpty=false:=by cases s with | nil=>exact Zw rfl hs | cons a r=>rfl
 have Lu:vB (H.set o (.cw v tP [.ptr o v 0,.ar])++[.gone 0]) (QQ H.length) 5 1 1 .ar (.str s)=QQ (.sr H.length 1 s.length,H.set o (.cw v tP [.ptr o v 0,.ar])++[.gl 1 5 1 (rb s)],[H.length]):=by
  unfold vB;have tz:dF 1 (aJ s)=true:=aEk s;have hr:bP s.length 1=true:=by unfold bP;simp;omega
  have ax:(aJ s).length=s.length:=kG s;have Fx:(aJ s).isEmpty=false:=bl;simp only[cG,tz,BT,BX,Zu,Fx,ax,hr,Zv];simp[bH,make,rb,aJ];exact⟨rfl,fun a _=>rfl⟩
 simp only[cO];simp only[go_sem,↓aB,seval,sx,g1,g2,Lu];have hu:ah.under H.length (.cw v tP [.ptr o v 0,.sr H.length 1 s.length])=false:=by have:decide (H.length<H.length)=false:=siT;simp[ah.under,dJ,AV.under]
 rw[nJ gr,vN,mY (g1 _ _) hu];exact⟨rfl,rfl,rfl⟩
theorem aIA(F:OutFns A g tB tP){H:LO}{o v:Nat}{s:Str}(ho:H[o]? = QQ (.cw v tP [.nilPtr,.ar]))(hs:s≠[])(hl:s.length<=100000000):aG A (g "e") [.ptr o v 0,.str s] H=QQ (.tup [],H.set o (.cw v tP [.ptr o v 0,.sr H.length 1 s.length])++[.gl 1 5 1 (rb s)],[o]):=by
 refine F.line.call ?_;have gr:=getElem?_lt ho;have h1:aG A (g "aB") [.ptr o v 0] H=QQ (vi 0,H,[]):=by refine F.len.call ?_;simp only[iY];simp only[go_sem,↓aB,seval,AJ,ho]
 have h2:=aMa F.ws F.cc ho hs hl;have g1:∀x L,(H.set o x++L)[o]? = QQ x:=fun x L=>by rw[BM (by simpa using gr)];exact BW gr
 simp only[jB];simp only[go_sem,↓aB,seval,AJ,h1,h2,Pn,decide_false];have hu:ah.under H.length (.cw v tP [.ptr o v 0,.sr H.length 1 s.length])=false:=by have:decide (H.length<H.length)=false:=siT;simp[ah.under,dJ,AV.under]
 rw[nJ gr,vN,mY (g1 _ _) hu];exact⟨rfl,rfl,rfl⟩
def aKW(b:Block):jm:=⟨[120],[⟨[97],[b],[],[]⟩]⟩
section
variable {H X:LO}{ty v v2 i:Nat}{T:Str}{x:ah}
theorem aKX(h0:i≠0)(h5:i≠5):(PSt X ty H.length v (H.length+5) v2 T)[H.length+i]? = X[H.length+i]? := by unfold PSt;rw[CL omT,CL omT]
theorem aCr(h0:i≠0)(h5:i≠5):(PSt X ty H.length v (H.length+5) v2 T).set (H.length+i) x=PSt (X.set (H.length+i) x) ty H.length v (H.length+5) v2 T:=by unfold PSt;rw[JR (i:=H.length+5) _ _ omT,JR (i:=H.length) _ _ omT]
theorem aEr(h0:i≠0)(h5:i≠5):bH (PSt X ty H.length v (H.length+5) v2 T) (H.length+i)=bH X (H.length+i):=by unfold bH;rw[aKX h0 h5]
theorem aBl(h0:i≠0)(h5:i≠5){mk:Nat->ah}:make (PSt X ty H.length v (H.length+5) v2 T) (H.length+i) mk=PSt (make X (H.length+i) mk) ty H.length v (H.length+5) v2 T:=by unfold make;rw[aKX h0 h5,aCr h0 h5]
theorem aNe{a b c d e f:ah}:H++[.cw v ty [.ptr H.length v 0,.sr (H.length+5) v2 T.length],b,c,d,e,.gl v2 5 1 (rb T)]=PSt (H++[a,b,c,d,e,f]) ty H.length v (H.length+5) v2 T:=by unfold PSt;rw[aBe,eS];rfl
theorem aNf{L:LO}:(PSt (H++L) ty H.length v (H.length+5) v2 T).take H.length=H:=by unfold PSt;rw[aBe,eS,aD8]
end
theorem uI{α:Type}{l:List α}(h:l.length=6):∃a b c d e f,l=[a,b,c,d,e,f]:=by
 match l,h with
 | [a,b,c,d,e,f],_=>exact⟨a,b,c,d,e,f,rfl⟩
structure uw(A:af)(g:SN)(tB:Nat) extends BlockPrt A g tB 189 where
 source:Has A g "bQ" (yM g)
 str:A.bq (g "Y")=QQ (aAh 5)
theorem aIB:∀s:Str,aE6 (rb s)=QS
 | []=>rfl
 |c::s=>by
  have:=EC c;show (decide (0<=((c.toNat:Nat):Int))&&decide (((c.toNat:Nat):Int)<256)&&aE6 (rb s))=QS;rw[aIB s];simp;omega
theorem aCs(hp:A.bq (g "Y")=QQ (aAh 5)){H:LO}{ty o v o2 v2:Nat}{T:Str}(c:gf H.length o o2)(hT:T≠[])(hl:T.length<=1000000000):aG A (g "Y") [.ptr o v 0] (PSt H ty o v o2 v2 T)=QQ (.str T,(PSt H ty o v o2 v2 T).set o2 (.gone v2),[o2]):=by
 rw[yN (r:=(.str T,[(o2,.gone v2)],[]))]
 ·simp[cT,eU]
 rw[hp];show aAh 5 [.ptr o v 0] _=_;have hp:=MY.2 hT;simp[aAh,tW c,aM4 c,aIB,oO,Ne.symm c.ne,hl];exact hT
end
def yO(g:SN):bw:=⟨21,[],[.tmp 2],qS [qx 1 4 0,qmc 2 (.bool QT)]<|qS [qf 3 0 1,ql 4 1 3,qc 5 (g "bN") [u 4],qm 6 5,qT 7 6 (of 1 1),qT 8 6 (ol 1 7),qT 9 6 (oc (g "di") [u 8,ui 0,ui 8,uf (g "bH")]),qp 10 6 9,qm 11 10,qT 12 11 (of 2 1),qT 13 11 (ol 1 12),qT 14 11 (oc (g "dj") [u 13,ui 0,ui 8,uf (g "aW")]),qp 15 11 14,qm 16 15,qT 17 16 (of 3 1),qT 18 16 (ol 1 17),qT 19 16 (oc (g "dm") [u 18,ui 0,ui 4,uf (g "aY")]),qp 20 16 19,qm 2 20]<|.ret⟩
def mZ(g:SN):bw:=⟨17,[],[.tmp 2],qS [qx 1 2 0,qmc 2 z0]<|.seq (qS [qf 3 0 1,ql 4 1 3,qc 5 (g "R") [u 4,ui 0,ui 100],qq 6 (.un .not (u 5)),qm 7 6,qF 8 7 (of 1 1),qF 9 7 (ol 1 8),qF 10 7 (oc (g "dk") [u 9,ui 0,ui 12,uf (g "bK")]),qF 11 7 (.un .not (u 10)),qq 12 (.pick (u 7) uT (u 11))]<|qC 12 (qS [qmc 2 (vi 1)]<|.ret) (.skip))<|.seq (qS [qla 13 2 1,qc 14 (g "bQ") [u 13],qq 15 (.fg (u 14)),qbi 16 .gtr 15 8192]<|qC 16 (qS [qmc 2 (vi 4)]<|.ret) (.skip))<|qS [qmc 2 z0]<|.ret⟩
structure kc(A:af)(g:SN)(tB:Nat):Prop where
 blk:kb A g
 src:uw A g tB
 valid:Has A g "z" (mZ g)
 item:Has A g "bK" (yO g)
 name:Has A g "bN" (xP g)
 M3:Has A g "F" (kP g)
 M4:Has A g "ah" (nL g)
 R9:fe A g 13 QS (g "di")
 B6:fe A g 4 QS (g "dj")
 S0:fe A g 7 QS (g "dm")
 allI:fe A g 4 QS (g "dk")
section
variable {A:af}{g:SN}
structure sn(A:af):Prop where
 fn:A.fn YF=N2
 bq:A.bq YF=N2
theorem wC{N:Nat}{c:Ctx}{x:aa}{ps:LN}{body:ag}{ρ:bN}{H:LO}{wr:LN}{Q:bf->bN->LO->LN->Prop}{tg:Tg (A,N,c,ag.dz x ps body,Q)}{id f:Nat}{first ay:LA} (hx:x.at ρ=.fn f first ay) (hs:c.site ps.head? = QQ id) (hid:id<H.length) (ht:∀H,eZ c H=QS) {v:Nat} {X:LA->LO} (hv:bH H id=v) (hm:∀l,(make H id fun v=>.rnd v c.base c.sites ps body l QT N2)=X l) (h:∀l:LA,l.length=N->ck l=ρ->∃r H2 en b' s' p' cc' r' pend,aG A f (first++.yld id v::ay) (X l)=QQ (r,H2,en) /\ H2[id]? = QQ (.rnd v b' s' p' cc' r' QT pend)/\Q (pend.getD .normal) ρ (H2.set id (.gone v)) (bE c.base wr (id::en))):wc A N c (.dz x ps body) ρ H wr Q tg:=by subst hv;unfold wc;rw[wpc];intro l hl he;obtain⟨r,H2,en,b',s',p',cc',r',pend,h1,h2,h3⟩:=h l hl he;rw[<- hm l]at h1;obtain⟨n,hn⟩:=oM h1;refine⟨n+1,pend.getD .normal,⟨l,H2.set id (.gone (bH H id)),bE c.base wr (id::en)⟩, ?_,hl,by grind⟩;rw[iU,aa.ka];grind
theorem aF3:∀(ps:LN) (xs l:LA),(dH l ps xs).length=l.length
 | [],_,_=>by unfold dH;rfl
 |p::ps,[],_=>by unfold dH;rfl
 |p::ps,x::xs,l=>by rw[dH,aF3 ps xs];simp
theorem mT(hY:sn A){N:Nat}{H:LO}{o v base:Nat}{sites ps:LN}{asg body:ag}{l xs:LA}{K:bf->LO->LN->Prop} (ho:H[o]? = QQ (.rnd v base sites ps (.seq asg body) l QT N2)) (hx:xs.length=ps.length) (hok:dK N ⟨base,sites++[YF+o,YF+v]⟩ asg=QS) (Fz:dK N ⟨base,sites++[YF+o,YF+v]⟩ body=QS) (hl:l.length=N) (h:wc A N ⟨base,sites++[YF+o,YF+v]⟩ asg (ck (dH l ps xs)) H [] (fun e ρ1 H1 dc=>e=.normal/\∃b1 t1 p1 c1 r1,H1[o]? = QQ (.rnd v b1 t1 p1 c1 r1 QT N2) /\ wc A N ⟨base,sites++[YF+o,YF+v]⟩ body ρ1 (H1.set o (.rnd v b1 t1 p1 c1 r1 QS N2)) dc (fun e ρ2 H2 en=>∃b' s' p' c' r',H2[o]? = QQ (.rnd v b' s' p' c' r' QS N2) /\ K e (H2.set o (.rnd v b' s' p' c' r' QT (if e=.normal then N2 else QQ e))) (FM base (H.length - base)++(o::en))) ⟨⟩) ⟨⟩):∃e H' ba,aG A YF (.own 0 []::.yld o v::xs) H=QQ (.bool (decide (e=.normal)),H',ba)/\K e H' ba:=by obtain⟨n,e,s0,h1,h2,rfl,b1,t1,p1,c1,r1,h3,h4⟩:=kM h hok _ (by rw[aF3];exact hl) rfl;obtain⟨m,e2,s,g1,g2,b',s',p',c',r',g3,g4⟩:=kM h4 Fz s0.ρ h2 rfl;refine⟨e2,_,_,oL (n:=max n m) ?_,g4⟩;unfold dD qL;rw[hY.bq,hY.fn];show sO _ H (.own 0 []::.yld o v::xs)=_;rw[aAe,ho];dsimp only;rw[Zy ⟨rfl,hx⟩,eJ (Nat.le_max_left n m) _ _ _ _ h1];dsimp only;rw[h3];dsimp only;rw[Zy rfl,eJ (Nat.le_max_right n m) _ _ _ _ g1];grind
theorem aGL{call:Nat->LA->LO->Out}{H:LO}{site:Option Nat}{o v:Nat}{args:LA}:cX call H site (.yld o v) args=match kA H args with
  |none=>N2
  |some (args',lent)=>match call YF (.own 0 []::.yld o v::args'.map AV.strip) (dL H lent)with
   |none=>N2
   |some (b,H',wr)=>if lent.isEmpty&&b.atomic then QQ (b,H',wr)else none:=rfl
theorem jG{base:Nat}{v:AV}{H:LO}{wr:LN}(h:H.length<=base):cJ base (v,H,wr)=(v,H,wr):=by grind [cJ,CH]
end
abbrev aCt(g:SN):List ae:=[qm 28 0,qf 29 1 1,⟨QQ 30,ol 1 29,N2,[1]⟩,qm 31 4,⟨QQ 32,oi 30 31 2,N2,[2,1,3]⟩,⟨QQ 33,ola 2 32,N2,[4,2,1,3]⟩,qf 34 1 1,⟨QQ 35,ol 1 34,N2,[6]⟩,qm 36 4,⟨QQ 37,obi .add 36 1,N2,[8]⟩,qm 38 3,⟨QQ 39,ob .rem 37 38,N2,[9,8,10]⟩,⟨QQ 40,oi 35 39 2,N2,[7,6,11,9,8,10]⟩,⟨QQ 41,ola 2 40,N2,[12,7,6,11,9,8,10]⟩,⟨QQ 42,.build [z0,z0,z0,z0] [(0,2,(.tmp 33)),(2,2,(.tmp 41))],N2,[5,4,2,1,3,13,12,7,6,11,9,8,10]⟩,⟨QQ 43,.dm (u 28) [(.tmp 42)],N2,[0,14,5,4,2,1,3,13,12,7,6,11,9,8,10]⟩,⟨QQ 44,.un .not (u 43),N2,[15,0,14,5,4,2,1,3,13,12,7,6,11,9,8,10]⟩]
abbrev jH:LN:=[]
abbrev aCu(g:SN):ag:=qS [qb 17 .lss 16 15]<|.seq (qC 17 (.skip) (.exit 0))<|.seq (.block 1 (qS [qm 18 16,qm 4 18]<|.seq (qS [qm 19 4,qm 20 3,qbi 21 .sub 20 1,qb 22 .eql 19 21,qm 23 22,qT 24 23 (of 0 1),qT 25 23 (ol 1 24),qT 26 23 (obi .neq 25 2),qp 27 23 26]<|qC 27 (.ret) (.skip))<|.seq (.region QS (aCt g))<|qC 44 (.ret) (.skip)))<|.region QT [qbi 45 .add 16 1,qm 16 45]
def jO(g:SN):bw:=⟨46,[],[],qS [qf 5 1 1,ql 6 1 5,qn 7 6,qm 3 7]<|.seq (qS [qf 8 0 1,ql 9 1 8,qbi 10 .eql 9 0,qm 11 10,qF 12 11 (om 3),qF 13 11 (obi .lss 12 2),qq 14 (.pick (u 11) uT (u 13))]<|qC 14 (.ret) (.skip))<|qS [qm 15 3,qmc 16 z0]<|.block 0 (.loop (aCu g))⟩
def uJ(g:SN):bw:=⟨4,[],[.tmp 2],qS [qx 1 2 0,qmc 2 .bx]<|qS [qq 3 (.mkf (g "q") [] [(.tmp 1)]),qm 2 3]<|.ret⟩
section
variable {A:af}{g:SN}
def aAv(A:af)(o v base n:Nat)(I:Nat->LO->Prop)(J:LO->Prop):Prop:=(∀i H,I i H->H.length=n)/\(∀H,J H->H.length=n) /\
 ∀i H (a b c d:Int),i<1000->I i H->∃(e:bf) (H':LO) (wr:LN),aG A YF [.own 0 [],.yld o v,.agg [vi a,vi b,vi c,vi d]] H=QQ (.bool (decide (e=.normal)),H',wr)/\(if e=.normal then I (i+1) H' else J H')/\∀x∈wr,base<=x
theorem kH{b:Nat}:∀{l wr:LN},(∀x∈l,b<=x)->bE b wr l=wr
 | [],wr,_=>rfl
 |y::r,wr,h=>by
  have hy:=h y HD;unfold bE;rw[Zx (by grind)];exact kH fun z hz=>h z (BZ _ hz)
theorem rB{b n:Nat}:∀{l wr:LN},(∀x∈wr,b<=x)->(∀x∈l,b<=x)->∀x∈bE n wr l,b<=x
 | [],wr,h,_=>h
 |y::r,wr,h,hl=>by
  unfold bE;split
  ·exact rB (fun z hz=>by
    grind) fun z hz=>hl z (BZ _ hz)
  exact rB h fun z hz=>hl z (BZ _ hz)
theorem aKY{o v base n i:Nat}{I:Nat->LO->Prop}{J:LO->Prop}(hR:aAv A o v base n I J){H:LO}(hi:i<1000)(hI:I i H){site:Option Nat}{a b c d:Int}{k:AV×LO×LN×Option LN->Prop}{tg} (hk:∀e H' wr,(if e=bf.normal then I (i+1) H' else J H')->(∀x∈wr,base<=x)->H'.length=H.length->bnd (oD H (QQ (.bool (decide (e=.normal)),H',wr))) k):aCi (oD H (cX (aG A) H site (.yld o v) [.agg [vi a,vi b,vi c,vi d]])) k tg:=by
 obtain⟨r1,r2,r3⟩:=hR;obtain⟨e,H',wr,h1,h2,h3⟩:=r3 i H a b c d hi hI;have hl:H'.length=H.length:=by grind
 have he:cX (aG A) H site (.yld o v) [.agg [vi a,vi b,vi c,vi d]]=QQ (.bool (decide (e=.normal)),H',wr):=by rw[aGL];have:kA H [.agg [vi a,vi b,vi c,vi d]]=QQ ([.agg [vi a,vi b,vi c,vi d]],[]):=rfl;rw[this];dsimp only;have e2:([AV.agg [vi a,vi b,vi c,vi d]]).map AV.strip=[.agg [vi a,vi b,vi c,vi d]]:=rfl;rw[e2,show dL H []=H from rfl,h1];rfl
 rw[he];exact hk e H' wr h2 h3 hl
theorem wD(h:Has A g "q" (jO g)){o v base n:Nat}{I:Nat->LO->Prop}{J:LO->Prop}(hR:aAv A o v base n I J)(kind:Int)(pts:List (Int×Int))(hp:pts.length<=1000)(H:LO)(hI:I 0 H):∃H' wr,aG A (g "q") [.yld o v,.ep [vi kind,.sl QT (pts.map bL)] 0] H=QQ (.tup [],H',wr)/\((∃i,i<=1000/\I i H')∨J H')/\∀x∈wr,base<=x:=by
 obtain⟨r1,r2,r3⟩:=hR;have ax:H.length=n:=r1 0 H hI;obtain⟨v',H',ba,h1,rfl,h2,h3⟩:=h.bp (args:=[.yld o v,.ep [vi kind,.sl QT (pts.map bL)] 0]) (H:=H) (K:=fun v H' wr=>v=.tup []/\((∃i,i<=1000/\I i H')∨J H')/\∀x∈wr,base<=x) (by
  simp only[jO];have K0:∀{H' wr},((∃i,i<=1000/\I i H')∨J H')->(∀x∈wr,base<=x)->H'.length<=H.length->(cJ H.length (.tup [],H',wr)).1=.tup []/\((∃i,i<=1000/\I i (cJ H.length (.tup [],H',wr)).2.1)∨J (cJ H.length (.tup [],H',wr)).2.1)/\∀x∈(cJ H.length (.tup [],H',wr)).2.2,base<=x:=fun {H' wr} a b c=>by
   rw[jG c];grind
  cases e1:(kind==0)with
  |true=>simp only[go_sem,↓aB,seval,e1,CE,AJ,AF,AB,AD,AA,AE];grind
  |false=>
   simp only[go_sem,↓aB,seval,e1,Zz,AJ,AF,AB,AD,AA,AE];refine aD (fun e2=>?_) (fun e2=>?_)
   ·simp only[go_sem,↓aB,seval];grind
   have xh:2<=pts.length:=by grind
   simp only[go_sem,↓aB,seval];refine bJ (id:=0) (fun i ρ1 H1 wr=>ρ1 16=vi (i:Nat)/\I i H1/\∀x∈wr,base<=x) pts.length (fun ρ1 H1 wr=>(∃i,i<=1000/\I i H1)/\∀x∈wr,base<=x)
    bIv rfl ⟨rfl,hI,fun x hx=>by cases hx⟩ ?_ ?_
   ·rintro i ρ1 H1 dc mg ⟨e16,yy,dy⟩ hf;have f15:ρ1 15=vi (pts.length:Nat):=hf 15 rfl;have f3:ρ1 3=vi (pts.length:Nat):=hf 3 rfl;have f0:ρ1 0=.yld o v:=hf 0 rfl;have f1:ρ1 1=.ep [vi kind,.sl QT (pts.map bL)] 0:=hf 1 rfl;have qe:=r1 _ H1 yy;simp only[go_sem,↓aB,seval,e16,f15];refine aD (fun hb=>?_) (fun hb=>?_)
    ·have hlt:i<pts.length:=by grind
     have V1:=wS (i:=i) omT;have K5:AR.wrap ((pts.length:Int) - 1)=((pts.length - 1:Nat):Int):=by rw[wrap_i64 omT omT];omega
     have Ga:(((i:Nat):Int)==((pts.length - 1:Nat):Int))=(i==pts.length - 1):=by grind
     have cj:=mgE bL hlt;have hm:(i+1) % pts.length<pts.length:=Nat.mod_lt _ omT;have B7:(pts.map bL)[(i+1) % pts.length]? = QQ (bL pts[(i+1) % pts.length]):=by grind
     have zu:∀ek,kJ .rem ek (vi ((i+1:Nat):Int)) (vi (pts.length:Nat))=QQ (vi (((i+1) % pts.length:Nat):Int)):=fun ek=>by
      rw[tS omT];congr 2
     generalize pts[i]=p at *;generalize pts[(i+1) % pts.length]=q at *;cases e3:(i==pts.length - 1)with
     |false=>
      simp only[go_sem,↓aB,seval,e16,f3,K5,Ga,e3,BB];refine aY (aq:=jH) (H0:=_) (by simp only[go_sem,seval,cS];rfl) rfT ?_;simp only[go_sem,↓aB,seval,jH,f3,f1,f0,V1,AU,AT,hlt,cj,B7,zu,bL,AD,AB,AA,AE];refine aKY ⟨r1,r2,r3⟩ omT yy ?_;intro e H2 en I4 gn iq;have Ba:∀x∈bE H.length dc en,base<=x:=rB dy gn;cases hd:decide (e=.normal)with
      |true=>have he:e=.normal:=of_decide_eq_true hd;rw[Zy he]at I4;simp only[go_sem,↓aB,seval,iq,e16,V1];grind
      |false=>have he:¬e=.normal:=of_decide_eq_false hd;rw[Zx he]at I4;simp only[go_sem,↓aB,seval,iq];grind
     |true=>
      cases e4:(kind != 2)with
      |true=>simp only[go_sem,↓aB,seval,e16,f3,f1,K5,Ga,e3,e4,Zz,AD,AA,AE];exact K0 (.inl ⟨i,omT,yy⟩) dy omT
      |false=>
      simp only[go_sem,↓aB,seval,e16,f3,f1,K5,Ga,e3,e4,Zz,AD,AA,AE];refine aY (aq:=jH) (H0:=_) (by simp only[go_sem,seval,cS];rfl) rfT ?_;simp only[go_sem,↓aB,seval,jH,f3,f1,f0,V1,AU,AT,hlt,cj,B7,zu,bL,AD,AB,AA,AE];refine aKY ⟨r1,r2,r3⟩ omT yy ?_;intro e H2 en I4 gn iq;have Ba:∀x∈bE H.length dc en,base<=x:=rB dy gn;cases hd:decide (e=.normal)with
      |true=>have he:e=.normal:=of_decide_eq_true hd;rw[Zy he]at I4;simp only[go_sem,↓aB,seval,iq,e16,V1];grind
      |false=>have he:¬e=.normal:=of_decide_eq_false hd;rw[Zx he]at I4;simp only[go_sem,↓aB,seval,iq];grind
    simp only[go_sem,seval];grind
   rintro ρ' H' ba ⟨⟨j,hj,yy⟩,dy⟩ hf;have qe:=r1 j H' yy;simp only[go_sem,↓aB,seval];rw[jG omT];grind)
 grind
end
def dR(g:SN):ag:=.block 0 (.dz (.tmp 6) [7] (qS [qq 5 (.alloc [z0,z0,z0,z0]),qs 4 5 7]<|.block 1 (qR [ql 8 1 2,qla 9 4 5,qq 10 (.bsl 4 [z0,z0,z0,z0] 1 [(0,(.tmp 9))]),qa 11 4 32 8 10,qs 1 2 11])))
def bU(g:SN):bw:=⟨13,[2,7,5,11],[.tmp 4],qS [qx 2 1 0,qmc 4 .ar]<|.seq (qS [qm 6 1]<|dR g)<|qS [ql 12 1 2,qm 4 12]<|.ret⟩
def eC(g:SN):bw:=⟨5,[],[.tmp 2],qS [qmc 2 .ar]<|qS [qm 3 0,qc 4 (g "bk") [uc .ar,u 3],qm 2 4]<|.ret⟩
section
variable {A:af}{g:SN}
theorem lG(h:Has A g "v" (uJ g))(s:Shape)(H:LO):aG A (g "v") [.agg (aH s)] H=QQ (.fn (g "q") [] [.ep [vi s.kind,.sl QT (s.points.map bL)] 0],H,[]):=by refine h.call ?_;simp only[uJ];simp only[go_sem,↓aB,seval,aH,AJ];rw[jG (AQ _)];exact⟨rfl,rfl,rfl⟩
def aEs(rows:List LA):Prop:=∀r∈rows,∃a b c d:Int,r=[vi a,vi b,vi c,vi d]
abbrev aMd:ag:=qS [qq 5 (.alloc [z0,z0,z0,z0]),qs 4 5 7]<|.block 1 (qR [ql 8 1 2,qla 9 4 5,qq 10 (.bsl 4 [z0,z0,z0,z0] 1 [(0,(.tmp 9))]),qa 11 4 32 8 10,qs 1 2 11])
def bB3(H:LO)(i:Nat)(X:LO):Prop:=∃w x2 x3 l,X=H++[.box 1 [w],.rnd 1 H.length [2,7,5,11] [7] aMd l QT N2,x2,x3]/\l.length=13/\ck l 2=.ptr H.length 1 0 /\
 (w=.ar∨∃ver rows,w=.sr (H.length+3) ver rows.length/\x3=.vec ver 4 rows/\rows≠[]/\rows.length<=i/\aEs rows)
theorem aBm{b a1 a2 a3 a4 o v t:Nat}(h:([a1,a2,a3,a4].contains t)=QT)(ht:t<YF):(⟨b,[a1,a2,a3,a4,YF+o,YF+v]⟩:Ctx).site (QQ t)=none:=by
 unfold Ctx.site;dsimp only;rw[List.idxOf?_eq_none_iff.2]
 ·rfl
 rw[<- GB,EH]at h;simp only[BD,CC,or_false,not_or]at h ⊢;exact⟨h.1,h.2.1,h.2.2.1,h.2.2.2,omT,omT⟩
theorem aSa(hY:sn A)(H:LO):aAv A (H.length+1) 1 H.length (H.length+4) (bB3 H) (fun _=>False):=by
 refine⟨fun i X hX=>?_,fun X hX=>hX.elim,fun i X a b c d hi hX=>?_⟩
 ·obtain⟨w,x2,x3,l,rfl,_⟩:=hX;simp
 obtain⟨w,x2,x3,l,rfl,hl,h2,hw⟩:=hX;refine mT hY (K:=fun e H' wr=>(if e=.normal then bB3 H (i+1) H' else False)/\∀x∈wr,H.length<=x) (N:=13) (l:=l) (by rw[bX];rfl) rfl bIv bIv hl ?_;have hs:ck (dH l [7] [.agg [vi a,vi b,vi c,vi d]])=upd (ck l) 7 (.agg [vi a,vi b,vi c,vi d]):=nG omT;rw[hs];generalize hρ:ck l=ρ at *;simp only[DO,CW];simp only[go_sem,↓aB,seval];have B8:(⟨H.length,[2,7,5,11,YF+(H.length+1),YF+1]⟩:Ctx).site (QQ 10)=none:=aBm rfT deT;have fq:∀{w2:LN} {n:Nat},(∀x∈w2,H.length<=x)->∀x∈FM H.length n++(H.length+1)::w2,H.length<=x:=fun {w2 n} h x hx=>by
  rcases AY.1 hx with hx | hx
  ·rw[FC]at hx;exact hx.1
  rcases BD.1 hx with rfl | hx
  ·omega
  exact h x hx
 refine⟨_,_,_,_,_,rfl, ?_⟩;rcases hw with rfl | ⟨ver,rows,rfl,rfl,bl,ax,lv⟩
 ·have hr:bP 1 32=true:=deT;simp only[go_sem,↓aB,seval,h2,B8,AD,AA,AE,eX,cG,dO,hr,AW,AZ];exact⟨_,_,_,_,_,rfl,⟨_,_,_,l,rfl,hl,by rw[hρ];exact h2,.inr ⟨_,_,rfl,rfl,siT,siT,fun r hr=>by rw[CG.1 hr];exact⟨a,b,c,d,rfl⟩⟩⟩,fq siT⟩
 have hr:bP (rows.length+1) 32=true:=by unfold bP;simp;omega
 simp only[go_sem,↓aB,seval,h2,B8,AD,AA,AE,eX,cG,dO,hr,AW,AZ];refine⟨_,_,_,_,_,rfl,⟨_,_,_,l,rfl,hl,by rw[hρ];exact h2,.inr ⟨ver,rows++[[vi a,vi b,vi c,vi d]], ?_,rfl,siT,soT,fun r hr=>?_⟩⟩,fq siT⟩
 ·rw[BA];rfl
 rcases AY.1 hr with hr | hr
 ·exact lv r hr
 rw[CG.1 hr];exact⟨a,b,c,d,rfl⟩
theorem aJu:∀{rows:List LA},aEs rows->gG rows=QS
 | [],_=>rfl
 |r::rs,h=>by
  obtain⟨a,b,c,d,e⟩:=h r HD;subst e;have:=aJu (rows:=rs) fun x hx=>h x (BZ _ hx);rw[gG,this];rfl
theorem aIC{base:Nat}{H:LO}:aDR base H .ar=QQ (.ar,H,[]):=rfl
theorem aHI(hY:sn A)(h:Has A g "bk" (bU g))(h1:Has A g "q" (jO g))(s:Shape)(hs:s.points.length<=1000)(H:LO):∃r,(r=.ar∨∃rows,r=.own 4 rows/\rows≠[]/\rows.length<=100000/\aEs rows)/\aG A (g "bk") [.ar,.fn (g "q") [] [.ep [vi s.kind,.sl QT (s.points.map bL)] 0]] H=QQ (r,H,[]):=by
 obtain⟨r,H',ba,e1,rfl,rfl,e2⟩:=h.bp (args:=[.ar,.fn (g "q") [] [.ep [vi s.kind,.sl QT (s.points.map bL)] 0]]) (H:=H) (K:=fun r H' wr=>wr=[]/\H'=H/\(r=.ar∨∃rows,r=.own 4 rows/\rows≠[]/\rows.length<=100000/\aEs rows)) (by
  simp only[bU];simp only[go_sem,↓aB,seval];simp only[dR];simp only[go_sem,seval];refine wC (id:=H.length+1) (v:=1) (X:=fun l=>H++[.box 1 [.ar],.rnd 1 H.length [2,7,5,11] [7] aMd l QT N2,.gone 0,.gone 0]) rfT rfT siT (fun _=>rfT) (by unfold bH;rw[bX];rfl) (fun l=>by rw[sV];rfl) ?_;intro l hl he;have Lw:bB3 H 0 (H++[.box 1 [.ar],.rnd 1 H.length [2,7,5,11] [7] aMd l QT N2,.gone 0,.gone 0]):=⟨_,_,_,l,rfl,hl,by rw[he];rfl,.inl rfl⟩;obtain⟨H2,en,k1,k2,k3⟩:=wD h1 (aSa hY H) s.kind s.points hs _ Lw;rcases k2 with⟨i,hi,w,x2,x3,l2,rfl,iq,_,hw⟩ | k2
  ·refine⟨_,_,_,_,_,_,_,_,N2,k1,by rw[bX];rfl, ?_⟩;rw[kH (fun x hx=>by rcases BD.1 hx with rfl | hx;exact EG _ _;exact k3 x hx),eS];show pP 0 _ _ .normal _ _ _;rcases hw with rfl | ⟨ver,rows,rfl,rfl,w1,w2,w3⟩
   ·simp only[go_sem,↓aB,seval,AD,AA,AE,aIC];exact .inl trivial
   have hd:=aJu w3;simp only[go_sem,↓aB,seval,AD,AA,AE,aT hd,aA hd];exact .inr ⟨rows,rfl,w1,omT,w3⟩
  exact k2.elim)
 exact⟨r,e2,e1⟩
theorem aKZ(hY:sn A)(hc:Has A g "bU" (eC g))(h:Has A g "bk" (bU g))(h1:Has A g "q" (jO g))(s:Shape)(hs:s.points.length<=1000)(H:LO):∃r,(r=.ar∨∃rows,r=.sl QT rows/\rows.length<=100000/\aEs rows)/\aG A (g "bU") [.fn (g "q") [] [.ep [vi s.kind,.sl QT (s.points.map bL)] 0]] H=QQ (r,H,[]):=by
 obtain⟨r,hr,mj⟩:=aHI hY h h1 s hs H;rcases hr with rfl | ⟨rows,rfl,w1,w2,w3⟩
 ·refine⟨.ar,.inl rfl,hc.call ?_⟩;simp only[eC];simp only[go_sem,↓aB,seval,mj,aIC,AJ]
 refine⟨.sl QT rows,.inr ⟨rows,rfl,w2,w3⟩,hc.call ?_⟩;have hd:=aJu w3;simp only[eC];simp only[go_sem,↓aB,seval,mj,AJ];rw[jG (AQ _)];exact⟨rfl,rfl,rfl⟩
end
def aBn(g:SN):bw:=⟨30,[],[.tmp 6],qS [qx 3 2 0,qx 4 2 1,qx 5 2 2,qmc 6 z0]<|qS [qf 7 0 4,ql 8 1 7,qf 9 0 3,ql 10 1 9,qb 11 .sub 8 10,qf 12 1 5,ql 13 1 12,qf 14 1 3,ql 15 1 14,qb 16 .sub 13 15,qb 17 .mul 11 16,qf 18 1 4,ql 19 1 18,qf 20 1 3,ql 21 1 20,qb 22 .sub 19 21,qf 23 0 5,ql 24 1 23,qf 25 0 3,ql 26 1 25,qb 27 .sub 24 26,qb 28 .mul 22 27,qb 29 .sub 17 28,qm 6 29]<|.ret⟩
def aEt(g:SN):bw:=⟨6,[],[.tmp 2],qS [qmc 2 z0]<|qS [qm 3 0,qq 4 (.mm QS [(.const (.int .i64 (-1))),(.tmp 3)]),qq 5 (.mm QT [(.const (vi 1)),(.tmp 4)]),qm 2 5]<|.ret⟩
def aJv(g:SN):bw:=⟨60,[],[.tmp 4],qS [qx 2 2 0,qx 3 4 1,qmc 4 (.bool QT)]<|qS [qf 5 0 3,qla 6 2 5,qf 7 2 3,qla 8 2 7,qla 9 2 2,qc 10 (g "r") [u 6,u 8,u 9],qbi 11 .eql 10 0,qm 12 11,qT 13 12 (of 0 3),qT 14 12 (of 0 13),qT 15 12 (ol 1 14),qT 16 12 (of 2 3),qT 17 12 (of 0 16),qT 18 12 (ol 1 17),qT 19 12 (.mm QT [(.tmp 15),(.tmp 18)]),qT 20 12 (of 0 2),qT 21 12 (ol 1 20),qT 22 12 (ob .leq 19 21),qp 23 12 22,qm 24 23,qT 25 24 (of 0 2),qT 26 24 (ol 1 25),qT 27 24 (of 0 3),qT 28 24 (of 0 27),qT 29 24 (ol 1 28),qT 30 24 (of 2 3),qT 31 24 (of 0 30),qT 32 24 (ol 1 31),qT 33 24 (.mm QS [(.tmp 29),(.tmp 32)]),qT 34 24 (ob .leq 26 33),qp 35 24 34,qm 36 35,qT 37 36 (of 0 3),qT 38 36 (of 1 37),qT 39 36 (ol 1 38),qT 40 36 (of 2 3),qT 41 36 (of 1 40),qT 42 36 (ol 1 41),qT 43 36 (.mm QT [(.tmp 39),(.tmp 42)]),qT 44 36 (of 1 2),qT 45 36 (ol 1 44),qT 46 36 (ob .leq 43 45),qp 47 36 46,qm 48 47,qT 49 48 (of 1 2),qT 50 48 (ol 1 49),qT 51 48 (of 0 3),qT 52 48 (of 1 51),qT 53 48 (ol 1 52),qT 54 48 (of 2 3),qT 55 48 (of 1 54),qT 56 48 (ol 1 55),qT 57 48 (.mm QS [(.tmp 53),(.tmp 56)]),qT 58 48 (ob .leq 50 57),qp 59 48 58,qm 4 59]<|.ret⟩
abbrev aJw(g:SN):List ae:=[qf 27 0 2,⟨QQ 28,ola 2 27,N2,[0]⟩,qf 29 2 2,⟨QQ 30,ola 2 29,N2,[2]⟩,qf 31 0 3,⟨QQ 32,ola 2 31,N2,[4]⟩,⟨QQ 33,oc (g "r") [u 28,u 30,u 32],N2,[1,0,3,2,5,4]⟩,⟨QQ 34,oc (g "Q") [u 33],N2,[6,1,0,3,2,5,4]⟩,qf 35 0 2,⟨QQ 36,ola 2 35,N2,[8]⟩,qf 37 2 2,⟨QQ 38,ola 2 37,N2,[10]⟩,qf 39 2 3,⟨QQ 40,ola 2 39,N2,[12]⟩,⟨QQ 41,oc (g "r") [u 36,u 38,u 40],N2,[9,8,11,10,13,12,7,6,1,0,3,2,5,4]⟩,⟨QQ 42,oc (g "Q") [u 41],N2,[14,9,8,11,10,13,12,7,6,1,0,3,2,5,4]⟩,⟨QQ 43,ob .mul 34 42,N2,[15,14,9,8,11,10,13,12,7,6,1,0,3,2,5,4]⟩,⟨QQ 44,obi .lss 43 0,N2,[16,15,14,9,8,11,10,13,12,7,6,1,0,3,2,5,4]⟩,⟨QQ 45,om 44,N2,[17,16,15,14,9,8,11,10,13,12,7,6,1,0,3,2,5,4]⟩,⟨QQ 46,of 0 3,QQ (QQ 45,QS),[18,17,16,15,14,9,8,11,10,13,12,7,6,1,0,3,2,5,4]⟩,⟨QQ 47,ola 2 46,QQ (QQ 45,QS),[19,18,17,16,15,14,9,8,11,10,13,12,7,6,1,0,3,2,5,4]⟩,⟨QQ 48,of 2 3,QQ (QQ 45,QS),[18,17,16,15,14,9,8,11,10,13,12,7,6,1,0,3,2,5,4]⟩,⟨QQ 49,ola 2 48,QQ (QQ 45,QS),[21,18,17,16,15,14,9,8,11,10,13,12,7,6,1,0,3,2,5,4]⟩,⟨QQ 50,of 0 2,QQ (QQ 45,QS),[18,17,16,15,14,9,8,11,10,13,12,7,6,1,0,3,2,5,4]⟩,⟨QQ 51,ola 2 50,QQ (QQ 45,QS),[23,18,17,16,15,14,9,8,11,10,13,12,7,6,1,0,3,2,5,4]⟩,⟨QQ 52,oc (g "r") [u 47,u 49,u 51],QQ (QQ 45,QS),[20,19,22,21,24,23,18,17,16,15,14,9,8,11,10,13,12,7,6,1,0,3,2,5,4]⟩,⟨QQ 53,oc (g "Q") [u 52],QQ (QQ 45,QS),[25,20,19,22,21,24,23,18,17,16,15,14,9,8,11,10,13,12,7,6,1,0,3,2,5,4]⟩,⟨QQ 54,of 0 3,QQ (QQ 45,QS),[18,17,16,15,14,9,8,11,10,13,12,7,6,1,0,3,2,5,4]⟩,⟨QQ 55,ola 2 54,QQ (QQ 45,QS),[27,18,17,16,15,14,9,8,11,10,13,12,7,6,1,0,3,2,5,4]⟩,⟨QQ 56,of 2 3,QQ (QQ 45,QS),[18,17,16,15,14,9,8,11,10,13,12,7,6,1,0,3,2,5,4]⟩,⟨QQ 57,ola 2 56,QQ (QQ 45,QS),[29,18,17,16,15,14,9,8,11,10,13,12,7,6,1,0,3,2,5,4]⟩,⟨QQ 58,of 2 2,QQ (QQ 45,QS),[18,17,16,15,14,9,8,11,10,13,12,7,6,1,0,3,2,5,4]⟩,⟨QQ 59,ola 2 58,QQ (QQ 45,QS),[31,18,17,16,15,14,9,8,11,10,13,12,7,6,1,0,3,2,5,4]⟩,⟨QQ 60,oc (g "r") [u 55,u 57,u 59],QQ (QQ 45,QS),[28,27,30,29,32,31,26,25,20,19,22,21,24,23,18,17,16,15,14,9,8,11,10,13,12,7,6,1,0,3,2,5,4]⟩,⟨QQ 61,oc (g "Q") [u 60],QQ (QQ 45,QS),[33,28,27,30,29,32,31,26,25,20,19,22,21,24,23,18,17,16,15,14,9,8,11,10,13,12,7,6,1,0,3,2,5,4]⟩,⟨QQ 62,ob .mul 53 61,QQ (QQ 45,QS),[34,33,28,27,30,29,32,31,26,25,20,19,22,21,24,23,18,17,16,15,14,9,8,11,10,13,12,7,6,1,0,3,2,5,4]⟩,⟨QQ 63,obi .lss 62 0,QQ (QQ 45,QS),[35,34,33,28,27,30,29,32,31,26,25,20,19,22,21,24,23,18,17,16,15,14,9,8,11,10,13,12,7,6,1,0,3,2,5,4]⟩,⟨QQ 64,op 45 63,N2,[36,35,34,33,28,27,30,29,32,31,26,25,20,19,22,21,24,23,18,17,16,15,14,9,8,11,10,13,12,7,6,1,0,3,2,5,4]⟩,⟨QQ 4,om 64,N2,[37,36,35,34,33,28,27,30,29,32,31,26,25,20,19,22,21,24,23,18,17,16,15,14,9,8,11,10,13,12,7,6,1,0,3,2,5,4]⟩]
abbrev yP:LN:=[6,7,9,11,13,25,26,28,30,32]
def aID(g:SN):bw:=⟨65,[],[.tmp 4],qS [qx 2 4 0,qx 3 4 1,qmc 4 (.bool QT)]<|.seq (qS [qf 5 0 2,qla 6 2 5,qla 7 4 3,qc 8 (g "j") [u 6,u 7],qm 9 8,qF 10 9 (of 2 2),qF 11 9 (ola 2 10),qF 12 9 (ola 4 3),qF 13 9 (oc (g "j") [u 11,u 12]),qq 14 (.pick (u 9) uT (u 13)),qm 15 14,qF 16 15 (of 0 3),qF 17 15 (ola 2 16),qF 18 15 (ola 4 2),qF 19 15 (oc (g "j") [u 17,u 18]),qq 20 (.pick (u 15) uT (u 19)),qm 21 20,qF 22 21 (of 2 3),qF 23 21 (ola 2 22),qF 24 21 (ola 4 2),qF 25 21 (oc (g "j") [u 23,u 24]),qq 26 (.pick (u 21) uT (u 25))]<|qC 26 (qS [qmc 4 (.bool QS)]<|.ret) (.skip))<|.seq (.region QS (aJw g))<|.ret⟩
abbrev P2(x y:Int):AV:=.agg [vi x,vi y]
abbrev S4(a b c d:Int):AV:=.agg [vi a,vi b,vi c,vi d]
section
variable {A:af}{g:SN}
theorem aEu(h:Has A g "r" (aBn g))(a b c d e f:Int)(H:LO):∃n:Int,aG A (g "r") [P2 a b,P2 c d,P2 e f] H=QQ (vi n,H,[]):=by
 obtain⟨v,H',wr,h1,rfl,rfl,n,rfl⟩:=h.bp (args:=[P2 a b,P2 c d,P2 e f]) (H:=H) (K:=fun v H' wr=>wr=[]/\H'=H/\∃n:Int,v=vi n) (by
  simp only[aBn];simp only[go_sem,↓aB,seval,AJ,AD,AA,AE,AB];grind)
 grind
theorem aJx(h:Has A g "Q" (aEt g))(n:Int)(H:LO):∃m:Int,aG A (g "Q") [vi n] H=QQ (vi m,H,[]):=by
 obtain⟨v,H',wr,h1,rfl,rfl,m,rfl⟩:=h.bp (args:=[vi n]) (H:=H) (K:=fun v H' wr=>wr=[]/\H'=H/\∃n:Int,v=vi n) (by
  simp only[aEt];simp only[go_sem,↓aB,seval,AJ];grind)
 grind
theorem aJy(h:Has A g "j" (aJv g))(ht:Has A g "r" (aBn g))(p q a b c d:Int)(H:LO):∃r:Bool,aG A (g "j") [P2 p q,S4 a b c d] H=QQ (.bool r,H,[]):=by
 obtain⟨v,H',wr,h1,rfl,rfl,m,rfl⟩:=h.bp (args:=[P2 p q,S4 a b c d]) (H:=H) (K:=fun v H' wr=>wr=[]/\H'=H/\∃r:Bool,v=.bool r) (by
  obtain⟨n,hn⟩:=aEu ht a b c d p q H;simp only[aJv];cases e1:(n==0)with
  |false=>simp only[go_sem,↓aB,seval,hn,e1,BB,AJ,AD,AA,AE,AB];grind
  |true=>
  simp only[go_sem,↓aB,seval,hn,e1,Zz,AJ,AD,AA,AE,AB];refine aD (fun hb=>?_) (fun hb=>?_);rotate_left
  ·rw[beq_eq_false_iff_ne,ne_eq,GB]at hb;simp only[go_sem,↓aB,seval,hb,BB];grind
  rw[beq_iff_eq]at hb;simp only[go_sem,↓aB,seval,hb,Zz,AD,AA,AE,AB];refine aD (fun hb=>?_) (fun hb=>?_);rotate_left
  ·rw[beq_eq_false_iff_ne,ne_eq,GB]at hb;simp only[go_sem,↓aB,seval,hb,BB];grind
  rw[beq_iff_eq]at hb;simp only[go_sem,↓aB,seval,hb,Zz,AD,AA,AE,AB];refine aD (fun hb=>?_) (fun hb=>?_);rotate_left
  ·rw[beq_eq_false_iff_ne,ne_eq,GB]at hb;simp only[go_sem,↓aB,seval,hb,BB];grind
  rw[beq_iff_eq]at hb;simp only[go_sem,↓aB,seval,hb,Zz,AD,AA,AE,AB];grind)
 grind
structure PlaneFns(A:af)(g:SN):Prop where
 yf:sn A
 oe:Has A g "r" (aBn g)
 sign:Has A g "Q" (aEt g)
 on:Has A g "j" (aJv g)
 meet:Has A g "aS" (aID g)
 seg:Has A g "v" (uJ g)
 zy:Has A g "q" (jO g)
 Gb:Has A g "bU" (eC g)
 app:Has A g "bk" (bU g)
theorem aQ1(F:PlaneFns A g)(a b c d a' b' c' d':Int)(H:LO):∃r:Bool,aG A (g "aS") [S4 a b c d,S4 a' b' c' d'] H=QQ (.bool r,H,[]):=by
 obtain⟨v,H',wr,h1,rfl,rfl,m,rfl⟩:=F.meet.bp (args:=[S4 a b c d,S4 a' b' c' d']) (H:=H) (K:=fun v H' wr=>wr=[]/\H'=H/\∃r:Bool,v=.bool r) (by
  obtain⟨r1,h1⟩:=aJy F.on F.oe a b a' b' c' d' H;obtain⟨r2,h2⟩:=aJy F.on F.oe c d a' b' c' d' H;obtain⟨r3,h3⟩:=aJy F.on F.oe a' b' a b c d H;obtain⟨r4,h4⟩:=aJy F.on F.oe c' d' a b c d H;obtain⟨n1,t1⟩:=aEu F.oe a b c d a' b' H;obtain⟨n2,t2⟩:=aEu F.oe a b c d c' d' H;obtain⟨n3,t3⟩:=aEu F.oe a' b' c' d' a b H;obtain⟨n4,t4⟩:=aEu F.oe a' b' c' d' c d H;obtain⟨s1,g1⟩:=aJx F.sign n1 H;obtain⟨s2,g2⟩:=aJx F.sign n2 H;obtain⟨s3,g3⟩:=aJx F.sign n3 H;obtain⟨s4,g4⟩:=aJx F.sign n4 H;simp only[aID];cases r1 with
  |true=>simp only[go_sem,↓aB,seval,h1,CE,AJ,AD,AA,AE];grind
  |false=>
  cases r2 with
  |true=>simp only[go_sem,↓aB,seval,h1,h2,Zz,CE,AJ,AD,AA,AE,AB];grind
  |false=>
  cases r3 with
  |true=>simp only[go_sem,↓aB,seval,h1,h2,h3,Zz,CE,AJ,AD,AA,AE,AB];grind
  |false=>
  cases r4 with
  |true=>simp only[go_sem,↓aB,seval,h1,h2,h3,h4,Zz,AJ,AD,AA,AE,AB];grind
  |false=>
  simp only[go_sem,↓aB,seval,h1,h2,h3,h4,Zz,AJ,AD,AA,AE,AB];refine aY (aq:=yP) (H0:=H) (by simp only[go_sem,seval,cS]) rfT ?_;cases e:decide (AR.wrap (s1*s2)<0)with
  |false=>simp only[go_sem,↓aB,seval,yP,t1,t2,g1,g2,e,Zz,BB,AJ,AD,AA,AE,AB,eH,dG,aL];grind
  |true=>
   simp only[go_sem,↓aB,seval,yP,t1,t2,t3,t4,g1,g2,g3,g4,e,Zz,AJ,AD,AA,AE,AB,eH,dG,aL];grind)
 grind
end
abbrev aGM(g:SN):List ae:=[qm 47 3,qm 48 5,⟨QQ 49,oi 47 48 4,N2,[0,1]⟩,⟨QQ 50,of 2 49,N2,[2,0,1]⟩,⟨QQ 51,ola 2 50,N2,[3,2,0,1]⟩,qm 52 3,qm 53 6,⟨QQ 54,oi 52 53 4,N2,[5,6]⟩,⟨QQ 55,ola 4 54,N2,[7,5,6]⟩,⟨QQ 56,oc (g "j") [u 51,u 55],N2,[4,3,2,0,1,8,7,5,6]⟩,⟨QQ 57,om 56,N2,[9,4,3,2,0,1,8,7,5,6]⟩,⟨QQ 58,om 3,QQ (QQ 57,QT),[10,9,4,3,2,0,1,8,7,5,6]⟩,⟨QQ 59,om 6,QQ (QQ 57,QT),[10,9,4,3,2,0,1,8,7,5,6]⟩,⟨QQ 60,oi 58 59 4,QQ (QQ 57,QT),[11,12,10,9,4,3,2,0,1,8,7,5,6]⟩,⟨QQ 61,of 0 60,QQ (QQ 57,QT),[13,11,12,10,9,4,3,2,0,1,8,7,5,6]⟩,⟨QQ 62,ola 2 61,QQ (QQ 57,QT),[14,13,11,12,10,9,4,3,2,0,1,8,7,5,6]⟩,⟨QQ 63,om 3,QQ (QQ 57,QT),[10,9,4,3,2,0,1,8,7,5,6]⟩,⟨QQ 64,om 5,QQ (QQ 57,QT),[10,9,4,3,2,0,1,8,7,5,6]⟩,⟨QQ 65,oi 63 64 4,QQ (QQ 57,QT),[16,17,10,9,4,3,2,0,1,8,7,5,6]⟩,⟨QQ 66,ola 4 65,QQ (QQ 57,QT),[18,16,17,10,9,4,3,2,0,1,8,7,5,6]⟩,⟨QQ 67,oc (g "j") [u 62,u 66],QQ (QQ 57,QT),[15,14,13,11,12,19,18,16,17,10,9,4,3,2,0,1,8,7,5,6]⟩,⟨QQ 68,.pick (u 57) uT (u 67),N2,[20,15,14,13,11,12,19,18,16,17,10,9,4,3,2,0,1,8,7,5,6]⟩]
abbrev aAw:LN:=[]
abbrev aGN(g:SN):List ae:=[qm 71 3,qm 72 6,⟨QQ 73,oi 71 72 4,N2,[0,1]⟩,⟨QQ 74,of 2 73,N2,[2,0,1]⟩,⟨QQ 75,ola 2 74,N2,[3,2,0,1]⟩,qm 76 3,qm 77 5,⟨QQ 78,oi 76 77 4,N2,[5,6]⟩,⟨QQ 79,ola 4 78,N2,[7,5,6]⟩,⟨QQ 80,oc (g "j") [u 75,u 79],N2,[4,3,2,0,1,8,7,5,6]⟩,⟨QQ 81,om 80,N2,[9,4,3,2,0,1,8,7,5,6]⟩,⟨QQ 82,om 3,QQ (QQ 81,QT),[10,9,4,3,2,0,1,8,7,5,6]⟩,⟨QQ 83,om 5,QQ (QQ 81,QT),[10,9,4,3,2,0,1,8,7,5,6]⟩,⟨QQ 84,oi 82 83 4,QQ (QQ 81,QT),[11,12,10,9,4,3,2,0,1,8,7,5,6]⟩,⟨QQ 85,of 0 84,QQ (QQ 81,QT),[13,11,12,10,9,4,3,2,0,1,8,7,5,6]⟩,⟨QQ 86,ola 2 85,QQ (QQ 81,QT),[14,13,11,12,10,9,4,3,2,0,1,8,7,5,6]⟩,⟨QQ 87,om 3,QQ (QQ 81,QT),[10,9,4,3,2,0,1,8,7,5,6]⟩,⟨QQ 88,om 6,QQ (QQ 81,QT),[10,9,4,3,2,0,1,8,7,5,6]⟩,⟨QQ 89,oi 87 88 4,QQ (QQ 81,QT),[16,17,10,9,4,3,2,0,1,8,7,5,6]⟩,⟨QQ 90,ola 4 89,QQ (QQ 81,QT),[18,16,17,10,9,4,3,2,0,1,8,7,5,6]⟩,⟨QQ 91,oc (g "j") [u 86,u 90],QQ (QQ 81,QT),[15,14,13,11,12,19,18,16,17,10,9,4,3,2,0,1,8,7,5,6]⟩,⟨QQ 92,.pick (u 81) uT (u 91),N2,[20,15,14,13,11,12,19,18,16,17,10,9,4,3,2,0,1,8,7,5,6]⟩]
abbrev aAx:LN:=[]
abbrev aGO(g:SN):List ae:=[qm 94 3,qm 95 5,⟨QQ 96,oi 94 95 4,N2,[0,1]⟩,⟨QQ 97,ola 4 96,N2,[2,0,1]⟩,qm 98 3,qm 99 6,⟨QQ 100,oi 98 99 4,N2,[4,5]⟩,⟨QQ 101,ola 4 100,N2,[6,4,5]⟩,⟨QQ 102,oc (g "aS") [u 97,u 101],N2,[3,2,0,1,7,6,4,5]⟩,⟨QQ 93,om 102,N2,[8,3,2,0,1,7,6,4,5]⟩]
abbrev aAy:LN:=[]
def rC(g:SN):ag:=.block 4 (qS [qm 41 7,qm 42 41,qT 43 42 (om 8),qp 44 42 43,qm 40 44]<|qC 40 (qS [qmc 2 (.bool QT)]<|.ret) (qS [qm 46 7,qm 45 46]<|qC 45 (.seq (.region QS (aGM g))<|qC 68 (qS [qmc 2 (.bool QT)]<|.ret) (.skip)) (qS [qm 70 8,qm 69 70]<|qC 69 (.seq (.region QS (aGN g))<|qC 92 (qS [qmc 2 (.bool QT)]<|.ret) (.skip)) (.seq (.region QS (aGO g))<|qC 93 (qS [qmc 2 (.bool QT)]<|.ret) (.skip)))))
abbrev aGP(g:SN):ag:=qS [qb 21 .lss 20 19]<|.seq (qC 21 (.skip) (.exit 2))<|.seq (.block 3 (qS [qm 22 20,qm 6 22]<|qS [qm 23 6,qbi 24 .add 23 1,qm 25 5,qb 26 .eql 24 25,qm 7 26]<|qS [qf 27 0 1,ql 28 1 27,qbi 29 .eql 28 2,qm 30 29,qT 31 30 (om 6),qT 32 30 (obi .eql 31 0),qp 33 30 32,qm 34 33,qT 35 34 (om 5),qT 36 34 (om 4),qT 37 34 (obi .sub 36 1),qT 38 34 (ob .eql 35 37),qp 39 34 38,qm 8 39]<|rC g))<|.region QT [qbi 103 .add 20 1,qm 20 103]
abbrev aGQ(g:SN):ag:=qS [qb 17 .lss 16 15]<|.seq (qC 17 (.skip) (.exit 0))<|.seq (.block 1 (qS [qm 18 16,qm 5 18]<|qS [qm 19 5,qmc 20 z0]<|.block 2 (.loop (aGP g))))<|.region QT [qbi 104 .add 16 1,qm 16 104]
def tA(g:SN):bw:=⟨105,[],[.tmp 2],qS [qx 1 2 0,qmc 2 (.bool QT)]<|qS [qla 9 2 1,qc 10 (g "v") [u 9],qc 11 (g "bU") [u 10],qm 3 11]<|qS [qm 12 3,qn 13 12,qm 4 13]<|.seq (qS [qm 14 3,qn 15 14,qmc 16 z0]<|.block 0 (.loop (aGQ g)))<|qS [qmc 2 (.bool QS)]<|.ret⟩
section
variable {A:af}{g:SN}
def bB4(H:LO)(e:bf)(ρ:bN)(H':LO)(wr:LN):Prop:=H'=H/\wr=[]/\(e=.normal∨(e=.ret/\ρ 2=.bool QT))
theorem aQ2{H:LO}{ρ:bN}:bB4 H .normal ρ H []:=⟨rfl,rfl,.inl rfl⟩
theorem aNg{H:LO}{ρ:bN}(h:ρ 2=.bool QT):bB4 H .ret ρ H []:=⟨rfl,rfl,.inr ⟨rfl,h⟩⟩
theorem aCv(F:PlaneFns A g){H:LO}{b:Nat}{rows:List LA}(hr:aEs rows){ρ:bN}{i k:Nat}{f c:Bool}(hi:i<rows.length)(hk:k<rows.length)(h3:ρ 3=.sl QT rows)(h5:ρ 5=vi i)(h6:ρ 6=vi k)(h7:ρ 7=.bool f)(h8:ρ 8=.bool c):wc A 105 ⟨b,[]⟩ (rC g) ρ H [] (bB4 H) ⟨⟩:=by
 obtain⟨a1,a2,a3,a4,ea⟩:=hr _ (AS hi);obtain⟨b1,b2,b3,b4,eb⟩:=hr _ (AS hk);have gi:rows[i]? = QQ [vi a1,vi a2,vi a3,vi a4]:=by grind
 have gk:rows[k]? = QQ [vi b1,vi b2,vi b3,vi b4]:=by grind
 obtain⟨r1,o1⟩:=aJy F.on F.oe a3 a4 b1 b2 b3 b4 H;obtain⟨r2,o2⟩:=aJy F.on F.oe b1 b2 a1 a2 a3 a4 H;obtain⟨r3,o3⟩:=aJy F.on F.oe b3 b4 a1 a2 a3 a4 H;obtain⟨r4,o4⟩:=aJy F.on F.oe a1 a2 b1 b2 b3 b4 H;obtain⟨r5,o5⟩:=aQ1 F a1 a2 a3 a4 b1 b2 b3 b4 H;simp only[rC];cases f with
 |true=>
  cases c with
  |true=>simp only[go_sem,↓aB,seval,h7,h8,Zz];exact aNg rfl
  |false=>
   simp only[go_sem,↓aB,seval,h7,h8,Zz];refine aY (aq:=aAw) (H0:=H) (by simp only[go_sem,seval,cS]) rfT ?_;cases r1<;>cases r2<;>simp only[go_sem,↓aB,seval,aAw,h3,h5,h6,gi,gk,AU,AT,o1,o2,Zz,CE,AD,AA,AE,AB]
   all_goals first | exact aQ2 | exact aNg rfl
 |false=>
  cases c with
  |true=>
   simp only[go_sem,↓aB,seval,h7,h8,BB];refine aY (aq:=aAx) (H0:=H) (by simp only[go_sem,seval,cS]) rfT ?_;cases r3<;>cases r4<;>simp only[go_sem,↓aB,seval,aAx,h3,h5,h6,gi,gk,AU,AT,o3,o4,Zz,CE,AD,AA,AE,AB]
   all_goals first | exact aQ2 | exact aNg rfl
  |false=>
   simp only[go_sem,↓aB,seval,h7,h8,BB];refine aY (aq:=aAy) (H0:=H) (by simp only[go_sem,seval,cS]) rfT ?_;cases r5<;>simp only[go_sem,↓aB,seval,aAy,h3,h5,h6,gi,gk,AU,AT,o5,AD,AA,AE]
   all_goals first | exact aQ2 | exact aNg rfl
theorem aQ3(F:PlaneFns A g)(h:Has A g "l" (tA g))(s:Shape)(hs:s.points.length<=1000)(H:LO):∃r:Bool,aG A (g "l") [.agg (aH s)] H=QQ (.bool r,H,[]):=by
 obtain⟨v,H',wr,h1,rfl,rfl,m,rfl⟩:=h.bp (args:=[.agg (aH s)]) (H:=H) (K:=fun v H' wr=>wr=[]/\H'=H/\∃r:Bool,v=.bool r) (by
  have ot:=lG F.seg s H;obtain⟨r,hr,hc⟩:=aKZ F.yf F.Gb F.app F.zy s hs H;rcases hr with rfl | ⟨rows,rfl,gu,lv⟩
  ·simp only[tA];simp only[aH]at ot ⊢;simp only[go_sem,↓aB,seval,ot,hc,AJ];refine bJ (id:=0) (fun i ρ1 H1 wr=>wr=[]/\H1=H/\ρ1 16=vi 0) 0 (fun ρ1 H1 wr=>wr=[]/\H1=H) bIv rfl ⟨rfl,rfl,rfl⟩ ?_ ?_
   ·rintro i ρ1 H1 dc mg ⟨rfl,rfl,e16⟩ hf;have e15:ρ1 15=vi 0:=hf 15 rfl;simp only[go_sem,↓aB,seval,e16,e15,Pn,decide_false]
   rintro ρ' H' ba ⟨rfl,rfl⟩ hf;simp only[go_sem,↓aB,seval];grind
  simp only[tA];simp only[aH]at ot ⊢;simp only[go_sem,↓aB,seval,ot,hc,AJ];refine bJ (id:=0) (fun i ρ1 H1 wr=>wr=[]/\H1=H/\ρ1 16=vi (i:Nat)) rows.length (fun ρ1 H1 wr=>wr=[]/\H1=H) bIv rfl ⟨rfl,rfl,rfl⟩ ?_ ?_
  ·rintro i ρ1 H1 dc mg ⟨rfl,rfl,e16⟩ hf;have e15:ρ1 15=vi (rows.length:Nat):=hf 15 rfl;have e4:ρ1 4=vi (rows.length:Nat):=hf 4 rfl;have e3:ρ1 3=.sl QT rows:=hf 3 rfl;have e1:ρ1 1=.ep [vi s.kind,.sl QT (s.points.map bL)] 0:=hf 1 rfl;simp only[go_sem,↓aB,seval,e16,e15];refine aD (fun hb=>?_) (fun hb=>?_)
   ·have hlt:i<rows.length:=by grind
    have dy:=wS (i:=i) omT;simp only[go_sem,↓aB,seval,e16];refine bJ (id:=2) (fun k ρ2 H2 wr=>wr=[]/\H2=H1/\ρ2 20=vi (k:Nat)) i (fun ρ2 H2 wr=>wr=[]/\H2=H1) bIv rfl ⟨rfl,rfl,rfl⟩ ?_ ?_
    ·rintro k ρ2 H2 en zp ⟨rfl,rfl,f20⟩ cq;have f19:ρ2 19=vi (i:Nat):=cq 19 rfl;have f5:ρ2 5=vi (i:Nat):=cq 5 rfl;have f4:ρ2 4=vi (rows.length:Nat):=(cq 4 rfl).trans e4;have f3:ρ2 3=.sl QT rows:=(cq 3 rfl).trans e3;have f1:ρ2 1=.ep [vi s.kind,.sl QT (s.points.map bL)] 0:=(cq 1 rfl).trans e1;simp only[go_sem,↓aB,seval,f20,f19];refine aD (fun dp=>?_) (fun dp=>?_)
     ·have ow:k<i:=by grind
      have gn:=wS (i:=k) omT;have K5:AR.wrap ((rows.length:Int) - 1)=((rows.length:Int) - 1):=wrap_i64 omT omT;cases k2:(s.kind==2)with
      |false=>
       simp only[go_sem,↓aB,seval,f20,f5,f1,gn,k2,BB,AD,AA,AE];refine iF (fun e ρ' H' ba hh xb=>?_) (aCv F lv (i:=i) (k:=k) hlt omT (by simp only[go_sem,seval,f3]) (by simp only[go_sem,seval,f5]) (by simp only[go_sem,seval]) (by simp only[go_sem,seval];rfl) (by simp only[go_sem,seval];rfl));obtain⟨rfl,rfl,hh⟩:=hh;rcases hh with rfl | ⟨rfl,r2⟩
       ·have r20:ρ' 20=vi (k:Nat):=by rw[xb 20 rfT];simp only[go_sem,seval,f20]
        simp only[go_sem,↓aB,seval,r20,gn];exact ow
       simp only[go_sem,↓aB,seval,r2];grind
      |true=>
      cases kz:((k:Int)==0)with
      |false=>
       simp only[go_sem,↓aB,seval,f20,f5,f1,gn,k2,kz,Zz,BB,AD,AA,AE];refine iF (fun e ρ' H' ba hh xb=>?_) (aCv F lv (i:=i) (k:=k) hlt omT (by simp only[go_sem,seval,f3]) (by simp only[go_sem,seval,f5]) (by simp only[go_sem,seval]) (by simp only[go_sem,seval];rfl) (by simp only[go_sem,seval];rfl));obtain⟨rfl,rfl,hh⟩:=hh;rcases hh with rfl | ⟨rfl,r2⟩
       ·have r20:ρ' 20=vi (k:Nat):=by rw[xb 20 rfT];simp only[go_sem,seval,f20]
        simp only[go_sem,↓aB,seval,r20,gn];exact ow
       simp only[go_sem,↓aB,seval,r2];grind
      |true=>
       simp only[go_sem,↓aB,seval,f20,f5,f4,f1,gn,K5,k2,kz,Zz,AD,AA,AE];refine iF (fun e ρ' H' ba hh xb=>?_) (aCv F lv (i:=i) (k:=k) hlt omT (by simp only[go_sem,seval,f3]) (by simp only[go_sem,seval,f5]) (by simp only[go_sem,seval]) (by simp only[go_sem,seval];rfl) (by simp only[go_sem,seval];rfl));obtain⟨rfl,rfl,hh⟩:=hh;rcases hh with rfl | ⟨rfl,r2⟩
       ·have r20:ρ' 20=vi (k:Nat):=by rw[xb 20 rfT];simp only[go_sem,seval,f20]
        simp only[go_sem,↓aB,seval,r20,gn];exact ow
       simp only[go_sem,↓aB,seval,r2];grind
     simp only[go_sem,seval]
    rintro ρ2 H2 en ⟨rfl,rfl⟩ cq;have f16:ρ2 16=vi (i:Nat):=(cq 16 rfl).trans e16;simp only[go_sem,↓aB,seval,f16,dy];exact hlt
   simp only[go_sem,seval]
  rintro ρ' H' ba ⟨rfl,rfl⟩ hf;simp only[go_sem,↓aB,seval];grind)
 grind
end
def rD(g:SN):ag:=.block 0 (.dz (.tmp 31) [32] (qS [qq 4 (.alloc [z0,z0,z0,z0]),qs 4 4 32]<|.block 1 (qS [qf 33 0 4,qla 34 2 33,qf 35 2 4,qla 36 2 35,qq 37 (.bin .eql (.cells [.int,.int]) (u 34) (u 36))]<|qC 37 (qS [qz (.store 1 (u 2) uF)]<|.ret) (.skip))))
def aAz(g:SN):bw:=⟨38,[2,5,32,4],[.cell 2 1 QT],qS [qx 1 2 0,qq 2 (.alloc [(.bool QT)])]<|qS [qq 5 (.jn),qz (.ins (u 5) (ui 0) (ui 1)),qz (.ins (u 5) (ui 1) (ui 2)),qz (.ins (u 5) (ui 2) (ui 3)),qm 6 5,qf 7 0 1,ql 8 1 7,qq 9 (.look z0 (u 6) (u 8) QT),qm 3 9]<|.seq (qS [qm 10 3,qbi 11 .eql 10 0,qm 12 11,qF 13 12 (of 1 1),qF 14 12 (ol 1 13),qF 15 12 (on 14),qF 16 12 (om 3),qF 17 12 (ob .lss 15 16),qq 18 (.pick (u 12) uT (u 17)),qm 19 18,qF 20 19 (of 0 1),qF 21 19 (ol 1 20),qF 22 19 (obi .eql 21 0),qF 23 19 (om 22),qT 24 23 (of 1 1),qT 25 23 (ol 1 24),qT 26 23 (on 25),qT 27 23 (obi .gtr 26 1),qF 28 19 (op 23 27),qq 29 (.pick (u 19) uT (u 28))]<|qC 29 (qS [qz (.store 1 (u 2) uF)]<|.ret) (.skip))<|.seq (qS [qla 30 2 1,qc 31 (g "v") [u 30]]<|rD g)<|qS [qz (.store 1 (u 2) uT)]<|.ret⟩
section
variable {A:af}{g:SN}
abbrev aTc:ag:=qS [qq 4 (.alloc [z0,z0,z0,z0]),qs 4 4 32]<|.block 1 (qS [qf 33 0 4,qla 34 2 33,qf 35 2 4,qla 36 2 35,qq 37 (.bin .eql (.cells [.int,.int]) (u 34) (u 36))]<|qC 37 (qS [qz (.store 1 (u 2) uF)]<|.ret) (.skip))
def ShI(H:LO)(mp:ah)(pend:Option bf)(X:LO):Prop:=∃x3 l,X=H++[.box 1 [.bool QT],mp,.rnd 1 H.length [2,5,32,4] [32] aTc l QT pend,x3]/\l.length=38/\ck l 2=.ptr H.length 1 0
theorem aV2(hY:sn A)(H:LO)(mp:ah):aAv A (H.length+2) 1 H.length (H.length+4) (fun _=>ShI H mp N2) (ShI H mp (QQ .ret)):=by
 refine⟨fun i X hX=>?_,fun X hX=>?_,fun i X a b c d hi hX=>?_⟩
 ·obtain⟨x3,l,rfl,_⟩:=hX;simp
 ·obtain⟨x3,l,rfl,_⟩:=hX;simp
 obtain⟨x3,l,rfl,hl,h2⟩:=hX;refine mT hY (K:=fun e H' wr=>(if e=.normal then ShI H mp N2 H' else ShI H mp (QQ .ret) H')/\∀x∈wr,H.length<=x) (N:=38) (l:=l) (by rw[bX];rfl) rfl bIv bIv hl ?_;have hs:ck (dH l [32] [.agg [vi a,vi b,vi c,vi d]])=upd (ck l) 32 (.agg [vi a,vi b,vi c,vi d]):=nG omT;rw[hs];generalize hρ:ck l=ρ at *;simp only[DO,CW];have fq:∀{w2:LN} {n:Nat},(∀x∈w2,H.length<=x)->∀x∈FM H.length n++(H.length+2)::w2,H.length<=x:=fun {w2 n} h x hx=>by
  rcases AY.1 hx with hx | hx
  ·rw[FC]at hx;exact hx.1
  rcases BD.1 hx with rfl | hx
  ·omega
  exact h x hx
 have I5:∃r:Bool,kJ .eql (.cells [.int,.int]) (.agg [vi a,vi b]) (.agg [vi c,vi d])=QQ (.bool r):=⟨a==c&&b==d,by
  have e1:aCO .int (vi a) (vi c)=QQ (a==c):=rfl;have e2:aCO .int (vi b) (vi d)=QQ (b==d):=rfl;simp[kJ,tN,lP,e1,e2];cases (a==c)<;>cases (b==d)<;>rfl⟩
 obtain⟨r,I5⟩:=I5;simp only[go_sem,↓aB,seval];refine⟨_,_,_,_,_,rfl, ?_⟩;cases r with
 |false=>simp only[go_sem,↓aB,seval,I5];exact⟨_,_,_,_,_,rfl,⟨_,l,rfl,hl,by rw[hρ];exact h2⟩,fq siT⟩
 |true=>simp only[go_sem,↓aB,seval,h2,I5,AD,AE,AB];exact⟨_,_,_,_,_,rfl,⟨_,l,rfl,hl,by rw[hρ];exact h2⟩,fq siT⟩
theorem aGR(F:PlaneFns A g)(s:Shape)(hs:s.points.length<=1000){H:LO}{mp:ah}{ρ:bN}{Q:bf->bN->LO->LN->Prop}(Lx:ρ 31=.fn (g "q") [] [.ep [vi s.kind,.sl QT (s.points.map bL)] 0])(h2:ρ 2=.ptr H.length 1 0) (hQ:∀e x3,e=.normal∨e=.ret->Q e ρ (H++[.box 1 [.bool QT],mp,.gone 1,x3]) []):wc A 38 ⟨H.length,[2,5,32,4]⟩ (rD g) ρ (H++[.box 1 [.bool QT],mp,.gone 0,.gone 0]) [] Q ⟨⟩:=by
 simp only[rD];simp only[go_sem,seval];refine wC (id:=H.length+2) (v:=1) (X:=fun l=>H++[.box 1 [.bool QT],mp,.rnd 1 H.length [2,5,32,4] [32] aTc l QT N2,.gone 0]) Lx rfT siT (fun _=>rfT) (by unfold bH;rw[bX];rfl) (fun l=>by rw[sV];rfl) ?_;intro l hl he;obtain⟨H2,en,k1,k2,k3⟩:=wD F.zy (aV2 F.yf H mp) s.kind s.points hs _ (⟨.gone 0,l,rfl,hl,by rw[he];exact h2⟩:ShI H mp N2 _);have hw:bE H.length [] ((H.length+2)::en)=[]:=kH (fun x hx=>by rcases BD.1 hx with rfl | hx;exact EG _ _;exact k3 x hx);rcases k2 with⟨i,hi,x3,l2,rfl,iq,_⟩ | ⟨x3,l2,rfl,iq,_⟩
 ·refine⟨_,_,_,_,_,_,_,_,N2,k1,by rw[bX];rfl, ?_⟩;rw[hw,eS];show pP 0 _ _ .normal _ _ _;simp only[go_sem,seval];exact hQ .normal x3 (.inl rfl)
 refine⟨_,_,_,_,_,_,_,_,QQ .ret,k1,by rw[bX];rfl, ?_⟩;rw[hw,eS];show pP 0 _ _ .ret _ _ _;simp only[go_sem,seval];exact hQ .ret x3 (.inr rfl)
theorem aQ4(F:PlaneFns A g)(h:Has A g "m" (aAz g))(s:Shape)(hs:s.points.length<=1000)(hk:0<=s.kind/\s.kind<=2)(H:LO):∃r:Bool,aG A (g "m") [.agg (aH s)] H=QQ (.bool r,H,[]):=by
 obtain⟨v,H',wr,h1,rfl,rfl,m,rfl⟩:=h.bp (args:=[.agg (aH s)]) (H:=H) (K:=fun v H' wr=>wr=[]/\H'=H/\∃r:Bool,v=.bool r) (by
  have ot:=fun H=>lG F.seg s H;simp only[aAz];simp only[aH]at ot ⊢;obtain⟨Rj,z8⟩:=hk;have Ly:s.kind=0∨s.kind=1∨s.kind=2:=omT;rcases Ly with hk | hk | hk
  ·rw[hk]at ot ⊢;cases e1:decide ((s.points.length:Int)<1)with
   |true=>simp only[go_sem,↓aB,seval,AF,e1];exact⟨_,rfl⟩
   |false=>
    simp only[go_sem,↓aB,seval,AF,e1];refine aD (fun hb=>?_) (fun hb=>?_)
    ·simp only[go_sem,↓aB,seval];exact⟨_,rfl⟩
    simp only[go_sem,↓aB,seval,ot];refine aGR F s hs (by rw[hk];rfl) rfT ?_;intro e x3 he;rcases he with rfl | rfl
    ·simp only[go_sem,↓aB,seval];exact⟨_,rfl⟩
    simp only[go_sem,↓aB,seval];exact⟨_,rfl⟩
  ·rw[hk]at ot ⊢;cases e1:decide ((s.points.length:Int)<2)with
   |true=>simp only[go_sem,↓aB,seval,AF,e1];exact⟨_,rfl⟩
   |false=>
    simp only[go_sem,↓aB,seval,ot,AF,e1];refine aGR F s hs (by rw[hk];rfl) rfT ?_;intro e x3 he;rcases he with rfl | rfl
    ·simp only[go_sem,↓aB,seval];exact⟨_,rfl⟩
    simp only[go_sem,↓aB,seval];exact⟨_,rfl⟩
  rw[hk]at ot ⊢;cases e1:decide ((s.points.length:Int)<3)with
  |true=>simp only[go_sem,↓aB,seval,AF,e1];exact⟨_,rfl⟩
  |false=>
   simp only[go_sem,↓aB,seval,ot,AF,e1];refine aGR F s hs (by rw[hk];rfl) rfT ?_;intro e x3 he;rcases he with rfl | rfl
   ·simp only[go_sem,↓aB,seval];exact⟨_,rfl⟩
   simp only[go_sem,↓aB,seval];exact⟨_,rfl⟩)
 exact⟨m,h1⟩
end
end Go.AM
end
