/- Part 24: lemmas for the last text. -/
import Derived.Test.YtfpndhocfmfgdaaGreatDoorK23
set_option linter.unusedVariables false
set_option linter.unusedSimpArgs false
open Bool renaming not_true -> BT
section
set_option maxRecDepth 8000
namespace Go.AM
open Go
def mN(g:String->Nat):AFn:=⟨24,[2,3],[.tmp 4],qS [qx 2 3 0,qx 3 3 1,qmc 4 (.bool false)]<|qS [qf 5 0 2,ql 6 1 5,qf 7 0 3,ql 8 1 7,qb 9 .eql 6 8,qm 10 9,qT 11 10 (of 1 2),qT 12 10 (ol 1 11),qT 13 10 (of 1 3),qT 14 10 (ol 1 13),qT 15 10 (ob .eql 12 14),qp 16 10 15,qm 17 16,qT 18 17 (of 2 2),qT 19 17 (ol 1 18),qT 20 17 (of 2 3),qT 21 17 (ol 1 20),qT 22 17 (oc (g "slices.EqualFunc[[]dactyl/api.Expr,[]dactyl/api.Expr,dactyl/api.Expr,dactyl/api.Expr]") [u 19,u 21,uf (g "dactyl/syntax.sameExpr")]),qp 23 17 22,qm 4 23]<|.ret⟩
def mO(g:String->Nat):AFn:=⟨17,[2,3],[.tmp 4],qS [qx 2 2 0,qx 3 2 1,qmc 4 (.bool false)]<|qS [qf 5 0 2,ql 6 1 5,qf 7 0 3,ql 8 1 7,qb 9 .eql 6 8,qm 10 9,qT 11 10 (of 1 2),qT 12 10 (ol 1 11),qT 13 10 (of 1 3),qT 14 10 (ol 1 13),qT 15 10 (oc (g "slices.Equal[[]dactyl/api.Point,dactyl/api.Point]") [u 12,u 14]),qp 16 10 15,qm 4 16]<|.ret⟩
def mP(g:String->Nat):AFn:=⟨8,[],[.tmp 4],qS [qmc 4 (.bool false)]<|qS [qm 5 0,qm 6 1,qc 7 (g "slices.EqualFunc[[][]dactyl/api.Note,[][]dactyl/api.Note,[]dactyl/api.Note,[]dactyl/api.Note]") [u 5,u 6,uf (g "slices.Equal[[]dactyl/api.Note,dactyl/api.Note]")],qm 4 7]<|.ret⟩
def oU(g:String->Nat):AFn:=⟨98,[2,3],[.tmp 4],qS [qx 2 13 0,qx 3 13 1,qmc 4 (.bool false)]<|qS [qmc 5 (.fn (g "dactyl/syntax.sameBlock$1") [] [])]<|qS [qmc 6 (.fn (g "dactyl/syntax.sameBlock$2") [] [])]<|qS [qf 7 0 2,ql 8 1 7,qf 9 0 3,ql 10 1 9,qb 11 .eql 8 10,qm 12 11,qT 13 12 (of 1 2),qT 14 12 (ol 1 13),qT 15 12 (of 1 3),qT 16 12 (ol 1 15),qT 17 12 (oc (g "slices.Equal[[]dactyl/api.Run,dactyl/api.Run]") [u 14,u 16]),qp 18 12 17,qm 19 18,qT 20 19 (of 2 2),qT 21 19 (ola 3 20),qT 22 19 (of 2 3),qT 23 19 (ola 3 22),qT 24 19 (oc (g "dactyl/syntax.sameExpr") [u 21,u 23]),qp 25 19 24,qm 26 25,qT 27 26 (of 5 2),qT 28 26 (of 0 27),qT 29 26 (ol 1 28),qT 30 26 (of 5 3),qT 31 26 (of 0 30),qT 32 26 (ol 1 31),qT 33 26 (ob .eql 29 32),qp 34 26 33,qm 35 34,qT 36 35 (of 5 2),qT 37 35 (of 1 36),qT 38 35 (ol 1 37),qT 39 35 (of 5 3),qT 40 35 (of 1 39),qT 41 35 (ol 1 40),qT 42 35 (oc (g "slices.Equal[[]int,int]") [u 38,u 41]),qp 43 35 42,qm 44 43,qT 45 44 (of 7 2),qT 46 44 (of 0 45),qT 47 44 (ol 1 46),qT 48 44 (of 7 3),qT 49 44 (of 0 48),qT 50 44 (ol 1 49),qT 51 44 (oc (g "slices.EqualFunc[[][]string,[][]string,[]string,[]string]") [u 47,u 50,uf (g "slices.Equal[[]string,string]")]),qp 52 44 51,qm 53 52,qT 54 53 (of 8 2),qT 55 53 (of 0 54),qT 56 53 (ol 1 55),qT 57 53 (of 8 3),qT 58 53 (of 0 57),qT 59 53 (ol 1 58),qT 60 53 (ob .eql 56 59),qp 61 53 60,qm 62 61,qT 63 62 (of 8 2),qT 64 62 (of 1 63),qT 65 62 (ol 1 64),qT 66 62 (of 8 3),qT 67 62 (of 1 66),qT 68 62 (ol 1 67),qT 69 62 (ob .eql 65 68),qp 70 62 69,qm 71 70,qT 72 71 (of 8 2),qT 73 71 (of 2 72),qT 74 71 (ol 1 73),qT 75 71 (of 8 3),qT 76 71 (of 2 75),qT 77 71 (ol 1 76),qT 78 71 (om 5),qT 79 71 (oc (g "slices.EqualFunc[[]dactyl/api.Shape,[]dactyl/api.Shape,dactyl/api.Shape,dactyl/api.Shape]") [u 74,u 77,u 78]),qp 80 71 79,qm 81 80,qT 82 81 (of 11 2),qT 83 81 (of 0 82),qT 84 81 (ol 1 83),qT 85 81 (of 11 3),qT 86 81 (of 0 85),qT 87 81 (ol 1 86),qT 88 81 (om 6),qT 89 81 (oc (g "slices.EqualFunc[[][][]dactyl/api.Note,[][][]dactyl/api.Note,[][]dactyl/api.Note,[][]dactyl/api.Note]") [u 84,u 87,u 88]),qp 90 81 89,qm 91 90,qT 92 91 (of 12 2),qT 93 91 (ol 1 92),qT 94 91 (of 12 3),qT 95 91 (ol 1 94),qT 96 91 (oc (g "slices.Equal[[]string,string]") [u 93,u 95]),qp 97 91 96,qm 4 97]<|.ret⟩
def lX(g:String->Nat):AFn:=⟨52,[2,3],[.tmp 4],qS [qx 2 7 0,qx 3 7 1,qmc 4 (.bool false)]<|qS [qf 5 0 2,ql 6 1 5,qf 7 0 3,ql 8 1 7,qb 9 .eql 6 8,qm 10 9,qT 11 10 (of 4 2),qT 12 10 (ol 1 11),qT 13 10 (of 4 3),qT 14 10 (ol 1 13),qT 15 10 (ob .eql 12 14),qp 16 10 15,qm 17 16,qT 18 17 (of 5 2),qT 19 17 (ol 1 18),qT 20 17 (of 5 3),qT 21 17 (ol 1 20),qT 22 17 (ob .eql 19 21),qp 23 17 22,qm 24 23,qT 25 24 (of 1 2),qT 26 24 (ol 1 25),qT 27 24 (of 1 3),qT 28 24 (ol 1 27),qT 29 24 (oc (g "slices.Equal[[]dactyl/api.Run,dactyl/api.Run]") [u 26,u 28]),qp 30 24 29,qm 31 30,qT 32 31 (of 2 2),qT 33 31 (ol 1 32),qT 34 31 (of 2 3),qT 35 31 (ol 1 34),qT 36 31 (oc (g "slices.Equal[[]string,string]") [u 33,u 35]),qp 37 31 36,qm 38 37,qT 39 38 (of 3 2),qT 40 38 (ol 1 39),qT 41 38 (of 3 3),qT 42 38 (ol 1 41),qT 43 38 (oc (g "slices.Equal[[]int,int]") [u 40,u 42]),qp 44 38 43,qm 45 44,qT 46 45 (of 6 2),qT 47 45 (ol 1 46),qT 48 45 (of 6 3),qT 49 45 (ol 1 48),qT 50 45 (oc (g "slices.Equal[[]string,string]") [u 47,u 49]),qp 51 45 50,qm 4 51]<|.ret⟩
def vW(g:String->Nat):AFn:=⟨31,[2,3],[.tmp 4],qS [qx 2 4 0,qx 3 4 1,qmc 4 (.bool false)]<|qS [qf 5 0 2,ql 6 1 5,qf 7 0 3,ql 8 1 7,qb 9 .eql 6 8,qm 10 9,qT 11 10 (of 1 2),qT 12 10 (ol 1 11),qT 13 10 (of 1 3),qT 14 10 (ol 1 13),qT 15 10 (oc (g "slices.EqualFunc[[]dactyl/api.Block,[]dactyl/api.Block,dactyl/api.Block,dactyl/api.Block]") [u 12,u 14,uf (g "dactyl/syntax.sameBlock")]),qp 16 10 15,qm 17 16,qT 18 17 (of 2 2),qT 19 17 (ol 1 18),qT 20 17 (of 2 3),qT 21 17 (ol 1 20),qT 22 17 (oc (g "slices.Equal[[]dactyl/api.Fact,dactyl/api.Fact]") [u 19,u 21]),qp 23 17 22,qm 24 23,qT 25 24 (of 3 2),qT 26 24 (ol 1 25),qT 27 24 (of 3 3),qT 28 24 (ol 1 27),qT 29 24 (oc (g "slices.EqualFunc[[]dactyl/api.Question,[]dactyl/api.Question,dactyl/api.Question,dactyl/api.Question]") [u 26,u 28,uf (g "dactyl/syntax.sameQuestion")]),qp 30 24 29,qm 4 30]<|.ret⟩
def aAL(g:String->Nat):AFn:=⟨17,[2,3],[.tmp 4],qS [qx 2 2 0,qx 3 2 1,qmc 4 (.bool false)]<|qS [qf 5 0 2,ql 6 1 5,qf 7 0 3,ql 8 1 7,qb 9 .eql 6 8,qm 10 9,qT 11 10 (of 1 2),qT 12 10 (ol 1 11),qT 13 10 (of 1 3),qT 14 10 (ol 1 13),qT 15 10 (oc (g "slices.EqualFunc[[]dactyl/api.Item,[]dactyl/api.Item,dactyl/api.Item,dactyl/api.Item]") [u 12,u 14,uf (g "dactyl/syntax.Same$1")]),qp 16 10 15,qm 4 16]<|.ret⟩
noncomputable def eqv{α:Type}(a b:α):Bool:=@decide (a=b) (Classical.propDecidable _)
theorem dI{α:Type}{a b:α}:eqv a b=true↔a=b:=by unfold eqv;simp
theorem aOv{α:Type}{a:α}:eqv a a=true:=dI.2 rfl
theorem aHT{α:Type}{a b:α}(h:a≠b):eqv a b=false:=by unfold eqv;simp[h]
theorem yU{α:Type}[BEq α][LawfulBEq α]{a b:α}:(a==b)=eqv a b:=by
 rw[Bool.eq_iff_iff,dI];simp
theorem aDw{a b:Int}:(a==b)=eqv a b:=yU
theorem aLA{a b:List UInt8}:(a==b)=eqv a b:=yU
theorem aJ3{α:Type}:∀{x y:List α},eqL eqv x y=eqv x y
 | [],[]=>aOv.symm
 | [],_::_=>by rw[aHT (by simp)];rfl
 |_::_,[]=>by rw[aHT (by simp)];rfl
 |a::x,b::y=>by
  unfold eqL;rw[aJ3,Bool.eq_iff_iff,Bool.and_eq_true,dI,dI,dI];simp
theorem aRf{a b:Run}:eqv a b=(eqv a.lang b.lang&&eqv a.text b.text):=by
 rw[Bool.eq_iff_iff,Bool.and_eq_true,dI,dI,dI];cases a;cases b;simp
theorem aMu{a b:Int×Int}:eqv a b=(eqv a.1 b.1&&eqv a.2 b.2):=by
 rw[Bool.eq_iff_iff,Bool.and_eq_true,dI,dI,dI];cases a;cases b;simp
theorem aHU{a b:Shape}:eqv a b=(eqv a.kind b.kind&&eqv a.points b.points):=by
 rw[Bool.eq_iff_iff,Bool.and_eq_true,dI,dI,dI];cases a;cases b;simp
theorem aOw{a b:Note}:eqv a b=(eqv a.step b.step&&(eqv a.length b.length&&eqv a.alter b.alter)):=by
 rw[Bool.eq_iff_iff];simp only[Bool.and_eq_true,dI];cases a;cases b;simp
theorem aK2{a b:Fact}:eqv a b=(eqv a.kind b.kind&&(eqv a.block b.block&&(eqv a.a b.a&&eqv a.b b.b))):=by
 rw[Bool.eq_iff_iff];simp only[Bool.and_eq_true,dI];cases a;cases b;simp
def kP{α:Type}(A:AProg)(f:Nat)(v:α->AV)(P:α->Prop):Prop:=aJ2 A f v eqv P
abbrev aAM{α:Type}(A:AProg)(f:Nat)(enc:α->List AV):Prop:=∀(x y:List α) (H:List AObj),x.length<4611686018427387904->aL A f [.sl false (x.map enc),.sl false (y.map enc)] H=some (.bool (eqv x y),H,[])
abbrev aGC{α:Type}(A:AProg)(f h:Nat)(enc:α->List AV)(P:α->Prop):Prop:=
 ∀(x y:List α) (H:List AObj),x.length<4611686018427387904->(∀a∈x,P a)->aL A f [.sl false (x.map enc),.sl false (y.map enc),.fn h [] []] H=some (.bool (eqv x y),H,[])
theorem aMs.eqv{α:Type}{A:AProg}{f:Nat}{enc:α->List AV}(h:aMs A f enc eqv):aAM A f enc:=fun x y H hx=>by rw[h x y H hx,aJ3]
theorem aGB.eqv{α:Type}{A:AProg}{f f2:Nat}{enc:α->List AV}{P:α->Prop}(h:aGB A f f2 enc eqv P):aGC A f f2 enc P:=fun x y H hx hP=>by rw[h x y H hx hP,aJ3]
theorem aPI{A:AProg}{f:Nat}(hf:A.fn f=some (lW 1 false .no))(hp:A.prim f=none):aAM A f bD:=
 (pZ hf hp (fun _=>rfl) (fun _=>rfl) (fun a b=>by rw[<- yU];simp[asV,bD,aR3,bne])).eqv
theorem aK3{A:AProg}{f:Nat}(hf:A.fn f=some (lW 1 false .no))(hp:A.prim f=none):aAM A f aN:=
 (pZ hf hp (fun _=>rfl) (fun _=>rfl) (fun a b=>by rw[<- yU];simp[asV,aN,aOr,bne])).eqv
theorem aBx{ts:List Tag}{x y:List AV}{b:Bool}(h:jQ ts x y=some b):kM .neq (.cells ts) (.agg x) (.agg y)=some (.bool !b):=by
 simp[kM,qD,h]
theorem aPJ{A:AProg}{f:Nat}(hf:A.fn f=some (lW 2 true (.cells [.int,.str])))(hp:A.prim f=none):aAM A f cW:=
 (pZ hf hp (fun _=>rfl) (fun _=>rfl) (fun a b=>aBx (by
  rw[aRf];simp only[cW,jQ,aAc,if_true,yU];cases eqv a.lang b.lang<;>cases eqv a.text b.text<;>rfl))).eqv
theorem aOx{A:AProg}{f:Nat}(hf:A.fn f=some (lW 2 true (.cells [.int,.int])))(hp:A.prim f=none):aAM A f bQ:=
 (pZ hf hp (fun _=>rfl) (fun _=>rfl) (fun a b=>aBx (by
  rw[aMu];simp only[bQ,jQ,aAc,if_true,yU];cases eqv a.1 b.1<;>cases eqv a.2 b.2<;>rfl))).eqv
theorem aRg{A:AProg}{f:Nat}(hf:A.fn f=some (lW 3 true (.cells [.int,.int,.int])))(hp:A.prim f=none):aAM A f cK:=
 (pZ hf hp (fun _=>rfl) (fun _=>rfl) (fun a b=>aBx (by
  rw[aOw];simp only[cK,jQ,aAc,if_true,yU];cases eqv a.step b.step<;>cases eqv a.length b.length<;>cases eqv a.alter b.alter<;>rfl))).eqv
theorem aRh{A:AProg}{f:Nat}(hf:A.fn f=some (lW 4 true (.cells [.int,.int,.int,.int])))(hp:A.prim f=none):aAM A f bJ:=
 (pZ hf hp (fun _=>rfl) (fun _=>rfl) (fun a b=>aBx (by
  rw[aK2];simp only[bJ,jQ,aAc,if_true,yU];cases eqv a.kind b.kind<;>cases eqv a.block b.block<;>cases eqv a.a b.a<;>cases eqv a.b b.b<;>rfl))).eqv
theorem aGD{α:Type}{A:AProg}{f h:Nat}{v:α->AV}{enc:α->List AV}{P:α->Prop}(hf:A.fn f=some aEk)(hp:A.prim f=none)(hv:∀a,enc a=[v a])(hd:∀a,(v a).data=true)(hd2:∀a,(v a).cellOk=true)
  (hc:kP A h v P):aGC A f h enc P:=(aMt hf hp hv hd hd2 hc).eqv
theorem aEl{α:Type}{A:AProg}{f h k:Nat}{zs:List AV}{enc:α->List AV}{P:α->Prop}(hf:A.fn f=some (aF3 k zs))(hp:A.prim f=none)(hz:zs.length=k)(hk:∀a,(enc a).length=k)
  (hd:∀a,jE (enc a)=true) (hc:kP A h (fun a=>.agg (enc a)) P):aGC A f h enc P:=(aOu hf hp hz hk hd hc).eqv
abbrev Len{α:Type}(l:List α):Prop:=l.length<4611686018427387904
theorem aV:∀l:List Expr,gB l=l.map aF
 | []=>rfl
 |e::r=>by rw[gB,aV r];rfl
theorem cQ(b:Block):(aE b).length=13:=by
 obtain⟨_,_,⟨_,_,_⟩,_,_,_,_,_,_,_,_⟩:=b;rfl
theorem dC(e:Expr):(aF e).length=3:=by cases e;rfl
theorem aGE{A:AProg}{g:String->Nat}(h:Has A g "dactyl/syntax.sameExpr" (mN g))
  (hf:A.fn (g "slices.EqualFunc[[]dactyl/api.Expr,[]dactyl/api.Expr,dactyl/api.Expr,dactyl/api.Expr]")=some (aF3 3 [.int .i64 0,.int .i64 0,.sl true []]))
  (hp:A.prim (g "slices.EqualFunc[[]dactyl/api.Expr,[]dactyl/api.Expr,dactyl/api.Expr,dactyl/api.Expr]")=none):
  kP A (g "dactyl/syntax.sameExpr") (fun e=>.agg (aF e)) Expr.Ok:=by
 have key:∀n:Nat,kP A (g "dactyl/syntax.sameExpr") (fun e=>.agg (aF e)) (fun e=>Expr.Ok e/\SizeOf.sizeOf e<n):=by
  intro n
  induction n with
  |zero=>intro a b H ha;exact absurd ha.2 (by omega)
  |succ n ih=>
   intro a b H ha;have hk:=aEl (enc:=aF) hf hp rfl dC aQ ih;obtain⟨op,n1,kids⟩:=a;obtain⟨op',n1',kids'⟩:=b;obtain⟨⟨_,_,_,_,_,hl,hks⟩,hsz⟩:=ha;have hkk:=fun H=>hk kids kids' H (by omega) (fun e he=>⟨hks e he,by
    have:=List.sizeOf_lt_of_mem he;simp only[Expr.mk.sizeOf_spec]at hsz;omega⟩)
   have hE:eqv (Expr.mk op n1 kids) (Expr.mk op' n1' kids')=(eqv op op'&&(eqv n1 n1'&&eqv kids kids')):=by
    rw[Bool.eq_iff_iff];simp only[Bool.and_eq_true,dI];simp
   refine h.call (by simp[mN]) (by kernel_rfl) ?_
   simp only[mN,aF,aV];cases e1:eqv op op' with
   |false=>simp only[go_sem,seval,aDw,hE,e1]
   |true=>cases e2:eqv n1 n1' with
    |false=>simp only[go_sem,seval,aDw,hE,e1,e2]
    |true=>simp only[go_sem,seval,aDw,hE,e1,e2,hkk]
 intro a b H ha;exact key (SizeOf.sizeOf a+1) a b H ⟨ha,by omega⟩
structure HasSame(A:AProg)(g:String->Nat):Prop where
 same:Has A g "dactyl/syntax.Same" (aAL g)
 same1:Has A g "dactyl/syntax.Same$1" (vW g)
 block:Has A g "dactyl/syntax.sameBlock" (oU g)
 block1:Has A g "dactyl/syntax.sameBlock$1" (mO g)
 block2:Has A g "dactyl/syntax.sameBlock$2" (mP g)
 question:Has A g "dactyl/syntax.sameQuestion" (lX g)
 expr:Has A g "dactyl/syntax.sameExpr" (mN g)
 eItem:Has A g "slices.EqualFunc[[]dactyl/api.Item,[]dactyl/api.Item,dactyl/api.Item,dactyl/api.Item]" (aF3 4 [.str [],.sl true [],.sl true [],.sl true []])
 eBlock:Has A g "slices.EqualFunc[[]dactyl/api.Block,[]dactyl/api.Block,dactyl/api.Block,dactyl/api.Block]"
  (aF3 13 [(.int .i64 0),(.sl true []),(.int .i64 0),(.int .i64 0),(.sl true []),(.int .i64 0),(.sl true []),(.sl true []),(.int .i64 0),(.int .i64 0),(.sl true []),(.sl true []),(.sl true [])])
 eQuestion:Has A g "slices.EqualFunc[[]dactyl/api.Question,[]dactyl/api.Question,dactyl/api.Question,dactyl/api.Question]"
  (aF3 7 [(.int .i64 0),(.sl true []),(.sl true []),(.sl true []),(.str []),(.int .i64 0),(.sl true [])])
 eShape:Has A g "slices.EqualFunc[[]dactyl/api.Shape,[]dactyl/api.Shape,dactyl/api.Shape,dactyl/api.Shape]" (aF3 2 [(.int .i64 0),(.sl true [])])
 eExpr:Has A g "slices.EqualFunc[[]dactyl/api.Expr,[]dactyl/api.Expr,dactyl/api.Expr,dactyl/api.Expr]" (aF3 3 [(.int .i64 0),(.int .i64 0),(.sl true [])])
 eBars:Has A g "slices.EqualFunc[[][]dactyl/api.Note,[][]dactyl/api.Note,[]dactyl/api.Note,[]dactyl/api.Note]" aEk
 eHands:Has A g "slices.EqualFunc[[][][]dactyl/api.Note,[][][]dactyl/api.Note,[][]dactyl/api.Note,[][]dactyl/api.Note]" aEk
 eRows:Has A g "slices.EqualFunc[[][]string,[][]string,[]string,[]string]" aEk
 fact:Has A g "slices.Equal[[]dactyl/api.Fact,dactyl/api.Fact]" (lW 4 true (.cells [.int,.int,.int,.int]))
 point:Has A g "slices.Equal[[]dactyl/api.Point,dactyl/api.Point]" (lW 2 true (.cells [.int,.int]))
 note:Has A g "slices.Equal[[]dactyl/api.Note,dactyl/api.Note]" (lW 3 true (.cells [.int,.int,.int]))
 run:Has A g "slices.Equal[[]dactyl/api.Run,dactyl/api.Run]" (lW 2 true (.cells [.int,.str]))
 int:Has A g "slices.Equal[[]int,int]" (lW 1 false .no)
 str:Has A g "slices.Equal[[]string,string]" (lW 1 false .no)
section
variable {A:AProg}{g:String->Nat}(h:HasSame A g)
include h
theorem aL0:kP A (g "dactyl/syntax.sameBlock$1") (fun s=>.agg (bB s)) Shape.Ok:=by
 intro a b H ha;have hP:=aOx h.point.fn h.point.prim;have hp:=fun H=>hP a.points b.points H (by have:=ha.len;omega)
 refine h.block1.call (by simp[mO]) (by kernel_rfl) ?_
 simp only[mO,bB];cases e1:eqv a.kind b.kind with
 |false=>simp only[go_sem,seval,aDw,aHU,e1]
 |true=>simp only[go_sem,seval,aDw,aHU,e1,hp]
theorem aOy:kP A (g "slices.Equal[[]dactyl/api.Note,dactyl/api.Note]") (fun l:List Note=>.sl false (l.map cK)) (fun l=>l.length<=16):=by
 intro a b H ha;exact aRg h.note.fn h.note.prim a b H (by omega)
theorem aMv:kP A (g "dactyl/syntax.sameBlock$2") (fun l:List (List Note)=>.sl false (l.map gS)) (fun l=>l.length<=16/\∀b∈l,b.length<=16):=by
 intro a b H ha;have hE:=aGD (enc:=gS) h.eBars.fn h.eBars.prim (fun _=>rfl) (fun _=>aB aBw _) (fun _=>rfl) (aOy h);have hp:=fun H=>hE a b H (by have:=ha.1;omega) ha.2
 refine h.block2.call (by simp[mP]) (by kernel_rfl) ?_
 simp only[mP];simp only[go_sem,seval,hp]
theorem aOz:kP A (g "slices.Equal[[]string,string]") (fun l:List Str=>.sl false (l.map aN)) (fun l=>l.length<=16):=by
 intro a b H ha;exact aK3 h.str.fn h.str.prim a b H (by omega)
theorem aGF:kP A (g "dactyl/syntax.sameQuestion") (fun q=>.agg (vV q)) Question.Ok:=by
 intro a b H ha;have h1:=fun H=>aPJ h.run.fn h.run.prim a.stem b.stem H (by have:=ha.lenS;omega)
 have h2:=fun H=>aK3 h.str.fn h.str.prim a.options b.options H (by have:=ha.lenO;omega)
 have h3:=fun H=>aPI h.int.fn h.int.prim a.needs b.needs H (by have:=ha.lenN;omega)
 have h4:=fun H=>aK3 h.str.fn h.str.prim a.reasons b.reasons H (by have:=ha.lenR;omega)
 have hE:eqv a b=(eqv a.kind b.kind&&(eqv a.key b.key&&(eqv a.points b.points&&(eqv a.stem b.stem&&(eqv a.options b.options&&(eqv a.needs b.needs&&eqv a.reasons b.reasons)))))):=by
  rw[Bool.eq_iff_iff];simp only[Bool.and_eq_true,dI];cases a;cases b;simp;grind
 refine h.question.call (by simp[lX]) (by kernel_rfl) ?_
 simp only[lX,vV];cases e1:eqv a.kind b.kind with
 |false=>simp only[go_sem,seval,aDw,hE,e1]
 |true=>
  cases e2:eqv a.key b.key with
  |false=>simp only[go_sem,seval,aDw,aLA,hE,e1,e2]
  |true=>
   cases e3:eqv a.points b.points with
   |false=>simp only[go_sem,seval,aDw,aLA,hE,e1,e2,e3]
   |true=>
    cases e4:eqv a.stem b.stem with
    |false=>simp only[go_sem,seval,aDw,aLA,hE,e1,e2,e3,h1,e4]
    |true=>
     cases e5:eqv a.options b.options with
     |false=>simp only[go_sem,seval,aDw,aLA,hE,e1,e2,e3,h1,e4,h2,e5]
     |true=>
      cases e6:eqv a.needs b.needs with
      |false=>simp only[go_sem,seval,aDw,aLA,hE,e1,e2,e3,h1,e4,h2,e5,h3,e6]
      |true=>
       simp only[go_sem,seval,aDw,aLA,hE,e1,e2,e3,h1,e4,h2,e5,h3,e6,h4]
theorem aFS:kP A (g "dactyl/syntax.sameBlock") (fun q=>.agg (aE q)) Block.Ok:=by
 intro a b H ha;have h1:=fun H=>aPJ h.run.fn h.run.prim a.runs b.runs H (by have:=ha.lenR;omega)
 have h2:=fun H=>aGE h.expr h.eExpr.fn h.eExpr.prim a.expr b.expr H ha.expr;have h3:=fun H=>aPI h.int.fn h.int.prim a.sumA b.sumA H (by have:=ha.lenA;omega)
 have h4:=fun H=>(aGD (enc:=cA) h.eRows.fn h.eRows.prim (fun _=>rfl) (fun _=>aB bL _) (fun _=>rfl) (aOz h)) a.grid b.grid H (by have:=ha.lenG;omega) (fun r hr=>(ha.grid r hr).1)
 have h5:=fun H=>(aEl (enc:=bB) h.eShape.fn h.eShape.prim rfl (fun _=>rfl) bR (aL0 h)) a.shapes b.shapes H (by have:=ha.lenS;omega) ha.shapes
 have h6:=fun H=>(aGD (enc:=cE) h.eHands.fn h.eHands.prim (fun _=>rfl) (fun _=>aB aDv _) (fun _=>rfl) (aMv h)) a.hands b.hands H (by have:=ha.lenH;omega)
  (fun r hr=>⟨(ha.hands r hr).1,fun l hl=>((ha.hands r hr).2 l hl).1⟩)
 have h7:=fun H=>aK3 h.str.fn h.str.prim a.lines b.lines H (by have:=ha.lenL;omega)
 have hE:eqv a b=(eqv a.kind b.kind&&(eqv a.runs b.runs&&(eqv a.expr b.expr&&(eqv a.sumOp b.sumOp&&(eqv a.sumA b.sumA&&(eqv a.grid b.grid&&(eqv a.w b.w&&(eqv a.h b.h&&(eqv a.shapes b.shapes&&(eqv a.hands b.hands&&eqv a.lines b.lines)))))))))):=by
  rw[Bool.eq_iff_iff];simp only[Bool.and_eq_true,dI];cases a;cases b;simp
 cases hae:a.expr with | mk op n kids=>
 cases hbe:b.expr with | mk op' n' kids'=>
 rw[hae,hbe]at h2;rw[hae,hbe]at hE;simp only[aF,aV]at h2;refine h.block.call (by simp[oU]) (by kernel_rfl) ?_
 simp only[oU,aE,hae,hbe,aF,aV];cases e1:eqv a.kind b.kind with
 |false=>simp only[go_sem,seval,aDw,hE,e1]
 |true=>
  cases e2:eqv a.runs b.runs with
  |false=>simp only[go_sem,seval,aDw,hE,e1,h1,e2]
  |true=>
   cases e3:eqv (Expr.mk op n kids) (Expr.mk op' n' kids')with
   |false=>simp only[go_sem,seval,aDw,hE,e1,h1,e2,h2,e3]
   |true=>
    cases e4:eqv a.sumOp b.sumOp with
    |false=>simp only[go_sem,seval,aDw,hE,e1,h1,e2,h2,e3,e4]
    |true=>
     cases e5:eqv a.sumA b.sumA with
     |false=>simp only[go_sem,seval,aDw,hE,e1,h1,e2,h2,e3,e4,h3,e5]
     |true=>
      cases e6:eqv a.grid b.grid with
      |false=>simp only[go_sem,seval,aDw,hE,e1,h1,e2,h2,e3,e4,h3,e5,h4,e6]
      |true=>
       cases e7:eqv a.w b.w with
       |false=>simp only[go_sem,seval,aDw,hE,e1,h1,e2,h2,e3,e4,h3,e5,h4,e6,e7]
       |true=>
        cases e8:eqv a.h b.h with
        |false=>simp only[go_sem,seval,aDw,hE,e1,h1,e2,h2,e3,e4,h3,e5,h4,e6,e7,e8]
        |true=>
         cases e9:eqv a.shapes b.shapes with
         |false=>simp only[go_sem,seval,aDw,hE,e1,h1,e2,h2,e3,e4,h3,e5,h4,e6,e7,e8,h5,e9]
         |true=>
          cases e10:eqv a.hands b.hands with
          |false=>simp only[go_sem,seval,aDw,hE,e1,h1,e2,h2,e3,e4,h3,e5,h4,e6,e7,e8,h5,e9,h6,e10]
          |true=>
           simp only[go_sem,seval,aDw,hE,e1,h1,e2,h2,e3,e4,h3,e5,h4,e6,e7,e8,h5,e9,h6,e10,h7]
theorem aMw:kP A (g "dactyl/syntax.Same$1") (fun q=>.agg (cG q)) Item.Ok:=by
 intro a b H ha;have h1:=fun H=>(aEl (enc:=aE) h.eBlock.fn h.eBlock.prim rfl cQ bO (aFS h)) a.blocks b.blocks H (by have:=ha.lenB;omega) ha.blocks
 have h2:=fun H=>aRh h.fact.fn h.fact.prim a.facts b.facts H (by have:=ha.lenF;omega)
 have h3:=fun H=>(aEl (enc:=vV) h.eQuestion.fn h.eQuestion.prim rfl (fun _=>rfl) yT (aGF h)) a.ask b.ask H (by have:=ha.lenA;omega) ha.ask
 have hE:eqv a b=(eqv a.name b.name&&(eqv a.blocks b.blocks&&(eqv a.facts b.facts&&eqv a.ask b.ask))):=by
  rw[Bool.eq_iff_iff];simp only[Bool.and_eq_true,dI];cases a;cases b;simp
 refine h.same1.call (by simp[vW]) (by kernel_rfl) ?_
 simp only[vW,cG];cases e1:eqv a.name b.name with
 |false=>simp only[go_sem,seval,aLA,hE,e1]
 |true=>
  cases e2:eqv a.blocks b.blocks with
  |false=>simp only[go_sem,seval,aLA,hE,e1,h1,e2]
  |true=>
   cases e3:eqv a.facts b.facts with
   |false=>simp only[go_sem,seval,aLA,hE,e1,h1,e2,h2,e3]
   |true=>
    simp only[go_sem,seval,aLA,hE,e1,h1,e2,h2,e3,h3]
theorem aMx:kP A (g "dactyl/syntax.Same") eL Exam.Ok:=by
 intro a b H ha;have h1:=fun H=>(aEl (enc:=cG) h.eItem.fn h.eItem.prim rfl (fun _=>rfl) dB (aMw h)) a.items b.items H (by have:=ha.lenI;omega) ha.items
 have hE:eqv a b=(eqv a.title b.title&&eqv a.items b.items):=by
  rw[Bool.eq_iff_iff];simp only[Bool.and_eq_true,dI];cases a;cases b;simp
 refine h.same.call (by simp[aAL]) (by kernel_rfl) ?_
 simp only[aAL,eL];cases e1:eqv a.title b.title with
 |false=>simp only[go_sem,seval,aLA,hE,e1]
 |true=>
  simp only[go_sem,seval,aLA,hE,e1,h1]
end
def pK(g:String->Nat):AFn:=⟨15,[],[.tmp 6],qS [qmc 6 (.bool false)]<|qS [qm 7 0,qm 8 1,qb 9 .geq 7 8,qm 10 9,qT 11 10 (om 0),qT 12 10 (om 2),qT 13 10 (ob .leq 11 12),qp 14 10 13,qm 6 14]<|.ret⟩
def wi(n a b:Int):Bool:=decide (n ≥ a)&&decide (n<=b)
abbrev eQ(A:AProg)(g:String->Nat):Prop:=∀(n a b:Int) (H:List AObj),aL A (g "dactyl/syntax.within") [vi n,vi a,vi b] H=some (.bool (wi n a b),H,[])
theorem qM{A:AProg}{g:String->Nat}(h:Has A g "dactyl/syntax.within" (pK g)):eQ A g:=by
 intro n a b H;refine h.call (by simp[pK]) (by kernel_rfl) ?_
 simp only[pK];cases e1:decide (n ≥ a)with
 |false=>simp only[go_sem,↓aC,seval,e1,wi,Bool.false_and,Bool.false_beq]
 |true=>simp only[go_sem,↓aC,seval,e1,wi,Bool.true_and,beq_self_eq_true]
structure Elt{α:Type}(k:Nat)(agg:Bool)(enc:α->List AV):Prop where
 len:∀a,(enc a).length=k
 data:∀a,jE (enc a)=true
 one:agg=false->k=1
section
variable {α:Type}{k:Nat}{agg:Bool}{enc:α->List AV}
theorem Elt.of(h:Elt k agg enc)(a:α):dR agg (enc a)=some (asV agg (enc a)):=by
 cases agg with
 |true=>rfl
 |false=>
  have h1:=(h.len a).trans (h.one rfl)
  match he:enc a,h1 with
  | [v],_=>rfl
theorem Elt.lend(h:Elt k agg enc)(a:α)(H:List AObj):lend H (asV agg (enc a))=some (asV agg (enc a),[]):=by
 cases agg with
 |true=>
  show lend H (.agg (enc a))=_
  rw[aOq,aY (h.data a)];rfl
 |false=>
  have h1:=(h.len a).trans (h.one rfl);have h2:=h.data a
  match he:enc a,h1 with
  | [v],_=>
   rw[he]at h2;simp only[jE,Bool.and_eq_true]at h2;have:=vR (H:=H) h2.1.2 h2.1.1
   show lend H v=some (v,[])
   cases v<;>first | exact this | exact absurd h2.1.1 Bool.false_ne_true
theorem Elt.strip(h:Elt k agg enc)(a:α):(asV agg (enc a)).strip=asV agg (enc a):=by
 cases agg with
 |true=>show AV.agg ((enc a).map AV.strip1)=_;rw[aM (h.data a)];rfl
 |false=>
  have h1:=(h.len a).trans (h.one rfl);have h2:=h.data a
  match he:enc a,h1 with
  | [v],_=>
   rw[he]at h2;simp only[jE,Bool.and_eq_true]at h2;have:=sO h2.1.2
   show v.strip=v
   cases v<;>first | exact this | exact absurd h2.1.1 Bool.false_ne_true
theorem Elt.take(h:Elt k agg enc)(a:α):(enc a).take k=enc a:=List.take_of_length_le (by rw[h.len];exact Nat.le_refl _)
theorem Elt.still(h:Elt k agg enc)(a:α):(enc a).all AV.still=true:=bK (h.data a)
theorem Elt.strips(h:Elt k agg enc)(a:α):(enc a).map AV.strip1=enc a:=aM (h.data a)
end
structure CapOk(caps:List AV):Prop where
 lend:∀H,jP H caps=some (caps,[])
 strip:caps.map AV.strip=caps
 strip1:caps.map AV.strip1=caps
 still:caps.all AV.still=true
theorem fA:CapOk []:=⟨fun _=>rfl,rfl,rfl,rfl⟩
theorem CapOk.ep{caps:List AV}(h:CapOk caps)(row:List AV)(off:Nat):CapOk (.ep row off::caps):=by
 refine⟨fun H => ?_, ?_, ?_, ?_⟩
 ·show (match jP H caps with | none=>none | some (r',l')=>some (AV.ep row off::r',[]++l'))=_
  rw[h.lend];rfl
 ·rw[List.map_cons,h.strip];rfl
 ·rw[List.map_cons,h.strip1];rfl
 ·rw[List.all_cons,h.still];rfl
theorem CapOk.ptr{caps:List AV}(h:CapOk caps)(o v off:Nat):CapOk (.ptr o v off::caps):=by
 refine⟨fun H => ?_, ?_, ?_, ?_⟩
 ·show (match jP H caps with | none=>none | some (r',l')=>some (AV.ptr o v off::r',[]++l'))=_
  rw[h.lend];rfl
 ·rw[List.map_cons,h.strip];rfl
 ·rw[List.map_cons,h.strip1];rfl
 ·rw[List.all_cons,h.still];rfl
def aNM{α:Type}(p:α->Bool)(l:List α):Int:=match l.findIdx? p with
 |some i=>(i:Int)
 |none => -1
theorem aMy{α:Type}{p:α->Bool}{l:List α}{i:Nat}(h:i<l.length)(hp:p l[i]=true)(hn:∀j (hj:j<i),p (l[j]'(by omega))=false):aNM p l=i:=by
 unfold aNM;rw[List.findIdx?_eq_some_iff_getElem.2 ⟨h,hp,fun j hj=>by rw[hn j hj];simp⟩]
theorem aHV{α:Type}{p:α->Bool}{l:List α}(hn:∀j (hj:j<l.length),p l[j]=false):aNM p l = -1:=by
 unfold aNM;rw[List.findIdx?_eq_none_iff.2 fun x hx=>by
  obtain⟨j,hj,rfl⟩:=List.getElem_of_mem hx;exact hn j hj]
theorem aMz{α:Type}{p:α->Bool}{l:List α}:decide (aNM p l ≥ 0)=l.any p:=by
 unfold aNM;cases h:l.findIdx? p with
 |some i=>
  obtain⟨h1,h2,_⟩:=List.findIdx?_eq_some_iff_getElem.1 h;have:l.any p=true:=List.any_eq_true.2 ⟨_,List.getElem_mem h1,h2⟩;rw[this];simp
 |none=>
  have:l.any p=false:=by
   rw[Bool.eq_false_iff];intro hc;obtain⟨x,hx,hp⟩:=List.any_eq_true.1 hc;rw[List.findIdx?_eq_none_iff.1 h x hx]at hp;cases hp
  rw[this];simp
abbrev aYe(k:Nat)(agg:Bool):ACode:=
 qS [qb 9 .lss 8 7] <|
 .seq (qC 9 (.skip)
  (.exit 0)) <|
 .seq (.block 1 (qS [qm 10 8,
   qm 5 10] <|
  qS [qm 11 1,
   qm 12 0,
   qm 13 5,
   qi 14 12 13 k,
   qq 15 (.load k agg (u 14)),
   qq 16 (.callv (u 11) [(.tmp 15)])] <|
  qC 16 (qS [qm 17 5,
    qm 4 17] <|
   .ret)
   (.skip))) <|
 .region false [qbi 18 .add 8 1,
  qm 8 18]
def aJ4(k:Nat)(agg:Bool):AFn:=⟨19,[],[.tmp 4],
 qS [qmc 4 (.int .i64 0)] <|
 .seq (qS [qm 6 0,
  qn 7 6,
  qmc 8 (.int .i64 0)] <|
 .block 0 (.loop (aYe k agg))) <|
 qS [qmc 4 (.int .i64 (-1))] <|
 .ret⟩
def aJ5(fi:Nat):AFn:=⟨9,[],[.tmp 4],
 qS [qmc 4 (.bool false)] <|
 qS [qm 5 0,
  qm 6 1,
  qc 7 fi [u 5,u 6],
  qbi 8 .geq 7 0,
  qm 4 8] <|
 .ret⟩
def aOA(fw fc f1:Nat):AFn:=⟨20,[],[.tmp 8],
 qS [qx 7 1 3,
  qmc 8 (.bool false)] <|
 qS [qm 9 0,
  qn 10 9,
  qm 11 1,
  qm 12 2,
  qc 13 fw [u 10,u 11,u 12],
  qm 14 13,
  qT 15 14 (om 0),
  qT 16 14 (.mkf f1 [] [(.tmp 7)]),
  qT 17 14 (oc fc [u 15,u 16]),
  qT 18 14 (.un .not (u 17)),
  qp 19 14 18,
  qm 8 19] <|
 .ret⟩
def aOB(k:Nat):AFn:=⟨8,[],[.tmp 3],
 qS [qx 2 k 0,
  qmc 3 (.bool false)] <|
 qS [ql 4 1 1,
  qla 5 k 2,
  qq 6 (.callv (u 4) [(.tmp 5)]),
  qq 7 (.un .not (u 6)),
  qm 3 7] <|
 .ret⟩
def aOC:AFn:=⟨8,[],[.tmp 3],qS [qmc 3 (.bool false)]<|qS [ql 4 1 1,qm 5 0,qq 6 (.callv (u 4) [(.tmp 5)]),qq 7 (.un .not (u 6)),qm 3 7]<|.ret⟩
section
variable {α:Type}{A:AProg}{k:Nat}{agg:Bool}{enc:α->List AV}{caps:List AV}{q:α->Bool}{l:List α}{H:List AObj}{f1:Nat}
abbrev aOD{α:Type}(l:List α):Prop:=l.length<4611686018427387904
abbrev aRi(A:AProg)(f1:Nat)(caps:List AV)(v:α->AV)(q:α->Bool)(l:List α)(H:List AObj):Prop:=∀a∈l,aL A f1 (v a::caps) H=some (.bool (q a),H,[])
theorem aEm{f:Nat}(hf:A.fn f=some (aJ4 k agg))(hp:A.prim f=none)(he:Elt k agg enc)(hc:CapOk caps)(hl:aOD l)(h:aRi A f1 caps (fun a=>asV agg (enc a)) q l H):
  aL A f [.sl false (l.map enc),.fn f1 [] caps] H=some (vi (aNM q l),H,[]):=by
 obtain⟨v1,H1,wr1,h1,rfl,rfl,rfl⟩:=jU (args:=[.sl false (l.map enc),.fn f1 [] caps]) (H:=H) (K:=fun v' H'' wr'=>v'=vi (aNM q l)/\H''=H/\wr'=[]) hf (by rw[hp];rfl) (by simp[aJ4]) (by rfl) (by
  simp only[aJ4];simp only[go_sem,↓aC,seval,List.length_map];refine bZ (id:=0) (W:=[9,10,5,11,12,13,14,15,16,17,4,18,8]) (fun i ρ1 H1 wr=>wr=[]/\H1=H/\ρ1 8=vi i/\∀j (hj:j<i) (hl:j<l.length),q l[j]=false) l.length
   (fun ρ1 H1 wr=>wr=[]/\H1=H/\∀j (hl:j<l.length),q l[j]=false)
   (by rfl) (by rfl) ⟨rfl,by simp,rfl,fun j hj=>by omega⟩ ?_ ?_
  ·rintro i ρ1 H1 wr1 hil ⟨rfl,rfl,e8,hn⟩ hf;have e0:ρ1 0=.sl false (l.map enc):=by rw[hf 0 (by rfl)];rfl
   have e1:ρ1 1=.fn f1 [] caps:=by rw[hf 1 (by rfl)];rfl
   have e7:ρ1 7=vi l.length:=by rw[hf 7 (by rfl)];rfl
   simp only[go_sem,↓aC,seval,e8,e7];refine aD (fun hb => ?_) (fun hb => ?_)
   ·have hlt:i<l.length:=by simpa using hb
    have hg:(l.map enc)[i]? = some (enc l[i]):=getElem?_map_of hlt;have hn0:(0:Int)<=(i:Int):=by omega
    have hto:((i:Int)).toNat=i:=by omega
    have hw9:IntKind.i64.wrap ((i:Int)+1)=((i+1:Nat):Int):=by rw[wrap_i64 (by omega) (by omega)];omega
    have hcall:=h l[i] (List.getElem_mem hlt);cases hq:q l[i]with
    |true=>
     rw[hq]at hcall;simp only[go_sem,↓aC,seval,e0,e1,e8,hg,hn0,hto,he.len,he.take,he.of,he.lend,he.strip,hc.lend,hc.strip,List.map_cons,hcall];exact (aMy (p:=q) hlt hq fun j hj=>hn j hj (by omega)).symm ▸ rfl
    |false=>
     rw[hq]at hcall;simp only[go_sem,↓aC,seval,e0,e1,e8,hg,hn0,hto,he.len,he.take,he.of,he.lend,he.strip,hc.lend,hc.strip,List.map_cons,hcall,hw9];refine⟨hlt,fun j hj hjl => ?_⟩
     by_cases e:j=i
     ·subst e;exact hq
     ·exact hn j (by omega) hjl
   ·have hi:i=l.length:=by simp at hb;omega
    subst hi;simp only[go_sem,seval];exact fun j hj=>hn j hj hj
  ·rintro ρ' H' wr' ⟨rfl,rfl,hn⟩ hf;simp only[go_sem,↓aC,seval,aHV (p:=q) hn])
 exact h1
theorem aEn{f fi:Nat}(hf:A.fn f=some (aJ5 fi))(hp:A.prim f=none)(hc:CapOk caps)(hi:aL A fi [.sl false (l.map enc),.fn f1 [] caps] H=some (vi (aNM q l),H,[])):
  aL A f [.sl false (l.map enc),.fn f1 [] caps] H=some (.bool (l.any q),H,[]):=by
 obtain⟨v1,H1,wr1,h1,rfl,rfl,rfl⟩:=jU (args:=[.sl false (l.map enc),.fn f1 [] caps]) (H:=H) (K:=fun v' H'' wr'=>v'=.bool (l.any q)/\H''=H/\wr'=[]) hf (by rw[hp];rfl) (by simp[aJ5]) (by rfl) (by
  simp only[aJ5];simp only[go_sem,↓aC,seval,hi,aMz])
 exact h1
theorem aL1{f f2:Nat}(hf:A.fn f=some (aOB k))(hp:A.prim f=none)(he:Elt k true enc)(hc:CapOk caps)(h:aRi A f2 caps (fun a=>.agg (enc a)) q l H):
  aRi A f [.ep [.fn f2 [] caps] 0] (fun a=>.agg (enc a)) (fun a => !q a) l H:=by
 intro a ha;obtain⟨v1,H1,wr1,h1,rfl,rfl,rfl⟩:=jU (args:=[.agg (enc a),.ep [.fn f2 [] caps] 0]) (H:=H) (K:=fun v' H'' wr'=>v'=.bool (!q a)/\H''=H/\wr'=[]) hf (by rw[hp];rfl) (by simp[aOB]) (by rfl) (by
  have hl:=he.lend a H;have hst:=he.strip a;simp only[asV,if_true]at hl hst;have hcall:=h a ha;simp only[aOB];simp only[go_sem,↓aC,seval,he.len,he.take,he.still,hl,hst,hc.lend,hc.strip,List.map_cons,hcall])
 exact h1
theorem aL2{f f2:Nat}(hf:A.fn f=some aOC)(hp:A.prim f=none)(he:Elt 1 false enc)(hc:CapOk caps)(h:aRi A f2 caps (fun a=>asV false (enc a)) q l H):
  aRi A f [.ep [.fn f2 [] caps] 0] (fun a=>asV false (enc a)) (fun a => !q a) l H:=by
 intro a ha;obtain⟨v1,H1,wr1,h1,rfl,rfl,rfl⟩:=jU (args:=[asV false (enc a),.ep [.fn f2 [] caps] 0]) (H:=H) (K:=fun v' H'' wr'=>v'=.bool (!q a)/\H''=H/\wr'=[]) hf (by rw[hp];rfl) (by simp[aOC]) (by rfl) (by
  have hcall:=h a ha;simp only[aOC];simp only[go_sem,↓aC,seval,he.lend,he.strip,hc.lend,hc.strip,List.map_cons,hcall])
 exact h1
theorem aMA{α:Type}{q:α->Bool}{l:List α}:l.any (fun a => !q a) = !l.all q:=by
 induction l with
 |nil=>rfl
 |cons a r ih=>rw[List.any_cons,List.all_cons,ih,Bool.not_and]
theorem aMB{g:String->Nat}{f fc g1:Nat}(hf:A.fn f=some (aOA (g "dactyl/syntax.within") fc g1))(hp:A.prim f=none)(hw:eQ A g){lo hi:Int}(hl:aOD l)
  (h:wi l.length lo hi=true->aL A fc [.sl false (l.map enc),.fn g1 [] [.ep [.fn f1 [] caps] 0]] H=some (.bool (l.any fun a => !q a),H,[])):
  aL A f [.sl false (l.map enc),vi lo,vi hi,.fn f1 [] caps] H=some (.bool (wi l.length lo hi&&l.all q),H,[]):=by
 obtain⟨v1,H1,wr1,h1,rfl,rfl,rfl⟩:=jU (args:=[.sl false (l.map enc),vi lo,vi hi,.fn f1 [] caps]) (H:=H) (K:=fun v' H'' wr'=>v'=.bool (wi l.length lo hi&&l.all q)/\H''=H/\wr'=[]) hf (by rw[hp];rfl) (by simp[aOA]) (by rfl) (by
  simp only[aOA];have hw1:=hw l.length lo hi;cases e:wi l.length lo hi with
  |false=>
   rw[e]at hw1;simp only[go_sem,↓aC,seval,List.length_map,hw1,Bool.false_beq,Bool.false_and]
  |true=>
   rw[e]at hw1;have hh:=h e;rw[aMA]at hh;simp only[go_sem,↓aC,seval,List.length_map,hw1,beq_self_eq_true,Bool.true_and,hh,Bool.not_not])
 exact h1
end
structure HasAll(A:AProg)(g:String->Nat)(k:Nat)(agg:Bool)(fa:Nat):Prop where
 ex:∃fc fi f1,(A.fn fa=some (aOA (g "dactyl/syntax.within") fc f1)/\A.prim fa=none)/\(A.fn fc=some (aJ5 fi)/\A.prim fc=none)/\(A.fn fi=some (aJ4 k agg)/\A.prim fi=none) /\
  (A.fn f1=some (if agg then aOB k else aOC)/\A.prim f1=none)
theorem HasAll.spec{α:Type}{A:AProg}{g:String->Nat}{k:Nat}{agg:Bool}{fa:Nat}(h:HasAll A g k agg fa)(hw:eQ A g){enc:α->List AV}(he:Elt k agg enc){caps:List AV}(hc:CapOk caps){l:List α}(hl:aOD l){H:List AObj}{f1:Nat}{q:α->Bool}{lo hi:Int}
  (hs:wi l.length lo hi=true->aRi A f1 caps (fun a=>asV agg (enc a)) q l H):aL A fa [.sl false (l.map enc),vi lo,vi hi,.fn f1 [] caps] H=some (.bool (wi l.length lo hi&&l.all q),H,[]):=by
 obtain⟨fc,fi,g1,⟨a1,a2⟩,⟨b1,b2⟩,⟨c1,c2⟩,⟨d1,d2⟩⟩:=h.ex;refine aMB a1 a2 hw hl fun e=>aEn b1 b2 (fA.ep _ _) (aEm c1 c2 he (fA.ep _ _) hl ?_);cases agg with
 |true=>exact aL1 d1 d2 he hc (hs e)
 |false=>
  have:=he.one rfl;subst this;exact aL2 d1 d2 he hc (hs e)
def pL(g:String->Nat):AFn:=⟨12,[],[.tmp 6],qS [qmc 6 (.bool false)]<|qS [qm 7 0,qq 8 (.conv .s2b (u 7)),qm 9 1,qm 10 2,qc 11 (g "dactyl/syntax.all[byte]") [u 8,u 9,u 10,uf (g "dactyl/syntax.isText$1")],qm 6 11]<|.ret⟩
def jV(g:String->Nat):AFn:=⟨9,[],[.tmp 2],qS [qmc 2 (.bool false)]<|qS [qm 3 0,qq 4 (.bin .geq .no (u 3) (uc (.int .u8 32))),qm 5 4,qT 6 5 (om 0),qT 7 5 (.bin .leq .no (u 6) (uc (.int .u8 126))),qp 8 5 7,qm 2 8]<|.ret⟩
def vX(g:String->Nat):AFn:=⟨6,[],[.tmp 4],qS [qx 2 1 0,qx 3 1 1,qmc 4 .nilFn]<|qS [qq 5 (.mkf (g "dactyl/syntax.upTo$1") [] [(.tmp 2),(.tmp 3)]),qm 4 5]<|.ret⟩
def pM(g:String->Nat):AFn:=⟨9,[],[.tmp 4],qS [qmc 4 (.bool false)]<|qS [qm 5 0,ql 6 1 1,ql 7 1 2,qc 8 (g "dactyl/syntax.isText") [u 5,u 6,u 7],qm 4 8]<|.ret⟩
abbrev aD8(g:String->Nat):List AOper:=[qm 4 0,⟨some 5,.bin .neq .no (u 4) (uc (.str [])),none,[0]⟩,⟨some 6,om 5,none,[1,0]⟩,⟨some 7,ol 1 3,some (some 6,true),[2,1,0]⟩,⟨some 8,om 0,some (some 6,true),[2,1,0]⟩,⟨some 9,.ixS (u 8) (ui 0),some (some 6,true),[4,2,1,0]⟩,⟨some 10,.callv (u 7) [(.tmp 9)],some (some 6,true),[3,5,4,2,1,0]⟩,⟨some 11,op 6 10,none,[6,3,5,4,2,1,0]⟩,⟨some 12,om 11,none,[7,6,3,5,4,2,1,0]⟩,⟨some 13,om 0,some (some 12,true),[8,7,6,3,5,4,2,1,0]⟩,⟨some 14,.conv .s2b (u 13),some (some 12,true),[9,8,7,6,3,5,4,2,1,0]⟩,⟨some 15,.mkf (g "dactyl/syntax.isName$2") [] [(.tmp 3)],some (some 12,true),[8,7,6,3,5,4,2,1,0]⟩,⟨some 16,oc (g "dactyl/syntax.all[byte]") [u 14,ui 1,ui 16,u 15],some (some 12,true),[10,9,11,8,7,6,3,5,4,2,1,0]⟩,⟨some 17,op 12 16,none,[12,10,9,11,8,7,6,3,5,4,2,1,0]⟩,⟨some 2,om 17,none,[13,12,10,9,11,8,7,6,3,5,4,2,1,0]⟩]
abbrev lP:List Nat:=[]
def pN(g:String->Nat):AFn:=⟨18,[3],[.tmp 2],qS [qmc 2 (.bool false)]<|qS [qq 3 (.alloc [.nilFn]),qz (.store 1 (u 3) (uf (g "dactyl/syntax.isName$1")))]<|.seq (.region true (aD8 g))<|.ret⟩
def gV(g:String->Nat):AFn:=⟨9,[],[.tmp 2],qS [qmc 2 (.bool false)]<|qS [qm 3 0,qq 4 (.bin .geq .no (u 3) (uc (.int .u8 97))),qm 5 4,qT 6 5 (om 0),qT 7 5 (.bin .leq .no (u 6) (uc (.int .u8 122))),qp 8 5 7,qm 2 8]<|.ret⟩
def jW(g:String->Nat):AFn:=⟨15,[],[.tmp 3],qS [qmc 3 (.bool false)]<|qS [ql 4 1 1,qm 5 0,qq 6 (.callv (u 4) [(.tmp 5)]),qm 7 6,qF 8 7 (om 0),qF 9 7 (.bin .geq .no (u 8) (uc (.int .u8 48))),qF 10 7 (om 9),qT 11 10 (om 0),qT 12 10 (.bin .leq .no (u 11) (uc (.int .u8 57))),qF 13 7 (op 10 12),qq 14 (.pick (u 7) uT (u 13)),qm 3 14]<|.ret⟩
def pO(g:String->Nat):AFn:=⟨16,[],[.tmp 2],qS [qx 1 3 0,qmc 2 (.bool false)]<|qS [qf 3 0 1,ql 4 1 3,qc 5 (g "dactyl/syntax.within") [u 4,ui (-1),ui 48],qm 6 5,qT 7 6 (of 1 1),qT 8 6 (ol 1 7),qT 9 6 (oc (g "dactyl/syntax.within") [u 8,ui 0,ui 4]),qp 10 6 9,qm 11 10,qT 12 11 (of 2 1),qT 13 11 (ol 1 12),qT 14 11 (oc (g "dactyl/syntax.within") [u 13,ui (-1),ui 1]),qp 15 11 14,qm 2 15]<|.ret⟩
def nU(g:String->Nat):AFn:=⟨11,[],[.tmp 2],qS [qx 1 2 0,qmc 2 (.bool false)]<|qS [qf 3 0 1,ql 4 1 3,qc 5 (g "dactyl/syntax.within") [u 4,ui 0,ui 2],qm 6 5,qT 7 6 (of 1 1),qT 8 6 (ol 1 7),qT 9 6 (oc (g "dactyl/syntax.all[dactyl/api.Point]") [u 8,ui 1,ui 12,uf (g "dactyl/syntax.isShape$1")]),qp 10 6 9,qm 2 10]<|.ret⟩
def iO(g:String->Nat):AFn:=⟨11,[],[.tmp 2],qS [qx 1 2 0,qmc 2 (.bool false)]<|qS [qf 3 0 1,ql 4 1 3,qc 5 (g "dactyl/syntax.within") [u 4,ui 0,ui 1000],qm 6 5,qT 7 6 (of 1 1),qT 8 6 (ol 1 7),qT 9 6 (oc (g "dactyl/syntax.within") [u 8,ui 0,ui 1000]),qp 10 6 9,qm 2 10]<|.ret⟩
@[go_sem] theorem aVK{H:List AObj}{l:List UInt8}:pG H .s2b (.str l)=if l.length<=1099511627776 then some (.sl false (aG l))else none:=(rfl)
@[go_sem] theorem aVL{n f:Nat}{a b:List AV}:AV.under n (.fn f a b)=(dS n a&&dS n b):=(rfl)
@[go_sem] theorem aVM{n o:Nat}{r:List AV}:AV.under n (.ep r o)=dS n r:=(rfl)
@[go_sem] theorem aX7{base f:Nat}{H:List AObj}{a b:List AV}:aD6 base H (.fn f a b)=some (.fn f a b,H,[]):=(rfl)
@[go_sem] theorem aRj{base t u:Nat}{ρ:bH}{H:List AObj}{wr:List Nat}:jD base [.tmp t,.tmp u] ρ H wr=match aBU H [ρ t,ρ u]with
  |some (vs',H',l)=>some (.tup vs',H',bA base wr l)
  |none=>none:=by
 simp only[jD,aFA,aO1];rfl
attribute [go_sem] aBU
def aOE(b:UInt8):List AV:=[.int .u8 b.toNat]
theorem aK4:Elt 1 false aOE:=⟨fun _=>rfl,fun _=>rfl,fun _=>rfl⟩
theorem aRk:Elt 1 false bD:=⟨fun _=>rfl,aP,fun _=>rfl⟩
theorem aRl:Elt 1 false aN:=⟨fun _=>rfl,bL,fun _=>rfl⟩
theorem aRm:Elt 1 false cA:=⟨fun _=>rfl,cR,fun _=>rfl⟩
theorem aRn:Elt 1 false gS:=⟨fun _=>rfl,aDv,fun _=>rfl⟩
theorem aOF:Elt 1 false cE:=⟨fun _=>rfl,cL,fun _=>rfl⟩
theorem aRo:Elt 2 true cW:=⟨fun _=>rfl,bT,fun h=>by cases h⟩
theorem aHW:Elt 2 true bQ:=⟨fun _=>rfl,aFR,fun h=>by cases h⟩
theorem aHX:Elt 2 true bB:=⟨fun _=>rfl,bR,fun h=>by cases h⟩
theorem aOG:Elt 3 true cK:=⟨fun _=>rfl,aBw,fun h=>by cases h⟩
theorem aOH:Elt 4 true bJ:=⟨fun _=>rfl,gT,fun h=>by cases h⟩
theorem aX8:Elt 7 true vV:=⟨fun _=>rfl,yT,fun h=>by cases h⟩
theorem aOI:Elt 4 true cG:=⟨fun _=>rfl,dB,fun h=>by cases h⟩
theorem gC:Elt 13 true aE:=⟨cQ,bO,fun h=>by cases h⟩
theorem dJ:Elt 3 true aF:=⟨dC,aQ,fun h=>by cases h⟩
def chB(c:UInt8):Bool:=decide ((c.toNat:Int) ≥ 32)&&decide ((c.toNat:Int)<=126)
def aRp(c:UInt8):Bool:=decide ((c.toNat:Int) ≥ 97)&&decide ((c.toNat:Int)<=122)
def aHY(c:UInt8):Bool:=aRp c || (decide ((c.toNat:Int) ≥ 48)&&decide ((c.toNat:Int)<=57))
def aGG(lo hi:Int)(s:Str):Bool:=wi s.length lo hi&&s.all chB
def aOJ:Str->Bool
 | []=>false
 |c::r=>aRp c&&(wi ((c::r).length:Nat) 1 16&&(c::r).all aHY)
def aEo(n:Note):Bool:=wi n.step (-1) 48&&wi n.length 0 4&&wi n.alter (-1) 1
def aHZ(p:Int×Int):Bool:=wi p.1 0 1000&&wi p.2 0 1000
def aCX(s:Shape):Bool:=wi s.kind 0 2&&(wi s.points.length 1 12&&s.points.all aHZ)
section
variable {A:AProg}{g:String->Nat}
theorem aRq(h:Has A g "dactyl/syntax.isText$1" (jV g))(c:UInt8)(H:List AObj):aL A (g "dactyl/syntax.isText$1") [.int .u8 c.toNat] H=some (.bool (chB c),H,[]):=by
 refine h.call (by simp[jV]) (by kernel_rfl) ?_
 simp only[jV,chB];cases e1:decide ((c.toNat:Int) ≥ 32)with
 |false=>simp only[go_sem,↓aC,seval,e1,Bool.false_and,Bool.false_beq]
 |true=>simp only[go_sem,↓aC,seval,e1,Bool.true_and,beq_self_eq_true]
abbrev aDx(A:AProg)(g:String->Nat):Prop:=∀(s:Str) (lo hi:Int) (H:List AObj),s.length<=1000000->aL A (g "dactyl/syntax.isText") [.str s,vi lo,vi hi] H=some (.bool (aGG lo hi s),H,[])
theorem aAN(h:Has A g "dactyl/syntax.isText" (pL g))(h1:Has A g "dactyl/syntax.isText$1" (jV g))(ha:HasAll A g 1 false (g "dactyl/syntax.all[byte]"))(hw:eQ A g):aDx A g:=by
 intro s lo hi H hs;refine h.call (by simp[pL]) (by kernel_rfl) ?_
 have hc:=ha.spec hw aK4 fA (l:=s) (H:=H) (f1:=g "dactyl/syntax.isText$1") (q:=chB) (lo:=lo) (hi:=hi) (by show s.length<_;omega) fun _ c _=>aRq h1 c H
 simp only[pL];simp only[go_sem,↓aC,seval,show s.length<=1099511627776 by omega]
 rw[show aG s=s.map aOE from rfl,hc]
 simp only[go_sem,↓aC,seval,aGG]
theorem aI0(h:Has A g "dactyl/syntax.upTo" (vX g))(lo hi:Int)(H:List AObj):aL A (g "dactyl/syntax.upTo") [vi lo,vi hi] H=some (.fn (g "dactyl/syntax.upTo$1") [] [.ep [vi lo] 0,.ep [vi hi] 0],H,[]):=by
 refine h.call (by simp[vX]) (by kernel_rfl) ?_
 simp only[vX];simp only[go_sem,↓aC,seval]
theorem aL3(h:Has A g "dactyl/syntax.upTo$1" (pM g))(ht:aDx A g)(s:Str)(lo hi:Int)(H:List AObj)(hs:s.length<=1000000):aL A (g "dactyl/syntax.upTo$1") [.str s,.ep [vi lo] 0,.ep [vi hi] 0] H=some (.bool (aGG lo hi s),H,[]):=by
 refine h.call (by simp[pM]) (by kernel_rfl) ?_
 simp only[pM];simp only[go_sem,↓aC,seval,ht s lo hi H hs]
theorem aK5(h:Has A g "dactyl/syntax.isName$1" (gV g))(c:UInt8)(H:List AObj):aL A (g "dactyl/syntax.isName$1") [.int .u8 c.toNat] H=some (.bool (aRp c),H,[]):=by
 refine h.call (by simp[gV]) (by kernel_rfl) ?_
 simp only[gV,aRp];cases e1:decide ((c.toNat:Int) ≥ 97)with
 |false=>simp only[go_sem,↓aC,seval,e1,Bool.false_and,Bool.false_beq]
 |true=>simp only[go_sem,↓aC,seval,e1,Bool.true_and,beq_self_eq_true]
theorem aJ6(h:Has A g "dactyl/syntax.isName$2" (jW g))(hl:Has A g "dactyl/syntax.isName$1" (gV g))(c:UInt8){H:List AObj}{o v:Nat}(ho:H[o]? = some (.box v [.fn (g "dactyl/syntax.isName$1") [] []])):
  aL A (g "dactyl/syntax.isName$2") [.int .u8 c.toNat,.ptr o v 0] H=some (.bool (aHY c),H,[]):=by
 refine h.call (by simp[jW]) (by kernel_rfl) ?_
 have hc:=aK5 hl c H;simp only[jW,aHY];cases e0:aRp c with
 |true=>
  rw[e0]at hc;simp only[go_sem,↓aC,seval,ho,List.append_nil,hc,Bool.true_beq,Bool.true_or]
 |false=>
  rw[e0]at hc;cases e1:decide ((c.toNat:Int) ≥ 48)with
  |false=>simp only[go_sem,↓aC,seval,ho,List.append_nil,hc,e1,Bool.false_or,Bool.false_and,beq_self_eq_true,Bool.false_beq]
  |true=>simp only[go_sem,↓aC,seval,ho,List.append_nil,hc,e1,Bool.false_or,Bool.true_and,beq_self_eq_true]
theorem aJ7(h:Has A g "dactyl/syntax.isName" (pN g))(h1:Has A g "dactyl/syntax.isName$1" (gV g))(h2:Has A g "dactyl/syntax.isName$2" (jW g))(ha:HasAll A g 1 false (g "dactyl/syntax.all[byte]"))(hw:eQ A g)
  (s:Str) (H:List AObj) (hs:s.length<=1000000):aL A (g "dactyl/syntax.isName") [.str s] H=some (.bool (aOJ s),H,[]):=by
 refine h.call (by simp[pN]) (by kernel_rfl) ?_
 simp only[pN];simp only[go_sem,↓aC,seval];refine bN (keep:=lP) (by rfl) (by rfl) ?_
 by_cases h0:s=[]
 ·subst h0;simp only[go_sem,↓aC,seval,lP,aOJ,beq_self_eq_true,Bool.false_beq,bne,BT]
 ·obtain⟨c,r,hcr⟩:=List.exists_cons_of_ne_nil h0;have hne:(s != ([]:Str))=true:=by rw[hcr];rfl
  have hg:s[0]? = some c:=by rw[hcr];rfl
  have hnb:aOJ s=(aRp c&&(wi s.length 1 16&&s.all aHY)):=by rw[hcr];rfl
  have hl:=aK5 h1 c (H++[.box 1 [.fn (g "dactyl/syntax.isName$1") [] []]]);have hc:=ha.spec hw aK4 (fA.ptr H.length 1 0) (l:=s) (H:=H++[.box 1 [.fn (g "dactyl/syntax.isName$1") [] []]]) (f1:=g "dactyl/syntax.isName$2") (q:=aHY) (lo:=1) (hi:=16) (by show s.length<_;omega)
   fun _ c _=>aJ6 h2 h1 c (o:=H.length) (v:=1) (by simp)
  have hlen:s.length<=1099511627776:=by omega
  have hrow:aG s=s.map aOE:=rfl;rw[hnb];cases e:aRp c with
  |false=>
   rw[e]at hl;simp only[go_sem,↓aC,seval,lP,hl,hne,hg,Bool.false_and,beq_self_eq_true,Bool.false_beq]
  |true=>
   rw[e]at hl;simp only[go_sem,↓aC,seval,lP,hl,hne,hg,Bool.true_and,beq_self_eq_true,hlen,hrow,hc]
theorem aJ8(h:Has A g "dactyl/syntax.isNote" (pO g))(hw:eQ A g)(n:Note)(H:List AObj):aL A (g "dactyl/syntax.isNote") [.agg (cK n)] H=some (.bool (aEo n),H,[]):=by
 refine h.call (by simp[pO]) (by kernel_rfl) ?_
 simp only[pO,aEo];have h1:=fun H=>hw n.step (-1) 48 H;have h2:=fun H=>hw n.length 0 4 H;have h3:=fun H=>hw n.alter (-1) 1 H;cases e1:wi n.step (-1) 48 with
 |false=>simp only[go_sem,↓aC,seval,cK,h1,e1,Bool.false_and,Bool.false_beq]
 |true=>cases e2:wi n.length 0 4 with
  |false=>simp only[go_sem,↓aC,seval,cK,h1,h2,e1,e2,Bool.false_and,Bool.true_and,beq_self_eq_true,Bool.false_beq]
  |true=>simp only[go_sem,↓aC,seval,cK,h1,h2,h3,e1,e2,Bool.true_and,beq_self_eq_true]
theorem aI1(h:Has A g "dactyl/syntax.isShape$1" (iO g))(hw:eQ A g)(p:Int×Int)(H:List AObj):aL A (g "dactyl/syntax.isShape$1") [.agg (bQ p)] H=some (.bool (aHZ p),H,[]):=by
 refine h.call (by simp[iO]) (by kernel_rfl) ?_
 simp only[iO,aHZ];have h1:=fun H=>hw p.1 0 1000 H;have h2:=fun H=>hw p.2 0 1000 H;cases e1:wi p.1 0 1000 with
 |false=>simp only[go_sem,↓aC,seval,bQ,h1,e1,Bool.false_and,Bool.false_beq]
 |true=>simp only[go_sem,↓aC,seval,bQ,h1,h2,e1,Bool.true_and,beq_self_eq_true]
theorem aI2(h:Has A g "dactyl/syntax.isShape" (nU g))(h1:Has A g "dactyl/syntax.isShape$1" (iO g))(ha:HasAll A g 2 true (g "dactyl/syntax.all[dactyl/api.Point]"))(hw:eQ A g)(s:Shape)(hs:s.points.length<=1000000)(H:List AObj):
  aL A (g "dactyl/syntax.isShape") [.agg (bB s)] H=some (.bool (aCX s),H,[]):=by
 refine h.call (by simp[nU]) (by kernel_rfl) ?_
 simp only[nU,aCX];have hk:=fun H=>hw s.kind 0 2 H;have hc:=ha.spec hw aHW fA (l:=s.points) (H:=H) (f1:=g "dactyl/syntax.isShape$1") (q:=aHZ) (lo:=1) (hi:=12) (by show s.points.length<_;omega) fun _ p _=>aI1 h1 hw p H
 cases e1:wi s.kind 0 2 with
 |false=>simp only[go_sem,↓aC,seval,bB,hk,e1,Bool.false_and,Bool.false_beq]
 |true=>simp only[go_sem,↓aC,seval,bB,hk,hc,e1,Bool.true_and,beq_self_eq_true]
end
end Go.AM
end
