/- Part 27: lemmas for the last text. -/
import Derived.Test.YtfpndhocfmfgdaaGreatDoorK23
import Derived.Test.YtfpndhocfmfgdaaGreatDoorK26
set_option linter.unusedVariables false
set_option linter.unusedSimpArgs false
open Nat renaming reduceAdd -> NA
open Bool renaming not_true -> BT, not_false -> BF
section
set_option maxRecDepth 8000
namespace Go.AM
open Go
def sgI(op:Int):Int:=if op=0∨op=1 then 0 else if op=2 then 45 else if op=3 then 43 else if op=4 then 45 else if op=5 then 42 else if op=6 then 47 else if op=7 then 94 else if op=8 then 82 else if op=9 then 61 else 60
def yW(op:Int):List AV:=[vi (aAO op),vi (yV op),vi (lev op),.int .u8 (sgI op)]
def aOQ:List AV:=[vi 0,vi 999999,vi 4,.int .u8 0,vi 0,vi 25,vi 4,.int .u8 0,vi 1,vi 0,vi 3,.int .u8 45,vi 2,vi 0,vi 1,.int .u8 43,vi 2,vi 0,vi 1,.int .u8 45,vi 2,vi 0,vi 2,.int .u8 42,vi 2,vi 0,vi 2,.int .u8 47,
 vi 2,vi 0,vi 3,.int .u8 94,vi 1,vi 0,vi 4,.int .u8 82,vi 2,vi 0,vi 0,.int .u8 61,vi 2,vi 0,vi 0,.int .u8 60]
theorem gK{op:Int}(h0:0<=op)(h1:op<11):(aOQ.drop (op.toNat*4)).take 4=yW op/\op.toNat*4+4<=aOQ.length:=by
 have:op=0∨op=1∨op=2∨op=3∨op=4∨op=5∨op=6∨op=7∨op=8∨op=9∨op=10:=by omega
 rcases this with rfl | rfl | rfl | rfl | rfl | rfl | rfl | rfl | rfl | rfl | rfl<;>exact⟨rfl,by decide⟩
def pR(g:String->Nat):AFn:=⟨49,[5],[.tmp 4],qS [qx 2 3 0,qmc 4 (.bool false)]<|.seq (qS [qf 6 0 2,ql 7 1 6,qbi 8 .lss 7 0,qm 9 8,qF 10 9 (of 0 2),qF 11 9 (ol 1 10),qF 12 9 (obi .geq 11 11),qq 13 (.pick (u 9) uT (u 12))]<|qC 13 (qS [qmc 4 (.bool false)]<|.ret) (.skip))<|qS [qf 14 0 2,ql 15 1 14,qq 16 (.iaA 11 4 (uc (.ep aOQ 0)) (u 15)),qla 17 4 16,qq 5 (.alloc [(.int .i64 0),(.int .i64 0),(.int .i64 0),(.int .u8 0)]),qs 4 5 17]<|.seq (qS [qf 18 2 2,ql 19 1 18,qn 20 19,qf 21 0 5,ql 22 1 21,qb 23 .neq 20 22,qm 24 23,qF 25 24 (of 1 2),qF 26 24 (ol 1 25),qF 27 24 (obi .lss 26 0),qq 28 (.pick (u 24) uT (u 27)),qm 29 28,qF 30 29 (of 1 2),qF 31 29 (ol 1 30),qF 32 29 (of 1 5),qF 33 29 (ol 1 32),qF 34 29 (ob .gtr 31 33),qq 35 (.pick (u 29) uT (u 34)),qm 36 35,qF 37 36 (of 2 5),qF 38 36 (ol 1 37),qF 39 36 (obi .eql 38 0),qF 40 36 (om 39),qT 41 40 (om 1),qT 42 40 (.un .not (u 41)),qF 43 36 (op 40 42),qq 44 (.pick (u 36) uT (u 43))]<|qC 44 (qS [qmc 4 (.bool false)]<|.ret) (.skip))<|qS [qf 45 2 2,ql 46 1 45,qc 47 (g "slices.ContainsFunc[[]dactyl/api.Expr,dactyl/api.Expr]") [u 46,uf (g "dactyl/formula.right$1")],qq 48 (.un .not (u 47)),qm 4 48]<|.ret⟩
def mR(g:String->Nat):AFn:=⟨6,[],[.tmp 2],qS [qx 1 3 0,qmc 2 (.bool false)]<|qS [qla 3 3 1,qc 4 (g "dactyl/formula.right") [u 3,uF],qq 5 (.un .not (u 4)),qm 2 5]<|.ret⟩
abbrev aEq(g:String->Nat):ACode:=qS [qb 10 .lss 9 8]<|.seq (qC 10 (.skip) (.exit 0))<|.seq (.block 1 (qS [qi 11 7 9 3,qla 12 3 11,qq 5 (.alloc [(.int .i64 0),(.int .i64 0),(.sl true [])]),qs 3 5 12]<|.region false [qm 13 3,qla 14 3 5,qc 15 (g "dactyl/formula.Size") [u 14],qb 16 .add 13 15,qm 3 16]))<|.region false [qbi 17 .add 9 1,qm 9 17]
abbrev aEr:List Nat:=[10,11,12,5,13,14,15,16,3,17,9]
def sF(g:String->Nat):AFn:=⟨19,[5],[.tmp 2],qS [qx 1 3 0,qmc 2 (.int .i64 0)]<|qS [qmc 3 (.int .i64 1)]<|.seq (qS [qf 6 2 1,ql 7 1 6,qn 8 7,qmc 9 (.int .i64 0)]<|.block 0 (.loop (aEq g)))<|qS [qm 18 3,qm 2 18]<|.ret⟩
abbrev aDg(g:String->Nat):ACode:=qS [qb 10 .lss 9 8]<|.seq (qC 10 (.skip) (.exit 0))<|.seq (.block 1 (qS [qi 11 7 9 3,qla 12 3 11,qq 5 (.alloc [(.int .i64 0),(.int .i64 0),(.sl true [])]),qs 3 5 12]<|.region false [qm 13 3,qla 14 3 5,qc 15 (g "dactyl/formula.Depth") [u 14],qq 16 (.mm true [(.tmp 13),(.tmp 15)]),qm 3 16]))<|.region false [qbi 17 .add 9 1,qm 9 17]
abbrev aDh:List Nat:=[10,11,12,5,13,14,15,16,3,17,9]
def pS(g:String->Nat):AFn:=⟨20,[5],[.tmp 2],qS [qx 1 3 0,qmc 2 (.int .i64 0)]<|qS [qmc 3 (.int .i64 0)]<|.seq (qS [qf 6 2 1,ql 7 1 6,qn 8 7,qmc 9 (.int .i64 0)]<|.block 0 (.loop (aDg g)))<|qS [qm 18 3,qbi 19 .add 18 1,qm 2 19]<|.ret⟩
def xQ(g:String->Nat):ACode:=.block 0 (qS [qla 4 3 1,qc 5 (g "dactyl/formula.Size") [u 4],qbi 6 .gtr 5 256,qm 7 6,qF 8 7 (ola 3 1),qF 9 7 (oc (g "dactyl/formula.Depth") [u 8]),qF 10 7 (obi .gtr 9 16),qq 11 (.pick (u 7) uT (u 10)),qm 3 11]<|qC 3 (qS [qmc 2 (.int .i64 4)]<|.ret) (qS [qla 13 3 1,qc 14 (g "dactyl/formula.right") [u 13,uT],qq 15 (.un .not (u 14)),qm 12 15]<|qC 12 (qS [qmc 2 (.int .i64 1)]<|.ret) (.skip)))
def vZ(g:String->Nat):AFn:=⟨16,[],[.tmp 2],qS [qx 1 3 0,qmc 2 (.int .i64 0)]<|.seq (xQ g)<|qS [qmc 2 (.int .i64 0)]<|.ret⟩
mutual
def aAk:Expr->Nat
 |.mk _ _ ks=>lZ ks+1
def lZ:List Expr->Nat
 | []=>0
 |k::r=>max (aAk k) (lZ r)
end
mutual
theorem aMM:∀e:Expr,aAk e<=iN e
 |.mk _ _ ks=>by unfold aAk iN;have:=aCk ks;omega
theorem aCk:∀l:List Expr,lZ l<=cP l
 | []=>Nat.le_refl _
 |k::r=>by unfold lZ cP;have:=aMM k;have:=aCk r;omega
end
theorem aEs:∀(l:List Expr) (i:Nat),cP (l.take i)<=cP l
 | [],i=>by simp
 |k::r,0=>by simp[cP]
 |k::r,i+1=>by simp only[List.take_succ_cons,cP];have:=aEs r i;omega
theorem aEt:∀(l:List Expr) (i:Nat) (h:i<l.length),cP (l.take (i+1))=cP (l.take i)+iN l[i]
 |k::r,0,h=>by simp[cP]
 |k::r,i+1,h=>by
  simp only[List.take_succ_cons,cP,List.getElem_cons_succ];rw[aEt r i (by simpa using h)]
  omega
theorem aCY:∀(l:List Expr) (i:Nat) (h:i<l.length),lZ (l.take (i+1))=max (lZ (l.take i)) (aAk l[i])
 |k::r,0,h=>by simp[lZ]
 |k::r,i+1,h=>by
  simp only[List.take_succ_cons,lZ,List.getElem_cons_succ];rw[aCY r i (by simpa using h)]
  omega
theorem aFX{l:List Expr}{k:Expr}(h:k∈l):iN k<=cP l:=by
 induction l with
 |nil=>cases h
 |cons a r ih=>
  unfold cP;rcases List.mem_cons.1 h with rfl | h
  ·omega
  ·have:=ih h;omega
theorem aCl:∀l:List Expr,l.length<=cP l
 | []=>Nat.le_refl _
 |k::r=>by
  have:=aCl r;have:1<=iN k:=by cases k;unfold iN;omega
  simp only[List.length_cons,cP];omega
section
variable {A:AProg}{g:String->Nat}
theorem aMN(h:Has A g "dactyl/formula.Size" (sF g)):∀(n:Nat) (e:Expr) (H:List AObj),SizeOf.sizeOf e<n->iN e<=1000->aL A (g "dactyl/formula.Size") [.agg (aF e)] H=some (vi (iN e),H,[]):=by
 intro n
 induction n with
 |zero=>intro e H hs;omega
 |succ n ih=>
  intro e H hs he;obtain⟨op,m,ks⟩:=e;refine h.call (by simp[sF]) (by kernel_rfl) ?_
  have hsz:∀k∈ks,SizeOf.sizeOf k<n:=fun k hm=>by
   have:=List.sizeOf_lt_of_mem hm;simp only[Expr.mk.sizeOf_spec]at hs;omega
  unfold iN at he;have hlen:=aCl ks;simp only[sF];simp only[go_sem,↓aC,seval,aF,aV,List.length_map];refine bZ (id:=0) (W:=aEr) (fun i ρ1 H1 wr=>wr=[]/\ρ1 9=vi i/\(∃o1,H1=H++[o1])/\ρ1 3=vi ((cP (ks.take i)+1:Nat):Int)) ks.length
   (fun ρ1 H1 wr=>wr=[]/\(∃o1,H1=H++[o1])/\ρ1 3=vi ((cP ks+1:Nat):Int))
   (by kernel_rfl) (by rfl) ⟨rfl,rfl,⟨_,rfl⟩,rfl⟩ ?_ ?_
  ·rintro i ρ1 H1 wr1 hil ⟨rfl,e9,⟨o1,rfl⟩,e3⟩ hf2;have f7:ρ1 7=.sl false (ks.map aF):=by rw[hf2 7 (by rfl)];rfl
   have f8:ρ1 8=vi ks.length:=by rw[hf2 8 (by rfl)];rfl
   simp only[go_sem,↓aC,seval,e9,f8];refine aD (fun hb => ?_) (fun hb => ?_)
   ·have hlt:i<ks.length:=by simpa using hb
    have hg:(ks.map aF)[i]? = some (aF ks[i]):=getElem?_map_of hlt;have hn0:(0:Int)<=(i:Int):=by omega
    have hto:((i:Int)).toNat=i:=by omega
    have hw9:IntKind.i64.wrap ((i:Int)+1)=((i+1:Nat):Int):=by rw[wrap_i64 (by omega) (by omega)];omega
    have hmem:=List.getElem_mem hlt;have hsm:=aFX hmem;have hcall:=fun H=>ih ks[i] H (hsz _ hmem) (by omega)
    have hsn:=aEt ks i hlt;have htk:=aEs ks i;have hws:IntKind.i64.wrap (((cP (ks.take i)+1:Nat):Int)+(iN ks[i]:Int))=((cP (ks.take (i+1))+1:Nat):Int):=by rw[wrap_i64 (by omega) (by omega)];omega
    simp only[go_sem,↓aC,seval,f7,e9,e3,hg,hn0,hto,dC,dJ.take,bY (aQ ks[i]),aY (aQ ks[i]),aM (aQ ks[i]),hcall,hw9,hws];exact⟨hlt,_,rfl⟩
   ·have hi:i=ks.length:=by simp at hb;omega
    subst hi;simp only[go_sem,seval];exact⟨⟨_,rfl⟩,by rw[e3,List.take_length]⟩
  ·rintro ρ' H' wr' ⟨rfl,⟨o1,rfl⟩,e3⟩ hf2;simp only[go_sem,↓aC,seval,e3,iN]
theorem aL9(h:Has A g "dactyl/formula.Depth" (pS g)):∀(n:Nat) (e:Expr) (H:List AObj),SizeOf.sizeOf e<n->iN e<=1000->aL A (g "dactyl/formula.Depth") [.agg (aF e)] H=some (vi (aAk e),H,[]):=by
 intro n
 induction n with
 |zero=>intro e H hs;omega
 |succ n ih=>
  intro e H hs he;obtain⟨op,m,ks⟩:=e;refine h.call (by simp[pS]) (by kernel_rfl) ?_
  have hsz:∀k∈ks,SizeOf.sizeOf k<n:=fun k hm=>by
   have:=List.sizeOf_lt_of_mem hm;simp only[Expr.mk.sizeOf_spec]at hs;omega
  unfold iN at he;have hlen:=aCl ks;have hdl:=aCk ks;simp only[pS];simp only[go_sem,↓aC,seval,aF,aV,List.length_map];refine bZ (id:=0) (W:=aDh) (fun i ρ1 H1 wr=>wr=[]/\ρ1 9=vi i/\(∃o1,H1=H++[o1])/\ρ1 3=vi (lZ (ks.take i))) ks.length
   (fun ρ1 H1 wr=>wr=[]/\(∃o1,H1=H++[o1])/\ρ1 3=vi (lZ ks))
   (by kernel_rfl) (by rfl) ⟨rfl,rfl,⟨_,rfl⟩,rfl⟩ ?_ ?_
  ·rintro i ρ1 H1 wr1 hil ⟨rfl,e9,⟨o1,rfl⟩,e3⟩ hf2;have f7:ρ1 7=.sl false (ks.map aF):=by rw[hf2 7 (by rfl)];rfl
   have f8:ρ1 8=vi ks.length:=by rw[hf2 8 (by rfl)];rfl
   simp only[go_sem,↓aC,seval,e9,f8];refine aD (fun hb => ?_) (fun hb => ?_)
   ·have hlt:i<ks.length:=by simpa using hb
    have hg:(ks.map aF)[i]? = some (aF ks[i]):=getElem?_map_of hlt;have hn0:(0:Int)<=(i:Int):=by omega
    have hto:((i:Int)).toNat=i:=by omega
    have hw9:IntKind.i64.wrap ((i:Int)+1)=((i+1:Nat):Int):=by rw[wrap_i64 (by omega) (by omega)];omega
    have hmem:=List.getElem_mem hlt;have hsm:=aFX hmem;have hcall:=fun H=>ih ks[i] H (hsz _ hmem) (by omega)
    have hmax:(if lZ (ks.take i)<aAk ks[i] then (aAk ks[i]:Int)else (lZ (ks.take i):Int))=((lZ (ks.take (i+1)):Nat):Int):=by
     rw[aCY ks i hlt];split<;>omega
    simp only[go_sem,↓aC,seval,f7,e9,e3,hg,hn0,hto,dC,dJ.take,bY (aQ ks[i]),aY (aQ ks[i]),aM (aQ ks[i]),hcall,hw9,mmV,aCE,mm2];exact⟨hlt,⟨_,rfl⟩,by rw[<- hmax]⟩
   ·have hi:i=ks.length:=by simp at hb;omega
    subst hi;simp only[go_sem,seval];exact⟨⟨_,rfl⟩,by rw[e3,List.take_length]⟩
  ·rintro ρ' H' wr' ⟨rfl,⟨o1,rfl⟩,e3⟩ hf2;have hw1:IntKind.i64.wrap ((lZ ks:Int)+1)=((lZ ks+1:Nat):Int):=by rw[wrap_i64 (by omega) (by omega)];omega
   simp only[go_sem,↓aC,seval,e3,aAk,hw1]
mutual
def aAl:Bool->Expr->Bool
 |r,.mk op n ks => !(decide (op<0) || decide (op ≥ 11))&&(!((((((ks.length:Int) != (aAO op:Int)) || decide (n<0)) || decide (n>yV op)) || ((((lev op:Nat):Int)==0) && !r)))&&aCZ ks)
def aCZ:List Expr->Bool
 | []=>true
 |k::r=>aAl false k&&aCZ r
end
theorem aFY:∀l:List Expr,aCZ l=l.all (aAl false)
 | []=>rfl
 |k::r=>by unfold aCZ;rw[aFY r];rfl
theorem aLa(h:Has A g "dactyl/formula.right" (pR g))(h1:Has A g "dactyl/formula.right$1" (mR g)){fi:Nat}(hc:A.fn (g "slices.ContainsFunc[[]dactyl/api.Expr,dactyl/api.Expr]")=some (aJ5 fi)/\A.prim (g "slices.ContainsFunc[[]dactyl/api.Expr,dactyl/api.Expr]")=none)
  (hi:A.fn fi=some (aJ4 3 true)/\A.prim fi=none):∀(n:Nat) (e:Expr) (r:Bool) (H:List AObj),SizeOf.sizeOf e<n->e.Ok->aL A (g "dactyl/formula.right") [.agg (aF e),.bool r] H=some (.bool (aAl r e),H,[]):=by
 intro n
 induction n with
 |zero=>intro e r H hs;omega
 |succ n ih=>
  intro e r H hs he;obtain⟨op,m,ks⟩:=e;obtain⟨_,_,_,_,_,hkl,hks⟩:=he;refine h.call (by simp[pR]) (by kernel_rfl) ?_
  have hsz:∀k∈ks,SizeOf.sizeOf k<n:=fun k hm=>by
   have:=List.sizeOf_lt_of_mem hm;simp only[Expr.mk.sizeOf_spec]at hs;omega
  have hcon:∀H,aL A (g "slices.ContainsFunc[[]dactyl/api.Expr,dactyl/api.Expr]") [.sl false (ks.map aF),.fn (g "dactyl/formula.right$1") [] []] H=some (.bool (!aCZ ks),H,[]):=fun H=>by
   have hs1:aRi A (g "dactyl/formula.right$1") [] (fun k=>.agg (aF k)) (fun k => !aAl false k) ks H:=fun k hk=>by
    have:=ih k false H (hsz k hk) (hks k hk);refine h1.call (by simp[mR]) (by kernel_rfl) ?_
    simp only[mR];simp only[go_sem,↓aC,seval,dC,dJ.take,dJ.still,dJ.strips,aY (aQ k),this]
   have:=aEn hc.1 hc.2 fA (aEm hi.1 hi.2 dJ fA (by show ks.length<_;omega) hs1)
   rw[this,aMA,aFY]
  have hx:aAl r (.mk op m ks)=(!(decide (op<0) || decide (op ≥ 11))&&(!((((((ks.length:Int) != (aAO op:Int)) || decide (m<0)) || decide (m>yV op)) || ((((lev op:Nat):Int)==0) && !r)))&&aCZ ks)):=by conv=>lhs;unfold aAl
  simp only[pR];cases e1:decide (op<0)with
  |true=>
   rw[e1]at hx;simp only[go_sem,↓aC,seval,aF,aV,e1,hx,Bool.true_or,Bool.false_and,Bool.true_beq]
  |false=>
  cases e2:decide (op ≥ 11)with
  |true=>
   rw[e1,e2]at hx;simp only[go_sem,↓aC,seval,aF,aV,e1,e2,hx,Bool.or_true,Bool.false_and,beq_self_eq_true]
  |false=>
  rw[e1,e2]at hx;simp only[Bool.or_self,BF,Bool.true_and]at hx;have o0:0<=op:=by simp at e1;omega
  have o1:op<11:=by simp at e2;omega
  simp only[go_sem,↓aC,seval,aF,aV,e1,e2,o0,o1,beq_self_eq_true,Nat.zero_add,(gK o0 o1).1,(gK o0 o1).2,yW];cases e3:((ks.length:Int) != (aAO op:Int))with
  |true=>
   rw[e3]at hx;simp only[go_sem,↓aC,seval,hx,Bool.true_or,BT,Bool.false_and,Bool.true_beq]
  |false=>
  cases e4:decide (m<0)with
  |true=>
   rw[e3,e4]at hx;simp only[go_sem,↓aC,seval,e4,hx,Bool.true_or,Bool.or_true,BT,Bool.false_and,beq_self_eq_true,Bool.true_beq]
  |false=>
  cases e5:decide (m>yV op)with
  |true=>
   rw[e3,e4,e5]at hx;simp only[go_sem,↓aC,seval,e4,e5,hx,Bool.true_or,Bool.or_true,BT,Bool.false_and,beq_self_eq_true,Bool.true_beq]
  |false=>
  rw[e3,e4,e5]at hx;simp only[Bool.or_self,Bool.false_or]at hx;cases e6:(((lev op:Nat):Int)==0)with
  |false=>
   rw[e6]at hx;simp only[go_sem,↓aC,seval,e4,e5,e6,hx,BF,Bool.false_and,Bool.true_and,beq_self_eq_true,hcon,Bool.not_not]
  |true=>
   rw[e6]at hx;cases r with
   |true=>simp only[go_sem,↓aC,seval,e4,e5,e6,hx,BT,BF,Bool.true_and,Bool.and_false,beq_self_eq_true,hcon,Bool.not_not]
   |false=>simp only[go_sem,↓aC,seval,e4,e5,e6,hx,BT,BF,Bool.false_and,Bool.and_true,beq_self_eq_true]
end
inductive GSl(id k:Nat):List (List AV)->AV->AObj->Prop
 |nil (o:AObj):GSl id k [] (.sl true []) o
 |obj (ver:Nat) (rows:List (List AV)):GSl id k rows (.sr id ver rows.length) (.vec ver k rows)
section
variable {id k:Nat}{rows:List (List AV)}{v:AV}{o:AObj}
theorem GSl.cellOk(h:GSl id k rows v o):v.cellOk=true:=by cases h<;>rfl
theorem GSl.strip1(h:GSl id k rows v o):v.cells=[v]:=by cases h<;>rfl
theorem getElem?_lt{α:Type}{l:List α}{i:Nat}{a:α}(h:l[i]? = some a):i<l.length:=by
 rcases Nat.lt_or_ge i l.length with h1 | h1
 ·exact h1
 ·rw[List.getElem?_eq_none h1]at h;cases h
theorem aDy{α:Type}{l:List α}{i:Nat}{a:α}(h:l[i]? = some a):l.set i a=l:=by
 apply List.ext_getElem?;intro j
 by_cases e:i=j
 ·subst e;rw[List.getElem?_set_self (getElem?_lt h),h]
 ·rw[List.getElem?_set_ne e]
theorem GSl.app(h:GSl id k rows v o){new:List (List AV)}{bytes:Nat}(hn:new≠[])(hk:cH k new=true)(hr:(rows.length+new.length)*(bytes+1)<=1099511627776):
  ∃v' o',GSl id k (rows++new) v' o'/\∀H f,H[id]? = some o->fH H (some id) k bytes v (.sl f new)=some (v',H.set id o',[id]):=by
 obtain⟨a,l,rfl⟩:=List.exists_cons_of_ne_nil hn;have hroom:bP (rows.length+(a::l).length) bytes=true:=by unfold bP;simpa using hr
 cases h with
 |nil=>
  refine⟨.sr id (o.ver+1) (a::l).length,.vec (o.ver+1) k (a::l),GSl.obj _ _,fun H f ho => ?_⟩;unfold fH;simp only[cU,eH,hk];simp only[List.isEmpty_cons,cH,BT,Bool.false_eq_true,if_false,Bool.true_and,List.length_nil,Nat.zero_add];simp only[List.length_nil,Nat.zero_add]at hroom;rw[if_pos (by rw[hroom]),if_pos (getElem?_lt ho)]
  simp only[bG,make,ho,Option.elim_some,List.nil_append]
 |obj ver=>
  refine⟨.sr id ver (rows++a::l).length,.vec ver k (rows++a::l),GSl.obj _ _,fun H f ho => ?_⟩;unfold fH;simp only[cU,eH,hk];simp only[BT,Bool.false_eq_true,if_false,ho,hroom,and_self,if_true,List.isEmpty_cons,List.length_append]
theorem GSl.lend(h:GSl id k rows v o)(hd:oC rows=true):∃f l o',(∀H,H[id]? = some o->aBT H v=some (.sl f rows,l))/\(∀H,H[id]? = some o->dL H l=H.set id o')/\(∀b wr,b<=id->bA b wr l=wr):=by
 cases h with
 |nil=>exact⟨true,[],o,fun H _=>rfl,fun H ho=>by rw[aDy ho];rfl,fun _ _ _=>rfl⟩
 |obj ver=>
  refine⟨false,[id],.gone ver,fun H ho => ?_,fun H ho => ?_,fun b wr hb => ?_⟩
  ·show (match H[id]? with
    |some (.vec v' _ rows')=>if v'=ver/\rows'.length=rows.length/\rows'.all (fun r=>r.all AV.still)then some (AV.sl false rows',[id])else none
    |_=>none)=_
   rw[ho];simp only[aO hd,and_self,if_true]
  ·simp only[dL,ho];rfl
  ·unfold bA;rw[if_neg (by omega)]
   rfl
end
section
variable {α β:Type}{f:Nat->α->β}{l:List α}{i:Nat}
end
abbrev aF5(g:String->Nat):List AOper:=[qm 16 0,qq 17 (.bsl 1 [(.int .u8 0)] 1 [(0,(.const (.int .u8 40)))]),⟨some 18,oa 1 1 16 17,none,[0,1]⟩,qla 19 3 4,⟨some 20,.callr (uf (g "dactyl/formula.put")) [(.tmp 18),(.tmp 19),(.const (.int .i64 0))],none,[3,2,0,1]⟩,qq 21 (.bsl 1 [(.int .u8 0)] 1 [(0,(.const (.int .u8 41)))]),⟨some 22,oa 1 1 20 21,none,[5,4,3,2,0,1]⟩,⟨some 6,om 22,none,[6,5,4,3,2,0,1]⟩]
abbrev aAm:List Nat:=[2,3]
abbrev aF6(g:String->Nat):List AOper:=[qm 42 0,qq 43 (.bsl 1 [(.int .u8 0)] 1 [(0,(.const (.int .u8 45)))]),⟨some 44,oa 1 1 42 43,none,[0,1]⟩,qf 45 2 4,⟨some 46,ol 1 45,none,[3]⟩,⟨some 47,.iaV (u 46) (ui 0) 3,none,[4,3]⟩,⟨some 48,ola 3 47,none,[5,4,3]⟩,⟨some 49,.callr (uf (g "dactyl/formula.put")) [(.tmp 44),(.tmp 48),(.const (.int .i64 3))],none,[6,5,4,3,2,0,1]⟩,⟨some 6,om 49,none,[7,6,5,4,3,2,0,1]⟩]
abbrev aAn:List Nat:=[2,4,6]
abbrev aF7(g:String->Nat):List AOper:=[qm 52 0,qq 53 (.bsl 1 [(.int .u8 0)] 2 [(0,(.const (.int .u8 82))),(1,(.const (.int .u8 40)))]),⟨some 54,oa 1 1 52 53,none,[0,1]⟩,qf 55 2 4,⟨some 56,ol 1 55,none,[3]⟩,⟨some 57,.iaV (u 56) (ui 0) 3,none,[4,3]⟩,⟨some 58,ola 3 57,none,[5,4,3]⟩,⟨some 59,.callr (uf (g "dactyl/formula.put")) [(.tmp 54),(.tmp 58),(.const (.int .i64 1))],none,[6,5,4,3,2,0,1]⟩,qq 60 (.bsl 1 [(.int .u8 0)] 1 [(0,(.const (.int .u8 41)))]),⟨some 61,oa 1 1 59 60,none,[8,7,6,5,4,3,2,0,1]⟩,⟨some 6,om 61,none,[9,8,7,6,5,4,3,2,0,1]⟩]
abbrev aAo:List Nat:=[2,4,6]
abbrev aF8(g:String->Nat):List AOper:=[qm 64 0,qf 65 2 4,⟨some 66,ol 1 65,none,[1]⟩,⟨some 67,.iaV (u 66) (ui 0) 3,none,[2,1]⟩,⟨some 68,ola 3 67,none,[3,2,1]⟩,⟨some 69,.callr (uf (g "dactyl/formula.put")) [(.tmp 64),(.tmp 68),(.const (.int .i64 4))],none,[0,4,3,2,1]⟩,qq 70 (.bsl 1 [(.int .u8 0)] 1 [(0,(.const (.int .u8 94)))]),⟨some 71,oa 1 1 69 70,none,[6,5,0,4,3,2,1]⟩,qf 72 2 4,⟨some 73,ol 1 72,none,[8]⟩,⟨some 74,.iaV (u 73) (ui 1) 3,none,[9,8]⟩,⟨some 75,ola 3 74,none,[10,9,8]⟩,⟨some 76,.callr (uf (g "dactyl/formula.put")) [(.tmp 71),(.tmp 75),(.const (.int .i64 3))],none,[11,10,9,8,7,6,5,0,4,3,2,1]⟩,⟨some 6,om 76,none,[12,11,10,9,8,7,6,5,0,4,3,2,1]⟩]
abbrev aAp:List Nat:=[5,7,9,11]
def gI(g:String->Nat):ACode:=.block 0 (qS [qbi 26 .eql 24 0,qm 25 26]<|qC 25 (qS [qm 27 0,qf 28 1 4,ql 29 1 28,qq 30 (.callr (uf (g "strconv.AppendInt")) [(.tmp 27),(.tmp 29),(.const (.int .i64 10))]),qm 6 30]<|.ret) (qS [qbi 32 .eql 24 1,qm 31 32]<|qC 31 (qS [qm 33 0,qf 34 1 4,ql 35 1 34,qq 36 (.bin .add .no (ui 97) (u 35)),qq 37 (.conv (.toInt .u8) (u 36)),qq 38 (.bsl 1 [(.int .u8 0)] 1 [(0,(.tmp 37))]),qa 39 1 1 33 38,qm 6 39]<|.ret) (qS [qbi 41 .eql 24 2,qm 40 41]<|qC 40 (.seq (.region true (aF6 g))<|.ret) (qS [qbi 51 .eql 24 8,qm 50 51]<|qC 50 (.seq (.region true (aF7 g))<|.ret) (qS [qbi 63 .eql 24 7,qm 62 63]<|qC 62 (.seq (.region true (aF8 g))<|.ret) (.skip))))))
abbrev aF9(g:String->Nat):List AOper:=[qm 77 0,qf 78 2 4,⟨some 79,ol 1 78,none,[1]⟩,⟨some 80,.iaV (u 79) (ui 0) 3,none,[2,1]⟩,⟨some 81,ola 3 80,none,[3,2,1]⟩,qf 82 2 7,⟨some 83,ol 1 82,none,[5]⟩,⟨some 84,.mm true [(.const (.int .i64 1)),(.tmp 83)],none,[6,5]⟩,⟨some 85,.callr (uf (g "dactyl/formula.put")) [(.tmp 77),(.tmp 81),(.tmp 84)],none,[0,4,3,2,1,7,6,5]⟩,qf 86 3 7,⟨some 87,ol 1 86,none,[9]⟩,⟨some 88,.bsl 1 [(.int .u8 0)] 1 [(0,(.tmp 87))],none,[10,9]⟩,⟨some 89,oa 1 1 85 88,none,[11,10,9,8,0,4,3,2,1,7,6,5]⟩,qf 90 2 4,⟨some 91,ol 1 90,none,[13]⟩,⟨some 92,.iaV (u 91) (ui 1) 3,none,[14,13]⟩,⟨some 93,ola 3 92,none,[15,14,13]⟩,qf 94 2 7,⟨some 95,ol 1 94,none,[17]⟩,⟨some 96,obi .add 95 1,none,[18,17]⟩,⟨some 97,.callr (uf (g "dactyl/formula.put")) [(.tmp 89),(.tmp 93),(.tmp 96)],none,[16,15,14,13,19,18,17,12,11,10,9,8,0,4,3,2,1,7,6,5]⟩,⟨some 6,om 97,none,[20,16,15,14,13,19,18,17,12,11,10,9,8,0,4,3,2,1,7,6,5]⟩]
abbrev aAq:List Nat:=[8,10,12,14,16,18]
def bS(g:String->Nat):AFn:=⟨98,[7,18,30,39,44,54,69,85],[.tmp 6],qS [qx 4 3 1,qmc 6 (.sl true [])]<|qS [qf 8 0 4,ql 9 1 8,qq 10 (.iaA 11 4 (uc (.ep aOQ 0)) (u 9)),qla 11 4 10,qq 7 (.alloc [(.int .i64 0),(.int .i64 0),(.int .i64 0),(.int .u8 0)]),qs 4 7 11]<|.seq (qS [qf 12 2 7,ql 13 1 12,qm 14 2,qb 15 .lss 13 14]<|qC 15 (.seq (.region true (aF5 g))<|.ret) (.skip))<|.seq (qS [qf 23 0 4,ql 24 1 23]<|gI g)<|.seq (.region true (aF9 g))<|.ret⟩
def yX(g:String->Nat):AFn:=⟨9,[],[.tmp 2],qS [qx 1 3 0,qmc 2 (.str [])]<|.seq (qS [qla 3 3 1,qc 4 (g "dactyl/formula.Valid") [u 3],qbi 5 .neq 4 0]<|qC 5 (qS [qmc 2 (.str [])]<|.ret) (.skip))<|qS [qla 6 3 1,qq 7 (.callr (uf (g "dactyl/formula.put")) [(.const (.sl true [])),(.tmp 6),(.const (.int .i64 0))]),qq 8 (.conv .b2s (u 7)),qm 2 8]<|.ret⟩
def nL(g:String->Nat):AFn:=⟨11,[10],[.tmp 6],qS [qmc 6 (.sl true [])]<|qS [qm 7 0,qm 8 1,qm 9 2,qq 10 (.callr (uf (g "internal/strconv.AppendInt")) [(.tmp 7),(.tmp 8),(.tmp 9)]),qm 6 10]<|.ret⟩
abbrev rb(s:Str):List (List AV):=s.map aOE
theorem aGN(s:Str):oC (rb s)=true:=aB (fun b=>rfl) s
theorem aCm(s:Str):cH 1 (rb s)=true:=by cases s<;>rfl
theorem jJ(s:Str):(rb s).length=s.length:=List.length_map ..
inductive Buf(H:List AObj):Str->AV->Prop where
 |nil:Buf H [] (.sl true [])
 |obj (id ver:Nat) (s:Str):H[id]? = some (.vec ver 1 (rb s))->Buf H s (.sr id ver s.length)
def oD(H:List AObj)(t s:Str):AV->Out
 |.sr id ver _=>some (.sr id ver (t.length+s.length),H.set id (.vec ver 1 (rb (t++s))),[id])
 |_=>some (.own 1 (rb s),H,[])
def fL(A:AProg)(f:Nat)(args:List AV)(s:Str):Prop:=∀(H:List AObj) (t:Str) (v:AV),Buf H t v->t.length+s.length<=1000000->aL A f (v::args) H=oD H t s v
structure At(H:List AObj)(i:Nat)(t:Str)(v:AV)(L:List AObj)(o ver:Nat):Prop where
 place:o=H.length+i∨o<H.length
 lt:o<(H++L).length
 fin:∀(L':List AObj) (s:Str),L'.length=L.length->(match aD6 H.length ((H++L').set o (.vec ver 1 (rb (t++s)))) (.sr o ver (t++s).length)with
  |some (v',H',l)=>some (cD H.length (v',H',bA H.length (bA H.length [] [o]) l))
  |none=>none)=oD H t s v
theorem uS(a b:Str):rb (a++b)=rb a++rb b:=List.map_append ..
theorem aOR{H L:List AObj}{o:Nat}{x:AObj}(h:o<H.length):((H++L).set o x).take H.length=H.set o x:=by
 rw[List.set_append_left _ _ h];exact List.take_left' (by simp)
theorem aMO{H L:List AObj}{i:Nat}{x:AObj}:((H++L).set (H.length+i) x).take H.length=H:=by
 rw[List.set_append_right _ _ (by omega)]
 exact List.take_left' rfl
theorem At.own{H L:List AObj}{i ver:Nat}(hi:i<L.length):At H i [] (.sl true []) L (H.length+i) ver:=by
 refine⟨.inl rfl,by simp;omega,fun L' s hl => ?_⟩
 have h1:((H++L').set (H.length+i) (.vec ver 1 (rb s)))[H.length+i]? = some (.vec ver 1 (rb s)):=List.getElem?_set_self (by simp;omega)
 have hst:((rb s).all fun r=>r.all AV.still)=true:=aO (aGN s);simp only[List.nil_append,aD6,h1,Nat.not_lt.2 (Nat.le_add_right H.length i),if_false,jJ,Nat.le_add_right,hst,and_self,if_true,oD];have hg:dL ((H++L').set (H.length+i) (.vec ver 1 (rb s))) [H.length+i]=(H++L').set (H.length+i) (.gone ver):=by
  simp only[dL,h1,Option.elim_some,AObj.ver,List.set_set]
 have hw:bA H.length (bA H.length [] [H.length+i]) [H.length+i]=[]:=by simp[bA,show ¬(H.length+i<H.length)by omega]
 rw[hg,hw,aAI (by show eF H.length (rb s)=true;exact aA (aGN s)),aMO]
theorem At.old{H L:List AObj}{i id ver:Nat}{t:Str}(h:H[id]? = some (.vec ver 1 (rb t))):At H i t (.sr id ver t.length) L id ver:=by
 have hid:=getElem?_lt h;refine⟨.inr hid,by simp;omega,fun L' s hl => ?_⟩
 have h1:((H++L').set id (.vec ver 1 (rb (t++s))))[id]? = some (.vec ver 1 (rb (t++s))):=List.getElem?_set_self (by simp;omega)
 have hw:bA H.length [] [id]=[id]:=by simp[bA,hid]
 have hw2:bA H.length [id] []=[id]:=rfl;simp only[aD6,hid,if_true,hw,hw2,oD,List.length_append];rw[aIZ (x:=.vec ver 1 (rb (t++s))) (by simp[AV.under,hid]) h1 (by show eF H.length (rb (t++s))=true;exact aA (aGN _)),aOR hid]
@[go_sem] theorem aRy{b o:Nat}:bA b (bA b [] [o]) [o]=bA b [] [o]:=by
 by_cases h:o<b<;>simp[bA,h]
theorem Buf.app{H L:List AObj}{i:Nat}{t:Str}{v:AV}(hb:Buf H t v)(ht:t.length<=1000000)(hi:i<L.length)(new:Str)(hn:new≠[])(hl:new.length<=1000000):∃o ver,At H i t v L o ver /\
  ∀f,fH (H++L) (some (H.length+i)) 1 1 v (.sl f (rb new))=some (.sr o ver (t++new).length,(H++L).set o (.vec ver 1 (rb (t++new))),[o]):=by
 have hne:(rb new).isEmpty=false:=by cases new with | nil=>exact absurd rfl hn | cons a r=>rfl
 cases hb with
 |nil=>
  refine⟨H.length+i,((L[i]?).elim 0 AObj.ver)+1,.own hi,fun f => ?_⟩;have hr:bP (rb new).length 1=true:=by unfold bP;rw[jJ];simp;omega
  have hr':bP (0+(rb new).length) 1=true:=by rw[Nat.zero_add];exact hr
  have hlt:H.length+i<(H++L).length:=by simp;omega
  have hv:bG (H++L) (H.length+i)=((L[i]?).elim 0 AObj.ver)+1:=by
   unfold bG;rw[List.getElem?_append_right (by omega),Nat.add_sub_cancel_left]
  unfold fH;simp only[cU,eH,aCm,hne,BT,Bool.false_eq_true,if_false,Bool.true_and,show cH 1 []=true from rfl,List.length_nil,if_true,hlt,hv,List.nil_append,Nat.zero_add]
  unfold make;rw[List.getElem?_append_right (by omega),Nat.add_sub_cancel_left]
  rw[jJ]at hr ⊢;rw[if_pos hr]
 |obj id ver t h=>
  refine⟨id,ver,.old h,fun f => ?_⟩;have hid:=getElem?_lt h;have h1:(H++L)[id]? = some (.vec ver 1 (rb t)):=by rw[List.getElem?_append_left hid];exact h
  have hr:bP (t.length+(rb new).length) 1=true:=by unfold bP;rw[jJ];simp;omega
  unfold fH;simp only[cU,eH,aCm,hne,BT,Bool.false_eq_true,if_false,h1,jJ,uS,List.length_append];rw[if_pos];rw[jJ]at hr;exact⟨trivial,trivial,trivial,hr⟩
theorem Buf.call{A:AProg}{f:Nat}{args:List AV}{H L:List AObj}{i:Nat}{t s:Str}{v:AV}(hb:Buf H t v)(ht:t.length+s.length<=1000000)(hi:i<L.length)(hf:fL A f args s):∃o ver,At H i t v L o ver /\
  eD (some (H.length+i)) true (H++L) (aL A f (v::args) (H++L))=some (.sr o ver (t++s).length,(H++L).set o (.vec ver 1 (rb (t++s))),[o]):=by
 cases hb with
 |nil=>
  refine⟨H.length+i,((L[i]?).elim 0 AObj.ver)+1,.own hi, ?_⟩;rw[hf (H++L) [] (.sl true []) .nil ht];have hlt:H.length+i<(H++L).length:=by simp;omega
  have hv:bG (H++L) (H.length+i)=((L[i]?).elim 0 AObj.ver)+1:=by
   unfold bG;rw[List.getElem?_append_right (by omega),Nat.add_sub_cancel_left]
  simp only[oD,eD,if_true,hlt,hv,jJ,List.nil_append,List.contains_nil,Bool.false_eq_true,if_false];unfold make;rw[List.getElem?_append_right (by omega),Nat.add_sub_cancel_left]
 |obj id ver t h=>
  refine⟨id,ver,.old h, ?_⟩;have hid:=getElem?_lt h;have h1:(H++L)[id]? = some (.vec ver 1 (rb t)):=by rw[List.getElem?_append_left hid];exact h
  rw[hf (H++L) t _ (.obj id ver t h1) ht];simp only[oD,eD,if_true,List.length_append]
theorem aKb{Z:List AObj}{o ver:Nat}{t new:Str}{f:Bool}{site:Option Nat}(ho:o<Z.length)(hn:new≠[])(hl:t.length+new.length<=10000000):
  fH (Z.set o (.vec ver 1 (rb t))) site 1 1 (.sr o ver t.length) (.sl f (rb new))=some (.sr o ver (t++new).length,Z.set o (.vec ver 1 (rb (t++new))),[o]):=by
 have hne:(rb new).isEmpty=false:=by cases new with | nil=>exact absurd rfl hn | cons a r=>rfl
 have h1:(Z.set o (.vec ver 1 (rb t)))[o]? = some (.vec ver 1 (rb t)):=List.getElem?_set_self ho;have hr:bP (t.length+(rb new).length) 1=true:=by unfold bP;rw[jJ];simp;omega
 unfold fH;simp only[cU,eH,aCm,hne,BT,Bool.false_eq_true,if_false,h1,jJ,uS,List.length_append,List.set_set];rw[if_pos];rw[jJ]at hr;exact⟨trivial,trivial,trivial,hr⟩
theorem aEu{A:AProg}{f:Nat}{args:List AV}{Z:List AObj}{o ver:Nat}{t s:Str}(ho:o<Z.length)(ht:t.length+s.length<=1000000)(hf:fL A f args s):
  aL A f (.sr o ver t.length::args) (Z.set o (.vec ver 1 (rb t)))=some (.sr o ver (t++s).length,Z.set o (.vec ver 1 (rb (t++s))),[o]):=by
 rw[hf (Z.set o (.vec ver 1 (rb t))) t _ (.obj o ver t (List.getElem?_set_self ho)) ht];simp only[oD,List.length_append,List.set_set]
theorem At.done{H L:List AObj}{i:Nat}{t:Str}{v:AV}{o ver:Nat}(a:At H i t v L o ver){L':List AObj}(hl:L'.length=L.length)(s:Str):
  bnd (match (if o<H.length then some (AV.sr o ver (t.length+s.length),(H++L').set o (.vec ver 1 (rb (t++s))),[])else match ((H++L').set o (.vec ver 1 (rb (t++s))))[o]? with
    |some (.vec v' k rows)=>if v'=ver/\rows.length=t.length+s.length/\H.length<=o/\(rows.all fun r=>r.all AV.still)=true then
      some (.own k rows,(H++L').set o (.gone ((((H++L').set o (.vec ver 1 (rb (t++s))))[o]?).elim 0 AObj.ver)),[o])else none
    |_=>none)with
   |some (v',H',l)=>some (v',H',bA H.length (bA H.length [] [o]) l)
   |none=>none) fun r=>bnd (some (cD H.length r)) fun r=>some (r.1,r.2.1,r.2.2)=oD H t s v:=by
 have h:=a.fin L' s hl;rw[List.length_append,aRb]at h;simp only[dL,List.set_set]at h;generalize (if o<H.length then some (AV.sr o ver (t.length+s.length),(H++L').set o (.vec ver 1 (rb (t++s))),[])else match ((H++L').set o (.vec ver 1 (rb (t++s))))[o]? with
    |some (.vec v' k rows)=>if v'=ver/\rows.length=t.length+s.length/\H.length<=o/\(rows.all fun r=>r.all AV.still)=true then
      some (.own k rows,(H++L').set o (.gone ((((H++L').set o (.vec ver 1 (rb (t++s))))[o]?).elim 0 AObj.ver)),[o])else none
    |_=>none)=z at h ⊢
 cases z with
 |none=>dsimp only at h;cases v<;>cases h
 |some r=>
  obtain⟨v',H',l⟩:=r;exact h
theorem jZ(op:Int):(yW op).length=4:=rfl
theorem nM(op:Int):(yW op).all AV.cellOk=true:=rfl
theorem kA(op:Int):((yW op).drop 2).take 1=[vi (lev op)]:=rfl
theorem aLb(op:Int):((yW op).drop 3).take 1=[.int .u8 (sgI op)]:=rfl
theorem aMP(op n:Int)(a:Expr):wX (.mk op n [a])=if op=2 then 45::par a 3 (wX a)else 82::40::(par a 1 (wX a)++[41]):=by conv=>lhs;unfold wX
theorem aKc(op n:Int)(a b:Expr):wX (.mk op n [a,b])=if op=7 then par a 4 (wX a)++94::par b 3 (wX b)else par a (max 1 (lev op)) (wX a)++sg op::par b (lev op+1) (wX b):=by conv=>lhs;unfold wX
section
variable {A:AProg}{g:String->Nat}
abbrev aDi(op:Int):List AObj:=[.box 1 (yW op),.gone 0,.gone 0,.gone 0,.gone 0,.gone 0,.gone 0,.gone 0]
theorem aRz(h:Has A g "dactyl/formula.put" (bS g))(hi:∀n:Int,0<=n->n<=999999->fL A (g "strconv.AppendInt") [vi n,vi 10] (dec n.toNat)){n:Int}(h0:0<=n)(h9:n<=999999){op:Int}(eo:op=0){L:Nat}(hL:L<=lev op):fL A (g "dactyl/formula.put") [.agg (aF (.mk op (n) [])),vi L] (wX (.mk op (n) [])):=by
 intro H t v hb ht;obtain⟨v1,H1,wr1,h1,h2⟩:=h.callEx (args:=[v,.agg (aF (.mk op (n) [])),vi L]) (H:=H) (K:=fun v' H'' wr'=>some (v',H'',wr')=oD H t (wX (.mk op (n) [])) v) (by simp[bS]) (by kernel_rfl) (by
  have hlev:decide (lev op<L)=false:=by
   rw[decide_eq_false_iff_not];omega
  have o0:0<=op:=by omega
  have o1:op<11:=by omega
  simp only[bS];simp only[go_sem,↓aC,seval,aF,aV,o0,o1,Nat.zero_add,(gK o0 o1).1,(gK o0 o1).2,jZ,nM,List.append_nil,kA,hlev];subst eo;have hw:wX (.mk 0 n [])=dec n.toNat:=by unfold wX;rfl
  rw[hw]at ht ⊢;obtain⟨o,ver,hat,hcl⟩:=hb.call (L:=aDi 0) (i:=2) ht (by decide) (hi n h0 h9)
  simp only[gI];simp only[go_sem,↓aC,seval,hcl];exact hat.done rfl _)
 rw[h1,h2]
theorem aRA(h:Has A g "dactyl/formula.put" (bS g)){n:Int}(h0:0<=n)(h1:n<=25){op:Int}(eo:op=1){L:Nat}(hL:L<=lev op):fL A (g "dactyl/formula.put") [.agg (aF (.mk op (n) [])),vi L] (wX (.mk op (n) [])):=by
 intro H t v hb ht;obtain⟨v1,H1,wr1,h1,h2⟩:=h.callEx (args:=[v,.agg (aF (.mk op (n) [])),vi L]) (H:=H) (K:=fun v' H'' wr'=>some (v',H'',wr')=oD H t (wX (.mk op (n) [])) v) (by simp[bS]) (by kernel_rfl) (by
  have hlev:decide (lev op<L)=false:=by
   rw[decide_eq_false_iff_not];omega
  have o0:0<=op:=by omega
  have o1:op<11:=by omega
  simp only[bS];simp only[go_sem,↓aC,seval,aF,aV,o0,o1,Nat.zero_add,(gK o0 o1).1,(gK o0 o1).2,jZ,nM,List.append_nil,kA,hlev];subst eo;have hw:wX (.mk 1 n [])=[UInt8.ofNat (97+n.toNat)]:=by unfold wX;rfl
  rw[hw]at ht ⊢;obtain⟨o,ver,hat,hcl⟩:=hb.app (L:=aDi 1) (i:=3) (by simp at ht;omega) (by decide) [UInt8.ofNat (97+n.toNat)] (by simp) (by simp)
  have hcl:fH (H++aDi 1) (some (H.length+3)) 1 1 v (.sl true [[.int .u8 ((UInt8.ofNat (97+n.toNat)).toNat:Nat)]])=_:=hcl true;have hc:IntKind.u8.wrap (IntKind.i64.wrap (97+n))=(((UInt8.ofNat (97+n.toNat)).toNat:Nat):Int):=by
   rw[jY (by omega),wrap_i64 (by omega) (by omega)]
   unfold IntKind.wrap;simp[IntKind.bits,IntKind.signed];omega
  simp only[gI];simp only[go_sem,↓aC,seval,pG,hc,hcl];exact hat.done rfl _)
 rw[h1,h2]
theorem aRB(h:Has A g "dactyl/formula.put" (bS g)){a:Expr}(ia:∀L:Nat,L<=4->fL A (g "dactyl/formula.put") [.agg (aF a),vi L] (par a L (wX a))){op:Int}(eo:op=2){L:Nat}(hL:L<=lev op):fL A (g "dactyl/formula.put") [.agg (aF (.mk op (0) [a])),vi L] (wX (.mk op (0) [a])):=by
 intro H t v hb ht;obtain⟨v1,H1,wr1,h1,h2⟩:=h.callEx (args:=[v,.agg (aF (.mk op (0) [a])),vi L]) (H:=H) (K:=fun v' H'' wr'=>some (v',H'',wr')=oD H t (wX (.mk op (0) [a])) v) (by simp[bS]) (by kernel_rfl) (by
  have hlev:decide (lev op<L)=false:=by
   rw[decide_eq_false_iff_not];omega
  have o0:0<=op:=by omega
  have o1:op<11:=by omega
  simp only[bS];simp only[go_sem,↓aC,seval,aF,aV,o0,o1,Nat.zero_add,(gK o0 o1).1,(gK o0 o1).2,jZ,nM,List.append_nil,kA,hlev];subst eo;have hw:wX (.mk 2 0 [a])=45::par a 3 (wX a):=aMP 2 0 a;rw[hw]at ht ⊢;have hl:t.length+(1+(par a 3 (wX a)).length)<=1000000:=by simp at ht;omega
  obtain⟨o,ver,hat,happ⟩:=hb.app (L:=aDi 2) (i:=4) (by omega) (by decide) [45] (by simp) (by simp)
  have happ:fH (H++aDi 2) (some (H.length+4)) 1 1 v (.sl true [[.int .u8 45]])=_:=happ true;have hcall:aL A (g "dactyl/formula.put") [.sr o ver (t++[45]).length,.agg (aF a),vi 3] _=_:=aEu (t:=t++[45]) (ver:=ver) hat.lt (by simp;omega) (ia 3 (by decide))
  simp only[List.length_append,List.length_cons,List.length_nil,Nat.zero_add]at happ hcall;have hd:=hat.done (L':=aDi 2) rfl (45::par a 3 (wX a));rw[show t++45::par a 3 (wX a)=t++[45]++par a 3 (wX a)by simp,show t.length+(45::par a 3 (wX a)).length=t.length+1+(par a 3 (wX a)).length by simp;omega]at hd
  simp only[gI];simp only[go_sem,↓aC,seval];refine bN (keep:=aAn) (by rfl) (by rfl) ?_
  simp only[go_sem,↓aC,seval,aAn,fG,eB,aR,happ,hcall,List.map_cons,List.map_nil,List.getElem?_cons_zero,dC,dJ.take,List.length_set];exact hd)
 rw[h1,h2]
theorem aOS(h:Has A g "dactyl/formula.put" (bS g)){a:Expr}(ia:∀L:Nat,L<=4->fL A (g "dactyl/formula.put") [.agg (aF a),vi L] (par a L (wX a))){op:Int}(eo:op=8){L:Nat}(hL:L<=lev op):fL A (g "dactyl/formula.put") [.agg (aF (.mk op (0) [a])),vi L] (wX (.mk op (0) [a])):=by
 intro H t v hb ht;obtain⟨v1,H1,wr1,h1,h2⟩:=h.callEx (args:=[v,.agg (aF (.mk op (0) [a])),vi L]) (H:=H) (K:=fun v' H'' wr'=>some (v',H'',wr')=oD H t (wX (.mk op (0) [a])) v) (by simp[bS]) (by kernel_rfl) (by
  have hlev:decide (lev op<L)=false:=by
   rw[decide_eq_false_iff_not];omega
  have o0:0<=op:=by omega
  have o1:op<11:=by omega
  simp only[bS];simp only[go_sem,↓aC,seval,aF,aV,o0,o1,Nat.zero_add,(gK o0 o1).1,(gK o0 o1).2,jZ,nM,List.append_nil,kA,hlev];subst eo;have hw:wX (.mk 8 0 [a])=82::40::(par a 1 (wX a)++[41]):=aMP 8 0 a;rw[hw]at ht ⊢;have hl:t.length+(3+(par a 1 (wX a)).length)<=1000000:=by simp at ht;omega
  obtain⟨o,ver,hat,happ⟩:=hb.app (L:=aDi 8) (i:=5) (by omega) (by decide) [82,40] (by simp) (by simp)
  have happ:fH (H++aDi 8) (some (H.length+5)) 1 1 v (.sl true [[.int .u8 82],[.int .u8 40]])=_:=happ true;have hcall:aL A (g "dactyl/formula.put") [.sr o ver (t++[82,40]).length,.agg (aF a),vi 1] _=_:=aEu (t:=t++[82,40]) (ver:=ver) hat.lt (by simp;omega) (ia 1 (by decide))
  have happ2:∀site,fH _ site 1 1 _ (.sl true [[.int .u8 41]])=_:=fun site=>aKb (Z:=H++aDi 8) (ver:=ver) (t:=t++[82,40]++par a 1 (wX a)) (new:=[41]) (f:=true) (site:=site) hat.lt (by simp) (by simp;omega)
  simp only[List.length_append,List.length_cons,List.length_nil,Nat.zero_add,NA]at happ hcall happ2;have hd:=hat.done (L':=aDi 8) rfl (82::40::(par a 1 (wX a)++[41]));rw[show t++82::40::(par a 1 (wX a)++[41])=t++[82,40]++par a 1 (wX a)++[41] by simp,show t.length+(82::40::(par a 1 (wX a)++[41])).length=t.length+2+(par a 1 (wX a)).length+1 by simp;omega]at hd
  simp only[gI];simp only[go_sem,↓aC,seval];refine bN (keep:=aAo) (by rfl) (by rfl) ?_
  simp only[go_sem,↓aC,seval,aAo,fG,eB,aR,happ,hcall,happ2,List.map_cons,List.map_nil,List.getElem?_cons_zero,dC,dJ.take,List.length_set];exact hd)
 rw[h1,h2]
theorem aRC(h:Has A g "dactyl/formula.put" (bS g)){a b:Expr}(ia:∀L:Nat,L<=4->fL A (g "dactyl/formula.put") [.agg (aF a),vi L] (par a L (wX a)))(ib:∀L:Nat,L<=4->fL A (g "dactyl/formula.put") [.agg (aF b),vi L] (par b L (wX b))){op:Int}(eo:op=7){L:Nat}(hL:L<=lev op):fL A (g "dactyl/formula.put") [.agg (aF (.mk op (0) [a,b])),vi L] (wX (.mk op (0) [a,b])):=by
 intro H t v hb ht;obtain⟨v1,H1,wr1,h1,h2⟩:=h.callEx (args:=[v,.agg (aF (.mk op (0) [a,b])),vi L]) (H:=H) (K:=fun v' H'' wr'=>some (v',H'',wr')=oD H t (wX (.mk op (0) [a,b])) v) (by simp[bS]) (by kernel_rfl) (by
  have hlev:decide (lev op<L)=false:=by
   rw[decide_eq_false_iff_not];omega
  have o0:0<=op:=by omega
  have o1:op<11:=by omega
  simp only[bS];simp only[go_sem,↓aC,seval,aF,aV,o0,o1,Nat.zero_add,(gK o0 o1).1,(gK o0 o1).2,jZ,nM,List.append_nil,kA,hlev];subst eo;have hw:wX (.mk 7 0 [a,b])=par a 4 (wX a)++94::par b 3 (wX b):=aKc 7 0 a b;rw[hw]at ht ⊢;have hl:t.length+((par a 4 (wX a)).length+(1+(par b 3 (wX b)).length))<=1000000:=by simp at ht;omega
  obtain⟨o,ver,hat,hcl⟩:=hb.call (L:=aDi 7) (i:=6) (by omega) (by decide) (ia 4 (by decide))
  have hcl:eD (some (H.length+6)) true (H++aDi 7) (aL A (g "dactyl/formula.put") [v,.agg (aF a),vi 4] (H++aDi 7))=_:=hcl;have happ2:∀site,fH _ site 1 1 _ (.sl true [[.int .u8 94]])=_:=fun site=>aKb (Z:=H++aDi 7) (ver:=ver) (t:=t++par a 4 (wX a)) (new:=[94]) (f:=true) (site:=site) hat.lt (by simp) (by simp;omega)
  have hcall:aL A (g "dactyl/formula.put") [.sr o ver (t++par a 4 (wX a)++[94]).length,.agg (aF b),vi 3] _=_:=aEu (t:=t++par a 4 (wX a)++[94]) (ver:=ver) hat.lt (by simp;omega) (ib 3 (by decide))
  simp only[List.length_append,List.length_cons,List.length_nil,Nat.zero_add]at hcl hcall happ2;have hd:=hat.done (L':=aDi 7) rfl (par a 4 (wX a)++94::par b 3 (wX b));rw[show t++(par a 4 (wX a)++94::par b 3 (wX b))=t++par a 4 (wX a)++[94]++par b 3 (wX b)by simp,show t.length+(par a 4 (wX a)++94::par b 3 (wX b)).length=t.length+(par a 4 (wX a)).length+1+(par b 3 (wX b)).length by simp;omega]at hd
  simp only[gI];simp only[go_sem,↓aC,seval];refine bN (keep:=aAp) (by rfl) (by rfl) ?_
  simp only[go_sem,↓aC,seval,aAp,fG,eB,aR,hcl,hcall,happ2,List.map_cons,List.map_nil,List.getElem?_cons_zero,List.getElem?_cons_succ,dC,dJ.take,List.length_set];exact hd)
 rw[h1,h2]
theorem aEv(h:Has A g "dactyl/formula.put" (bS g)){op:Int}(ho:op=3∨op=4∨op=5∨op=6∨op=9∨op=10){a b:Expr}(ia:∀L:Nat,L<=4->fL A (g "dactyl/formula.put") [.agg (aF a),vi L] (par a L (wX a)))(ib:∀L:Nat,L<=4->fL A (g "dactyl/formula.put") [.agg (aF b),vi L] (par b L (wX b))){L:Nat}(hL:L<=lev op):fL A (g "dactyl/formula.put") [.agg (aF (.mk (op) (0) [a,b])),vi L] (wX (.mk (op) (0) [a,b])):=by
 intro H t v hb ht;obtain⟨v1,H1,wr1,h1,h2⟩:=h.callEx (args:=[v,.agg (aF (.mk (op) (0) [a,b])),vi L]) (H:=H) (K:=fun v' H'' wr'=>some (v',H'',wr')=oD H t (wX (.mk (op) (0) [a,b])) v) (by simp[bS]) (by kernel_rfl) (by
  have hlev:decide (lev (op)<L)=false:=by
   rw[decide_eq_false_iff_not];omega
  have o0:0<=op:=by omega
  have o1:op<11:=by omega
  simp only[bS];simp only[go_sem,↓aC,seval,aF,aV,o0,o1,Nat.zero_add,(gK o0 o1).1,(gK o0 o1).2,jZ,nM,List.append_nil,kA,hlev];have hw:wX (.mk op 0 [a,b])=par a (max 1 (lev op)) (wX a)++sg op::par b (lev op+1) (wX b):=by rw[aKc,if_neg (by omega)]
  rw[hw]at ht ⊢;have hl:t.length+((par a (max 1 (lev op)) (wX a)).length+(1+(par b (lev op+1) (wX b)).length))<=1000000:=by simp at ht;omega
  have hl4:lev op<=2:=by
   have:op=3∨op=4∨op=5∨op=6∨op=9∨op=10:=by omega
   rcases this with rfl | rfl | rfl | rfl | rfl | rfl<;>decide
  have hsg:sgI op=(((sg op).toNat:Nat):Int):=by
   have:op=3∨op=4∨op=5∨op=6∨op=9∨op=10:=by omega
   rcases this with rfl | rfl | rfl | rfl | rfl | rfl<;>decide
  obtain⟨o,ver,hat,hcl⟩:=hb.call (L:=aDi op) (i:=7) (by omega) (by show 7<8;decide) (ia (max 1 (lev op)) (by omega))
  have hcl:eD (some (H.length+7)) true (H++aDi op) (aL A (g "dactyl/formula.put") [v,.agg (aF a),vi ((max 1 (lev op):Nat):Int)] (H++aDi op))=_:=hcl;have happ2:∀site,fH _ site 1 1 _ (.sl true [[.int .u8 (((sg op).toNat:Nat):Int)]])=_:=fun site=>aKb (Z:=H++aDi op) (ver:=ver) (t:=t++par a (max 1 (lev op)) (wX a)) (new:=[sg op]) (f:=true) (site:=site) hat.lt (by simp) (by simp;omega)
  have hcall:aL A (g "dactyl/formula.put") [.sr o ver (t++par a (max 1 (lev op)) (wX a)++[sg op]).length,.agg (aF b),vi ((lev op+1:Nat):Int)] _=_:=aEu (t:=t++par a (max 1 (lev op)) (wX a)++[sg op]) (ver:=ver) hat.lt (by simp;omega) (ib (lev op+1) (by omega))
  simp only[List.length_append,List.length_cons,List.length_nil,Nat.zero_add]at hcl hcall happ2;have hd:=hat.done (L':=aDi op) rfl (par a (max 1 (lev op)) (wX a)++sg op::par b (lev op+1) (wX b));rw[show t++(par a (max 1 (lev op)) (wX a)++sg op::par b (lev op+1) (wX b))=t++par a (max 1 (lev op)) (wX a)++[sg op]++par b (lev op+1) (wX b)by simp,show t.length+(par a (max 1 (lev op)) (wX a)++sg op::par b (lev op+1) (wX b)).length=t.length+(par a (max 1 (lev op)) (wX a)).length+1+(par b (lev op+1) (wX b)).length by simp;omega]at hd
  have n0:(op==0)=false:=by simp;omega
  have n1:(op==1)=false:=by simp;omega
  have n2:(op==2)=false:=by simp;omega
  have n7:(op==7)=false:=by simp;omega
  have n8:(op==8)=false:=by simp;omega
  have hmx:(if ((lev op:Nat):Int)>1 then ((lev op:Nat):Int)else 1)=((max 1 (lev op):Nat):Int):=by split<;>omega
  have hwl:IntKind.i64.wrap (((lev op:Nat):Int)+1)=((lev op+1:Nat):Int):=by rw[wrap_i64 (by omega) (by omega)];omega
  have hne:o≠H.length:=by rcases hat.place with h | h<;>omega
  have hget:∀x,((H++aDi op).set o x)[H.length]? = some (.box 1 (yW op)):=fun x=>by
   rw[List.getElem?_set_ne hne,List.getElem?_append_right (Nat.le_refl _),Nat.sub_self];rfl
  have hbq:(H.length==o)=false:=by simpa using fun h=>hne h.symm
  simp only[gI];simp only[go_sem,↓aC,seval,n0,n1,n2,n7,n8];refine bN (keep:=aAq) (by rfl) (by rfl) ?_
  simp only[go_sem,↓aC,seval,aAq,fG,eB,aR,hcl,hcall,happ2,hsg,mmV,aCE,mm2,hmx,hwl,hget,hbq,jZ,kA,aLb,List.map_cons,List.map_nil,List.getElem?_cons_zero,List.getElem?_cons_succ,dC,dJ.take,List.length_set];exact hd)
 rw[h1,h2]
end
end Go.AM
end
