/- Part 25: lemmas for the last text. -/
import Derived.Test.YtfpndhocfmfgdaaGreatDoorK23
import Derived.Test.YtfpndhocfmfgdaaGreatDoorK24
set_option linter.unusedVariables false
set_option linter.unusedSimpArgs false
open Int renaming reduceEq -> IE
open Bool renaming not_true -> BT
section
set_option maxRecDepth 8000
namespace Go.AM
open Go
abbrev aD9(g:String->Nat):List AOper:=[qm 9 3,⟨some 10,obi .gtr 9 0,none,[0]⟩,⟨some 11,om 10,none,[1,0]⟩,⟨some 12,om 0,some (some 11,true),[2,1,0]⟩,⟨some 13,om 3,some (some 11,true),[2,1,0]⟩,⟨some 14,oi 12 13 2,some (some 11,true),[3,4,2,1,0]⟩,⟨some 15,of 0 14,some (some 11,true),[5,3,4,2,1,0]⟩,⟨some 16,ol 1 15,some (some 11,true),[6,5,3,4,2,1,0]⟩,⟨some 17,om 0,some (some 11,true),[2,1,0]⟩,⟨some 18,om 3,some (some 11,true),[2,1,0]⟩,⟨some 19,obi .sub 18 1,some (some 11,true),[9,2,1,0]⟩,⟨some 20,oi 17 19 2,some (some 11,true),[8,10,9,2,1,0]⟩,⟨some 21,of 0 20,some (some 11,true),[11,8,10,9,2,1,0]⟩,⟨some 22,ol 1 21,some (some 11,true),[12,11,8,10,9,2,1,0]⟩,⟨some 23,ob .eql 16 22,some (some 11,true),[7,6,5,3,4,13,12,11,8,10,9,2,1,0]⟩,⟨some 24,op 11 23,none,[14,7,6,5,3,4,13,12,11,8,10,9,2,1,0]⟩]
abbrev lQ:List Nat:=[]
abbrev aDa(g:String->Nat):ACode:=qS [qb 7 .lss 6 5]<|.seq (qC 7 (.skip) (.exit 0))<|.seq (.block 1 (qS [qm 8 6,qm 3 8]<|.seq (.region true (aD9 g))<|qC 24 (qS [qmc 2 (.bool false)]<|.ret) (.skip)))<|.region false [qbi 25 .add 6 1,qm 6 25]
abbrev aDb:List Nat:=[7,8,3,9,10,11,12,13,14,15,16,17,18,19,20,21,22,23,24,2,25,6]
def pP(g:String->Nat):AFn:=⟨28,[],[.tmp 2],qS [qmc 2 (.bool false)]<|.seq (qS [qm 4 0,qn 5 4,qmc 6 (.int .i64 0)]<|.block 0 (.loop (aDa g)))<|qS [qm 26 0,qc 27 (g "dactyl/syntax.all[dactyl/api.Run]") [u 26,ui 1,ui 8,uf (g "dactyl/syntax.isRuns$1")],qm 2 27]<|.ret⟩
def jX(g:String->Nat):AFn:=⟨11,[],[.tmp 2],qS [qx 1 2 0,qmc 2 (.bool false)]<|qS [qf 3 0 1,ql 4 1 3,qc 5 (g "dactyl/syntax.within") [u 4,ui 0,ui 1],qm 6 5,qT 7 6 (of 1 1),qT 8 6 (ol 1 7),qT 9 6 (oc (g "dactyl/syntax.isText") [u 8,ui 1,ui 200]),qp 10 6 9,qm 2 10]<|.ret⟩
def aAi(g:String->Nat):ACode:=.block 0 (.seq (qS [qbi 5 .eql 3 0,qm 4 5]<|qC 4 (.skip) (qR [qbi 6 .eql 3 1,qm 4 6]))<|qC 4 (qS [qmc 2 (.int .i64 0)]<|.ret) (.seq (qS [qbi 8 .eql 3 2,qm 7 8]<|qC 7 (.skip) (qR [qbi 9 .eql 3 8,qm 7 9]))<|qC 7 (qS [qmc 2 (.int .i64 1)]<|.ret) (.skip)))
def qN(g:String->Nat):AFn:=⟨10,[],[.tmp 2],qS [qmc 2 (.int .i64 0)]<|.seq (qS [qm 3 0]<|aAi g)<|qS [qmc 2 (.int .i64 2)]<|.ret⟩
def xP(g:String->Nat):ACode:=.block 0 (qS [qbi 15 .eql 13 0,qm 14 15]<|qC 14 (qR [qmc 6 (.int .i64 999999)]) (qS [qbi 17 .eql 13 1,qm 16 17]<|qC 16 (qR [qmc 6 (.int .i64 25)]) (.skip)))
abbrev aDc(g:String->Nat):List AOper:=[qm 18 1,⟨some 19,obi .gtr 18 16,none,[0]⟩,⟨some 20,om 19,none,[1,0]⟩,⟨some 21,of 0 2,some (some 20,false),[2,1,0]⟩,⟨some 22,ol 1 21,some (some 20,false),[3,2,1,0]⟩,⟨some 23,oc (g "dactyl/syntax.within") [u 22,ui 0,ui 10],some (some 20,false),[4,3,2,1,0]⟩,⟨some 24,.un .not (u 23),some (some 20,false),[5,4,3,2,1,0]⟩,⟨some 25,.pick (u 20) uT (u 24),none,[6,5,4,3,2,1,0]⟩,⟨some 26,om 25,none,[7,6,5,4,3,2,1,0]⟩,⟨some 27,of 1 2,some (some 26,false),[8,7,6,5,4,3,2,1,0]⟩,⟨some 28,ol 1 27,some (some 26,false),[9,8,7,6,5,4,3,2,1,0]⟩,⟨some 29,om 6,some (some 26,false),[8,7,6,5,4,3,2,1,0]⟩,⟨some 30,oc (g "dactyl/syntax.within") [u 28,ui 0,u 29],some (some 26,false),[10,9,11,8,7,6,5,4,3,2,1,0]⟩,⟨some 31,.un .not (u 30),some (some 26,false),[12,10,9,11,8,7,6,5,4,3,2,1,0]⟩,⟨some 32,.pick (u 26) uT (u 31),none,[13,12,10,9,11,8,7,6,5,4,3,2,1,0]⟩,⟨some 33,om 32,none,[14,13,12,10,9,11,8,7,6,5,4,3,2,1,0]⟩,⟨some 34,of 2 2,some (some 33,false),[15,14,13,12,10,9,11,8,7,6,5,4,3,2,1,0]⟩,⟨some 35,ol 1 34,some (some 33,false),[16,15,14,13,12,10,9,11,8,7,6,5,4,3,2,1,0]⟩,⟨some 36,on 35,some (some 33,false),[17,16,15,14,13,12,10,9,11,8,7,6,5,4,3,2,1,0]⟩,⟨some 37,of 0 2,some (some 33,false),[15,14,13,12,10,9,11,8,7,6,5,4,3,2,1,0]⟩,⟨some 38,ol 1 37,some (some 33,false),[19,15,14,13,12,10,9,11,8,7,6,5,4,3,2,1,0]⟩,⟨some 39,oc (g "dactyl/syntax.kids") [u 38],some (some 33,false),[20,19,15,14,13,12,10,9,11,8,7,6,5,4,3,2,1,0]⟩,⟨some 40,ob .neq 36 39,some (some 33,false),[18,17,16,21,20,19,15,14,13,12,10,9,11,8,7,6,5,4,3,2,1,0]⟩,⟨some 41,.pick (u 33) uT (u 40),none,[22,18,17,16,21,20,19,15,14,13,12,10,9,11,8,7,6,5,4,3,2,1,0]⟩]
abbrev fX:List Nat:=[17,21]
abbrev aDd(g:String->Nat):ACode:=qS [qb 46 .lss 45 44]<|.seq (qC 46 (.skip) (.exit 1))<|.seq (.block 2 (qS [qi 47 43 45 3,qla 48 3 47,qq 9 (.alloc [(.int .i64 0),(.int .i64 0),(.sl true [])]),qs 3 9 48]<|qS [qla 50 3 9,qm 51 1,qbi 52 .add 51 1,qc 53 (g "dactyl/syntax.isExpr") [u 50,u 52],qm 49 53,qq 54 (.ext 0 (u 49)),qq 55 (.ext 1 (u 49)),qm 10 54,qm 11 55]<|.seq (qS [qm 56 11,qq 57 (.un .not (u 56))]<|qC 57 (qS [qmc 4 (.int .i64 0),qmc 5 (.bool false)]<|.ret) (.skip))<|.region false [qm 58 7,qm 59 10,qb 60 .add 58 59,qm 7 60]))<|.region false [qbi 61 .add 45 1,qm 45 61]
abbrev aDe:List Nat:=[46,47,48,9,50,51,52,53,49,54,55,10,11,56,57,4,5,58,59,60,7,61,45]
def pQ(g:String->Nat):AFn:=⟨65,[9],[.tmp 4,.tmp 5],qS [qx 2 3 0,qmc 4 (.int .i64 0),qmc 5 (.bool false)]<|qS [qmc 6 (.int .i64 0)]<|.seq (qS [qf 12 0 2,ql 13 1 12]<|xP g)<|.seq (.seq (.region true (aDc g))<|qC 41 (qS [qmc 4 (.int .i64 0),qmc 5 (.bool false)]<|.ret) (.skip))<|qS [qmc 7 (.int .i64 1)]<|.seq (qS [qf 42 2 2,ql 43 1 42,qn 44 43,qmc 45 (.int .i64 0)]<|.block 1 (.loop (aDd g)))<|qS [qm 62 7,qm 63 7,qbi 64 .leq 63 256,qm 4 62,qm 5 64]<|.ret⟩
def qO(g:String->Nat):AFn:=⟨7,[],[.tmp 2],qS [qx 1 1 0,qmc 2 (.bool false)]<|qS [qf 3 0 1,ql 4 1 3,qq 5 (.mkf (g "dactyl/syntax.isMelody$1") [] [(.tmp 1)]),qc 6 (g "dactyl/syntax.all[[][]dactyl/api.Note]") [u 4,ui 1,ui 2,u 5],qm 2 6]<|.ret⟩
def nJ(g:String->Nat):AFn:=⟨16,[],[.tmp 3],qS [qmc 3 (.bool false)]<|qS [qm 4 0,qn 5 4,qf 6 0 1,ql 7 1 6,qq 8 (.iaV (u 7) (ui 0) 1),ql 9 1 8,qn 10 9,qb 11 .eql 5 10,qm 12 11,qT 13 12 (om 0),qT 14 12 (oc (g "dactyl/syntax.all[[]dactyl/api.Note]") [u 13,ui 1,ui 32,uf (g "dactyl/syntax.isMelody$1$1")]),qp 15 12 14,qm 3 15]<|.ret⟩
def lY(g:String->Nat):AFn:=⟨5,[],[.tmp 2],qS [qmc 2 (.bool false)]<|qS [qm 3 0,qc 4 (g "dactyl/syntax.all[dactyl/api.Note]") [u 3,ui 1,ui 16,uf (g "dactyl/syntax.isNote")],qm 2 4]<|.ret⟩
section
variable {A:AProg}{g:String->Nat}
def sD(l:List Run)(i:Nat):Int:=((l[i]?).map Run.lang).getD 0
def aSF(l:List Run):Bool:=(List.range (l.length - 1)).all fun i=>sD l (i+1) != sD l i
def aSG(r:Run):Bool:=wi r.lang 0 1&&aGG 1 200 r.text
def aI3(l:List Run):Bool:=aSF l&&(wi l.length 1 8&&l.all aSG)
theorem aFT{l:List Run}{i:Nat}(h:i<l.length):sD l i=l[i].lang:=by unfold sD;rw[List.getElem?_eq_getElem h];rfl
theorem aOK(h:Has A g "dactyl/syntax.isRuns$1" (jX g))(hw:eQ A g)(ht:aDx A g)(r:Run)(hr:r.text.length<=1000000)(H:List AObj):aL A (g "dactyl/syntax.isRuns$1") [.agg (cW r)] H=some (.bool (aSG r),H,[]):=by
 refine h.call (by simp[jX]) (by kernel_rfl) ?_
 simp only[jX,aSG];have h1:=fun H=>hw r.lang 0 1 H;have h2:=fun H=>ht r.text 1 200 H hr;cases e1:wi r.lang 0 1 with
 |false=>simp only[go_sem,↓aC,seval,cW,h1,e1,Bool.false_and,Bool.false_beq]
 |true=>simp only[go_sem,↓aC,seval,cW,h1,h2,e1,Bool.true_and,beq_self_eq_true]
theorem aJ9(h:Has A g "dactyl/syntax.isRuns" (pP g))(h1:Has A g "dactyl/syntax.isRuns$1" (jX g))(ha:HasAll A g 2 true (g "dactyl/syntax.all[dactyl/api.Run]"))(hw:eQ A g)(ht:aDx A g)
  (l:List Run) (hl:l.length<=1000000) (hr:∀r∈l,r.text.length<=1000000) (H:List AObj):aL A (g "dactyl/syntax.isRuns") [.sl false (l.map cW)] H=some (.bool (aI3 l),H,[]):=by
 refine h.call (by simp[pP]) (by kernel_rfl) ?_
 have hc:=ha.spec hw aRo fA (l:=l) (H:=H) (f1:=g "dactyl/syntax.isRuns$1") (q:=aSG) (lo:=1) (hi:=8) (by show l.length<_;omega) fun _ r hm=>aOK h1 hw ht r (hr r hm) H
 simp only[pP];simp only[go_sem,↓aC,seval,List.length_map];refine bZ (id:=0) (W:=aDb) (fun i ρ1 H1 wr=>wr=[]/\H1=H/\ρ1 6=vi i/\∀j,j+1<i->sD l (j+1)≠sD l j) l.length
  (fun ρ1 H1 wr=>wr=[]/\H1=H/\∀j,j+1<l.length->sD l (j+1)≠sD l j)
  (by kernel_rfl) (by rfl) ⟨rfl,by simp,rfl,fun j hj=>by omega⟩ ?_ ?_
 ·rintro i ρ1 H1 wr1 hil ⟨rfl,rfl,e6,hn⟩ hf;have e0:ρ1 0=.sl false (l.map cW):=by rw[hf 0 (by rfl)];rfl
  have e5:ρ1 5=vi l.length:=by rw[hf 5 (by rfl)];rfl
  simp only[go_sem,↓aC,seval,e6,e5];refine aD (fun hb => ?_) (fun hb => ?_)
  ·have hlt:i<l.length:=by simpa using hb
   have hw9:IntKind.i64.wrap ((i:Int)+1)=((i+1:Nat):Int):=by rw[wrap_i64 (by omega) (by omega)];omega
   have hgi:(l.map cW)[i]? = some [vi (sD l i),.str l[i].text]:=by rw[getElem?_map_of hlt,aFT hlt];rfl
   simp only[go_sem,↓aC,seval];refine bN (keep:=lQ) (by rfl) (by rfl) ?_
   cases i with
   |zero=>
    simp only[go_sem,↓aC,seval,lQ,e6,Bool.false_beq,Int.ofNat_zero,Int.lt_irrefl,decide_false];exact⟨hlt,by rw[wrap_i64 (by decide) (by decide)],fun j hj=>by omega⟩
   |succ i=>
    have hgt:decide (((i+1:Nat):Int)>0)=true:=by rw[decide_eq_true_eq];omega
    have hw1:IntKind.i64.wrap (((i+1:Nat):Int) - 1)=(i:Int):=by rw[wrap_i64 (by omega) (by omega)];omega
    have hgj:(l.map cW)[i]? = some [vi (sD l i),.str (l[i]'(by omega)).text]:=by rw[getElem?_map_of (by omega),aFT (by omega)];rfl
    have hn0:(0:Int)<=((i+1:Nat):Int):=by omega
    have hn1:(0:Int)<=(i:Int):=by omega
    have hto:(((i+1:Nat):Int)).toNat=i+1:=by omega
    have hto1:((i:Int)).toNat=i:=by omega
    cases hq:(sD l (i+1)==sD l i)with
    |true=>
     have hb:aI3 l=false:=by
      have:aSF l=false:=by
       rw[Bool.eq_false_iff];intro hc;unfold aSF at hc;rw[List.all_eq_true]at hc;have:=hc i (by simp;omega)
       simp at this hq;exact this hq
      unfold aI3;rw[this,Bool.false_and]
     simp only[go_sem,↓aC,seval,lQ,e0,e6,beq_self_eq_true,hgt,hgi,hgj,hn0,hn1,hto,hto1,hw1,hq,hb]
    |false=>
     simp only[go_sem,↓aC,seval,lQ,e0,e6,beq_self_eq_true,hgt,hgi,hgj,hn0,hn1,hto,hto1,hw1,hq,hw9];refine⟨hlt,fun j hj => ?_⟩
     by_cases e:j=i
     ·subst e;simpa using hq
     ·exact hn j (by omega)
  ·have hi:i=l.length:=by simp at hb;omega
   subst hi;simp only[go_sem,seval];exact fun j hj=>hn j hj
 ·rintro ρ' H' wr' ⟨rfl,rfl,hn⟩ hf;have e0:ρ' 0=.sl false (l.map cW):=by rw[hf 0 (by rfl)];rfl
  have hadj:aSF l=true:=by
   unfold aSF;rw[List.all_eq_true];intro j hj;have:=hn j (by simp at hj;omega)
   simpa using this
  simp only[go_sem,↓aC,seval,e0,hc,aI3,hadj,Bool.true_and]
def yV(op:Int):Int:=if op=0 then 999999 else if op=1 then 25 else 0
def aAO(op:Int):Nat:=if op=0∨op=1 then 0 else if op=2∨op=8 then 1 else 2
theorem aMC(h:Has A g "dactyl/syntax.kids" (qN g))(op:Int)(H:List AObj):aL A (g "dactyl/syntax.kids") [vi op] H=some (vi (aAO op),H,[]):=by
 refine h.call (by simp[qN]) (by kernel_rfl) ?_
 simp only[qN,aAi,aAO]
 by_cases e0:op=0
 ·subst e0;simp only[go_sem,↓aC,seval,true_or]
 by_cases e1:op=1
 ·subst e1;simp only[go_sem,↓aC,seval,or_true]
 have n0:(op==0)=false:=by simpa using e0
 have n1:(op==1)=false:=by simpa using e1
 by_cases e2:op=2
 ·subst e2;simp only[go_sem,↓aC,seval,or_self,true_or]
 by_cases e8:op=8
 ·subst e8;simp only[go_sem,↓aC,seval,or_self,or_true]
 have n2:(op==2)=false:=by simpa using e2
 have n8:(op==8)=false:=by simpa using e8
 simp only[go_sem,↓aC,seval,n0,n1,n2,n8,e0,e1,e2,e8,or_self]
mutual
def exS:Expr->Int->Nat×Bool
 |.mk op n ks,d=>if ((decide (d>16) || !wi op 0 10) || !wi n 0 (yV op)) || ((ks.length:Int) != (aAO op:Int))then (0,false)else match exL ks (d+1) 1 with
  |some s=>(s,decide ((s:Int)<=256))
  |none=>(0,false)
def exL:List Expr->Int->Nat->Option Nat
 | [],_,s=>some s
 |k::r,d,s=>match exS k d with
  | (m,true)=>exL r d (s+m)
  | (_,false)=>none
end
theorem aUf{e:Expr}{d:Int}(h:(exS e d).2=true):(exS e d).1<=256:=by
 obtain⟨op,n,ks⟩:=e;unfold exS at h ⊢
 split
 ·exact Nat.zero_le _
 ·rename_i hc;rw[if_neg hc]at h;cases hx:exL ks (d+1) 1 with
  |none=>exact Nat.zero_le _
  |some s=>rw[hx]at h;simp at h ⊢;omega
theorem aK6(op:Int):aAO op<=2:=by unfold aAO;split<;>(try split)<;>omega
theorem aJa(h:Has A g "dactyl/syntax.isExpr" (pQ g))(hk:Has A g "dactyl/syntax.kids" (qN g))(hw:eQ A g):∀(n:Nat) (e:Expr) (d:Int) (H:List AObj),SizeOf.sizeOf e<n->e.Ok->0<=d->d<=1000000 ->
  aL A (g "dactyl/syntax.isExpr") [.agg (aF e),vi d] H=some (.tup [vi (exS e d).1,.bool (exS e d).2],H,[]):=by
 intro n
 induction n with
 |zero=>intro e d H hs;omega
 |succ n ih=>
  intro e d H hs he hd0 hd1;obtain⟨op,m,ks⟩:=e;obtain⟨_,_,_,_,_,hkl,hks⟩:=he;refine h.call (by simp[pQ]) (by kernel_rfl) ?_
  simp only[pQ];have hsz:∀k∈ks,SizeOf.sizeOf k<n:=fun k hm=>by
   have:=List.sizeOf_lt_of_mem hm;simp only[Expr.mk.sizeOf_spec]at hs;omega
  simp only[go_sem,↓aC,seval,aF,aV];refine aMr (W:=[15,14,6,17,16,6]) (fun ρ' H' wr'=>wr'=[]/\H'=H++[.gone 0]/\ρ' 6=vi (yV op)) (by rfl) ?_ ?_
  ·simp only[xP]
   by_cases e0:op=0
   ·subst e0;simp only[go_sem,↓aC,seval];rfl
   have n0:(op==0)=false:=by simpa using e0
   by_cases e1:op=1
   ·subst e1;simp only[go_sem,↓aC,seval];rfl
   have n1:(op==1)=false:=by simpa using e1
   simp only[go_sem,↓aC,seval,n0,n1];unfold yV;rw[if_neg e0,if_neg e1]
  ·rintro ρ H' wr' ⟨rfl,rfl,r6⟩ hf;have r1:ρ 1=vi d:=by rw[hf 1 (by rfl)];rfl
   have r2:ρ 2=.ep [vi op,vi m,.sl false (ks.map aF)] 0:=by rw[hf 2 (by rfl)];rfl
   have k1:=fun H=>hw op 0 10 H;have k2:=fun H=>hw m 0 (yV op) H;have k3:=fun H=>aMC hk op H;have hkk:=aK6 op;simp only[go_sem,seval];refine bN (keep:=fX) (by rfl) (by rfl) ?_
   have hx:exS (.mk op m ks) d=if ((decide (d>16) || !wi op 0 10) || !wi m 0 (yV op)) || ((ks.length:Int) != (aAO op:Int))then (0,false)else match exL ks (d+1) 1 with
    |some s=>(s,decide ((s:Int)<=256))
    |none=>(0,false):=by conv=>lhs;unfold exS
   cases e1:decide (d>16)with
   |true=>
    rw[e1]at hx;simp only[go_sem,↓aC,seval,fX,r1,e1,Bool.true_beq,hx,Bool.true_or]
   |false=>
   rw[e1]at hx;cases e2:wi op 0 10 with
   |false=>
    rw[e2]at hx;simp only[go_sem,↓aC,seval,fX,r1,r2,e1,e2,k1,beq_self_eq_true,Bool.true_beq,hx,Bool.true_or,Bool.or_true]
   |true=>
   rw[e2]at hx;cases e3:wi m 0 (yV op)with
   |false=>
    rw[e3]at hx;simp only[go_sem,↓aC,seval,fX,r1,r2,r6,e1,e2,e3,k1,k2,beq_self_eq_true,Bool.true_beq,hx,Bool.true_or,Bool.or_true]
   |true=>
   rw[e3]at hx;cases e4:((ks.length:Int) != (aAO op:Int))with
   |true=>
    rw[e4]at hx;simp only[go_sem,↓aC,seval,fX,fG,eB,r1,r2,r6,e1,e2,e3,e4,k1,k2,k3,beq_self_eq_true,aR,hx,Bool.true_or,Bool.or_true,List.length_map]
   |false=>
   rw[e4]at hx;simp only[BT,Bool.or_self,Bool.false_eq_true,if_false]at hx;have hlen:ks.length<=2:=by simp at e4;omega
   simp only[go_sem,↓aC,seval,fX,fG,eB,r1,r2,r6,e1,e2,e3,e4,k1,k2,k3,beq_self_eq_true,aR,List.length_map];refine bZ (id:=1) (W:=aDe) (fun i ρ1 H1 wr=>wr=[]/\ρ1 45=vi i/\(∃o1,H1=H++[o1])/\∃s:Nat,ρ1 7=vi s/\s<=1+256*i/\exL ks (d+1) 1=exL (ks.drop i) (d+1) s) ks.length
    (fun ρ1 H1 wr=>wr=[]/\(∃o1,H1=H++[o1])/\∃s:Nat,ρ1 7=vi s/\s<=1000/\exL ks (d+1) 1=some s)
    (by kernel_rfl) (by rfl) ⟨rfl,rfl,⟨_,rfl⟩,1,rfl,by omega,rfl⟩ ?_ ?_
   ·rintro i ρ1 H1 wr1 hil ⟨rfl,e45,⟨o1,rfl⟩,s,e7,hs1,hxl⟩ hf2;have f1:ρ1 1=vi d:=by rw[hf2 1 (by rfl)];exact r1
    have f43:ρ1 43=.sl false (ks.map aF):=by rw[hf2 43 (by rfl)];rfl
    have f44:ρ1 44=vi ks.length:=by rw[hf2 44 (by rfl)];rfl
    simp only[go_sem,↓aC,seval,e45,f44];refine aD (fun hb => ?_) (fun hb => ?_)
    ·have hlt:i<ks.length:=by simpa using hb
     have hg:(ks.map aF)[i]? = some (aF ks[i]):=getElem?_map_of hlt;have hn0:(0:Int)<=(i:Int):=by omega
     have hto:((i:Int)).toNat=i:=by omega
     have hw9:IntKind.i64.wrap ((i:Int)+1)=((i+1:Nat):Int):=by rw[wrap_i64 (by omega) (by omega)];omega
     have hwd:IntKind.i64.wrap (d+1)=d+1:=by rw[wrap_i64 (by omega) (by omega)]
     have hmem:=List.getElem_mem hlt;have hcall:=fun H=>ih ks[i] (d+1) H (hsz _ hmem) (hks _ hmem) (by omega) (by simp at e1;omega)
     have hstep:exL (ks.drop i) (d+1) s=match exS ks[i] (d+1)with
       | (k,true)=>exL (ks.drop (i+1)) (d+1) (s+k)
       | (_,false)=>none:=by rw[List.drop_eq_getElem_cons hlt];conv=>lhs;unfold exL
     have hle:=aUf (e:=ks[i]) (d:=d+1);cases hx2:exS ks[i] (d+1)with
     |mk k b=>
      rw[hx2]at hstep hle;simp only[hx2]at hcall;cases b with
      |false=>
       have hnone:exS (.mk op m ks) d=(0,false):=by rw[hx,hxl,hstep]
       simp only[go_sem,↓aC,seval,f1,f43,e45,hg,hn0,hto,hwd,dC,List.take_of_length_le (Nat.le_of_eq (dC ks[i])),bY (aQ ks[i]),aY (aQ ks[i]),aM (aQ ks[i]),hcall,hnone]
      |true=>
       have hk2:k<=256:=hle rfl;have hws:IntKind.i64.wrap ((s:Int)+(k:Int))=((s+k:Nat):Int):=by rw[wrap_i64 (by omega) (by omega)];omega
       simp only[go_sem,↓aC,seval,f1,f43,e45,e7,hg,hn0,hto,hwd,dC,List.take_of_length_le (Nat.le_of_eq (dC ks[i])),bY (aQ ks[i]),aY (aQ ks[i]),aM (aQ ks[i]),hcall,hw9,hws];exact⟨hlt,⟨_,rfl⟩,s+k,rfl,by omega,by rw[hxl,hstep]⟩
    ·have hi:i=ks.length:=by simp at hb;omega
     subst hi;simp only[go_sem,seval];exact⟨⟨_,rfl⟩,s,e7,by omega,by rw[hxl,List.drop_eq_nil_of_le (Nat.le_refl _)];rfl⟩
   ·rintro ρ' H' wr' ⟨rfl,⟨o1,rfl⟩,s,e7,hs1,hxl⟩ hf2;rw[hxl]at hx;simp only[go_sem,↓aC,seval,e7,hx]
end
def isD(c:UInt8):Bool:=decide (48<=c.toNat)&&decide (c.toNat<=57)
def aOL(s:Str):Nat:=s.foldl (fun a c=>10*a+(c.toNat - 48)) 0
theorem jY{n:Nat}(h:n<256):(UInt8.ofNat n).toNat=n:=by simp;omega
theorem aPK:∀n:Nat,dec n≠[]:=fun n=>by
 unfold dec
 split<;>simp
theorem aMD:∀(k n:Nat),n<k->∀c∈dec n,isD c=true
 |0,n,h=>by omega
 |k+1,n,h=>by
  unfold dec
  split
  ·intro c hc;simp only[List.mem_cons,List.not_mem_nil,or_false]at hc;subst hc;unfold isD;rw[jY (by omega)]
   simp;omega
  ·intro c hc;rw[List.mem_append]at hc;rcases hc with hc | hc
   ·exact aMD k (n / 10) (by omega) c hc
   ·simp only[List.mem_cons,List.not_mem_nil,or_false]at hc;subst hc;unfold isD;rw[jY (by omega)]
    simp;omega
theorem uM{n:Nat}:∀c∈dec n,isD c=true:=aMD (n+1) n (by omega)
theorem aGH:∀(k n:Nat),n<k->aOL (dec n)=n
 |0,n,h=>by omega
 |k+1,n,h=>by
  unfold dec
  split
  ·unfold aOL;simp only[List.foldl_cons,List.foldl_nil];rw[jY (by omega)]
   omega
  ·have ih:=aGH k (n / 10) (by omega)
   unfold aOL at ih ⊢;rw[List.foldl_append,ih];simp only[List.foldl_cons,List.foldl_nil];rw[jY (by omega)]
   omega
theorem aRr{m n:Nat}(h:dec m=dec n):m=n:=by
 rw[<- aGH (m+1) m (by omega),<- aGH (n+1) n (by omega),h]
def hd(p:UInt8->Bool):Str->Bool
 | []=>false
 |c::_=>p c
theorem zX{p:UInt8->Bool}:∀{a r:Str},(∀c∈a,p c=true)->hd p r=false->(a++r).takeWhile p=a/\(a++r).dropWhile p=r
 | [],[],_,_=>⟨rfl,rfl⟩
 | [],c::r,_,h=>by
  have h:p c=false:=h;simp[h]
 |c::a,r,ha,h=>by
  have hc:=ha c (by simp)
  obtain⟨h1,h2⟩:=zX (a:=a) (r:=r) (fun x hx=>ha x (by simp[hx])) h
  simp[hc,h1,h2]
def lev(op:Int):Nat:=if op=3∨op=4 then 1 else if op=5∨op=6 then 2 else if op=2∨op=7 then 3 else if op=9∨op=10 then 0 else 4
def sg(op:Int):UInt8:=if op=3 then 43 else if op=4 then 45 else if op=5 then 42 else if op=6 then 47 else if op=9 then 61 else 60
def aK7:Expr->Nat
 |.mk op _ _=>lev op
def par(e:Expr)(L:Nat)(s:Str):Str:=if aK7 e<L then 40::(s++[41])else s
def wX:Expr->Str
 |.mk op n []=>if op=0 then dec n.toNat else [UInt8.ofNat (97+n.toNat)]
 |.mk op n [a]=>if op=2 then 45::par a 3 (wX a)else 82::40::(par a 1 (wX a)++[41])
 |.mk op n [a,b]=>if op=7 then par a 4 (wX a)++94::par b 3 (wX b)else par a (max 1 (lev op)) (wX a)++sg op::par b (lev op+1) (wX b)
 |.mk _ _ (_::_::_::_)=>[]
inductive Rt:Bool->Expr->Prop where
 |num (r:Bool) (n:Int):0<=n->n<=999999->Rt r (.mk 0 n [])
 |var (r:Bool) (n:Int):0<=n->n<=25->Rt r (.mk 1 n [])
 |un (r:Bool) (op:Int) (a:Expr):op=2∨op=8->Rt false a->Rt r (.mk op 0 [a])
 |bin (r:Bool) (op:Int) (a b:Expr):3<=op->op<=7->Rt false a->Rt false b->Rt r (.mk op 0 [a,b])
 |cmp (op:Int) (a b:Expr):op=9∨op=10->Rt false a->Rt false b->Rt true (.mk op 0 [a,b])
def aPL(L:Nat)(c:UInt8):Option Int:=match L with
 |1=>if c=43 then some 3 else if c=45 then some 4 else none
 |_=>if c=42 then some 5 else if c=47 then some 6 else none
mutual
def rd:Nat->Nat->Str->Option (Expr×Str)
 |0,_,_=>none
 |n+1,0,s=>match rd n 1 s with
  |some (a,c::r)=>if c=61 then match rd n 1 r with
    |some (b,r2)=>some (.mk 9 0 [a,b],r2)
    |none=>none
   else if c=60 then match rd n 1 r with
    |some (b,r2)=>some (.mk 10 0 [a,b],r2)
    |none=>none
   else some (a,c::r)
  |x=>x
 |n+1,1,s=>match rd n 2 s with
  |some (a,r)=>rdl n 1 a r
  |none=>none
 |n+1,2,s=>match rd n 3 s with
  |some (a,r)=>rdl n 2 a r
  |none=>none
 |n+1,3,s=>match s with
  | []=>none
  |c::t=>if c=45 then match rd n 3 t with
    |some (a,r)=>some (.mk 2 0 [a],r)
    |none=>none
   else match rd n 4 (c::t)with
    |some (a,d::r)=>if d=94 then match rd n 3 r with
      |some (b,r2)=>some (.mk 7 0 [a,b],r2)
      |none=>none
     else some (a,d::r)
    |x=>x
 |n+1,_+4,s=>match s with
  | []=>none
  |c::t=>if isD c then some (.mk 0 (aOL ((c::t).takeWhile isD)) [],(c::t).dropWhile isD)
   else if 97<=c.toNat/\c.toNat<=122 then some (.mk 1 ((c.toNat - 97:Nat):Int) [],t)
   else if c=82 then match t with
    |40::r=>match rd n 1 r with
     |some (a,41::r2)=>some (.mk 8 0 [a],r2)
     |_=>none
    |_=>none
   else if c=40 then match rd n 1 t with
    |some (a,41::r2)=>some (a,r2)
    |_=>none
   else none
def rdl:Nat->Nat->Expr->Str->Option (Expr×Str)
 |0,_,_,_=>none
 |n+1,L,a,s=>match s with
  | []=>some (a,[])
  |c::r=>match aPL L c with
   |some op=>match rd n (L+1) r with
    |some (b,r2)=>rdl n L (.mk op 0 [a,b]) r2
    |none=>none
   |none=>some (a,c::r)
end
def Rd(L:Nat)(s:Str)(x:Expr×Str):Prop:=∃n0,∀n,n0<=n->rd n L s=some x
def Rl(L:Nat)(a:Expr)(s:Str)(x:Expr×Str):Prop:=∃n0,∀n,n0<=n->rdl n L a s=some x
theorem Rd.uniq{L:Nat}{s:Str}{x y:Expr×Str}(h:Rd L s x)(k:Rd L s y):x=y:=by
 obtain⟨n,h⟩:=h;obtain⟨m,k⟩:=k;have h1:=h (n+m) (by omega)
 have h2:=k (n+m) (by omega)
 rw[h1]at h2;cases h2;rfl
theorem nK{n0 n:Nat}(h:n0+1<=n):∃k,n=k+1/\n0<=k:=⟨n - 1,by omega,by omega⟩
theorem Rl.stop{L:Nat}{a:Expr}{r:Str}(h:hd (fun c=>(aPL L c).isSome) r=false):Rl L a r (a,r):=⟨1,fun n hn=>by
 obtain⟨k,rfl,hk⟩:=nK (n0:=0) hn;unfold rdl;cases r with
 |nil=>rfl
 |cons c r=>
  have h:(aPL L c).isSome=false:=h;cases hc:aPL L c with
  |none=>simp only[hc]
  |some _=>rw[hc]at h;cases h⟩
theorem Rl.step{L:Nat}{a b:Expr}{c:UInt8}{op:Int}{r r2:Str}{x:Expr×Str}(ho:aPL L c=some op)(h1:Rd (L+1) r (b,r2))(h2:Rl L (.mk op 0 [a,b]) r2 x):Rl L a (c::r) x:=by
 obtain⟨n,h1⟩:=h1;obtain⟨m,h2⟩:=h2;refine⟨n+m+1,fun k hk => ?_⟩;obtain⟨k,rfl,hk⟩:=nK hk;unfold rdl;simp only[ho,h1 k (by omega),h2 k (by omega)]
theorem Rd.sum{s r:Str}{a:Expr}{x:Expr×Str}(h1:Rd 2 s (a,r))(h2:Rl 1 a r x):Rd 1 s x:=by
 obtain⟨n,h1⟩:=h1;obtain⟨m,h2⟩:=h2;refine⟨n+m+1,fun k hk => ?_⟩;obtain⟨k,rfl,hk⟩:=nK hk;unfold rd;simp only[h1 k (by omega),h2 k (by omega)]
theorem Rd.term{s r:Str}{a:Expr}{x:Expr×Str}(h1:Rd 3 s (a,r))(h2:Rl 2 a r x):Rd 2 s x:=by
 obtain⟨n,h1⟩:=h1;obtain⟨m,h2⟩:=h2;refine⟨n+m+1,fun k hk => ?_⟩;obtain⟨k,rfl,hk⟩:=nK hk;unfold rd;simp only[h1 k (by omega),h2 k (by omega)]
theorem Rd.neg{s r:Str}{a:Expr}(h1:Rd 3 s (a,r)):Rd 3 (45::s) (.mk 2 0 [a],r):=by
 obtain⟨n,h1⟩:=h1;refine⟨n+1,fun k hk => ?_⟩;obtain⟨k,rfl,hk⟩:=nK hk;unfold rd;simp only[h1 k (by omega),if_true]
theorem Rd.pow{s r r2:Str}{a b:Expr}(hh:hd (·==45) s=false)(h1:Rd 4 s (a,94::r))(h2:Rd 3 r (b,r2)):Rd 3 s (.mk 7 0 [a,b],r2):=by
 obtain⟨n,h1⟩:=h1;obtain⟨m,h2⟩:=h2;refine⟨n+m+1,fun k hk => ?_⟩;obtain⟨k,rfl,hk⟩:=nK hk;unfold rd;cases s with
 |nil=>
  have:=h1 (n+1) (by omega)
  unfold rd at this;cases this
 |cons c t=>
  have hc:¬(c=45):=by simpa [hd]using hh
  simp only[h1 k (by omega),h2 k (by omega),hc,if_true,if_false]
theorem Rd.atom{s r:Str}{a:Expr}(hh:hd (·==45) s=false)(h1:Rd 4 s (a,r))(hr:hd (·==94) r=false):Rd 3 s (a,r):=by
 obtain⟨n,h1⟩:=h1;refine⟨n+1,fun k hk => ?_⟩;obtain⟨k,rfl,hk⟩:=nK hk;unfold rd;cases s with
 |nil=>
  have:=h1 (n+1) (by omega)
  unfold rd at this;cases this
 |cons c t=>
  have hc:¬(c=45):=by simpa [hd]using hh
  cases r with
  |nil=>simp only[h1 k (by omega),hc,if_false]
  |cons d r=>
   have hd':¬(d=94):=by simpa [hd]using hr
   simp only[h1 k (by omega),hc,hd',if_false]
theorem Rd.paren{s r:Str}{a:Expr}(h1:Rd 1 s (a,41::r)):Rd 4 (40::s) (a,r):=by
 obtain⟨n,h1⟩:=h1;refine⟨n+1,fun k hk => ?_⟩;obtain⟨k,rfl,hk⟩:=nK hk;unfold rd;simp[h1 k (by omega),isD]
theorem Rd.root{s r:Str}{a:Expr}(h1:Rd 1 s (a,41::r)):Rd 4 (82::40::s) (.mk 8 0 [a],r):=by
 obtain⟨n,h1⟩:=h1;refine⟨n+1,fun k hk => ?_⟩;obtain⟨k,rfl,hk⟩:=nK hk;unfold rd;simp[h1 k (by omega),isD]
theorem Rd.num{m:Nat}{r:Str}(hr:hd isD r=false):Rd 4 (dec m++r) (.mk 0 m [],r):=⟨1,fun n hn=>by
 obtain⟨k,rfl,hk⟩:=nK (n0:=0) hn;obtain⟨e1,e2⟩:=zX (a:=dec m) (r:=r) uM hr;have hv:=aGH (m+1) m (by omega)
 cases hd0:dec m with
 |nil=>exact absurd hd0 (aPK m)
 |cons c t=>
  rw[hd0]at e1 e2 hv;have hc:isD c=true:=uM (n:=m) c (by rw[hd0];simp)
  simp only[List.cons_append]at e1 e2 ⊢;unfold rd;simp only[hc,if_true,e1,e2,hv]⟩
theorem Rd.var{m:Nat}{r:Str}(hm:m<=25):Rd 4 (UInt8.ofNat (97+m)::r) (.mk 1 m [],r):=⟨1,fun n hn=>by
 obtain⟨k,rfl,hk⟩:=nK (n0:=0) hn;have e:(UInt8.ofNat (97+m)).toNat=97+m:=jY (by omega)
 have h1:isD (UInt8.ofNat (97+m))=false:=by unfold isD;rw[e];simp;omega
 have h2:97<=(UInt8.ofNat (97+m)).toNat/\(UInt8.ofNat (97+m)).toNat<=122:=by rw[e];omega
 unfold rd;rw[e]at h2;simp only[h1,Bool.false_eq_true,if_false,e,if_pos h2];rw[show (((97+m - 97:Nat):Int))=(m:Int)by omega]⟩
def go3(c:UInt8):Bool:=isD c || c==94
def go2(c:UInt8):Bool:=go3 c || c==42 || c==47
theorem aME{r:Str}(h:hd go2 r=false):hd go3 r=false:=by
 cases r with
 |nil=>rfl
 |cons c r=>
  have h:go2 c=false:=h;unfold go2 at h;simp only[Bool.or_eq_false_iff]at h;exact h.1.1
theorem aOM{r:Str}(h:hd go3 r=false):hd isD r=false/\hd (·==94) r=false:=by
 cases r with
 |nil=>exact⟨rfl,rfl⟩
 |cons c r=>
  have h:go3 c=false:=h;unfold go3 at h;simp only[Bool.or_eq_false_iff]at h;exact h
theorem aBy{r:Str}(h:hd go2 r=false):hd (fun c=>(aPL 2 c).isSome) r=false:=by
 cases r with
 |nil=>rfl
 |cons c r=>
  have h:go2 c=false:=h;unfold go2 at h;simp only[Bool.or_eq_false_iff,beq_eq_false_iff_ne]at h
  show (aPL 2 c).isSome=false
  simp[aPL,h.1.2,h.2]
structure Reads(e:Expr):Prop where
 a4:∀r,hd isD r=false->Rd 4 (par e 4 (wX e)++r) (e,r)
 a3:∀r,hd go3 r=false->Rd 3 (par e 3 (wX e)++r) (e,r)
 a2:∀r x,hd go3 r=false->Rl 2 e r x->Rd 2 (par e 2 (wX e)++r) x
 a1:∀r x,hd go2 r=false->Rl 1 e r x->Rd 1 (par e 1 (wX e)++r) x
theorem aK8{e:Expr}{L:Nat}{s:Str}(h:aK7 e<L):par e L s=40::(s++[41]):=if_pos h
theorem qP{e:Expr}{L:Nat}{s:Str}(h:L<=aK7 e):par e L s=s:=if_neg (by omega)
theorem Reads.paren{e:Expr}{L:Nat}(hL:aK7 e<L)(h1:1<=aK7 e)(a1:∀r x,hd go2 r=false->Rl 1 e r x->Rd 1 (par e 1 (wX e)++r) x)(r:Str):Rd 4 (par e L (wX e)++r) (e,r):=by
 have h:=a1 (41::r) (e,41::r) (by rfl) (.stop (by rfl))
 rw[qP h1]at h;rw[aK8 hL,List.cons_append,List.append_assoc];exact .paren h
theorem aGI{e:Expr}{L:Nat}{s r:Str}(h:aK7 e<L):hd (·==45) (par e L s++r)=false:=by rw[aK8 h];rfl
theorem Reads.of3{e:Expr}(h:3<=aK7 e)(a4:∀r,hd isD r=false->Rd 4 (par e 4 (wX e)++r) (e,r))(a3:∀r,hd go3 r=false->Rd 3 (wX e++r) (e,r)):Reads e:=by
 have a2:∀r x,hd go3 r=false->Rl 2 e r x->Rd 2 (par e 2 (wX e)++r) x:=fun r x hr hx=>by
  rw[qP (by omega)]
  exact .term (a3 r hr) hx
 refine⟨a4,fun r hr=>by rw[qP h];exact a3 r hr,a2,fun r x hr hx => ?_⟩
 have h2:=a2 r (e,r) (aME hr) (.stop (aBy hr));rw[qP (by omega)]at h2 ⊢
 exact .sum h2 hx
theorem Reads.of1{e:Expr}(h:1<=aK7 e)(h3:aK7 e<3)(a2:∀r x,hd go3 r=false->Rl 2 e r x->Rd 2 (par e 2 (wX e)++r) x)(a1:∀r x,hd go2 r=false->Rl 1 e r x->Rd 1 (par e 1 (wX e)++r) x):Reads e:=
 ⟨fun r hr=>Reads.paren (by omega) h a1 r,fun r hr=>.atom (aGI h3) (Reads.paren h3 h a1 r) (aOM hr).2,a2,a1⟩
theorem aPM{m:Nat}{r:Str}:hd (·==45) (dec m++r)=false:=by
 cases h:dec m with
 |nil=>exact absurd h (aPK m)
 |cons c t=>
  have hc:isD c=true:=uM (n:=m) c (by rw[h];simp)
  show (c==45)=false
  rw[beq_eq_false_iff_ne];rintro rfl;cases hc
theorem aCg{e:Expr}(h:aK7 e=4)(hm:∀r,hd (·==45) (wX e++r)=false)(a4:∀r,hd isD r=false->Rd 4 (wX e++r) (e,r)):Reads e:=
 .of3 (by omega) (fun r hr=>by rw[qP (by omega)];exact a4 r hr) fun r hr=>.atom (hm r) (a4 r (aOM hr).1) (aOM hr).2
theorem aGJ{op:Int}(h1:3<=op)(h2:op<=7):op=3∨op=4∨op=5∨op=6∨op=7:=by omega
theorem aPN{a:Expr}(h:Rt false a){r:Str}:hd (·==45) (par a 4 (wX a)++r)=false:=by
 by_cases hl:aK7 a<4
 ·exact aGI hl
 ·rw[qP (by omega)]
  cases h with
  |num _ n h0 _=>unfold wX;simp only[if_true];exact aPM
  |var _ n h0 h1=>
   unfold wX;simp only[IE,if_false]
   show (UInt8.ofNat (97+n.toNat)==45)=false
   rw[beq_eq_false_iff_ne];intro e;have:=congrArg UInt8.toNat e;rw[jY (by omega)]at this
   simp at this;omega
  |un _ op b ho hb=>
   rcases ho with rfl | rfl
   ·exact absurd (by decide:lev 2<4) hl
   ·unfold wX;rfl
  |bin _ op b c h1 h2 hb hc=>
   have:lev op<4:=by rcases aGJ h1 h2 with rfl | rfl | rfl | rfl | rfl<;>decide
   exact absurd this hl
theorem le1{a b:Nat}(h:Nat.ble a b=true):a<=b:=Nat.le_of_ble_eq_true h
theorem lt1{a b:Nat}(h:Nat.ble (a+1) b=true):a<b:=Nat.le_of_ble_eq_true h
theorem aMF{a:Expr}(ih:Reads a):Reads (.mk 2 0 [a]):=by
 have a3:∀r,hd go3 r=false->Rd 3 (wX (.mk 2 0 [a])++r) (.mk 2 0 [a],r):=fun r hr=>by
  unfold wX;exact .neg (ih.a3 r hr)
 refine .of3 (le1 rfl) (fun r hr => ?_) a3;refine Reads.paren (lt1 rfl) (le1 rfl) (fun r x hr hx => ?_) r;rw[qP (le1 rfl)];exact .sum (.term (a3 r (aME hr)) (.stop (aBy hr))) hx
theorem aL4{a:Expr}(ih:Reads a):Reads (.mk 8 0 [a]):=by
 refine aCg rfl (fun r=>by unfold wX;rfl) fun r hr => ?_
 unfold wX;have h1:=ih.a1 (41::r) (a,41::r) (by rfl) (.stop (by rfl))
 have e:(82::40::(par a 1 (wX a)++[41]))++r=82::40::(par a 1 (wX a)++41::r):=by simp
 show Rd 4 ((82::40::(par a 1 (wX a)++[41]))++r) _
 rw[e];exact .root h1
theorem aI4{op:Int}(ho:op=3∨op=4){a b:Expr}(iha:Reads a)(ihb:Reads b):Reads (.mk op 0 [a,b]):=by
 have hl:aK7 (.mk op 0 [a,b])=1:=by rcases ho with rfl | rfl<;>rfl
 have hw:wX (.mk op 0 [a,b])=par a 1 (wX a)++sg op::par b 2 (wX b):=by rcases ho with rfl | rfl<;>(conv=>lhs;unfold wX)<;>rfl
 have a1:∀r x,hd go2 r=false->Rl 1 (.mk op 0 [a,b]) r x->Rd 1 (par (.mk op 0 [a,b]) 1 (wX (.mk op 0 [a,b]))++r) x:=fun r x hr hx=>by
  rw[qP (by omega),hw,List.append_assoc,List.cons_append]
  exact iha.a1 _ _ (by rcases ho with rfl | rfl<;>rfl) (.step (by rcases ho with rfl | rfl<;>rfl) (ihb.a2 r _ (aME hr) (.stop (aBy hr))) hx)
 exact .of1 (by omega) (by omega) (fun r x hr hx=>by
  have h4:=Reads.paren (L:=4) (by omega) (by omega) a1 r
  have h3:Rd 3 (par (.mk op 0 [a,b]) 4 (wX (.mk op 0 [a,b]))++r) (.mk op 0 [a,b],r):=.atom (aGI (by omega)) h4 (aOM hr).2
  rw[aK8 (by omega)]at h3 ⊢
  exact .term h3 hx) a1
theorem aFU{op:Int}(ho:op=5∨op=6){a b:Expr}(iha:Reads a)(ihb:Reads b):Reads (.mk op 0 [a,b]):=by
 have hl:aK7 (.mk op 0 [a,b])=2:=by rcases ho with rfl | rfl<;>rfl
 have hw:wX (.mk op 0 [a,b])=par a 2 (wX a)++sg op::par b 3 (wX b):=by rcases ho with rfl | rfl<;>(conv=>lhs;unfold wX)<;>rfl
 have a2:∀r x,hd go3 r=false->Rl 2 (.mk op 0 [a,b]) r x->Rd 2 (par (.mk op 0 [a,b]) 2 (wX (.mk op 0 [a,b]))++r) x:=fun r x hr hx=>by
  rw[qP (by omega),hw,List.append_assoc,List.cons_append]
  exact iha.a2 _ _ (by rcases ho with rfl | rfl<;>rfl) (.step (by rcases ho with rfl | rfl<;>rfl) (ihb.a3 r hr) hx)
 refine .of1 (by omega) (by omega) a2 fun r x hr hx => ?_
 have h2:=a2 r _ (aME hr) (.stop (aBy hr));rw[qP (by omega)]at h2 ⊢
 exact .sum h2 hx
theorem aMG{a b:Expr}(iha:Reads a)(ihb:Reads b)(ha:Rt false a):Reads (.mk 7 0 [a,b]):=by
 have hw:wX (.mk 7 0 [a,b])=par a 4 (wX a)++94::par b 3 (wX b):=by (conv=>lhs;unfold wX)<;>rfl
 have a3:∀r,hd go3 r=false->Rd 3 (wX (.mk 7 0 [a,b])++r) (.mk 7 0 [a,b],r):=fun r hr=>by
  rw[hw,List.append_assoc,List.cons_append];exact .pow (aPN ha) (iha.a4 _ (by rfl)) (ihb.a3 r hr)
 refine .of3 (le1 rfl) (fun r hr => ?_) a3;refine Reads.paren (lt1 rfl) (le1 rfl) (fun r x hr hx => ?_) r;rw[qP (le1 rfl)];exact .sum (.term (a3 r (aME hr)) (.stop (aBy hr))) hx
theorem reads:∀e:Expr,Rt false e->Reads e
 |.mk op n kids,h=>by
  cases h with
  |num _ _ h0 _=>
   refine aCg rfl (fun r => ?_) fun r hr => ?_
   ·unfold wX;exact aPM
   ·have:=Rd.num (m:=n.toNat) hr;unfold wX
    rwa [show ((n.toNat:Nat):Int)=n by omega]at this
  |var _ _ h0 h1=>
   refine aCg rfl (fun r => ?_) fun r hr => ?_
   ·have:=aPN (r:=r) (.var false n h0 h1)
    rwa [qP (le1 rfl)]at this
   ·have:=Rd.var (m:=n.toNat) (r:=r) (by omega)
    unfold wX
    rwa [show ((n.toNat:Nat):Int)=n by omega]at this
  |un _ _ a ho ha=>
   have ih:=reads a ha;rcases ho with rfl | rfl
   ·exact aMF ih
   ·exact aL4 ih
  |bin _ _ a b h1 h2 ha hb=>
   have iha:=reads a ha;have ihb:=reads b hb;rcases aGJ h1 h2 with h | h | h | h | h
   ·exact aI4 (.inl h) iha ihb
   ·exact aI4 (.inr h) iha ihb
   ·exact aFU (.inl h) iha ihb
   ·exact aFU (.inr h) iha ihb
   ·subst h;exact aMG iha ihb ha
theorem Rd.top{s:Str}{e:Expr}(h:Rd 1 s (e,[])):Rd 0 s (e,[]):=by
 obtain⟨n,h⟩:=h;refine⟨n+1,fun k hk => ?_⟩;obtain⟨k,rfl,hk⟩:=nK hk;unfold rd;simp only[h k (by omega)]
theorem Rd.cmp{op:Int}(ho:op=9∨op=10){s r:Str}{a b:Expr}(h1:Rd 1 s (a,sg op::r))(h2:Rd 1 r (b,[])):Rd 0 s (.mk op 0 [a,b],[]):=by
 obtain⟨n,h1⟩:=h1;obtain⟨m,h2⟩:=h2;refine⟨n+m+1,fun k hk => ?_⟩;obtain⟨k,rfl,hk⟩:=nK hk;unfold rd;rcases ho with rfl | rfl
 ·have h1:=h1 k (by omega)
  rw[show sg 9=61 from rfl]at h1
  simp only[h1,h2 k (by omega),if_true]
 ·have h1:=h1 k (by omega)
  rw[show sg 10=60 from rfl]at h1
  simp only[h1,h2 k (by omega),if_true,show ¬((60:UInt8)=61)by decide,if_false]
theorem aI5{e:Expr}(h:Rt true e):Rd 0 (wX e) (e,[]):=by
 have low:Rt false e->1<=aK7 e->Rd 0 (wX e) (e,[]):=fun h hl=>by
  have:=(reads e h).a1 [] (e,[]) rfl (.stop rfl);rw[qP hl,List.append_nil]at this;exact .top this
 cases h with
 |num _ n h0 h9=>exact low (.num _ _ h0 h9) (show 1<=lev 0 by decide)
 |var _ n h0 h1=>exact low (.var _ _ h0 h1) (show 1<=lev 1 by decide)
 |un _ op a ho ha=>exact low (.un _ _ _ ho ha) (show 1<=lev op by rcases ho with rfl | rfl<;>decide)
 |bin _ op a b h1 h2 ha hb=>exact low (.bin _ _ _ _ h1 h2 ha hb) (show 1<=lev op by rcases aGJ h1 h2 with rfl | rfl | rfl | rfl | rfl<;>decide)
 |cmp op a b ho ha hb=>
  have h2:=(reads b hb).a1 [] (b,[]) rfl (.stop rfl);rw[List.append_nil]at h2;have h1:=(reads a ha).a1 (sg op::par b 1 (wX b)) (a,sg op::par b 1 (wX b)) (by rcases ho with rfl | rfl<;>rfl) (.stop (by rcases ho with rfl | rfl<;>rfl))
  have hw:wX (.mk op 0 [a,b])=par a 1 (wX a)++sg op::par b 1 (wX b):=by
   rcases ho with rfl | rfl<;>(conv=>lhs;unfold wX)<;>rfl
  rw[hw];exact .cmp ho h1 h2
theorem aUg{a b:Expr}(ha:Rt true a)(hb:Rt true b)(h:wX a=wX b):a=b:=by
 have h1:=aI5 ha;rw[h]at h1;have:=h1.uniq (aI5 hb);cases this;rfl
end Go.AM
end
