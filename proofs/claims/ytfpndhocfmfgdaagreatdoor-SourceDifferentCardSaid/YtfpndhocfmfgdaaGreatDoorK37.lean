/- Part 37: lemmas for the last text. -/
import Derived.Test.YtfpndhocfmfgdaaGreatDoorK24
import Derived.Test.YtfpndhocfmfgdaaGreatDoorK34
import Derived.Test.YtfpndhocfmfgdaaGreatDoorK35
import Derived.Test.YtfpndhocfmfgdaaGreatDoorK36
set_option linter.unusedVariables false
set_option linter.unusedSimpArgs false
section
set_option maxRecDepth 8000
namespace Go.AM
open Go
abbrev tQ(g:String->Nat):List AOper:=[qq 20 (.bsl 1 [(.int .i64 0)] 2 [(0,(.const (.int .i64 3))),(1,(.const (.int .i64 4)))]),qm 21 0,⟨some 22,oc (g "(*dactyl/dactylref23.Maker).Take") [u 21,ui 2],none,[1]⟩,⟨some 23,oi 20 22 1,none,[0,2,1]⟩,⟨some 24,ol 1 23,none,[3,0,2,1]⟩,qm 25 2,qm 26 8,qm 27 8,⟨some 28,obi .add 27 1,none,[7]⟩,qm 29 0,qm 30 7,⟨some 31,obi .sub 30 1,none,[10]⟩,⟨some 32,oc (g "(*dactyl/dactylref23.Maker).Take") [u 29,u 31],none,[9,11,10,2,1]⟩,⟨some 33,ob .add 28 32,none,[8,7,12,9,11,10,2,1]⟩,qm 34 7,⟨some 35,ob .rem 33 34,none,[13,8,7,12,9,11,10,2,1,14]⟩,⟨some 36,.build [(.int .i64 0),(.int .i64 0),(.int .i64 0),(.int .i64 0)] [(0,1,(.tmp 24)),(1,1,(.tmp 25)),(2,1,(.tmp 26)),(3,1,(.tmp 35))],none,[4,3,0,5,6,15,13,8,7,12,9,11,10,2,1,14]⟩,qq 9 (.alloc [(.int .i64 0),(.int .i64 0),(.int .i64 0),(.int .i64 0)]),⟨none,os 4 9 36,none,[16,4,3,0,5,6,15,13,8,7,12,9,11,10,2,1,14,17]⟩]
abbrev lM:List Nat:=[2,4,12,17]
abbrev tR(g:String->Nat):List AOper:=[qm 56 2,qm 57 0,qf 58 7 4,⟨some 59,of 0 58,none,[2]⟩,⟨some 60,ol 1 59,none,[3,2]⟩,⟨some 61,on 60,none,[4,3,2]⟩,⟨some 62,oc (g "(*dactyl/dactylref23.Maker).Take") [u 57,u 61],none,[1,5,4,3,2]⟩,qm 63 0,qf 64 7 4,⟨some 65,of 0 64,none,[8]⟩,⟨some 66,ol 1 65,none,[9,8]⟩,⟨some 67,.iaV (u 66) (ui 0) 1,none,[10,9,8]⟩,⟨some 68,ol 1 67,none,[11,10,9,8]⟩,⟨some 69,on 68,none,[12,11,10,9,8]⟩,⟨some 70,oc (g "(*dactyl/dactylref23.Maker).Take") [u 63,u 69],none,[7,13,12,11,10,9,8,6,1,5,4,3,2]⟩,⟨some 71,.build [(.int .i64 0),(.int .i64 0),(.int .i64 0),(.int .i64 0)] [(0,1,(.const (.int .i64 1))),(1,1,(.tmp 56)),(2,1,(.tmp 62)),(3,1,(.tmp 70))],none,[0,14,7,13,12,11,10,9,8,6,1,5,4,3,2]⟩,⟨none,os 4 6 71,none,[15,0,14,7,13,12,11,10,9,8,6,1,5,4,3,2]⟩]
abbrev lN:List Nat:=[6,10,12]
abbrev tS(g:String->Nat):List AOper:=[qm 80 2,qm 81 0,qf 82 11 4,⟨some 83,of 0 82,none,[2]⟩,⟨some 84,ol 1 83,none,[3,2]⟩,⟨some 85,.iaV (u 84) (ui 0) 1,none,[4,3,2]⟩,⟨some 86,ol 1 85,none,[5,4,3,2]⟩,⟨some 87,on 86,none,[6,5,4,3,2]⟩,⟨some 88,oc (g "(*dactyl/dactylref23.Maker).Take") [u 81,u 87],none,[1,7,6,5,4,3,2]⟩,qm 89 0,qf 90 11 4,⟨some 91,of 0 90,none,[10]⟩,⟨some 92,ol 1 91,none,[11,10]⟩,⟨some 93,on 92,none,[12,11,10]⟩,⟨some 94,oc (g "(*dactyl/dactylref23.Maker).Take") [u 89,u 93],none,[9,13,12,11,10,8,1,7,6,5,4,3,2]⟩,⟨some 95,.build [(.int .i64 0),(.int .i64 0),(.int .i64 0),(.int .i64 0)] [(0,1,(.const (.int .i64 5))),(1,1,(.tmp 80)),(2,1,(.tmp 88)),(3,1,(.tmp 94))],none,[0,14,9,13,12,11,10,8,1,7,6,5,4,3,2]⟩,⟨none,os 4 6 95,none,[15,0,14,9,13,12,11,10,8,1,7,6,5,4,3,2]⟩]
abbrev lO:List Nat:=[8,12]
def fV(g:String->Nat):AFn:=⟨113,[4,6,9],[.cell 6 4 true],qS [qx 4 13 1,qq 6 (.alloc [(.int .i64 0),(.int .i64 0),(.int .i64 0),(.int .i64 0)])]<|.seq (qS [qf 10 0 4,ql 11 1 10,qbi 12 .eql 11 4]<|qC 12 (qS [qf 13 8 4,qf 14 2 13,ql 15 1 14,qn 16 15,qm 7 16]<|qS [qm 17 0,qm 18 7,qc 19 (g "(*dactyl/dactylref23.Maker).Take") [u 17,u 18],qm 8 19]<|.seq (.region true (tQ g))<|.seq (qS [qm 37 0,qc 38 (g "(*dactyl/dactylref23.Maker).Take") [u 37,ui 3],qbi 39 .eql 38 0,qm 40 39,qT 41 40 (om 8),qT 42 40 (obi .gtr 41 0),qp 43 40 42]<|qC 43 (qS [qm 44 2,qm 45 8,qq 46 (.build [(.int .i64 0),(.int .i64 0),(.int .i64 0),(.int .i64 0)] [(0,1,(.const (.int .i64 2))),(1,1,(.tmp 44)),(2,1,(.tmp 45))]),qs 4 6 46]<|.ret) (.skip))<|qS [qla 47 4 9,qs 4 6 47]<|.ret) (.skip))<|.seq (qS [qf 48 0 4,ql 49 1 48,qbi 50 .eql 49 3,qm 51 50,qT 52 51 (om 0),qT 53 51 (oc (g "(*dactyl/dactylref23.Maker).Take") [u 52,ui 3]),qT 54 51 (obi .gtr 53 0),qp 55 51 54]<|qC 55 (.seq (.region true (tR g))<|.ret) (.skip))<|.seq (qS [qf 72 0 4,ql 73 1 72,qbi 74 .eql 73 5,qm 75 74,qT 76 75 (om 0),qT 77 75 (oc (g "(*dactyl/dactylref23.Maker).Take") [u 76,ui 3]),qT 78 75 (obi .gtr 77 0),qp 79 75 78]<|qC 79 (.seq (.region true (tS g))<|.ret) (.skip))<|.seq (qS [qf 96 0 4,ql 97 1 96,qbi 98 .eql 97 6,qm 99 98,qT 100 99 (om 0),qT 101 99 (oc (g "(*dactyl/dactylref23.Maker).Take") [u 100,ui 3]),qT 102 99 (obi .gtr 101 0),qp 103 99 102]<|qC 103 (qS [qm 104 2,qm 105 0,qf 106 12 4,ql 107 1 106,qn 108 107,qc 109 (g "(*dactyl/dactylref23.Maker).Take") [u 105,u 108],qq 110 (.build [(.int .i64 0),(.int .i64 0),(.int .i64 0),(.int .i64 0)] [(0,1,(.const (.int .i64 6))),(1,1,(.tmp 104)),(2,1,(.tmp 109))]),qs 4 6 110]<|.ret) (.skip))<|qS [qm 111 2,qq 112 (.build [(.int .i64 0),(.int .i64 0),(.int .i64 0),(.int .i64 0)] [(0,1,(.const (.int .i64 0))),(1,1,(.tmp 111))]),qs 4 6 112]<|.ret⟩
abbrev aIt(v:AV):Prop:=∃f:Fact,v=.agg (bJ f)/\f.Ok
abbrev aA5(A:AProg)(f:Nat)(args:List AV)(P:AV->Prop):Prop:=∀(l:List Int) (i:Int) (o v:Nat) (H:List AObj),gD l->H[o]? = some (.box v (aH l i)) ->
 ∃val i' wr,aL A f (.ptr o v 0::args) H=some (val,H.set o (.box v (aH l i')),wr)/\(wr=[]∨wr=[o])/\P val
theorem Has.gen'{A:AProg}{g:String->Nat}{name:String}{fn:AFn}(h:Has A g name fn){args:List AV}{P:AV->Prop}(hN:args.length+1<=fn.ntmps)(hok:∀n,cZ fn.ntmps ⟨n,fn.sites⟩ fn.body=true)
  (hw:∀(l:List Int) (i:Int) (o v:Nat) (H:List AObj),gD l->o<H.length->H[o]? = some (.box v (aH l i)) ->
   wc A fn.ntmps ⟨H.length,fn.sites⟩ fn.body (pE (.ptr o v 0::args)) (H++List.replicate fn.sites.length (.gone 0)) [] (aOs H.length fn.results (fun val H' wr=>(∃i',H'=H.set o (.box v (aH l i')))/\(wr=[]∨wr=[o])/\P val) ⟨⟩) ⟨⟩):
  aA5 A (g name) args P:=by
 intro l i o v H hl ho;obtain⟨val,H',wr,h1,⟨i',rfl⟩,hw2,h2⟩:=h.callEx (args:=.ptr o v 0::args) (by simpa using hN) (hok _) (hw l i o v H hl (getElem?_lt ho) ho)
 exact⟨val,i',wr,h1,hw2,h2⟩
set_option maxHeartbeats 6400000 in
theorem aPi{A:AProg}{g:String->Nat}(h:Has A g "(*dactyl/dactylref23.Maker).Fact" (fV g))(ht:fC A g){b:Block}(hb:MBlock b){at':Int}(ha0:0<=at')(ha1:at'<=1000):
  aA5 A (g "(*dactyl/dactylref23.Maker).Fact") [.agg (aE b),vi at'] aIt:=by
 refine h.gen' (by simp[fV]) (fun n=>by kernel_rfl) ?_
 intro l i o v H hl hlt ho;obtain⟨hl1,hl2,hl3,hl4⟩:=hb.lens;have fin:∀k x y:Int,0<=k->k<=1000->0<=x->x<=1000->0<=y->y<=1000->aIt (.agg [vi k,vi at',vi x,vi y]):=fun k x y h1 h2 h3 h4 h5 h6=>
  ⟨⟨k,at',x,y⟩,rfl,⟨bU h1 (by show k<=1000000;omega),bU ha0 (by show at'<=1000000;omega),bU h3 (by show x<=1000000;omega),bU h5 (by show y<=1000000;omega)⟩⟩
 simp only[fV];cases hbe:b.expr with | mk op n kids=>
 by_cases k6:b.kind=6
 ·have hn:=hb.listing k6;simp only[go_sem,seval,aE,hbe,aF,aZ,k6];refine aW (aU ht (m:=3) (by decide)) hl (i:=i) (by simp only[go_sem,seval,gQ,hlt,ho]) ?_
  rintro val i1 ⟨x,rfl,hx0,hx1⟩;simp only[go_sem,seval,hlt,gH];refine aD (fun hb1 => ?_) (fun hb1 => ?_)
  ·simp only[go_sem,seval,hlt];refine aW (aU ht (m:=b.lines.length) (by omega)) hl (i:=i1) (by simp only[go_sem,seval,aI,hlt]) ?_
   rintro val i2 ⟨y,rfl,hy0,hy1⟩;simp only[go_sem,seval,hlt,aK,aS,aA (aB aP _)];exact⟨⟨i2,rfl⟩,.inr trivial,fin 6 y 0 (by decide) (by decide) hy0 (by omega) (by decide) (by decide)⟩
  ·simp only[go_sem,seval,hlt,aS,aA (aB aP _)];exact⟨⟨i1,rfl⟩,.inr trivial,fin 0 0 0 (by decide) (by decide) (by decide) (by decide) (by decide) (by decide)⟩
 by_cases k5:b.kind=5
 ·have hn:=hb.music k5;cases hhd:b.hands with
  |nil=>rw[hhd]at hn;simp at hn
  |cons h0 hr=>
  have hh0:=hn.2 h0 (by rw[hhd];simp)
  rw[hhd]at hl3;simp only[List.length_cons]at hl3;simp only[go_sem,seval,aE,hbe,aF,aZ,k5,hhd];refine aW (aU ht (m:=3) (by decide)) hl (i:=i) (by simp only[go_sem,seval,gQ,hlt,ho]) ?_
  rintro val i1 ⟨x,rfl,hx0,hx1⟩;simp only[go_sem,seval,hlt,gH];refine aD (fun hb1 => ?_) (fun hb1 => ?_)
  ·simp only[go_sem,seval];refine bN (keep:=lO) (by rfl) (by rfl) ?_
   simp only[go_sem,seval,lO,hlt,cE];refine dP (aU ht (m:=h0.length) (by have:=hh0.1;omega)) hl (i:=i1) (by simp only[go_sem,seval,aI,hlt]) ?_
   rintro val i2 ⟨y,rfl,hy0,hy1⟩;simp only[go_sem,seval,hlt,aK];refine dP (aU ht (m:=((hr.length+1:Nat):Int)) (by omega)) hl (i:=i2) (by simp only[go_sem,seval,aI,hlt]) ?_
   rintro val i3 ⟨z,rfl,hz0,hz1⟩;have hne:(H.length==o)=false:=by simp;omega
   simp only[go_sem,seval,hlt,aK,aS,aA (aB aP _),fG,eB,hne,aR];have:=hh0.2.1;exact⟨⟨i3,rfl⟩,.inr trivial,fin 5 y z (by decide) (by decide) hy0 (by omega) hz0 (by omega)⟩
  ·simp only[go_sem,seval,hlt,aS,aA (aB aP _)];exact⟨⟨i1,rfl⟩,.inr trivial,fin 0 0 0 (by decide) (by decide) (by decide) (by decide) (by decide) (by decide)⟩
 by_cases k3:b.kind=3
 ·have hn:=hb.grid k3;cases hhd:b.grid with
  |nil=>rw[hhd]at hn;simp at hn
  |cons h0 hr=>
  have hh0:=hn.2 h0 (by rw[hhd];simp)
  rw[hhd]at hl2;simp only[List.length_cons]at hl2;simp only[go_sem,seval,aE,hbe,aF,aZ,k3,hhd];refine aW (aU ht (m:=3) (by decide)) hl (i:=i) (by simp only[go_sem,seval,gQ,hlt,ho]) ?_
  rintro val i1 ⟨x,rfl,hx0,hx1⟩;simp only[go_sem,seval,hlt,gH];refine aD (fun hb1 => ?_) (fun hb1 => ?_)
  ·simp only[go_sem,seval];refine bN (keep:=lN) (by rfl) (by rfl) ?_
   simp only[go_sem,seval,lN,hlt,cA];refine dP (aU ht (m:=((hr.length+1:Nat):Int)) (by omega)) hl (i:=i1) (by simp only[go_sem,seval,aI,hlt]) ?_
   rintro val i2 ⟨y,rfl,hy0,hy1⟩;simp only[go_sem,seval,hlt,aK];refine dP (aU ht (m:=h0.length) (by have:=hh0.1;omega)) hl (i:=i2) (by simp only[go_sem,seval,aI,hlt]) ?_
   rintro val i3 ⟨z,rfl,hz0,hz1⟩;have hne:(H.length==o)=false:=by simp;omega
   simp only[go_sem,seval,hlt,aK,aS,aA (aB aP _),fG,eB,hne,aR];have:=hh0.2.1;exact⟨⟨i3,rfl⟩,.inr trivial,fin 1 y z (by decide) (by decide) hy0 (by omega) hz0 (by omega)⟩
  ·simp only[go_sem,seval,hlt,aS,aA (aB aP _)];exact⟨⟨i1,rfl⟩,.inr trivial,fin 0 0 0 (by decide) (by decide) (by decide) (by decide) (by decide) (by decide)⟩
 by_cases k4:b.kind=4
 ·have hn:=hb.figure k4;have hw0:IntKind.i64.wrap ((b.shapes.length:Int) - 1)=(b.shapes.length:Int) - 1:=wrap_i64 (by omega) (by omega)
  simp only[go_sem,seval,aE,hbe,aF,aZ,k4];refine aW (aU ht (m:=b.shapes.length) (by omega)) hl (i:=i) (by simp only[go_sem,seval,gQ,hlt,ho]) ?_
  rintro val i1 ⟨x,rfl,hx0,hx1⟩;simp only[go_sem,seval,hlt,gH];refine bN (keep:=lM) (H0:=_) (by simp only[go_sem,seval,cI];rfl) (by rfl) ?_
  simp only[go_sem,seval,lM];refine dP (aU ht (m:=2) (by decide)) hl (i:=i1) (by simp only[go_sem,seval,aI,hlt]) ?_
  rintro val i2 ⟨y,rfl,hy0,hy1⟩;obtain⟨kd,hkd,htab⟩:=aNg [3,4] hy0 hy1;simp only[List.map,bD]at htab;have hkb:0<=kd/\kd<=4:=by
   simp only[List.mem_cons,List.not_mem_nil,or_false]at hkd;omega
  have hwx:IntKind.i64.wrap (x+1)=x+1:=wrap_i64 (by omega) (by omega)
  have hne:(H.length==o)=false:=by simp;omega
  have hne2:(H.length+2==o)=false:=by simp;omega
  simp only[go_sem,seval,hlt,aK,hy0,htab,hwx,hw0];refine dP (aU ht (m:=(b.shapes.length:Int) - 1) (by omega)) hl (i:=i2) (by simp only[go_sem,seval,aI,hlt]) ?_
  rintro val i3 ⟨z,rfl,hz0,hz1⟩;have hwz:IntKind.i64.wrap (x+1+z)=x+1+z:=wrap_i64 (by omega) (by omega)
  have hnz:(b.shapes.length:Int)≠0:=by omega
  have hr0:=Int.tmod_nonneg (b.shapes.length:Int) (a:=x+1+z) (by omega)
  have hr1:=Int.tmod_lt_of_pos (x+1+z) (b:=(b.shapes.length:Int)) (by omega)
  simp only[go_sem,seval,hlt,aK,hwz,sN hnz,fG,eB,hne2,aR];refine aW (aU ht (m:=3) (by decide)) hl (i:=i3) (by simp only[go_sem,seval,aI,hlt]) ?_
  rintro val i4 ⟨w,rfl,hw0,hw1⟩;have last:=fin kd x ((x+1+z).tmod b.shapes.length) hkb.1 (by omega) hx0 (by omega) hr0 (by omega)
  simp only[go_sem,seval,hlt,aK];refine aD (fun hb1 => ?_) (fun hb1 => ?_)
  ·have hb2:(w==0)=true:=by simpa using hb1
   simp only[go_sem,seval,hb2];refine aD (fun hb3 => ?_) (fun hb3 => ?_)
   ·simp only[go_sem,seval,hlt,aS,aA (aB aP _)];exact⟨⟨i4,rfl⟩,.inr trivial,fin 2 x 0 (by decide) (by decide) hx0 (by omega) (by decide) (by decide)⟩
   ·simp only[go_sem,seval,hlt,aS,aA (aB aP _)];exact⟨⟨i4,rfl⟩,.inr trivial,last⟩
  ·have hb2:(w==0)=false:=by
    cases hq:(w==0)with
    |false=>rfl
    |true=>rw[hq]at hb1;cases hb1
   simp only[go_sem,seval,hb2,hlt,aS,aA (aB aP _)];exact⟨⟨i4,rfl⟩,.inr trivial,last⟩
 ·simp only[go_sem,seval,aE,hbe,aF,aZ,aD4 k3,aD4 k4,aD4 k5,aD4 k6];exact⟨⟨i,(aDy ho).symm⟩,.inl trivial,fin 0 0 0 (by decide) (by decide) (by decide) (by decide) (by decide) (by decide)⟩
abbrev aBP(g:String->Nat):List AOper:=[qm 12 0,qm 13 5,⟨some 14,oi 12 13 4,none,[0,1]⟩,⟨some 15,ola 4 14,none,[2,0,1]⟩,qla 16 4 3,⟨some 17,.bin .eql (.cells [.int,.int,.int,.int]) (u 15) (u 16),none,[3,2,0,1,4]⟩]
abbrev sH:List Nat:=[]
abbrev aBQ(g:String->Nat):ACode:=.seq (qS [qm 6 5,qm 7 0,qn 8 7,qb 9 .lss 6 8]<|qC 9 (.skip) (.exit 0))<|.seq (.block 1 (.seq (.region true (aBP g))<|qC 17 (qS [qmc 4 (.bool true)]<|.ret) (.skip)))<|.region false [qm 10 5,qbi 11 .add 10 1,qm 5 11]
abbrev aBR:List Nat:=[6,7,8,9,12,13,14,15,16,17,4,10,11,5]
def mX(g:String->Nat):AFn:=⟨18,[3],[.tmp 4],qS [qx 3 4 1,qmc 4 (.bool false)]<|.seq (qS [qmc 5 (.int .i64 0)]<|.block 0 (.loop (aBQ g)))<|qS [qmc 4 (.bool false)]<|.ret⟩
abbrev iQ(g:String->Nat):ACode:=.seq (qS [qm 16 6,qm 17 1,qb 18 .lss 16 17]<|qC 18 (.skip) (.exit 0))<|.seq (.block 1 (qS [qm 21 0,qc 22 (g "(*dactyl/dactylref23.Maker).Take") [u 21,ui 2],qbi 23 .eql 22 0]<|qC 23 (qR [qf 24 3 5,ql 25 1 24,qm 26 6,qq 27 (.bsl 1 [(.int .i64 0)] 1 [(0,(.tmp 26))]),qa 28 1 8 25 27,qf 29 3 5,qs 1 29 28]) (.skip)))<|.region false [qm 19 6,qbi 20 .add 19 1,qm 6 20]
abbrev iR:List Nat:=[16,17,18,21,22,23,24,25,26,27,28,29,19,20,6]
abbrev pB(g:String->Nat):List AOper:=[qf 45 2 5,⟨some 46,ol 1 45,none,[0]⟩,qm 47 0,⟨some 48,oc (g "(*dactyl/dactylref23.Maker).Phrase") [u 47],none,[2]⟩,⟨some 49,.bsl 1 [(.str [])] 4 [(0,(.const (.str [121,101,115]))),(1,(.const (.str [110,111]))),(2,(.tmp 48)),(3,(.const (.str [52,50])))],none,[3,2]⟩,qm 50 8,qm 51 0,⟨some 52,oc (g "(*dactyl/dactylref23.Maker).Take") [u 51,ui 2],none,[6,3,2]⟩,⟨some 53,ob .add 50 52,none,[5,7,6,3,2]⟩,⟨some 54,obi .rem 53 4,none,[8,5,7,6,3,2]⟩,⟨some 55,oi 49 54 1,none,[4,9,8,5,7,6,3,2]⟩,⟨some 56,ol 1 55,none,[10,4,9,8,5,7,6,3,2]⟩,⟨some 57,.bsl 1 [(.str [])] 1 [(0,(.tmp 56))],none,[11,10,4,9,8,5,7,6,3,2]⟩,⟨some 58,oa 1 16 46 57,none,[1,0,12,11,10,4,9,8,5,7,6,3,2]⟩,⟨some 59,of 2 5,none,[13,1,0,12,11,10,4,9,8,5,7,6,3,2]⟩,⟨none,os 1 59 58,none,[14,13,1,0,12,11,10,4,9,8,5,7,6,3,2]⟩]
abbrev iS:List Nat:=[1,3,7]
abbrev pC(g:String->Nat):List AOper:=[qf 60 6 5,⟨some 61,ol 1 60,none,[0]⟩,qq 62 (.bsl 1 [(.str [])] 3 [(0,(.const (.str []))),(1,(.const (.str [105,116,32,108,111,111,107,115,32,115,111]))),(2,(.const (.str [97,32,115,108,105,112])))]),qm 63 0,⟨some 64,oc (g "(*dactyl/dactylref23.Maker).Take") [u 63,ui 3],none,[3]⟩,⟨some 65,oi 62 64 1,none,[2,4,3]⟩,⟨some 66,ol 1 65,none,[5,2,4,3]⟩,⟨some 67,.bsl 1 [(.str [])] 1 [(0,(.tmp 66))],none,[6,5,2,4,3]⟩,⟨some 68,oa 1 16 61 67,none,[1,0,7,6,5,2,4,3]⟩,⟨some 69,of 6 5,none,[8,1,0,7,6,5,2,4,3]⟩,⟨none,os 1 69 68,none,[9,8,1,0,7,6,5,2,4,3]⟩]
abbrev iT:List Nat:=[1,4]
abbrev iU(g:String->Nat):ACode:=.seq (qS [qm 40 8,qm 41 7,qb 42 .lss 40 41]<|qC 42 (.skip) (.exit 3))<|.seq (.block 4 (.seq (.region true (pB g))<|.region true (pC g)))<|.region false [qm 43 8,qbi 44 .add 43 1,qm 8 44]
abbrev iV:List Nat:=[40,41,42,45,46,47,48,49,50,51,52,53,54,55,56,57,58,59,60,61,62,63,64,65,66,67,68,69,43,44,8]
def iW(g:String->Nat):ACode:=.block 2 (qS [qbi 36 .eql 31 0,qm 35 36]<|qC 35 (qS [qm 37 0,qc 38 (g "(*dactyl/dactylref23.Maker).Take") [u 37,ui 3],qq 39 (.bin .add .no (ui 2) (u 38)),qm 7 39]<|.seq (qS [qmc 8 (.int .i64 0)]<|.block 3 (.loop (iU g)))<|.region false [qm 70 0,qm 71 7,qc 72 (g "(*dactyl/dactylref23.Maker).Take") [u 70,u 71],qc 73 (g "dactyl/dactylref23.Decimal") [u 72],qf 74 4 5,qs 1 74 73]) (qS [qbi 76 .eql 31 1,qm 75 76]<|qC 75 (qR [qm 77 0,qc 78 (g "(*dactyl/dactylref23.Maker).Take") [u 77,ui 200],qc 79 (g "dactyl/dactylref23.Decimal") [u 78],qf 80 4 5,qs 1 80 79]) (qR [qm 32 0,qc 33 (g "(*dactyl/dactylref23.Maker).Phrase") [u 32],qf 34 4 5,qs 1 34 33])))
def dZ(g:String->Nat):AFn:=⟨82,[4,5,28,58,68],[.cell 4 7 true],qS [qq 4 (.alloc [(.int .i64 0),(.sl true []),(.sl true []),(.sl true []),(.str []),(.int .i64 0),(.sl true [])])]<|qS [qm 9 0,qc 10 (g "(*dactyl/dactylref23.Maker).Take") [u 9,ui 3],qm 11 0,qc 12 (g "(*dactyl/dactylref23.Maker).Runs") [u 11],qm 13 0,qc 14 (g "(*dactyl/dactylref23.Maker).Take") [u 13,ui 9],qq 15 (.build [(.int .i64 0),(.sl true []),(.sl true []),(.sl true []),(.str []),(.int .i64 0),(.sl true [])] [(0,1,(.tmp 10)),(1,1,(.tmp 12)),(5,1,(.tmp 14))]),qq 5 (.alloc [(.int .i64 0),(.sl true []),(.sl true []),(.sl true []),(.str []),(.int .i64 0),(.sl true [])]),qs 7 5 15]<|.seq (qS [qmc 6 (.int .i64 0)]<|.block 0 (.loop (iQ g)))<|.seq (qS [qf 30 0 5,ql 31 1 30]<|iW g)<|qS [qla 81 7 5,qs 7 4 81]<|.ret⟩
theorem aFg{a b:Fact}:jQ [.int,.int,.int,.int] (bJ a) (bJ b)=some (eqv a b):=by
 rw[aK2];simp only[bJ,jQ,aAc,if_true,aDw];cases eqv a.kind b.kind<;>cases eqv a.block b.block<;>cases eqv a.a b.a<;>cases eqv a.b b.b<;>rfl
theorem aNp{ts:List Tag}{x y:List AV}{b:Bool}(h:jQ ts x y=some b):kM .eql (.cells ts) (.agg x) (.agg y)=some (.bool b):=by
 simp[kM,qD,h]
theorem aPj{A:AProg}{g:String->Nat}(h:Has A g "dactyl/dactylref23.has" (mX g))(l:List Fact)(hl:l.length<=1000)(f:Fact):∃b:Bool,∀H,aL A (g "dactyl/dactylref23.has") [.sl false (l.map bJ),.agg (bJ f)] H=some (.bool b,H,[]):=by
 refine⟨l.any fun a=>eqv a f,fun H => ?_⟩;refine h.call (by simp[mX]) (by kernel_rfl) ?_
 simp only[mX];simp only[go_sem,seval,bJ];refine aHS (W:=aBR) (fun i ρ1 H1 wr=>wr=[]/\ρ1 5=vi i/\H1=H++[.box 1 (bJ f)]/\(l.any fun a=>eqv a f)=((l.drop i).any fun a=>eqv a f)) l.length (by kernel_rfl) (by rfl) ⟨rfl,by simp only[go_sem,seval],by simp only[go_sem,seval,bJ],rfl⟩ ?_
 rintro i ρ1 H1 wr1 hil ⟨rfl,h5,rfl,hi⟩ hf;have f0:ρ1 0=.sl false (l.map bJ):=by rw[hf 0 (by decide)];simp only[go_sem,seval]
 have f3:ρ1 3=.ptr H.length 1 0:=by rw[hf 3 (by decide)];simp only[go_sem,seval]
 simp only[go_sem,seval,f0,h5];refine aD (fun hb => ?_) (fun hb => ?_)
 ·have hlt:i<l.length:=by simpa using hb
  rw[List.drop_eq_getElem_cons hlt,List.any_cons]at hi;simp only[go_sem,seval];refine bN (keep:=sH) (by rfl) (by rfl) ?_
  have h4:∀a:Fact,(bJ a).length=4:=fun _=>rfl;have ht:∀a:Fact,List.take 4 (bJ a)=bJ a:=fun _=>rfl;simp only[go_sem,seval,sH,f0,f3,h5,hlt,getElem?_map_of hlt,h4,ht,aNp aFg];refine aD (fun hb2 => ?_) (fun hb2 => ?_)
  ·rw[hb2,Bool.true_or]at hi;simp only[go_sem,seval,hi]
  ·rw[hb2,Bool.false_or]at hi;simp only[go_sem,seval,h5];rw[dH (by omega)]
   exact⟨hlt,rfl,hi⟩
 ·have hlt:i=l.length:=by
   have:¬i<l.length:=by simpa using hb
   omega
  subst hlt;rw[List.drop_eq_nil_of_le (Nat.le_refl _),List.any_nil]at hi;simp only[go_sem,seval,hi]
theorem aET{n:Int}(h0:0<=n)(h1:n<=1000000):dN n:=by constructor<;>omega
structure MQuestion(q:Question):Prop where
 ok:q.Ok
 lens:q.options.length<=4/\q.reasons.length<=4/\q.needs.length<=10/\q.stem.length<=3
 stem:∀r∈q.stem,r.text.length<=60
abbrev aA6(v:AV):Prop:=∃q:Question,v=.agg (vV q)/\MQuestion q
theorem aRT{A:AProg}{g:String->Nat}(ht:fC A g){H:List AObj}{Q:AExit->bH->List AObj->List Nat->Prop}{tg}{l:List Int}(hl:gD l){o v:Nat}(hlt:o<H.length)
  {i:Int} {o0 o2 o3 o4:AObj} {vq:Nat} {c0 c1 c2 c4 c5 c6:AV} {m:Nat} (hm:m<=10) {ρ:bH} (e0:ρ 0=.ptr o v 0) (e1:ρ 1=vi m) (e5:ρ 5=.ptr (H.length+1) vq 0) (e6:ρ 6=vi 0)
  (hQ:∀ρ' i' o2 w (r:List Int),(∀t,iR.contains t=false->ρ' t=ρ t)->r.length<=10->(∀a∈r,dN a)->GSl (H.length+2) 1 (r.map bD) w o2 ->
   Q (.exit 0) ρ' (H.set o (.box v (aH l i'))++[o0,.box vq [c0,c1,c2,w,c4,c5,c6],o2,o3,o4]) [o]):
  wl A 82 ⟨H.length,[4,5,28,58,68]⟩ (iQ g) ρ (H.set o (.box v (aH l i))++[o0,.box vq [c0,c1,c2,.sl true [],c4,c5,c6],o2,o3,o4]) [o] Q tg:=by
 refine bZ (W:=iR) (fun j ρ1 H1 wr=>wr=[o]/\ρ1 6=vi j/\∃i' o2 w,∃r:List Int,H1=H.set o (.box v (aH l i'))++[o0,.box vq [c0,c1,c2,w,c4,c5,c6],o2,o3,o4]/\GSl (H.length+2) 1 (r.map bD) w o2/\r.length<=j/\∀a∈r,dN a) m
  (fun ρ1 H1 wr=>wr=[o]/\∃i' o2 w,∃r:List Int,H1=H.set o (.box v (aH l i'))++[o0,.box vq [c0,c1,c2,w,c4,c5,c6],o2,o3,o4]/\GSl (H.length+2) 1 (r.map bD) w o2/\r.length<=10/\∀a∈r,dN a)
  (by kernel_rfl) (by rfl) ⟨rfl,e6,i,o2,.sl true [],[],rfl,.nil _,Nat.le_refl _,by simp⟩ ?_ (by
   rintro ρ' H' wr' ⟨rfl,i',o2,w,r,rfl,hg,hr1,hr2⟩ hf;exact hQ ρ' i' o2 w r hf hr1 hr2 hg)
 rintro j ρ1 H1 wr1 hjl ⟨rfl,e6,i',o2,w,r,rfl,hg,hrl,hro⟩ hf;have f0:ρ1 0=.ptr o v 0:=(hf 0 (by decide)).trans e0
 have f1:ρ1 1=vi m:=(hf 1 (by decide)).trans e1
 have f5:ρ1 5=.ptr (H.length+1) vq 0:=(hf 5 (by decide)).trans e5
 simp only[go_sem,seval,f1,e6];refine aD (fun hb => ?_) (fun hb => ?_)
 ·have hlt2:j<m:=by simpa using hb
  simp only[go_sem,seval,f0];refine aW (aU ht (m:=2) (by decide)) hl (i:=i') (by simp only[go_sem,seval,aI,hlt]) ?_
  rintro val i3 ⟨x,rfl,hx0,hx1⟩;simp only[go_sem,seval,hlt,aK];refine aD (fun hb2 => ?_) (fun hb2 => ?_)
  ·obtain⟨v',o',hg',happ⟩:=hg.app (new:=[[vi j]]) (bytes:=8) (by simp) (by rfl) (by simp only[List.length_map,List.length_cons,List.length_nil];omega)
   rw[show r.map bD++[[vi j]]=(r++[(j:Int)]).map bD by simp[bD]]at hg'
   simp only[go_sem,seval,f5,e6,happ,hg'.cellOk,hg'.strip1];rw[dH (by omega)]
   refine⟨hlt2,rfl,i3,o',v',r++[(j:Int)],rfl,hg',by simp;omega, ?_⟩
   intro a ha;rcases List.mem_append.1 ha with ha | ha
   ·exact hro a ha
   ·have:a=(j:Int):=by simpa using ha
    subst this;exact aET (by omega) (by omega)
  ·simp only[go_sem,seval,e6];rw[dH (by omega)]
   exact⟨hlt2,rfl,i3,o2,w,r,rfl,hg,by omega,hro⟩
 ·have hlt2:j=m:=by
   have:¬j<m:=by simpa using hb
   omega
  subst hlt2;simp only[go_sem,seval];exact⟨i',o2,w,r,rfl,hg,by omega,hro⟩
theorem aNq{A:AProg}{g:String->Nat}(ht:fC A g)(hp:cX A (g "(*dactyl/dactylref23.Maker).Phrase") [] aG7){H:List AObj}{Q:AExit->bH->List AObj->List Nat->Prop}{tg}{l:List Int}(hl:gD l){o v:Nat}(hlt:o<H.length)
  {i:Int} {o0 o2 o3 o4:AObj} {vq:Nat} {c0 c1 c3 c4 c5:AV} {n:Int} (hn0:2<=n) (hn1:n<=4) {ρ:bH} (e0:ρ 0=.ptr o v 0) (e5:ρ 5=.ptr (H.length+1) vq 0) (e7:ρ 7=vi n) (e8:ρ 8=vi 0)
  (hQ:∀ρ' i' o3 o4 w w' (r r':List Str),(∀t,iV.contains t=false->ρ' t=ρ t)->r.length<=4->(∀a∈r,a.length<=60)->r'.length<=4->(∀a∈r',a.length<=60) ->
   GSl (H.length+3) 1 (r.map aN) w o3->GSl (H.length+4) 1 (r'.map aN) w' o4 ->
   Q (.exit 3) ρ' (H.set o (.box v (aH l i'))++[o0,.box vq [c0,c1,w,c3,c4,c5,w'],o2,o3,o4]) [o]):
  wl A 82 ⟨H.length,[4,5,28,58,68]⟩ (iU g) ρ (H.set o (.box v (aH l i))++[o0,.box vq [c0,c1,.sl true [],c3,c4,c5,.sl true []],o2,o3,o4]) [o] Q tg:=by
 refine bZ (W:=iV) (fun j ρ1 H1 wr=>wr=[o]/\ρ1 8=vi j/\∃i' o3 o4 w w',∃r r':List Str,H1=H.set o (.box v (aH l i'))++[o0,.box vq [c0,c1,w,c3,c4,c5,w'],o2,o3,o4] /\
   GSl (H.length+3) 1 (r.map aN) w o3/\GSl (H.length+4) 1 (r'.map aN) w' o4/\r.length=j/\r'.length=j/\(∀a∈r,a.length<=60)/\∀a∈r',a.length<=60) n.toNat
  (fun ρ1 H1 wr=>wr=[o]/\∃i' o3 o4 w w',∃r r':List Str,H1=H.set o (.box v (aH l i'))++[o0,.box vq [c0,c1,w,c3,c4,c5,w'],o2,o3,o4] /\
   GSl (H.length+3) 1 (r.map aN) w o3/\GSl (H.length+4) 1 (r'.map aN) w' o4/\r.length<=4/\r'.length<=4/\(∀a∈r,a.length<=60)/\∀a∈r',a.length<=60)
  (by kernel_rfl) (by rfl) ⟨rfl,e8,i,o3,o4,.sl true [],.sl true [],[],[],rfl,.nil _,.nil _,rfl,rfl,by simp,by simp⟩ ?_ (by
   rintro ρ' H' wr' ⟨rfl,i',o3,o4,w,w',r,r',rfl,hg,hg',h1,h2,h3,h4⟩ hf;exact hQ ρ' i' o3 o4 w w' r r' hf h1 h3 h2 h4 hg hg')
 rintro j ρ1 H1 wr1 hjl ⟨rfl,e8,i',o3,o4,w,w',r,r',rfl,hg,hh,hrl,hrl',hro,hro'⟩ hf;have f0:ρ1 0=.ptr o v 0:=(hf 0 (by decide)).trans e0
 have f5:ρ1 5=.ptr (H.length+1) vq 0:=(hf 5 (by decide)).trans e5
 have f7:ρ1 7=vi n:=(hf 7 (by decide)).trans e7
 simp only[go_sem,seval,f7,e8];refine aD (fun hb => ?_) (fun hb => ?_)
 ·have hlt2:j<n.toNat:=by simp at hb;omega
  have hne:(H.length+1==o)=false:=by simp;omega
  simp only[go_sem,seval];refine bN (keep:=iS) (by rfl) (by rfl) ?_
  simp only[go_sem,seval,iS,f0,f5,e8];refine dP hp hl (i:=i') (by simp only[go_sem,seval,aI,hlt]) ?_
  rintro val i3 ⟨s,rfl,hs⟩;simp only[go_sem,seval,hlt,aK];refine dP (aU ht (m:=2) (by decide)) hl (i:=i3) (by simp only[go_sem,seval,aI,hlt]) ?_
  rintro val i4 ⟨y,rfl,hy0,hy1⟩;have hwy:IntKind.i64.wrap ((j:Int)+y)=j+y:=wrap_i64 (by omega) (by omega)
  have hr0:=Int.tmod_nonneg 4 (a:=j+y) (by omega)
  have hr1:=Int.tmod_lt_of_pos (j+y) (b:=4) (by decide)
  obtain⟨t,htm,htab⟩:=aNh [[121,101,115],[110,111],s,[52,50]] hr0 hr1;simp only[List.map,aN]at htab;have htl:t.length<=60:=by
   simp only[List.mem_cons,List.not_mem_nil,or_false]at htm;rcases htm with rfl | rfl | rfl | rfl
   ·simp
   ·simp
   ·exact hs
   ·simp
  obtain⟨v',o',hg',happ⟩:=hg.app (new:=[[.str t]]) (bytes:=16) (by simp) (by rfl) (by simp only[List.length_map,List.length_cons,List.length_nil];omega)
  rw[show r.map aN++[[.str t]]=(r++[t]).map aN by simp[aN]]at hg'
  simp only[go_sem,seval,hlt,aK,hwy,sN (b:=4) (by decide),hr0,htab,happ,hg'.cellOk,hg'.strip1,fG,eB,hne,aR]
  refine bN (keep:=iT) (by rfl) (by rfl) ?_
  simp only[go_sem,seval,iT,f0,f5];refine dP (aU ht (m:=3) (by decide)) hl (i:=i4) (by simp only[go_sem,seval,aI,hlt]) ?_
  rintro val i5 ⟨z,rfl,hz0,hz1⟩;obtain⟨u,hum,htab2⟩:=aNh [[],[105,116,32,108,111,111,107,115,32,115,111],[97,32,115,108,105,112]] hz0 hz1;simp only[List.map,aN]at htab2;have hul:u.length<=60:=by
   simp only[List.mem_cons,List.not_mem_nil,or_false]at hum;rcases hum with rfl | rfl | rfl<;>simp
  obtain⟨v2,o2',hh',happ2⟩:=hh.app (new:=[[.str u]]) (bytes:=16) (by simp) (by rfl) (by simp only[List.length_map,List.length_cons,List.length_nil];omega)
  rw[show r'.map aN++[[.str u]]=(r'++[u]).map aN by simp[aN]]at hh'
  simp only[go_sem,seval,e8,hlt,aK,hz0,htab2,happ2,hh'.cellOk,hh'.strip1,fG,eB,hne,aR];rw[dH (by omega)]
  refine⟨hlt2,rfl,i5,o',o2',v',v2,r++[t],r'++[u],rfl,hg',hh',by simp[hrl],by simp[hrl'], ?_, ?_⟩
  ·intro a ha;rcases List.mem_append.1 ha with ha | ha
   ·exact hro a ha
   ·have:a=t:=by simpa using ha
    subst this;exact htl
  ·intro a ha;rcases List.mem_append.1 ha with ha | ha
   ·exact hro' a ha
   ·have:a=u:=by simpa using ha
    subst this;exact hul
 ·have hlt2:j=n.toNat:=by simp at hb;omega
  subst hlt2;simp only[go_sem,seval];exact⟨i',o3,o4,w,w',r,r',rfl,hg,hh,by omega,by omega,hro,hro'⟩
theorem tT:∀(H:List AObj) (a b:List Nat),dL H (a++b)=dL (dL H a) b
 |H,[],b=>rfl
 |H,o::r,b=>by simp only[List.cons_append,dL];exact tT _ r b
theorem zL(n:Nat):∀(wr a b:List Nat),bA n wr (a++b)=bA n (bA n wr a) b
 |wr,[],b=>rfl
 |wr,o::r,b=>by
  simp only[List.cons_append,bA]
  split<;>exact zL n _ r b
set_option maxHeartbeats 3200000 in
theorem aIu{A:AProg}{g:String->Nat}(h:Has A g "(*dactyl/dactylref23.Maker).Question" (dZ g))(ht:fC A g)(hp:cX A (g "(*dactyl/dactylref23.Maker).Phrase") [] aG7)
  (hr:cX A (g "(*dactyl/dactylref23.Maker).Runs") [] aNj) (hd:aEP A g) {m:Nat} (hm:m<=10):cX A (g "(*dactyl/dactylref23.Maker).Question") [vi m] aA6:=by
 refine h.gen (by simp[dZ]) (fun n=>by kernel_rfl) ?_
 intro l i o v H hl hlt ho;simp only[dZ];simp only[go_sem,seval];refine aW (aU ht (m:=3) (by decide)) hl (i:=i) (by simp only[go_sem,seval,gQ,hlt,ho]) ?_
 rintro val i1 ⟨k,rfl,hk0,hk1⟩;simp only[go_sem,seval,hlt,gH];refine aW hr hl (i:=i1) (by simp only[go_sem,seval,aI,hlt]) ?_
 rintro val i2 ⟨st,rfl,hs1,hs2,hs3⟩;simp only[go_sem,seval,hlt,aK];refine aW (aU ht (m:=9) (by decide)) hl (i:=i2) (by simp only[go_sem,seval,aI,hlt]) ?_
 rintro val i3 ⟨p,rfl,hp0,hp1⟩;simp only[go_sem,seval,hlt,aK];refine aRT ht hl hlt (m:=m) hm (by simp only[go_sem,seval]) (by simp only[go_sem,seval]) (by simp only[go_sem,seval]) (by simp only[go_sem,seval]) ?_
 intro ρ2 i4 o2 w nd hf2 hn1 hn2 hg;have g0:ρ2 0=.ptr o v 0:=by rw[hf2 0 (by decide)];simp only[go_sem,seval]
 have g4:ρ2 4=.ptr H.length 1 0:=by rw[hf2 4 (by decide)];simp only[go_sem,seval]
 have g5:ρ2 5=.ptr (H.length+1) 1 0:=by rw[hf2 5 (by decide)];simp only[go_sem,seval]
 obtain⟨f1,l1,o2',hl1,hl2,hl3⟩:=hg.lend (aB aP _);have fin:∀(op rs:List Str) (key:Str),op.length<=4->(∀a∈op,a.length<=60)->rs.length<=4->(∀a∈rs,a.length<=60)->key.length<=1000 ->
   aA6 (.agg [vi k,.sl false (st.map cW),.sl false (op.map aN),.sl false (nd.map bD),.str key,vi p,.sl false (rs.map aN)]):=fun op rs key h1 h2 h3 h4 h5=>
  ⟨⟨k,st,op,nd,key,p,rs⟩,rfl,⟨⟨aET hk0 (by show k<=1000000;omega),by show st.length<=16;omega,fun a h=>(hs3 a h).1,by show op.length<=16;omega,fun s hs=>by have:=h2 s hs;show s.length<=1000;omega,by show nd.length<=16;omega,hn2,h5,aET hp0 (by show p<=1000000;omega),by show rs.length<=16;omega,fun s hs=>by have:=h4 s hs;show s.length<=1000;omega⟩,⟨h1,h3,hn1,hs2⟩,fun a h=>(hs3 a h).2⟩⟩
 have hcs:k=0∨k=1∨k=2:=by omega
 simp only[go_sem,seval,g5];simp only[iW];rcases hcs with rfl | rfl | rfl
 ·simp only[go_sem,seval,g0];refine aW (aU ht (m:=3) (by decide)) hl (i:=i4) (by simp only[go_sem,seval,aI,hlt]) ?_
  rintro val i5 ⟨x,rfl,hx0,hx1⟩;have hwx:IntKind.i64.wrap (2+x)=2+x:=wrap_i64 (by omega) (by omega)
  simp only[go_sem,seval,hlt,aK,hwx];refine aNq ht hp hl hlt (n:=2+x) (by omega) (by omega) (by simp only[go_sem,seval,g0]) (by simp only[go_sem,seval,g5]) (by simp only[go_sem,seval]) (by simp only[go_sem,seval]) ?_
  intro ρ3 i6 o3 o4 w1 w2 op rs hf3 a1 a2 a3 a4 hgo hgr;have k0:ρ3 0=.ptr o v 0:=by rw[hf3 0 (by decide)];simp only[go_sem,seval,g0]
  have k4:ρ3 4=.ptr H.length 1 0:=by rw[hf3 4 (by decide)];simp only[go_sem,seval,g4]
  have k5:ρ3 5=.ptr (H.length+1) 1 0:=by rw[hf3 5 (by decide)];simp only[go_sem,seval,g5]
  have k7:ρ3 7=vi (2+x):=by rw[hf3 7 (by decide)];simp only[go_sem,seval]
  obtain⟨f2,l2,o3',m1,m2,m3⟩:=hgo.lend (aB bL _);obtain⟨f3,l3,o4',n1,n2,n3⟩:=hgr.lend (aB bL _);simp only[go_sem,seval,k0,k7];refine aW (aU ht (m:=2+x) (by omega)) hl (i:=i6) (by simp only[go_sem,seval,aI,hlt]) ?_
  rintro val i7 ⟨y,rfl,hy0,hy1⟩;obtain⟨yn,rfl⟩:=Int.eq_ofNat_of_zero_le hy0;have hdy:=fun H=>hd yn H (by omega)
  have hdl:=aEj 5 yn (by omega)
  simp only[go_sem,seval,k4,k5,hlt,aK,hdy,hg.cellOk,hgo.cellOk,hgr.cellOk,hl1,hl2,hl3,m1,m2,m3,n1,n2,n3,tT,zL,aS,aA (aB bT _),aA (aB bL _),aA (aB aP _)];exact⟨⟨i7,rfl⟩,fin op rs (dec yn) a1 a2 a3 a4 (by omega)⟩
 ·simp only[go_sem,seval,g0];refine aW (aU ht (m:=200) (by decide)) hl (i:=i4) (by simp only[go_sem,seval,aI,hlt]) ?_
  rintro val i7 ⟨y,rfl,hy0,hy1⟩;obtain⟨yn,rfl⟩:=Int.eq_ofNat_of_zero_le hy0;have hdy:=fun H=>hd yn H (by omega)
  have hdl:=aEj 5 yn (by omega)
  simp only[go_sem,seval,g4,g5,hlt,aK,hdy,hg.cellOk,hl1,hl2,hl3,aS,aA (aB bT _),aA (aB aP _)];exact⟨⟨i7,rfl⟩,fin [] [] (dec yn) (by simp) (by simp) (by simp) (by simp) (by omega)⟩
 ·simp only[go_sem,seval,g0];refine aW hp hl (i:=i4) (by simp only[go_sem,seval,aI,hlt]) ?_
  rintro val i7 ⟨s,rfl,hsl⟩;simp only[go_sem,seval,g4,g5,hlt,aK,hg.cellOk,hl1,hl2,hl3,aS,aA (aB bT _),aA (aB aP _)];exact⟨⟨i7,rfl⟩,fin [] [] s (by simp) (by simp) (by simp) (by simp) (by omega)⟩
end Go.AM
end
section

end
section
set_option maxRecDepth 8000
namespace Go.AM
open Go
def iX(g:String->Nat):ACode:=.block 0 (qS [qbi 11 .eql 8 0,qm 10 11]<|qC 10 (qR [qm 12 2,qc 13 (g "dactyl/dactylref01.Around") [u 12,ui 5],qbi 14 .sub 13 1,qf 15 0 3,qs 1 15 14]) (qS [qbi 17 .eql 8 1,qm 16 17]<|qC 16 (qR [qq 18 (.bsl 1 [(.str [])] 0 []),qf 19 2 3,ql 20 1 19,qa 21 1 16 18 20,qq 22 (.bsl 1 [(.str [])] 1 [(0,(.const (.str [109,111,114,101])))]),qa 23 1 16 21 22,qf 24 2 3,qs 1 24 23]) (qS [qbi 26 .eql 8 2,qm 25 26]<|qC 25 (qR [qq 27 (.bsl 1 [(.int .i64 0)] 0 []),qf 28 3 3,ql 29 1 28,qa 30 1 8 27 29,qm 31 2,qc 32 (g "dactyl/dactylref01.Around") [u 31,ui 10],qbi 33 .sub 32 1,qq 34 (.bsl 1 [(.int .i64 0)] 1 [(0,(.tmp 33))]),qa 35 1 8 30 34,qf 36 3 3,qs 1 36 35]) (qS [qbi 38 .eql 8 3,qm 37 38]<|qC 37 (qR [qq 39 (.bsl 1 [(.str [])] 4 [(0,(.const (.str []))),(1,(.const (.str [127]))),(2,(.const (.str [107,101,121]))),(3,(.const (.str [97,32,107,101,121,32,116,104,97,116,32,104,97,115,32,109,111,114,101,32,116,104,97,110,32,102,111,114,116,121,32,98,121,116,101,115,32,105,110,32,97,108,108])))]),qm 40 2,qc 41 (g "dactyl/dactylref01.Around") [u 40,ui 4],qi 42 39 41 1,ql 43 1 42,qf 44 4 3,qs 1 44 43]) (qS [qbi 46 .eql 8 4,qm 45 46]<|qC 45 (qR [qm 47 2,qc 48 (g "dactyl/dactylref01.Around") [u 47,ui 103],qbi 49 .sub 48 1,qf 50 5 3,qs 1 50 49]) (qR [qf 9 1 3,qz (.store 1 (u 9) (uc (.sl true [])))]))))))
def eA(g:String->Nat):AFn:=⟨52,[3,6,21,23,30,35],[.cell 6 7 true],qS [qx 3 7 0,qq 6 (.alloc [(.int .i64 0),(.sl true []),(.sl true []),(.sl true []),(.str []),(.int .i64 0),(.sl true [])])]<|.seq (qS [qm 7 1,qc 8 (g "dactyl/dactylref01.Around") [u 7,ui 6]]<|iX g)<|qS [qla 51 7 3,qs 7 6 51]<|.ret⟩
theorem mI{n m c:Int}(hn:dN n)(hm:1<=m)(hm2:m<=1000)(hc0:0<=c)(hc:c<=10):IntKind.i64.wrap (around n m - c)=around n m - c/\dN (around n m - c):=by
 obtain⟨h1,h2⟩:=kB hn hm;exact⟨wrap_i64 (by omega) (by omega),by omega,by omega⟩
theorem pF{α:Type}{P:α->Prop}{l:List α}{a:α}(h:∀x∈l,P x)(ha:P a):∀x∈l++[a],P x:=by
 intro x hx;rcases List.mem_append.1 hx with hx | hx
 ·exact h x hx
 ·have:x=a:=by simpa using hx
  subst this;exact ha
theorem tU{α:Type}{l:List α}{a:α}{n:Nat}(h:l.length<=n):(l++[a]).length<=n+1:=by simpa using h
structure QSlack(q:Question):Prop where
 opts:q.options.length<=15
 needs:q.needs.length<=15
 stem:∀r∈q.stem,r.text.length<=60
theorem bV{n b:Nat}(h1:n<=100)(h2:b<=1000):bP n b=true:=by
 unfold bP;have:n*(b+1)<=100*1001:=Nat.mul_le_mul h1 (by omega)
 simp;omega
set_option maxHeartbeats 3200000 in
theorem aIv{A:AProg}{g:String->Nat}(h:Has A g "dactyl/dactylref23.spoiltQuestion" (eA g))(ha:nO A g){q:Question}(hq:q.Ok)(hs:QSlack q){how by':Int}(hby:dN by')(H:List AObj):
  ∃v H' wr,aL A (g "dactyl/dactylref23.spoiltQuestion") [.agg (vV q),vi how,vi by'] H=some (v,H',wr)/\(H'=H/\wr=[]/\∃q':Question,v=.agg (vV q')/\q'.Ok):=by
 refine h.callEx (by simp[eA]) (by kernel_rfl) ?_
 have hl1:=hs.opts;have hl2:=hs.needs;have fin:∀q1:Question,q1.Ok->∀v:AV,v=.agg (vV q1)->∃q2:Question,v=.agg (vV q2)/\q2.Ok:=fun q1 h v e=>⟨q1,e,h⟩;simp only[eA,iX];have h5:=mI (c:=1) hby (m:=5) (by decide) (by decide) (by decide) (by decide)
 have h10:=mI (c:=1) hby (m:=10) (by decide) (by decide) (by decide) (by decide)
 have h103:=mI (c:=1) hby (m:=103) (by decide) (by decide) (by decide) (by decide)
 simp only[go_sem,seval,vV,ha how];refine aD (fun hb => ?_) (fun hb => ?_)
 ·simp only[go_sem,seval,ha by',h5.1,aA (aB bT _),aA (aB bL _),aA (aB aP _)]
  exact fin { q with kind:=around by' 5 - 1 } { hq with kind:=h5.2 } _ rfl
 simp only[go_sem,seval];refine aD (fun hb => ?_) (fun hb => ?_)
 ·have hm:∀l:List Str,l.map aN++[[.str [109,111,114,101]]]=(l++[[109,111,114,101]]).map aN:=fun l=>by simp[aN]
  have ho:{ q with options:=q.options++[[109,111,114,101]]:Question }.Ok:={ hq with lenO:=tU hl1,options:=pF hq.options (by decide) }
  cases hoe:q.options with
  |nil=>
   rw[hoe]at ho;simp only[go_sem,seval,bV,aA (aB bT _),aA (aB bL _),aA (aB aP _)];exact fin _ ho _ rfl
  |cons a r=>
   rw[hoe]at ho hl1;have hr1:bP (r.length+1) 16=true:=bV (by simp at hl1 ⊢;omega) (by decide)
   have hr2:bP (r.length+1+1) 16=true:=bV (by simp at hl1 ⊢;omega) (by decide)
   simp only[go_sem,seval,hr1,hr2,hm,aN,aO (aB bL _),aA (aB bT _),aA (aB bL _),aA (aB aP _)];exact fin _ ho _ (by simp[vV,aN])
 simp only[go_sem,seval];refine aD (fun hb => ?_) (fun hb => ?_)
 ·have hm:∀(l:List Int) (n:Int),l.map bD++[[vi n]]=(l++[n]).map bD:=fun l n=>by simp[bD]
  have ho:{ q with needs:=q.needs++[around by' 10 - 1]:Question }.Ok:={ hq with lenN:=tU hl2,needs:=pF hq.needs h10.2 }
  cases hoe:q.needs with
  |nil=>
   rw[hoe]at ho;simp only[go_sem,seval,ha by',h10.1,bV,aA (aB bT _),aA (aB bL _)]
   exact fin _ ho _ rfl
  |cons a r=>
   rw[hoe]at ho hl2;have hr1:bP (r.length+1) 8=true:=bV (by simp at hl2 ⊢;omega) (by decide)
   have hr2:bP (r.length+1+1) 8=true:=bV (by simp at hl2 ⊢;omega) (by decide)
   simp only[go_sem,seval,ha by',h10.1,hr1,hr2,hm,bD,aO (aB aP _),aA (aB bT _),aA (aB bL _),aA (aB aP _)]
   exact fin _ ho _ (by simp[vV,bD])
 simp only[go_sem,seval];refine aD (fun hb => ?_) (fun hb => ?_)
 ·obtain⟨k1,k2⟩:=kB hby (m:=4) (by decide)
  obtain⟨t,htm,htab⟩:=aNh [[],[127],[107,101,121],[97,32,107,101,121,32,116,104,97,116,32,104,97,115,32,109,111,114,101,32,116,104,97,110,32,102,111,114,116,121,32,98,121,116,101,115,32,105,110,32,97,108,108]] k1 k2;simp only[List.map,aN]at htab;have htl:mF t:=by
   have:∀s∈([[],[127],[107,101,121],[97,32,107,101,121,32,116,104,97,116,32,104,97,115,32,109,111,114,101,32,116,104,97,110,32,102,111,114,116,121,32,98,121,116,101,115,32,105,110,32,97,108,108]]:List Str),mF s:=by decide
   exact this t htm
  simp only[go_sem,seval,ha by',k1,htab,aA (aB bT _),aA (aB bL _),aA (aB aP _)]
  exact fin { q with key:=t } { hq with key:=htl } _ rfl
 simp only[go_sem,seval];refine aD (fun hb => ?_) (fun hb => ?_)
 ·simp only[go_sem,seval,ha by',h103.1,aA (aB bT _),aA (aB bL _),aA (aB aP _)]
  exact fin { q with points:=around by' 103 - 1 } { hq with points:=h103.2 } _ rfl
 ·simp only[go_sem,seval,aA (aB bL _),aA (aB aP _)];exact fin { q with stem:=[] } { hq with lenS:=by simp,stem:=by simp } _ rfl
end Go.AM
end
