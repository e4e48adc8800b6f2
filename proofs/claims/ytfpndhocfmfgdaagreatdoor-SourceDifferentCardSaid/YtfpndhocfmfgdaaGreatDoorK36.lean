/- Part 36: lemmas for the last text. -/
import Derived.Test.YtfpndhocfmfgdaaGreatDoorK35
set_option linter.unusedVariables false
set_option linter.unusedSimpArgs false
section
set_option maxRecDepth 8000
namespace Go.AM
open Go
abbrev rD(g:String->Nat):List AOper:=[qf 7 2 3,⟨some 8,ol 1 7,none,[0]⟩,qm 9 0,⟨some 10,oc (g "(*dactyl/dactylref23.Maker).Take") [u 9,ui 4],none,[2]⟩,⟨some 11,.bin .add .no (ui 24) (u 10),none,[3,2]⟩,qm 12 0,⟨some 13,oc (g "(*dactyl/dactylref23.Maker).Take") [u 12,ui 9],none,[5,3,2]⟩,⟨some 14,.bin .add .no (ui 30) (u 13),none,[6,5,3,2]⟩,⟨some 15,oc (g "dactyl/dactylref23.box") [ui 2,ui 2,u 11,u 14],none,[4,7,6,5,3,2]⟩,⟨some 16,.build [(.int .i64 0),(.sl true [])] [(0,1,(.const (.int .i64 2))),(1,1,(.tmp 15))],none,[8,4,7,6,5,3,2]⟩,⟨some 17,.bsl 2 [(.int .i64 0),(.sl false [])] 1 [(0,(.tmp 16))],none,[9,8,4,7,6,5,3,2]⟩,⟨some 18,oa 2 32 8 17,none,[1,0,10,9,8,4,7,6,5,3,2]⟩,⟨some 19,of 2 3,none,[11,1,0,10,9,8,4,7,6,5,3,2]⟩,⟨none,os 1 19 18,none,[12,11,1,0,10,9,8,4,7,6,5,3,2]⟩]
abbrev kC:List Nat:=[1,3,6,8]
abbrev rE(g:String->Nat):List AOper:=[qf 23 2 3,⟨some 24,ol 1 23,none,[0]⟩,qm 25 0,⟨some 26,oc (g "(*dactyl/dactylref23.Maker).Take") [u 25,ui 5],none,[2]⟩,⟨some 27,.bin .add .no (ui 10) (u 26),none,[3,2]⟩,qm 28 0,⟨some 29,oc (g "(*dactyl/dactylref23.Maker).Take") [u 28,ui 8],none,[5,3,2]⟩,⟨some 30,.bin .add .no (ui 12) (u 29),none,[6,5,3,2]⟩,⟨some 31,.build [(.int .i64 0),(.int .i64 0)] [(0,1,(.tmp 27)),(1,1,(.tmp 30))],none,[4,7,6,5,3,2]⟩,⟨some 32,.bsl 2 [(.int .i64 0),(.int .i64 0)] 1 [(0,(.tmp 31))],none,[8,4,7,6,5,3,2]⟩,⟨some 33,.build [(.int .i64 0),(.sl true [])] [(0,1,(.const (.int .i64 0))),(1,1,(.tmp 32))],none,[9,8,4,7,6,5,3,2]⟩,⟨some 34,.bsl 2 [(.int .i64 0),(.sl false [])] 1 [(0,(.tmp 33))],none,[10,9,8,4,7,6,5,3,2]⟩,⟨some 35,oa 2 32 24 34,none,[1,0,11,10,9,8,4,7,6,5,3,2]⟩,⟨some 36,of 2 3,none,[12,1,0,11,10,9,8,4,7,6,5,3,2]⟩,⟨none,os 1 36 35,none,[13,12,1,0,11,10,9,8,4,7,6,5,3,2]⟩]
abbrev kD:List Nat:=[1,3,6]
abbrev rF(g:String->Nat):List AOper:=[qf 43 2 3,⟨some 44,ol 1 43,none,[0]⟩,qm 45 4,⟨some 46,.build [(.int .i64 0),(.int .i64 0)] [(0,1,(.tmp 45)),(1,1,(.const (.int .i64 4)))],none,[2]⟩,qm 47 4,⟨some 48,obi .add 47 8,none,[4]⟩,qm 49 0,⟨some 50,oc (g "(*dactyl/dactylref23.Maker).Take") [u 49,ui 6],none,[6]⟩,⟨some 51,.bin .add .no (ui 10) (u 50),none,[7,6]⟩,⟨some 52,.build [(.int .i64 0),(.int .i64 0)] [(0,1,(.tmp 48)),(1,1,(.tmp 51))],none,[5,4,8,7,6]⟩,qm 53 4,⟨some 54,.build [(.int .i64 0),(.int .i64 0)] [(0,1,(.tmp 53)),(1,1,(.const (.int .i64 30)))],none,[10]⟩,⟨some 55,.bsl 2 [(.int .i64 0),(.int .i64 0)] 3 [(0,(.tmp 46)),(1,(.tmp 52)),(2,(.tmp 54))],none,[3,2,9,5,4,8,7,6,11,10]⟩,⟨some 56,.build [(.int .i64 0),(.sl true [])] [(0,1,(.const (.int .i64 1))),(1,1,(.tmp 55))],none,[12,3,2,9,5,4,8,7,6,11,10]⟩,⟨some 57,.bsl 2 [(.int .i64 0),(.sl false [])] 1 [(0,(.tmp 56))],none,[13,12,3,2,9,5,4,8,7,6,11,10]⟩,⟨some 58,oa 2 32 44 57,none,[1,0,14,13,12,3,2,9,5,4,8,11,10,7,6]⟩,⟨some 59,of 2 3,none,[15,1,0,14,13,12,3,2,9,5,4,8,11,10,7,6]⟩,⟨none,os 1 59 58,none,[16,15,1,0,14,13,12,3,2,9,5,4,8,11,10,7,6]⟩]
abbrev kE:List Nat:=[1,7]
abbrev rG(g:String->Nat):List AOper:=[qf 60 2 3,⟨some 61,ol 1 60,none,[0]⟩,qm 62 4,qm 63 0,⟨some 64,oc (g "(*dactyl/dactylref23.Maker).Take") [u 63,ui 12],none,[3]⟩,⟨some 65,.bin .add .no (ui 12) (u 64),none,[4,3]⟩,⟨some 66,oc (g "dactyl/dactylref23.box") [u 62,ui 5,ui 10,u 65],none,[2,5,4,3]⟩,⟨some 67,.build [(.int .i64 0),(.sl true [])] [(0,1,(.const (.int .i64 2))),(1,1,(.tmp 66))],none,[6,2,5,4,3]⟩,⟨some 68,.bsl 2 [(.int .i64 0),(.sl false [])] 1 [(0,(.tmp 67))],none,[7,6,2,5,4,3]⟩,⟨some 69,oa 2 32 61 68,none,[1,0,8,7,6,2,5,4,3]⟩,⟨some 70,of 2 3,none,[9,1,0,8,7,6,2,5,4,3]⟩,⟨none,os 1 70 69,none,[10,9,1,0,8,7,6,2,5,4,3]⟩]
abbrev kF:List Nat:=[1,4,6]
abbrev rH(g:String->Nat):List AOper:=[qf 74 2 3,⟨some 75,ol 1 74,none,[0]⟩,qq 76 (.build [(.int .i64 0),(.int .i64 0)] [(0,1,(.const (.int .i64 36))),(1,1,(.const (.int .i64 44)))]),qm 77 0,⟨some 78,oc (g "(*dactyl/dactylref23.Maker).Take") [u 77,ui 20],none,[3]⟩,⟨some 79,.bin .add .no (ui 36) (u 78),none,[4,3]⟩,⟨some 80,.build [(.int .i64 0),(.int .i64 0)] [(0,1,(.tmp 79)),(1,1,(.const (.int .i64 44)))],none,[5,4,3]⟩,⟨some 81,.bsl 2 [(.int .i64 0),(.int .i64 0)] 2 [(0,(.tmp 76)),(1,(.tmp 80))],none,[2,6,5,4,3]⟩,⟨some 82,.build [(.int .i64 0),(.sl true [])] [(0,1,(.const (.int .i64 1))),(1,1,(.tmp 81))],none,[7,2,6,5,4,3]⟩,⟨some 83,.bsl 2 [(.int .i64 0),(.sl false [])] 1 [(0,(.tmp 82))],none,[8,7,2,6,5,4,3]⟩,⟨some 84,oa 2 32 75 83,none,[1,0,9,8,7,2,6,5,4,3]⟩,⟨some 85,of 2 3,none,[10,1,0,9,8,7,2,6,5,4,3]⟩,⟨none,os 1 85 84,none,[11,10,1,0,9,8,7,2,6,5,4,3]⟩]
abbrev kG:List Nat:=[1,4,7,9]
abbrev rI(g:String->Nat):List AOper:=[qf 90 2 3,⟨some 91,ol 1 90,none,[0]⟩,qm 92 5,⟨some 93,oi 91 92 2,none,[1,0,2]⟩,⟨some 94,of 1 93,none,[3,1,0,2]⟩,⟨some 95,ol 1 94,none,[4,3,1,0,2]⟩,qf 96 2 3,⟨some 97,ol 1 96,none,[6]⟩,qm 98 5,⟨some 99,oi 97 98 2,none,[7,6,8]⟩,⟨some 100,of 1 99,none,[9,7,6,8]⟩,⟨some 101,ol 1 100,none,[10,9,7,6,8]⟩,⟨some 102,.iaV (u 101) (ui 1) 2,none,[11,10,9,7,6,8]⟩,⟨some 103,of 0 102,none,[12,11,10,9,7,6,8]⟩,⟨some 104,ol 1 103,none,[13,12,11,10,9,7,6,8]⟩,⟨some 105,obi .add 104 3,none,[14,13,12,11,10,9,7,6,8]⟩,⟨some 106,.iaV (u 95) (ui 1) 2,none,[5,4,3,1,0,2,15,14,13,12,11,10,9,7,6,8]⟩,⟨some 107,of 0 106,none,[16,5,4,3,1,0,2,15,14,13,12,11,10,9,7,6,8]⟩,⟨none,os 1 107 105,none,[17,16,5,4,3,1,0,2,15,14,13,12,11,10,9,7,6,8]⟩]
abbrev kH:List Nat:=[]
def eT(g:String->Nat):AFn:=⟨109,[81,83,2,3,18,35,58,69,84],[.cell 2 3 true],qS [qq 2 (.alloc [(.int .i64 0),(.int .i64 0),(.sl true [])])]<|qS [qq 6 (.build [(.int .i64 0),(.int .i64 0),(.sl true [])] [(0,1,(.const (.int .i64 60))),(1,1,(.const (.int .i64 50)))]),qq 3 (.alloc [(.int .i64 0),(.int .i64 0),(.sl true [])]),qs 3 3 6]<|.seq (.region true (rD g))<|.seq (qS [qm 20 0,qc 21 (g "(*dactyl/dactylref23.Maker).Take") [u 20,ui 3],qbi 22 .gtr 21 0]<|qC 22 (.region true (rE g)) (.skip))<|qS [qm 37 0,qc 38 (g "(*dactyl/dactylref23.Maker).Take") [u 37,ui 4],qq 39 (.bin .add .no (ui 36) (u 38)),qm 4 39]<|.seq (qS [qm 40 0,qc 41 (g "(*dactyl/dactylref23.Maker).Take") [u 40,ui 2],qbi 42 .eql 41 0]<|qC 42 (.region true (rF g)) (.region true (rG g)))<|.seq (qS [qm 71 0,qc 72 (g "(*dactyl/dactylref23.Maker).Take") [u 71,ui 3],qbi 73 .eql 72 0]<|qC 73 (.seq (.region true (rH g))<|qS [qf 86 2 3,ql 87 1 86,qn 88 87,qbi 89 .sub 88 1,qm 5 89]<|.region true (rI g)) (.skip))<|.seq (.seq (.frz [(1,94)])<|.region false [qla 108 3 3,qs 3 2 108])<|.ret⟩
def mW(g:String->Nat):AFn:=⟨30,[],[.tmp 8],qS [qmc 8 (.sl true [])]<|qS [qm 9 0,qm 10 1,qq 11 (.build [(.int .i64 0),(.int .i64 0)] [(0,1,(.tmp 9)),(1,1,(.tmp 10))]),qm 12 0,qm 13 2,qb 14 .add 12 13,qm 15 1,qq 16 (.build [(.int .i64 0),(.int .i64 0)] [(0,1,(.tmp 14)),(1,1,(.tmp 15))]),qm 17 0,qm 18 2,qb 19 .add 17 18,qm 20 1,qm 21 3,qb 22 .add 20 21,qq 23 (.build [(.int .i64 0),(.int .i64 0)] [(0,1,(.tmp 19)),(1,1,(.tmp 22))]),qm 24 0,qm 25 1,qm 26 3,qb 27 .add 25 26,qq 28 (.build [(.int .i64 0),(.int .i64 0)] [(0,1,(.tmp 24)),(1,1,(.tmp 27))]),qq 29 (.bsl 2 [(.int .i64 0),(.int .i64 0)] 4 [(0,(.tmp 11)),(1,(.tmp 16)),(2,(.tmp 23)),(3,(.tmp 28))]),qm 8 29]<|.ret⟩
set_option maxHeartbeats 1600000 in
theorem aPh{A:AProg}{g:String->Nat}(h:Has A g "(*dactyl/dactylref23.Maker).Expr" (fU g))(ht:fC A g)
  (htm:∀d:Nat,d<=3->cX A (g "(*dactyl/dactylref23.Maker).term") [vi d] (aD5 (d+1))):cX A (g "(*dactyl/dactylref23.Maker).Expr") [vi 3] (aD5 4):=by
 refine h.gen (by simp[fU]) (fun n=>by kernel_rfl) ?_
 intro l i o v H hl hlt ho;have h2:cX A (g "(*dactyl/dactylref23.Maker).term") [vi 2] (aD5 3):=htm 2 (by decide)
 have h3:cX A (g "(*dactyl/dactylref23.Maker).term") [vi 3] (aD5 4):=htm 3 (by decide)
 have hw2:IntKind.i64.wrap 2=2:=wrap_i64 (by decide) (by decide)
 simp only[fU];simp only[go_sem,seval];refine aW (aU ht (m:=4) (by decide)) hl (i:=i) (by simp only[go_sem,seval,gQ,hlt,ho]) ?_
 rintro val i1 ⟨x,rfl,hx0,hx1⟩;simp only[go_sem,seval,hlt,gH];refine aD (fun hb => ?_) (fun hb => ?_)
 ·simp only[go_sem,seval,hlt,hw2];refine aW h2 hl (i:=i1) (by simp only[go_sem,seval,aI,hlt]) ?_
  rintro val i2 ⟨a,rfl,ha⟩;simp only[go_sem,seval,hlt,aK,oH,bY (aQ _)];refine bN (keep:=lL) (by rfl) (by rfl) ?_
  simp only[go_sem,seval,lL];refine dP (aU ht (m:=2) (by decide)) hl (i:=i2) (by simp only[go_sem,seval,aI,hlt]) ?_
  rintro val i3 ⟨y,rfl,hy0,hy1⟩;have hwy:IntKind.i64.wrap (9+y)=9+y:=wrap_i64 (by omega) (by omega)
  have htk:∀e:Expr,List.take 3 (aF e)=aF e:=fun e=>List.take_of_length_le (by rw[oH];exact Nat.le_refl _)
  have hne:(H.length+1==o)=false:=by simp;omega
  simp only[go_sem,seval,hlt,aK,hwy,hw2,oH,htk,aM (aQ _),bK (aQ _)];refine dP h2 hl (i:=i3) (by simp only[go_sem,seval,aI,hlt]) ?_
  rintro val i4 ⟨b,rfl,hb2⟩;simp only[go_sem,seval,hlt,aK,oH,aM (aQ _),bK (aQ _),fG,eB,hne,aR,aS,cS (aQ _),aA (aB aP _)];refine⟨⟨i4,rfl⟩,.mk (9+y) 0 [a,b],rfl,.mk _ _ _ _ ⟨by omega,by omega⟩ ⟨by decide,by decide⟩ (by simp) ?_ (.inr (.inr ⟨rfl,.inr ⟨by omega,by omega⟩⟩))⟩
  intro e he;simp only[List.mem_cons,List.not_mem_nil,or_false]at he;rcases he with rfl | rfl
  ·exact ha
  ·exact hb2
 ·simp only[go_sem,seval];refine aW h3 hl (i:=i1) (by simp only[go_sem,seval,aI,hlt]) ?_
  rintro val i2 ⟨a,rfl,ha⟩;have htk:List.take 3 (aF a)=aF a:=List.take_of_length_le (by rw[oH];exact Nat.le_refl _)
  simp only[go_sem,seval,hlt,aK,oH,bY (aQ _),htk,aY (aQ _),aM (aQ _),aS,cS (aQ _),aA (aB aP _)];exact⟨⟨i2,rfl⟩,a,rfl,ha⟩
abbrev kI(g:String->Nat):ACode:=.seq (qS [qm 32 11,qm 33 10,qb 34 .lss 32 33]<|qC 34 (.skip) (.exit 4))<|.seq (.block 5 (qS [qm 37 0,qc 38 (g "(*dactyl/dactylref23.Maker).Take") [u 37,ui 21],qq 39 (.bin .add .no (ui 14) (u 38)),qm 40 0,qc 41 (g "(*dactyl/dactylref23.Maker).Take") [u 40,ui 5],qq 42 (.bsl 1 [(.int .i64 0)] 5 [(0,(.const (.int .i64 0))),(1,(.const (.int .i64 0))),(2,(.const (.int .i64 0))),(3,(.const (.int .i64 (-1)))),(4,(.const (.int .i64 1)))]),qm 43 0,qc 44 (g "(*dactyl/dactylref23.Maker).Take") [u 43,ui 5],qi 45 42 44 1,ql 46 1 45,qq 47 (.build [(.int .i64 0),(.int .i64 0),(.int .i64 0)] [(0,1,(.tmp 39)),(1,1,(.tmp 41)),(2,1,(.tmp 46))]),qq 12 (.alloc [(.int .i64 0),(.int .i64 0),(.int .i64 0)]),qs 3 12 47]<|.seq (qS [qm 48 0,qc 49 (g "(*dactyl/dactylref23.Maker).Take") [u 48,ui 6],qbi 50 .eql 49 0]<|qC 50 (qR [qf 51 1 12,ql 52 1 51,qq 53 (.build [(.int .i64 0),(.int .i64 0),(.int .i64 0)] [(0,1,(.const (.int .i64 (-1)))),(1,1,(.tmp 52))]),qs 3 12 53]) (.skip))<|.region false [qm 54 9,qla 55 3 12,qq 56 (.bsl 3 [(.int .i64 0),(.int .i64 0),(.int .i64 0)] 1 [(0,(.tmp 55))]),qa 57 3 24 54 56,qm 9 57]))<|.region false [qm 35 11,qbi 36 .add 35 1,qm 11 36]
abbrev kJ:List Nat:=[32,33,34,37,38,39,40,41,42,43,44,45,46,47,12,48,49,50,51,52,53,54,55,56,57,9,35,36,11]
abbrev kK(g:String->Nat):ACode:=.seq (qS [qm 24 8,qm 25 5,qb 26 .lss 24 25]<|qC 26 (.skip) (.exit 2))<|.seq (.block 3 (qS [qmc 9 (.sl true [])]<|qS [qm 29 0,qc 30 (g "(*dactyl/dactylref23.Maker).Take") [u 29,ui 4],qq 31 (.bin .add .no (ui 1) (u 30)),qm 10 31]<|.seq (qS [qmc 11 (.int .i64 0)]<|.block 4 (.loop (kI g)))<|.region false [qm 58 7,qm 59 9,qq 60 (.bsl 1 [(.sl false [])] 1 [(0,(.tmp 59))]),qa 61 1 24 58 60,qm 7 61]))<|.region false [qm 27 8,qbi 28 .add 27 1,qm 8 28]
abbrev kL:List Nat:=[24,25,26,9,29,30,31,10,11,32,33,34,37,38,39,40,41,42,43,44,45,46,47,12,48,49,50,51,52,53,54,55,56,57,9,35,36,11,58,59,60,61,7,27,28,8]
abbrev rJ(g:String->Nat):ACode:=.seq (qS [qm 19 6,qm 20 4,qb 21 .lss 19 20]<|qC 21 (.skip) (.exit 0))<|.seq (.block 1 (qS [qmc 7 (.sl true [])]<|.seq (qS [qmc 8 (.int .i64 0)]<|.block 2 (.loop (kK g)))<|.region false [qf 62 0 3,ql 63 1 62,qm 64 7,qq 65 (.bsl 1 [(.sl false [])] 1 [(0,(.tmp 64))]),qa 66 1 24 63 65,qf 67 0 3,qs 1 67 66]))<|.region false [qm 22 6,qbi 23 .add 22 1,qm 6 23]
abbrev rK:List Nat:=[19,20,21,7,8,24,25,26,9,29,30,31,10,11,32,33,34,37,38,39,40,41,42,43,44,45,46,47,12,48,49,50,51,52,53,54,55,56,57,9,35,36,11,58,59,60,61,7,27,28,8,62,63,64,65,66,67,22,23,6]
def eU(g:String->Nat):AFn:=⟨69,[2,3,12,57,61,66],[.cell 2 1 true],qS [qq 2 (.alloc [(.sl true [])])]<|qS [qq 3 (.alloc [(.sl true [])])]<|qS [qm 13 0,qc 14 (g "(*dactyl/dactylref23.Maker).Take") [u 13,ui 2],qq 15 (.bin .add .no (ui 1) (u 14)),qm 4 15]<|qS [qm 16 0,qc 17 (g "(*dactyl/dactylref23.Maker).Take") [u 16,ui 3],qq 18 (.bin .add .no (ui 1) (u 17)),qm 5 18]<|.seq (qS [qmc 6 (.int .i64 0)]<|.block 0 (.loop (rJ g)))<|qS [qla 68 1 3,qs 1 2 68]<|.ret⟩
abbrev aVQ(b:List Note):Prop:=1<=b.length/\b.length<=4/\∀n∈b,n.Ok
abbrev aLm(h:List (List Note)):Prop:=1<=h.length/\h.length<=3/\∀b∈h,aVQ b
abbrev aKq(v:AV):Prop:=∃m:List (List (List Note)),v=.agg [.sl false (m.map cE)]/\1<=m.length/\m.length<=2/\∀h∈m,aLm h
theorem GSl.lendF{id k:Nat}{rows:List (List AV)}{v:AV}{o:AObj}(h:GSl id k rows v o)(hne:rows≠[])(hd:oC rows=true):
  ∃l o',(∀H,H[id]? = some o->aBT H v=some (.sl false rows,l))/\(∀H,H[id]? = some o->Go.AM.lend H v=some (.sl false rows,l))/\(∀H,H[id]? = some o->dL H l=H.set id o')/\(∀b wr,b<=id->bA b wr l=wr):=by
 obtain⟨ver,rfl,rfl⟩:=h.inv hne;obtain⟨f,l,o',h1,h2,h3⟩:=h.lend hd;cases h with
 |obj=>
  have key:∀H:List AObj,H[id]? = some (.vec ver k rows)->aBT H (.sr id ver rows.length)=some (.sl false rows,[id]):=by
   intro H ho
   show (match H[id]? with
    |some (.vec v' _ rows')=>if v'=ver/\rows'.length=rows.length/\rows'.all (fun r=>r.all AV.still)then some (AV.sl false rows',[id])else none
    |_=>none)=_
   rw[ho];simp only[aO hd,and_self,if_true]
  refine⟨[id],.gone ver,key,key,fun H ho => ?_,fun b wr hb => ?_⟩
  ·simp only[dL,ho];rfl
  ·unfold bA;rw[if_neg (by omega)]
   rfl
theorem aER{α β:Type}{f:α->β}{l:List α}(h:1<=l.length):l.map f≠[]:=by
 intro hn;have:=congrArg List.length hn;simp only[List.length_map,List.length_nil]at this;omega
theorem aH1{A:AProg}{g:String->Nat}(ht:fC A g){H:List AObj}{Q:AExit->bH->List AObj->List Nat->Prop}{tg}{l:List Int}(hl:gD l){o v:Nat}(hlt:o<H.length)
  {i:Int} {o0 o1 o2 o3 o4 o5:AObj} {c:Int} (hc0:1<=c) (hc1:c<=4) {ρ:bH} (e0:ρ 0=.ptr o v 0) (e10:ρ 10=vi c) (e9:ρ 9=.sl true []) (e11:ρ 11=vi 0)
  (hQ:∀ρ' i' o2 o3 (r:List Note),(∀t,kJ.contains t=false->ρ' t=ρ t)->aVQ r->GSl (H.length+3) 3 (r.map cK) (ρ' 9) o3->Q (.exit 4) ρ' (H.set o (.box v (aH l i'))++[o0,o1,o2,o3,o4,o5]) [o]):
  wl A 69 ⟨H.length,[2,3,12,57,61,66]⟩ (kI g) ρ (H.set o (.box v (aH l i))++[o0,o1,o2,o3,o4,o5]) [o] Q tg:=by
 refine bZ (W:=kJ) (fun j ρ1 H1 wr=>wr=[o]/\ρ1 11=vi j/\∃i' o2 o3,∃r:List Note,H1=H.set o (.box v (aH l i'))++[o0,o1,o2,o3,o4,o5]/\GSl (H.length+3) 3 (r.map cK) (ρ1 9) o3/\r.length=j/\∀a∈r,a.Ok) c.toNat
  (fun ρ1 H1 wr=>wr=[o]/\∃i' o2 o3,∃r:List Note,H1=H.set o (.box v (aH l i'))++[o0,o1,o2,o3,o4,o5]/\GSl (H.length+3) 3 (r.map cK) (ρ1 9) o3/\aVQ r)
  (by kernel_rfl) (by rfl) ⟨rfl,e11,i,o2,o3,[],rfl,by rw[e9];exact .nil _,rfl,by simp⟩ ?_ (by
   rintro ρ' H' wr' ⟨rfl,i',o2,o3,r,rfl,hg,hr⟩ hf;exact hQ ρ' i' o2 o3 r hf hr hg)
 rintro j ρ1 H1 wr1 hjl ⟨rfl,e11,i',o2,o3,r,rfl,hg,hrl,hro⟩ hf;have f0:ρ1 0=.ptr o v 0:=(hf 0 (by decide)).trans e0
 have f10:ρ1 10=vi c:=(hf 10 (by decide)).trans e10
 simp only[go_sem,seval,f10,e11];refine aD (fun hb => ?_) (fun hb => ?_)
 ·have hlt2:j<c.toNat:=by simp at hb;omega
  simp only[go_sem,seval,f0];refine aW (aU ht (m:=21) (by decide)) hl (i:=i') (by simp only[go_sem,seval,aI,hlt]) ?_
  rintro val i2 ⟨x,rfl,hx0,hx1⟩;have hwx:IntKind.i64.wrap (14+x)=14+x:=wrap_i64 (by omega) (by omega)
  simp only[go_sem,seval,hlt,aK,hwx];refine aW (aU ht (m:=5) (by decide)) hl (i:=i2) (by simp only[go_sem,seval,aI,hlt]) ?_
  rintro val i3 ⟨y,rfl,hy0,hy1⟩;simp only[go_sem,seval,hlt,aK];refine aW (aU ht (m:=5) (by decide)) hl (i:=i3) (by simp only[go_sem,seval,aI,hlt]) ?_
  rintro val i4 ⟨z,rfl,hz0,hz1⟩;obtain⟨n,hn,htab⟩:=aNg [0,0,0,-1,1] hz0 hz1;simp only[List.map,bD]at htab;have hnb : -1<=n/\n<=1:=by
   have:∀n∈([0,0,0,-1,1]:List Int),-1<=n/\n<=1:=by decide
   exact this _ hn
  simp only[go_sem,seval,hlt,aK,hz0,htab];refine aW (aU ht (m:=6) (by decide)) hl (i:=i4) (by simp only[go_sem,seval,aI,hlt]) ?_
  rintro val i5 ⟨w,rfl,hw0,hw1⟩;simp only[go_sem,seval,hlt,aK];refine aD (fun hb2 => ?_) (fun hb2 => ?_)
  ·obtain⟨v',o',hg',happ⟩:=hg.app (new:=[[vi (-1),vi y,vi 0]]) (bytes:=24) (by simp) (by rfl) (by rw[List.length_map,hrl];simp;omega)
   rw[show r.map cK++[[vi (-1),vi y,vi 0]]=(r++[Note.mk (-1) y 0]).map cK by simp[cK]]at hg'
   simp only[go_sem,seval,happ,e11];rw[dH (by omega)]
   refine⟨hlt2,rfl,i5,_,o',r++[Note.mk (-1) y 0],rfl,hg',by simp[hrl], ?_⟩
   intro a ha;rcases List.mem_append.1 ha with ha | ha
   ·exact hro a ha
   ·have:a=Note.mk (-1) y 0:=by simpa using ha
    subst this;exact⟨⟨by show -9223372036854775808<=(-1:Int);omega,by show (-1:Int)<=9223372036854775807;omega⟩,⟨by show -9223372036854775808<=y;omega,by show y<=9223372036854775807;omega⟩,⟨by show -9223372036854775808<=(0:Int);omega,by show (0:Int)<=9223372036854775807;omega⟩⟩
  ·obtain⟨v',o',hg',happ⟩:=hg.app (new:=[[vi (14+x),vi y,vi n]]) (bytes:=24) (by simp) (by rfl) (by rw[List.length_map,hrl];simp;omega)
   rw[show r.map cK++[[vi (14+x),vi y,vi n]]=(r++[Note.mk (14+x) y n]).map cK by simp[cK]]at hg'
   simp only[go_sem,seval,happ,e11];rw[dH (by omega)]
   refine⟨hlt2,rfl,i5,_,o',r++[Note.mk (14+x) y n],rfl,hg',by simp[hrl], ?_⟩
   intro a ha;rcases List.mem_append.1 ha with ha | ha
   ·exact hro a ha
   ·have:a=Note.mk (14+x) y n:=by simpa using ha
    subst this;exact⟨⟨by show -9223372036854775808<=(14+x:Int);omega,by show (14+x:Int)<=9223372036854775807;omega⟩,⟨by show -9223372036854775808<=y;omega,by show y<=9223372036854775807;omega⟩,⟨by show -9223372036854775808<=(n:Int);omega,by show (n:Int)<=9223372036854775807;omega⟩⟩
 ·have hlt2:j=c.toNat:=by simp at hb;omega
  subst hlt2;simp only[go_sem,seval];exact⟨i',o2,o3,r,rfl,hg,by omega,by omega,hro⟩
theorem aIs{A:AProg}{g:String->Nat}(ht:fC A g){H:List AObj}{Q:AExit->bH->List AObj->List Nat->Prop}{tg}{l:List Int}(hl:gD l){o v:Nat}(hlt:o<H.length)
  {i:Int} {o0 o1 o2 o3 o4 o5:AObj} {c:Int} (hc0:1<=c) (hc1:c<=3) {ρ:bH} (e0:ρ 0=.ptr o v 0) (e5:ρ 5=vi c) (e7:ρ 7=.sl true []) (e8:ρ 8=vi 0)
  (hQ:∀ρ' i' o2 o3 o4 (r:List (List Note)),(∀t,kL.contains t=false->ρ' t=ρ t)->aLm r->GSl (H.length+4) 1 (r.map gS) (ρ' 7) o4->Q (.exit 2) ρ' (H.set o (.box v (aH l i'))++[o0,o1,o2,o3,o4,o5]) [o]):
  wl A 69 ⟨H.length,[2,3,12,57,61,66]⟩ (kK g) ρ (H.set o (.box v (aH l i))++[o0,o1,o2,o3,o4,o5]) [o] Q tg:=by
 refine bZ (W:=kL) (fun j ρ1 H1 wr=>wr=[o]/\ρ1 8=vi j/\∃i' o2 o3 o4,∃r:List (List Note),H1=H.set o (.box v (aH l i'))++[o0,o1,o2,o3,o4,o5]/\GSl (H.length+4) 1 (r.map gS) (ρ1 7) o4/\r.length=j/\∀a∈r,aVQ a) c.toNat
  (fun ρ1 H1 wr=>wr=[o]/\∃i' o2 o3 o4,∃r:List (List Note),H1=H.set o (.box v (aH l i'))++[o0,o1,o2,o3,o4,o5]/\GSl (H.length+4) 1 (r.map gS) (ρ1 7) o4/\aLm r)
  (by kernel_rfl) (by rfl) ⟨rfl,e8,i,o2,o3,o4,[],rfl,by rw[e7];exact .nil _,rfl,by simp⟩ ?_ (by
   rintro ρ' H' wr' ⟨rfl,i',o2,o3,o4,r,rfl,hg,hr⟩ hf;exact hQ ρ' i' o2 o3 o4 r hf hr hg)
 rintro j ρ1 H1 wr1 hjl ⟨rfl,e8,i',o2,o3,o4,r,rfl,hg,hrl,hro⟩ hf;have f0:ρ1 0=.ptr o v 0:=(hf 0 (by decide)).trans e0
 have f5:ρ1 5=vi c:=(hf 5 (by decide)).trans e5
 simp only[go_sem,seval,f5,e8];refine aD (fun hb => ?_) (fun hb => ?_)
 ·have hlt2:j<c.toNat:=by simp at hb;omega
  simp only[go_sem,seval,f0];refine aW (aU ht (m:=4) (by decide)) hl (i:=i') (by simp only[go_sem,seval,aI,hlt]) ?_
  rintro val i2 ⟨x,rfl,hx0,hx1⟩;have hwx:IntKind.i64.wrap (1+x)=1+x:=wrap_i64 (by omega) (by omega)
  simp only[go_sem,seval,hlt,aK,hwx];refine aH1 ht hl hlt (c:=1+x) (by omega) (by omega) (by simp only[go_sem,seval,f0]) (by simp only[go_sem,seval]) (by simp only[go_sem,seval]) (by simp only[go_sem,seval]) ?_
  intro ρ2 i4 o2' o3' b hf2 hb2 hg2;have g7:ρ2 7=ρ1 7:=by rw[hf2 7 (by decide)];simp only[go_sem,seval]
  have g8:ρ2 8=vi j:=by rw[hf2 8 (by decide)];simp only[go_sem,seval,e8]
  obtain⟨lf,o3'',h1,h2,hgo,haw⟩:=hg2.lendF (aER hb2.1) (aB aBw _);obtain⟨v',o',hg',happ⟩:=hg.app (new:=[[.sl false (b.map cK)]]) (bytes:=24) (by simp) (by rfl) (by rw[List.length_map,hrl];simp;omega)
  rw[show r.map gS++[[.sl false (b.map cK)]]=(r++[b]).map gS by simp[gS]]at hg'
  simp only[go_sem,seval,g7,g8,h2,hgo,haw,happ];rw[dH (by omega)]
  refine⟨hlt2,rfl,i4,o2',o3'',o',r++[b],rfl,hg',by simp[hrl], ?_⟩
  intro a ha;rcases List.mem_append.1 ha with ha | ha
  ·exact hro a ha
  ·have:a=b:=by simpa using ha
   subst this;exact hb2
 ·have hlt2:j=c.toNat:=by simp at hb;omega
  subst hlt2;simp only[go_sem,seval];exact⟨i',o2,o3,o4,r,rfl,hg,by omega,by omega,hro⟩
theorem aLn{A:AProg}{g:String->Nat}(h:Has A g "(*dactyl/dactylref23.Maker).Melody" (eU g))(ht:fC A g):cX A (g "(*dactyl/dactylref23.Maker).Melody") [] aKq:=by
 refine h.gen (by simp[eU]) (fun n=>by kernel_rfl) ?_
 intro l i o v H hl hlt ho;simp only[eU];simp only[go_sem,seval];refine aW (aU ht (m:=2) (by decide)) hl (i:=i) (by simp only[go_sem,seval,gQ,hlt,ho]) ?_
 rintro val i1 ⟨x,rfl,hx0,hx1⟩;have hwx:IntKind.i64.wrap (1+x)=1+x:=wrap_i64 (by omega) (by omega)
 simp only[go_sem,seval,hlt,gH,hwx];refine aW (aU ht (m:=3) (by decide)) hl (i:=i1) (by simp only[go_sem,seval,aI,hlt]) ?_
 rintro val i2 ⟨y,rfl,hy0,hy1⟩;have hwy:IntKind.i64.wrap (1+y)=1+y:=wrap_i64 (by omega) (by omega)
 simp only[go_sem,seval,hlt,aK,hwy];refine bZ (id:=0) (W:=rK) (fun j ρ1 H1 wr=>wr=[o]/\ρ1 6=vi j/\∃i' o2 o3 o4 o5 w,∃rows:List (List (List Note)),H1=H.set o (.box v (aH l i'))++[.box 1 [.sl true []],.box 1 [w],o2,o3,o4,o5]/\GSl (H.length+5) 1 (rows.map cE) w o5/\rows.length=j/\∀a∈rows,aLm a) (1+x).toNat
  (fun ρ1 H1 wr=>wr=[o]/\∃i' o2 o3 o4 o5 w,∃rows:List (List (List Note)),H1=H.set o (.box v (aH l i'))++[.box 1 [.sl true []],.box 1 [w],o2,o3,o4,o5]/\GSl (H.length+5) 1 (rows.map cE) w o5/\rows.length=(1+x).toNat/\∀a∈rows,aLm a)
  (by kernel_rfl) (by rfl) ⟨by simp only[go_sem,seval],by simp only[go_sem,seval],i2,.gone 0,.gone 0,.gone 0,.gone 0,.sl true [],[],rfl,.nil _,rfl,by simp⟩ ?_ ?_
 ·rintro j ρ1 H1 wr1 hjl ⟨rfl,e6,i',o2,o3,o4,o5,w,rows,rfl,hg,hrl,hro⟩ hf;have e0:ρ1 0=.ptr o v 0:=by rw[hf 0 (by decide)];simp only[go_sem,seval]
  have e3:ρ1 3=.ptr (H.length+1) 1 0:=by rw[hf 3 (by decide)];simp only[go_sem,seval]
  have e4:ρ1 4=vi (1+x):=by rw[hf 4 (by decide)];simp only[go_sem,seval]
  have e5:ρ1 5=vi (1+y):=by rw[hf 5 (by decide)];simp only[go_sem,seval]
  simp only[go_sem,seval,e4,e6];refine aD (fun hb => ?_) (fun hb => ?_)
  ·have hlt2:j<(1+x).toNat:=by simp at hb;omega
   simp only[go_sem,seval];refine aIs ht hl hlt (c:=1+y) (by omega) (by omega) (by simp only[go_sem,seval,e0]) (by simp only[go_sem,seval,e5]) (by simp only[go_sem,seval]) (by simp only[go_sem,seval]) ?_
   intro ρ2 i4 o2' o3' o4' r hf2 hr hg2;have g3:ρ2 3=.ptr (H.length+1) 1 0:=by rw[hf2 3 (by decide)];simp only[go_sem,seval,e3]
   have g6:ρ2 6=vi j:=by rw[hf2 6 (by decide)];simp only[go_sem,seval,e6]
   obtain⟨lf,o4'',h1,h2,hgo,haw⟩:=hg2.lendF (aER hr.1) (aB aDv _);obtain⟨v',o',hg',happ⟩:=hg.app (new:=[[.sl false (r.map gS)]]) (bytes:=24) (by simp) (by rfl) (by rw[List.length_map,hrl];simp;omega)
   rw[show rows.map cE++[[.sl false (r.map gS)]]=(rows++[r]).map cE by simp[cE]]at hg'
   simp only[go_sem,seval,g3,g6,h2,hgo,haw,happ,hg'.strip1,hg'.cellOk];rw[dH (by omega)]
   refine⟨hlt2,rfl,i4,o2',o3',o4'',o',v',rows++[r],rfl,hg',by simp[hrl], ?_⟩
   intro a ha;rcases List.mem_append.1 ha with ha | ha
   ·exact hro a ha
   ·have:a=r:=by simpa using ha
    subst this;exact hr
  ·have hlt2:j=(1+x).toNat:=by simp at hb;omega
   subst hlt2;simp only[go_sem,seval];exact⟨i',o2,o3,o4,o5,w,rows,rfl,hg,hrl,hro⟩
 ·rintro ρ2 H2 wr2 ⟨rfl,i',o2,o3,o4,o5,w,rows,rfl,hg,hrl,hro⟩ hf;have e2:ρ2 2=.ptr H.length 1 0:=by rw[hf 2 (by decide)];simp only[go_sem,seval]
  have e3:ρ2 3=.ptr (H.length+1) 1 0:=by rw[hf 3 (by decide)];simp only[go_sem,seval]
  obtain⟨ver,e4,rfl⟩:=hg.inv (aER (by omega))
  simp only[go_sem,seval,e2,e3,e4,hlt,aO (aB cL _),aA (aB cL _),aA (aB aP _),aS];exact⟨⟨i',rfl⟩,rows,rfl,by omega,by omega,hro⟩
def kU(g:String->Nat):ACode:=.block 0 (qS [qbi 13 .eql 8 0,qm 12 13]<|qC 12 (qR [qm 14 0,qc 15 (g "(*dactyl/dactylref23.Maker).Runs") [u 14],qf 16 1 5,qs 1 16 15]) (qS [qbi 18 .eql 8 1,qm 17 18]<|qC 17 (qR [qm 19 0,qc 20 (g "(*dactyl/dactylref23.Maker).Expr") [u 19,ui 3],qf 21 2 5,qs 3 21 20]) (qS [qbi 23 .eql 8 2,qm 22 23]<|qC 22 (qR [qm 24 0,qc 25 (g "(*dactyl/dactylref23.Maker).Sum") [u 24],qf 26 5 5,qs 2 26 25]) (qS [qbi 28 .eql 8 3,qm 27 28]<|qC 27 (qR [qm 29 0,qc 30 (g "(*dactyl/dactylref23.Maker).Grid") [u 29],qf 31 7 5,qs 1 31 30]) (qS [qbi 33 .eql 8 4,qm 32 33]<|qC 32 (qR [qm 34 0,qc 35 (g "(*dactyl/dactylref23.Maker).Figure") [u 34],qf 36 8 5,qs 3 36 35]) (qS [qbi 38 .eql 8 5,qm 37 38]<|qC 37 (qR [qm 39 0,qc 40 (g "(*dactyl/dactylref23.Maker).Melody") [u 39],qf 41 11 5,qs 1 41 40]) (qR [qm 9 0,qc 10 (g "(*dactyl/dactylref23.Maker).Lines") [u 9],qf 11 12 5,qs 1 11 10])))))))
def fE(g:String->Nat):AFn:=⟨43,[4,5],[.cell 4 13 true],qS [qq 4 (.alloc [(.int .i64 0),(.sl true []),(.int .i64 0),(.int .i64 0),(.sl true []),(.int .i64 0),(.sl true []),(.sl true []),(.int .i64 0),(.int .i64 0),(.sl true []),(.sl true []),(.sl true [])])]<|qS [qm 6 1,qq 7 (.build [(.int .i64 0),(.sl true []),(.int .i64 0),(.int .i64 0),(.sl true []),(.int .i64 0),(.sl true []),(.sl true []),(.int .i64 0),(.int .i64 0),(.sl true []),(.sl true []),(.sl true [])] [(0,1,(.tmp 6))]),qq 5 (.alloc [(.int .i64 0),(.sl true []),(.int .i64 0),(.int .i64 0),(.sl true []),(.int .i64 0),(.sl true []),(.sl true []),(.int .i64 0),(.int .i64 0),(.sl true []),(.sl true []),(.sl true [])]),qs 13 5 7]<|.seq (qS [qm 8 1]<|kU g)<|qS [qla 42 13 5,qs 13 4 42]<|.ret⟩
abbrev SOk(a:Shape):Prop:=a.Ok/\0<=a.kind/\a.kind<=2
abbrev aKr(v:AV):Prop:=∃(w h:Int) (s:List Shape),v=.agg [vi w,vi h,.sl false (s.map bB)]/\dN w/\dN h/\2<=s.length/\s.length<=4/\∀a∈s,SOk a
structure Slack(b:Block):Prop where
 runs:b.runs.length<=3
 sumA:b.sumA.length<=3
 size:iN b.expr<=900
 kids:∀op n ks,b.expr=.mk op n ks->ks.length<=2
theorem aA4{b:Block}(h1:b.runs.length<=3)(h2:b.sumA.length<=3)(h3:b.expr=.mk 0 0 []):Slack b:=
 ⟨h1,h2,by rw[h3];decide,fun op n ks e=>by rw[h3]at e;cases e;decide⟩
theorem aLo{b:Block}(h1:b.runs.length<=3)(h2:b.sumA.length<=3){e:Expr}(h3:b.expr=e)(hd:Deep 4 e):Slack b:=
 ⟨h1,h2,by rw[h3];have:=hd.ok.2;omega,fun op n ks h=>by rw[h3]at h;subst h;cases hd;assumption⟩
structure Fit(b:Block):Prop where
 expr:Deep 4 b.expr
 sumOp:0<=b.sumOp/\b.sumOp<=10
 shapes:∀a∈b.shapes,0<=a.kind/\a.kind<=2
theorem aES:Deep 4 (.mk 0 0 []):=.mk _ _ _ _ (by decide) (by decide) (by simp) (by simp) (.inl ⟨rfl,by decide⟩)
theorem aKs{b:Block}(h1:b.expr=.mk 0 0 [])(h2:b.sumOp=0)(h3:b.shapes=[]):Fit b:=
 ⟨by rw[h1];exact aES,by rw[h2];decide,by rw[h3];simp⟩
structure MBlock(b:Block):Prop where
 ok:b.Ok
 lens:b.shapes.length<=4/\b.grid.length<=3/\b.hands.length<=2/\b.lines.length<=3
 figure:b.kind=4->2<=b.shapes.length
 grid:b.kind=3->1<=b.grid.length/\∀r∈b.grid,aG8 r
 music:b.kind=5->1<=b.hands.length/\∀h∈b.hands,aLm h
 listing:b.kind=6->1<=b.lines.length
 slack:Slack b
 fit:Fit b
abbrev aJu(k:Int)(v:AV):Prop:=∃b:Block,v=.agg (aE b)/\b.kind=k/\MBlock b
def cM(k:Int):Block:=⟨k,[],.mk 0 0 [],0,[],[],0,0,[],[],[]⟩
theorem aB6:dN 0:=by constructor<;>decide
theorem aNn:(Expr.mk 0 0 []).Ok:=.mk _ _ _ aB6 aB6 (by simp) (by simp)
theorem nP{k:Int}(hk:dN k):(cM k).Ok:=by
 constructor<;>first | exact hk | exact aB6 | exact aNn | (simp[cM,iN,cP];done)
set_option maxHeartbeats 3200000 in
theorem aNo{A:AProg}{g:String->Nat}(h:Has A g "(*dactyl/dactylref23.Maker).Block" (fE g))
  (hr:cX A (g "(*dactyl/dactylref23.Maker).Runs") [] aNj) (he:cX A (g "(*dactyl/dactylref23.Maker).Expr") [vi 3] (aD5 4)) (hs:cX A (g "(*dactyl/dactylref23.Maker).Sum") [] aRR)
  (hg:cX A (g "(*dactyl/dactylref23.Maker).Grid") [] aPZ) (hf:cX A (g "(*dactyl/dactylref23.Maker).Figure") [] aKr) (hm:cX A (g "(*dactyl/dactylref23.Maker).Melody") [] aKq)
  (hn:cX A (g "(*dactyl/dactylref23.Maker).Lines") [] aNk) {k:Int} (hk0:0<=k) (hk1:k<7):cX A (g "(*dactyl/dactylref23.Maker).Block") [vi k] (aJu k):=by
 refine h.gen (by simp[fE]) (fun n=>by kernel_rfl) ?_
 intro l i o v H hl hlt ho;have hko:dN k:=bU hk0 (by omega)
 have hcs:k=0∨k=1∨k=2∨k=3∨k=4∨k=5∨k=6:=by omega
 simp only[fE,kU];rcases hcs with rfl | rfl | rfl | rfl | rfl | rfl | rfl
 ·simp only[go_sem,seval];refine aW hr hl (i:=i) (by simp only[go_sem,seval,gQ,hlt,ho]) ?_
  rintro val i1 ⟨r,rfl,hr1,hr2,hr3⟩;simp only[go_sem,seval,hlt,gH,aS,aA (aB bT _),aA (aB aP _)];exact⟨⟨i1,rfl⟩,{ cM 0 with runs:=r },by simp[aE,cM,aF,gB],rfl,{ nP hko with lenR:=by show r.length<=16;omega,runs:=fun a h=>(hr3 a h).1 },by simp[cM],fun hh=>absurd (show (0:Int)=4 from hh) (by decide),fun hh=>absurd (show (0:Int)=3 from hh) (by decide),fun hh=>absurd (show (0:Int)=5 from hh) (by decide),fun hh=>absurd (show (0:Int)=6 from hh) (by decide),aA4 hr2 (by simp[cM]) rfl,aKs rfl rfl rfl⟩
 ·simp only[go_sem,seval];refine aW he hl (i:=i) (by simp only[go_sem,seval,gQ,hlt,ho]) ?_
  rintro val i1 ⟨⟨op,n,kids⟩,rfl,hd⟩;simp only[aF,aZ];simp only[go_sem,seval,hlt,gH,aS,aA (aB aQ _),aA (aB aP _)];exact⟨⟨i1,rfl⟩,{ cM 1 with expr:=.mk op n kids },by simp[aE,cM,aF,aZ],rfl,{ nP hko with expr:=hd.ok.1,size:=by have:=hd.ok.2;show iN (.mk op n kids)<=1000;omega },by simp[cM],fun hh=>absurd (show (1:Int)=4 from hh) (by decide),fun hh=>absurd (show (1:Int)=3 from hh) (by decide),fun hh=>absurd (show (1:Int)=5 from hh) (by decide),fun hh=>absurd (show (1:Int)=6 from hh) (by decide),aLo (by simp[cM]) (by simp[cM]) rfl hd,⟨hd,by simp[cM],by simp[cM]⟩⟩
 ·simp only[go_sem,seval];refine aW hs hl (i:=i) (by simp only[go_sem,seval,gQ,hlt,ho]) ?_
  rintro val i1 ⟨op,a,rfl,ha1,ha2,ha3,ha4⟩;simp only[go_sem,seval,hlt,gH,aS,aA (aB aP _)];exact⟨⟨i1,rfl⟩,{ cM 2 with sumOp:=op,sumA:=a },by simp[aE,cM,aF,gB],rfl,{ nP hko with sumOp:=ha1,lenA:=by show a.length<=16;omega,sumA:=ha3 },by simp[cM],fun hh=>absurd (show (2:Int)=4 from hh) (by decide),fun hh=>absurd (show (2:Int)=3 from hh) (by decide),fun hh=>absurd (show (2:Int)=5 from hh) (by decide),fun hh=>absurd (show (2:Int)=6 from hh) (by decide),aA4 (by simp[cM]) ha2 rfl,⟨aES,ha4,by simp[cM]⟩⟩
 ·simp only[go_sem,seval];refine aW hg hl (i:=i) (by simp only[go_sem,seval,gQ,hlt,ho]) ?_
  rintro val i1 ⟨r,rfl,hr1,hr2,hr3⟩;simp only[go_sem,seval,hlt,gH,aS,aA (aB cR _),aA (aB aP _)];exact⟨⟨i1,rfl⟩,{ cM 3 with grid:=r },by simp[aE,cM,aF,gB],rfl,{ nP hko with lenG:=by show r.length<=16;omega,grid:=fun x hx=>⟨by have:=(hr3 x hx).2.1;omega,fun s hs=>by have:=(hr3 x hx).2.2 s hs;show s.length<=1000;omega⟩ },by simp[cM];omega,fun hh=>absurd (show (3:Int)=4 from hh) (by decide),fun _=>⟨hr1,hr3⟩,fun hh=>absurd (show (3:Int)=5 from hh) (by decide),fun hh=>absurd (show (3:Int)=6 from hh) (by decide),aA4 (by simp[cM]) (by simp[cM]) rfl,aKs rfl rfl rfl⟩
 ·simp only[go_sem,seval];refine aW hf hl (i:=i) (by simp only[go_sem,seval,gQ,hlt,ho]) ?_
  rintro val i1 ⟨w,h,s,rfl,hw,hh,hs1,hs2,hs3⟩;simp only[go_sem,seval,hlt,gH,aS,aA (aB bR _),aA (aB aP _)];exact⟨⟨i1,rfl⟩,{ cM 4 with w:=w,h:=h,shapes:=s },by simp[aE,cM,aF,gB],rfl,{ nP hko with w:=hw,h:=hh,lenS:=by show s.length<=16;omega,shapes:=fun a ha=>(hs3 a ha).1 },by simp[cM];omega,fun _=>hs1,fun hh=>absurd (show (4:Int)=3 from hh) (by decide),fun hh=>absurd (show (4:Int)=5 from hh) (by decide),fun hh=>absurd (show (4:Int)=6 from hh) (by decide),aA4 (by simp[cM]) (by simp[cM]) rfl,⟨aES,by simp[cM],fun a ha=>(hs3 a ha).2⟩⟩
 ·simp only[go_sem,seval];refine aW hm hl (i:=i) (by simp only[go_sem,seval,gQ,hlt,ho]) ?_
  rintro val i1 ⟨m,rfl,hm1,hm2,hm3⟩;simp only[go_sem,seval,hlt,gH,aS,aA (aB cL _),aA (aB aP _)];exact⟨⟨i1,rfl⟩,{ cM 5 with hands:=m },by simp[aE,cM,aF,gB],rfl,{ nP hko with lenH:=by show m.length<=16;omega,hands:=fun x hx=>⟨by have:=(hm3 x hx).2.1;omega,fun y hy=>⟨by have:=((hm3 x hx).2.2 y hy).2.1;omega,((hm3 x hx).2.2 y hy).2.2⟩⟩ },by simp[cM];omega,fun hh=>absurd (show (5:Int)=4 from hh) (by decide),fun hh=>absurd (show (5:Int)=3 from hh) (by decide),fun _=>⟨hm1,hm3⟩,fun hh=>absurd (show (5:Int)=6 from hh) (by decide),aA4 (by simp[cM]) (by simp[cM]) rfl,aKs rfl rfl rfl⟩
 ·simp only[go_sem,seval];refine aW hn hl (i:=i) (by simp only[go_sem,seval,gQ,hlt,ho]) ?_
  rintro val i1 ⟨r,rfl,hr1,hr2,hr3⟩;simp only[go_sem,seval,hlt,gH,aS,aA (aB bL _),aA (aB aP _)];exact⟨⟨i1,rfl⟩,{ cM 6 with lines:=r },by simp[aE,cM,aF,gB],rfl,{ nP hko with lenL:=by show r.length<=16;omega,lines:=fun s hs=>by have:=hr3 s hs;show s.length<=1000;omega },by simp[cM];omega,fun hh=>absurd (show (6:Int)=4 from hh) (by decide),fun hh=>absurd (show (6:Int)=3 from hh) (by decide),fun hh=>absurd (show (6:Int)=5 from hh) (by decide),fun _=>hr1,aA4 (by simp[cM]) (by simp[cM]) rfl,aKs rfl rfl rfl⟩
end Go.AM
end
