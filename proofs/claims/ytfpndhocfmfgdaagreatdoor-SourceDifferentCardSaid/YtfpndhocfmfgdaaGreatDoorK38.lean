/- Part 38: lemmas for the last text. -/
import Derived.Test.YtfpndhocfmfgdaaGreatDoorK24
import Derived.Test.YtfpndhocfmfgdaaGreatDoorK36
import Derived.Test.YtfpndhocfmfgdaaGreatDoorK37
set_option linter.unusedVariables false
set_option linter.unusedSimpArgs false
section
set_option maxRecDepth 8000
namespace Go.AM
open Go
def kV(g:String->Nat):ACode:=.block 0 (qS [qbi 22 .eql 8 0,qm 21 22]<|qC 21 (qR [qm 23 2,qc 24 (g "dactyl/dactylref01.Around") [u 23,ui 9],qbi 25 .sub 24 1,qf 26 0 3,qs 1 26 25]) (qS [qbi 28 .eql 8 1,qm 27 28]<|qC 27 (qR [qq 29 (.bsl 2 [(.int .i64 0),(.str [])] 0 []),qf 30 1 3,ql 31 1 30,qa 32 2 24 29 31,qm 33 2,qc 34 (g "dactyl/dactylref01.Around") [u 33,ui 4],qbi 35 .sub 34 1,qq 36 (.bsl 1 [(.str [])] 4 [(0,(.const (.str []))),(1,(.const (.str [120]))),(2,(.const (.str [10]))),(3,(.const (.str [126])))]),qm 37 2,qc 38 (g "dactyl/dactylref01.Around") [u 37,ui 4],qi 39 36 38 1,ql 40 1 39,qq 41 (.build [(.int .i64 0),(.str [])] [(0,1,(.tmp 35)),(1,1,(.tmp 40))]),qq 42 (.bsl 2 [(.int .i64 0),(.str [])] 1 [(0,(.tmp 41))]),qa 43 2 24 32 42,qf 44 1 3,qs 1 44 43]) (qS [qbi 46 .eql 8 2,qm 45 46]<|qC 45 (qR [qq 47 (.bsl 3 [(.int .i64 0),(.int .i64 0),(.sl false [])] 0 []),qf 48 2 3,qf 49 2 48,ql 50 1 49,qa 51 3 40 47 50,qm 52 2,qq 53 (.build [(.int .i64 0),(.int .i64 0),(.sl true [])] [(1,1,(.tmp 52))]),qq 54 (.bsl 3 [(.int .i64 0),(.int .i64 0),(.sl false [])] 1 [(0,(.tmp 53))]),qa 55 3 40 51 54,qf 56 2 3,qf 57 2 56,qs 1 57 55]) (qS [qbi 59 .eql 8 3,qm 58 59]<|qC 58 (qR [qq 60 (.bsl 1 [(.int .i64 0)] 0 []),qf 61 5 3,qf 62 1 61,ql 63 1 62,qa 64 1 8 60 63,qq 65 (.bsl 1 [(.int .i64 0)] 4 [(0,(.const (.int .i64 (-1)))),(1,(.const (.int .i64 0))),(2,(.const (.int .i64 999999))),(3,(.const (.int .i64 1000000)))]),qm 66 2,qc 67 (g "dactyl/dactylref01.Around") [u 66,ui 4],qi 68 65 67 1,ql 69 1 68,qq 70 (.bsl 1 [(.int .i64 0)] 1 [(0,(.tmp 69))]),qa 71 1 8 64 70,qf 72 5 3,qf 73 1 72,qs 1 73 71]) (qS [qbi 75 .eql 8 4,qm 74 75]<|qC 74 (qR [qq 76 (.bsl 1 [(.sl false [])] 0 []),qf 77 7 3,qf 78 0 77,ql 79 1 78,qa 80 1 24 76 79,qq 81 (.bsl 1 [(.str [])] 2 [(0,(.const (.str [97]))),(1,(.const (.str [50,49,32,98,121,116,101,115,32,97,114,101,32,116,111,111,32,109,117,99,104,46])))]),qm 82 2,qc 83 (g "dactyl/dactylref01.Around") [u 82,ui 3],qq 84 (.sliceV 1 (u 81) none (some (.tmp 83)) none),qq 85 (.bsl 1 [(.sl false [])] 1 [(0,(.tmp 84))]),qa 86 1 24 80 85,qf 87 7 3,qf 88 0 87,qs 1 88 86]) (qS [qbi 90 .eql 8 5,qm 89 90]<|qC 89 (qR [qq 91 (.bsl 1 [(.int .i64 0)] 4 [(0,(.const (.int .i64 0))),(1,(.const (.int .i64 1))),(2,(.const (.int .i64 1000))),(3,(.const (.int .i64 1001)))]),qm 92 2,qc 93 (g "dactyl/dactylref01.Around") [u 92,ui 4],qi 94 91 93 1,ql 95 1 94,qf 96 8 3,qf 97 0 96,qs 1 97 95]) (qS [qbi 99 .eql 8 6,qm 98 99]<|qC 98 (qR [qq 100 (.bsl 1 [(.sl false [])] 0 []),qf 101 11 3,qf 102 0 101,ql 103 1 102,qa 104 1 24 100 103,qm 105 2,qc 106 (g "dactyl/dactylref01.Around") [u 105,ui 52],qbi 107 .sub 106 2,qq 108 (.build [(.int .i64 0),(.int .i64 0),(.int .i64 0)] [(0,1,(.tmp 107))]),qq 109 (.bsl 3 [(.int .i64 0),(.int .i64 0),(.int .i64 0)] 1 [(0,(.tmp 108))]),qq 110 (.bsl 1 [(.sl false [])] 1 [(0,(.tmp 109))]),qq 111 (.bsl 1 [(.sl false [])] 1 [(0,(.tmp 110))]),qa 112 1 24 104 111,qf 113 11 3,qf 114 0 113,qs 1 114 112]) (qR [qq 9 (.bsl 1 [(.str [])] 0 []),qf 10 12 3,ql 11 1 10,qa 12 1 16 9 11,qq 13 (.bsl 1 [(.str [])] 3 [(0,(.const (.str []))),(1,(.const (.str [120]))),(2,(.const (.str [9])))]),qm 14 2,qc 15 (g "dactyl/dactylref01.Around") [u 14,ui 3],qi 16 13 15 1,ql 17 1 16,qq 18 (.bsl 1 [(.str [])] 1 [(0,(.tmp 17))]),qa 19 1 16 12 18,qf 20 12 3,qs 1 20 19]))))))))
def fF(g:String->Nat):AFn:=⟨116,[3,6,32,43,51,55,64,71,80,86,104,112,12,19],[.cell 6 13 true],qS [qx 3 13 0,qq 6 (.alloc [(.int .i64 0),(.sl true []),(.int .i64 0),(.int .i64 0),(.sl true []),(.int .i64 0),(.sl true []),(.sl true []),(.int .i64 0),(.int .i64 0),(.sl true []),(.sl true []),(.sl true [])])]<|.seq (qS [qm 7 1,qc 8 (g "dactyl/dactylref01.Around") [u 7,ui 8]]<|kV g)<|qS [qla 115 13 3,qs 13 6 115]<|.ret⟩
structure BSlack(b:Block):Prop where
 runs:b.runs.length<=15
 kids:∀op n ks,b.expr=.mk op n ks->ks.length<=15
 size:iN b.expr<=999
 sumA:b.sumA.length<=15
 grid:b.grid.length<=15
 hands:b.hands.length<=15
 lines:b.lines.length<=15
 fit:Fit b
theorem MBlock.bslack{b:Block}(h:MBlock b):BSlack b:=by
 obtain⟨h1,h2,h3,h4⟩:=h.slack;obtain⟨k1,k2,k3,k4⟩:=h.lens;exact⟨by omega,fun op n ks e=>by have:=h4 op n ks e;omega,by omega,by omega,by omega,by omega,by omega,h.fit⟩
theorem aG9:∀(l:List Expr) (e:Expr),cP (l++[e])=cP l+iN e
 | [],e=>by simp[cP]
 |a::l,e=>by rw[List.cons_append,cP,cP,aG9 l e];omega
set_option maxHeartbeats 6400000 in
theorem aIw{A:AProg}{g:String->Nat}(h:Has A g "dactyl/dactylref23.spoiltBlock" (fF g))(ha:nO A g){b:Block}(hq:b.Ok)(hs:BSlack b){how by':Int}(hby:dN by')(H:List AObj):
  ∃v H' wr,aL A (g "dactyl/dactylref23.spoiltBlock") [.agg (aE b),vi how,vi by'] H=some (v,H',wr)/\(H'=H/\wr=[]/\∃b1:Block,v=.agg (aE b1)/\b1.Ok):=by
 refine h.callEx (by simp[fF]) (by kernel_rfl) ?_
 have fin:∀b1:Block,b1.Ok->∀v:AV,v=.agg (aE b1)->∃b2:Block,v=.agg (aE b2)/\b2.Ok:=fun b1 h v e=>⟨b1,e,h⟩;have hl1:=hs.runs;have hl3:=hs.sumA;have hl4:=hs.grid;have hl6:=hs.hands;have hl7:=hs.lines;cases hbe:b.expr with | mk op n kids=>
 have hl2:=hs.kids op n kids hbe;have hex:=hq.expr;have hsz:=hs.size;rw[hbe]at hex hsz;obtain⟨x1,x2,x3,x4⟩:dN op/\dN n/\kids.length<=16/\∀e∈kids,Expr.Ok e:=by cases hex;exact⟨by assumption,by assumption,by assumption,by assumption⟩
 rw[iN]at hsz;simp only[fF,kV];have h9:=mI (c:=1) hby (m:=9) (by decide) (by decide) (by decide) (by decide)
 have h4:=mI (c:=1) hby (m:=4) (by decide) (by decide) (by decide) (by decide)
 have h52:=mI (c:=2) hby (m:=52) (by decide) (by decide) (by decide) (by decide)
 obtain⟨k1,k2⟩:=kB hby (m:=4) (by decide)
 simp only[go_sem,seval,aE,hbe,aF,aZ,ha how];refine aD (fun hb => ?_) (fun hb => ?_)
 ·simp only[go_sem,seval,ha by',h9.1,aA (aB bT _),aA (aB aQ _),aA (aB bL _),aA (aB aP _),aA (aB cR _),aA (aB bR _),aA (aB cL _)]
  exact fin { b with kind:=around by' 9 - 1 } { hq with kind:=h9.2 } _ (by simp[aE,hbe,aF,aZ])
 simp only[go_sem,seval];refine aD (fun hb => ?_) (fun hb => ?_)
 ·obtain⟨t,htm,htab⟩:=aNh [[],[120],[10],[126]] k1 k2;simp only[List.map,aN]at htab;have htl:mF t:=by
   have:∀s∈([[],[120],[10],[126]]:List Str),mF s:=by decide
   exact this t htm
  have ho:({ b with runs:=b.runs++[Run.mk (around by' 4 - 1) t]:Block }).Ok:={ hq with lenR:=tU hl1,runs:=pF hq.runs ⟨h4.2,htl⟩ }
  have hm:∀l,l.map cW++[cW (Run.mk (around by' 4 - 1) t)]=(l++[Run.mk (around by' 4 - 1) t]).map cW:=fun l=>by simp
  simp only[cW]at hm;cases hoe:b.runs with
  |nil=>
   rw[hoe]at ho;simp only[go_sem,seval,ha by',h4.1,k1,htab,bV,aA (aB aQ _),aA (aB bL _),aA (aB aP _),aA (aB cR _),aA (aB bR _),aA (aB cL _)]
   exact fin _ ho _ (by simp[aE,hbe,aF,aZ,cW])
  |cons a r=>
   rw[hoe]at ho hl1;have hr1:bP (r.length+1) 24=true:=bV (by simp at hl1 ⊢;omega) (by decide)
   have hr2:bP (r.length+1+1) 24=true:=bV (by simp at hl1 ⊢;omega) (by decide)
   have hln:(cW a).length=2:=by first | rfl | exact dC a
   have hst:(cW a).all AV.still=true:=bK (bT a);simp only[go_sem,seval,ha by',h4.1,k1,htab,hr1,hr2,hm,hln,hst,aO (aB bT _),cS (bT a),aA (aB bT _),aA (aB aQ _),aA (aB bL _),aA (aB aP _),aA (aB cR _),aA (aB bR _),aA (aB cL _)]
   exact fin _ ho _ (by simp[aE,hbe,aF,aZ,cW])
 simp only[go_sem,seval];refine aD (fun hb => ?_) (fun hb => ?_)
 ·have hes:cP (kids++[Expr.mk 0 by' []])+1<=1000:=by rw[aG9,iN,cP];omega
  have ho:({ b with expr:=.mk op n (kids++[Expr.mk 0 by' []]):Block }).Ok:={ hq with expr:=.mk _ _ _ x1 x2 (tU hl2) (pF x4 (.mk _ _ _ aB6 hby (by simp) (by simp))),size:=by rw[iN];exact hes }
  have hm:∀l,l.map aF++[aF (Expr.mk 0 by' [])]=(l++[Expr.mk 0 by' []]).map aF:=fun l=>by simp
  simp only[aF,gB]at hm;cases hoe:kids with
  |nil=>
   rw[hoe]at ho;simp only[go_sem,seval,bV,aA (aB bT _),aA (aB bL _),aA (aB aP _),aA (aB cR _),aA (aB bR _),aA (aB cL _)];exact fin _ ho _ (by simp[aE,aF,aZ,aF,gB])
  |cons a r=>
   rw[hoe]at ho hl2;have hr1:bP (r.length+1) 40=true:=bV (by simp at hl2 ⊢;omega) (by decide)
   have hr2:bP (r.length+1+1) 40=true:=bV (by simp at hl2 ⊢;omega) (by decide)
   have hln:(aF a).length=3:=by first | rfl | exact dC a
   have hst:(aF a).all AV.still=true:=bK (aQ a);simp only[go_sem,seval,hr1,hr2,hm,hln,hst,aO (aB aQ _),cS (aQ a),aA (aB bT _),aA (aB aQ _),aA (aB bL _),aA (aB aP _),aA (aB cR _),aA (aB bR _),aA (aB cL _)];exact fin _ ho _ (by simp[aE,aF,aZ,aF,gB])
 simp only[go_sem,seval];refine aD (fun hb => ?_) (fun hb => ?_)
 ·obtain⟨t,htm,htab⟩:=aNg [-1,0,999999,1000000] k1 k2;simp only[List.map,bD]at htab;have htl:dN t:=by
   have:∀s∈([-1,0,999999,1000000]:List Int),dN s:=by decide
   exact this t htm
  have ho:({ b with sumA:=b.sumA++[t]:Block }).Ok:={ hq with lenA:=tU hl3,sumA:=pF hq.sumA htl };have hm:∀l,l.map bD++[bD (t)]=(l++[t]).map bD:=fun l=>by simp
  simp only[bD]at hm;cases hoe:b.sumA with
  |nil=>
   rw[hoe]at ho;simp only[go_sem,seval,ha by',k1,htab,bV,aA (aB bT _),aA (aB aQ _),aA (aB bL _),aA (aB cR _),aA (aB bR _),aA (aB cL _)]
   exact fin _ ho _ (by simp[aE,hbe,aF,aZ,bD])
  |cons a r=>
   rw[hoe]at ho hl3;have hr1:bP (r.length+1) 8=true:=bV (by simp at hl3 ⊢;omega) (by decide)
   have hr2:bP (r.length+1+1) 8=true:=bV (by simp at hl3 ⊢;omega) (by decide)
   have hln:(bD a).length=1:=by first | rfl | exact dC a
   have hst:(bD a).all AV.still=true:=bK (aP a);simp only[go_sem,seval,ha by',k1,htab,hr1,hr2,hm,hln,hst,aO (aB aP _),cS (aP a),aA (aB bT _),aA (aB aQ _),aA (aB bL _),aA (aB aP _),aA (aB cR _),aA (aB bR _),aA (aB cL _)]
   exact fin _ ho _ (by simp[aE,hbe,aF,aZ,bD])
 simp only[go_sem,seval];refine aD (fun hb => ?_) (fun hb => ?_)
 ·obtain⟨j1,j2⟩:=kB hby (m:=3) (by decide)
  have hc:around by' 3=0∨around by' 3=1∨around by' 3=2:=by omega
  rcases hc with h3 | h3 | h3
  ·skip
   have ho:({ b with grid:=b.grid++[([]:List Str)]:Block }).Ok:={ hq with lenG:=tU hl4,grid:=pF hq.grid ⟨by simp,by decide⟩ }
   have hm:∀l,l.map cA++[cA (([]:List Str))]=(l++[([]:List Str)]).map cA:=fun l=>by simp
   simp only[cA,List.map_nil]at hm;cases hoe:b.grid with
   |nil=>
    rw[hoe]at ho;simp only[go_sem,seval,ha by',h3,dK,kS,bV,aA (aB bT _),aA (aB aQ _),aA (aB bL _),aA (aB aP _),aA (aB bR _),aA (aB cL _)]
    exact fin _ ho _ (by simp[aE,hbe,aF,aZ,cA])
   |cons a r=>
    rw[hoe]at ho hl4;have hr1:bP (r.length+1) 24=true:=bV (by simp at hl4 ⊢;omega) (by decide)
    have hr2:bP (r.length+1+1) 24=true:=bV (by simp at hl4 ⊢;omega) (by decide)
    have hln:(cA a).length=1:=by first | rfl | exact dC a
    have hst:(cA a).all AV.still=true:=bK (cR a);simp only[go_sem,seval,ha by',h3,dK,kS,hr1,hr2,hm,hln,hst,aO (aB cR _),cS (cR a),aA (aB bT _),aA (aB aQ _),aA (aB bL _),aA (aB aP _),aA (aB cR _),aA (aB bR _),aA (aB cL _)]
    exact fin _ ho _ (by simp[aE,hbe,aF,aZ,cA])
  ·skip
   have ho:({ b with grid:=b.grid++[[[97]]]:Block }).Ok:={ hq with lenG:=tU hl4,grid:=pF hq.grid ⟨by simp,by decide⟩ }
   have hm:∀l,l.map cA++[cA ([[97]])]=(l++[[[97]]]).map cA:=fun l=>by simp
   simp only[cA,aN,List.map_cons,List.map_nil]at hm;cases hoe:b.grid with
   |nil=>
    rw[hoe]at ho;simp only[go_sem,seval,ha by',h3,dK,kS,bV,aA (aB bT _),aA (aB aQ _),aA (aB bL _),aA (aB aP _),aA (aB bR _),aA (aB cL _)]
    exact fin _ ho _ (by simp[aE,hbe,aF,aZ,cA,aN])
   |cons a r=>
    rw[hoe]at ho hl4;have hr1:bP (r.length+1) 24=true:=bV (by simp at hl4 ⊢;omega) (by decide)
    have hr2:bP (r.length+1+1) 24=true:=bV (by simp at hl4 ⊢;omega) (by decide)
    have hln:(cA a).length=1:=by first | rfl | exact dC a
    have hst:(cA a).all AV.still=true:=bK (cR a);simp only[go_sem,seval,ha by',h3,dK,kS,hr1,hr2,hm,hln,hst,aO (aB cR _),cS (cR a),aA (aB bT _),aA (aB aQ _),aA (aB bL _),aA (aB aP _),aA (aB cR _),aA (aB bR _),aA (aB cL _)]
    exact fin _ ho _ (by simp[aE,hbe,aF,aZ,cA,aN])
  ·skip
   have ho:({ b with grid:=b.grid++[[[97],[50,49,32,98,121,116,101,115,32,97,114,101,32,116,111,111,32,109,117,99,104,46]]]:Block }).Ok:={ hq with lenG:=tU hl4,grid:=pF hq.grid ⟨by simp,by decide⟩ }
   have hm:∀l,l.map cA++[cA ([[97],[50,49,32,98,121,116,101,115,32,97,114,101,32,116,111,111,32,109,117,99,104,46]])]=(l++[[[97],[50,49,32,98,121,116,101,115,32,97,114,101,32,116,111,111,32,109,117,99,104,46]]]).map cA:=fun l=>by simp
   simp only[cA,aN,List.map_cons,List.map_nil]at hm;cases hoe:b.grid with
   |nil=>
    rw[hoe]at ho;simp only[go_sem,seval,ha by',h3,dK,kS,bV,aA (aB bT _),aA (aB aQ _),aA (aB bL _),aA (aB aP _),aA (aB bR _),aA (aB cL _)]
    exact fin _ ho _ (by simp[aE,hbe,aF,aZ,cA,aN])
   |cons a r=>
    rw[hoe]at ho hl4;have hr1:bP (r.length+1) 24=true:=bV (by simp at hl4 ⊢;omega) (by decide)
    have hr2:bP (r.length+1+1) 24=true:=bV (by simp at hl4 ⊢;omega) (by decide)
    have hln:(cA a).length=1:=by first | rfl | exact dC a
    have hst:(cA a).all AV.still=true:=bK (cR a);simp only[go_sem,seval,ha by',h3,dK,kS,hr1,hr2,hm,hln,hst,aO (aB cR _),cS (cR a),aA (aB bT _),aA (aB aQ _),aA (aB bL _),aA (aB aP _),aA (aB cR _),aA (aB bR _),aA (aB cL _)]
    exact fin _ ho _ (by simp[aE,hbe,aF,aZ,cA,aN])
 simp only[go_sem,seval];refine aD (fun hb => ?_) (fun hb => ?_)
 ·obtain⟨t,htm,htab⟩:=aNg [0,1,1000,1001] k1 k2;simp only[List.map,bD]at htab;have htl:dN t:=by
   have:∀s∈([0,1,1000,1001]:List Int),dN s:=by decide
   exact this t htm
  simp only[go_sem,seval,ha by',k1,htab,aA (aB bT _),aA (aB aQ _),aA (aB bL _),aA (aB aP _),aA (aB cR _),aA (aB bR _),aA (aB cL _)]
  exact fin { b with w:=t } { hq with w:=htl } _ (by simp[aE,hbe,aF,aZ])
 simp only[go_sem,seval];refine aD (fun hb => ?_) (fun hb => ?_)
 ·skip
  have ho:({ b with hands:=b.hands++[[[Note.mk (around by' 52 - 2) 0 0]]]:Block }).Ok:={ hq with lenH:=tU hl6,hands:=pF hq.hands ⟨by simp,fun l hl=>by
   have:l=[Note.mk (around by' 52 - 2) 0 0]:=by simpa using hl
   subst this;exact⟨by simp,fun m hm=>by
    have:m=Note.mk (around by' 52 - 2) 0 0:=by simpa using hm
    subst this;exact⟨h52.2,aB6,aB6⟩⟩⟩ }
  have hm:∀l,l.map cE++[cE ([[Note.mk (around by' 52 - 2) 0 0]])]=(l++[[[Note.mk (around by' 52 - 2) 0 0]]]).map cE:=fun l=>by simp
  simp only[cE,gS,cK,List.map_cons,List.map_nil]at hm;cases hoe:b.hands with
  |nil=>
   rw[hoe]at ho;simp only[go_sem,seval,ha by',h52.1,bV,aA (aB bT _),aA (aB aQ _),aA (aB bL _),aA (aB aP _),aA (aB cR _),aA (aB bR _)]
   exact fin _ ho _ (by simp[aE,hbe,aF,aZ,cE,gS,cK])
  |cons a r=>
   rw[hoe]at ho hl6;have hr1:bP (r.length+1) 24=true:=bV (by simp at hl6 ⊢;omega) (by decide)
   have hr2:bP (r.length+1+1) 24=true:=bV (by simp at hl6 ⊢;omega) (by decide)
   have hln:(cE a).length=1:=by first | rfl | exact dC a
   have hst:(cE a).all AV.still=true:=bK (cL a);simp only[go_sem,seval,ha by',h52.1,hr1,hr2,hm,hln,hst,aO (aB cL _),cS (cL a),aA (aB bT _),aA (aB aQ _),aA (aB bL _),aA (aB aP _),aA (aB cR _),aA (aB bR _),aA (aB cL _)]
   exact fin _ ho _ (by simp[aE,hbe,aF,aZ,cE,gS,cK])
 ·obtain⟨k1,k2⟩:=kB hby (m:=3) (by decide)
  obtain⟨t,htm,htab⟩:=aNh [[],[120],[9]] k1 k2;simp only[List.map,aN]at htab;have htl:mF t:=by
   have:∀s∈([[],[120],[9]]:List Str),mF s:=by decide
   exact this t htm
  have ho:({ b with lines:=b.lines++[t]:Block }).Ok:={ hq with lenL:=tU hl7,lines:=pF hq.lines htl };have hm:∀l,l.map aN++[aN (t)]=(l++[t]).map aN:=fun l=>by simp
  simp only[aN]at hm;cases hoe:b.lines with
  |nil=>
   rw[hoe]at ho;simp only[go_sem,seval,ha by',k1,htab,bV,aA (aB bT _),aA (aB aQ _),aA (aB aP _),aA (aB cR _),aA (aB bR _),aA (aB cL _)]
   exact fin _ ho _ (by simp[aE,hbe,aF,aZ,aN])
  |cons a r=>
   rw[hoe]at ho hl7;have hr1:bP (r.length+1) 16=true:=bV (by simp at hl7 ⊢;omega) (by decide)
   have hr2:bP (r.length+1+1) 16=true:=bV (by simp at hl7 ⊢;omega) (by decide)
   have hln:(aN a).length=1:=by first | rfl | exact dC a
   have hst:(aN a).all AV.still=true:=bK (bL a);simp only[go_sem,seval,ha by',k1,htab,hr1,hr2,hm,hln,hst,aO (aB bL _),cS (bL a),aA (aB bT _),aA (aB aQ _),aA (aB bL _),aA (aB aP _),aA (aB cR _),aA (aB bR _),aA (aB cL _)]
   exact fin _ ho _ (by simp[aE,hbe,aF,aZ,aN])
abbrev rL(g:String->Nat):ACode:=.seq (qS [qm 63 12,qm 64 11,qb 65 .lss 63 64]<|qC 65 (.skip) (.exit 4))<|.seq (.block 5 (qS [qm 68 3,qla 69 13 10,qm 70 9,qc 71 (g "(*dactyl/dactylref23.Maker).Fact") [u 68,u 69,u 70],qq 13 (.alloc [(.int .i64 0),(.int .i64 0),(.int .i64 0),(.int .i64 0)]),qs 4 13 71]<|qS [qf 72 2 7,ql 73 1 72,qla 74 4 13,qc 75 (g "dactyl/dactylref23.has") [u 73,u 74],qq 76 (.un .not (u 75))]<|qC 76 (qR [qf 77 2 7,ql 78 1 77,qla 79 4 13,qq 80 (.bsl 4 [(.int .i64 0),(.int .i64 0),(.int .i64 0),(.int .i64 0)] 1 [(0,(.tmp 79))]),qa 81 4 32 78 80,qf 82 2 7,qs 1 82 81]) (.skip)))<|.region false [qm 66 12,qbi 67 .add 66 1,qm 12 67]
abbrev rM:List Nat:=[63,64,65,68,69,70,71,13,72,73,74,75,76,77,78,79,80,81,82,66,67,12]
abbrev rN(g:String->Nat):ACode:=.seq (qS [qm 45 9,qm 46 8,qb 47 .lss 45 46]<|qC 47 (.skip) (.exit 2))<|.seq (.block 3 (qS [qm 50 3,qm 51 3,qc 52 (g "(*dactyl/dactylref23.Maker).Take") [u 51,ui 7],qc 53 (g "(*dactyl/dactylref23.Maker).Block") [u 50,u 52],qq 10 (.alloc [(.int .i64 0),(.sl true []),(.int .i64 0),(.int .i64 0),(.sl true []),(.int .i64 0),(.sl true []),(.sl true []),(.int .i64 0),(.int .i64 0),(.sl true []),(.sl true []),(.sl true [])]),qs 13 10 53]<|qS [qf 54 1 7,ql 55 1 54,qla 56 13 10,qq 57 (.bsl 13 [(.int .i64 0),(.sl false []),(.int .i64 0),(.int .i64 0),(.sl false []),(.int .i64 0),(.sl false []),(.sl false []),(.int .i64 0),(.int .i64 0),(.sl false []),(.sl false []),(.sl false [])] 1 [(0,(.tmp 56))]),qa 58 13 216 55 57,qf 59 1 7,qs 1 59 58]<|qS [qm 60 3,qc 61 (g "(*dactyl/dactylref23.Maker).Take") [u 60,ui 2],qq 62 (.bin .add .no (ui 1) (u 61)),qm 11 62]<|qS [qmc 12 (.int .i64 0)]<|.block 4 (.loop (rL g))))<|.region false [qm 48 9,qbi 49 .add 48 1,qm 9 49]
abbrev rO:List Nat:=[45,46,47,50,51,52,53,10,54,55,56,57,58,59,60,61,62,11,12,63,64,65,68,69,70,71,13,72,73,74,75,76,77,78,79,80,81,82,66,67,12,48,49,9]
abbrev aB7(g:String->Nat):List AOper:=[qf 90 3 7,⟨some 91,ol 1 90,none,[0]⟩,qm 92 3,qf 93 2 7,⟨some 94,ol 1 93,none,[3]⟩,⟨some 95,on 94,none,[4,3]⟩,⟨some 96,oc (g "(*dactyl/dactylref23.Maker).Question") [u 92,u 95],none,[2,5,4,3]⟩,⟨some 97,.bsl 7 [(.int .i64 0),(.sl false []),(.sl false []),(.sl false []),(.str []),(.int .i64 0),(.sl false [])] 1 [(0,(.tmp 96))],none,[6,2,5,4,3]⟩,⟨some 98,oa 7 128 91 97,none,[1,0,7,6,2,5,4,3]⟩,⟨some 99,of 3 7,none,[8,1,0,7,6,2,5,4,3]⟩,⟨none,os 1 99 98,none,[9,8,1,0,7,6,2,5,4,3]⟩]
abbrev rP:List Nat:=[1,6]
abbrev rQ(g:String->Nat):ACode:=.seq (qS [qm 85 15,qm 86 14,qb 87 .lss 85 86]<|qC 87 (.skip) (.exit 6))<|.seq (.block 7 (.region true (aB7 g)))<|.region false [qm 88 15,qbi 89 .add 88 1,qm 15 89]
abbrev rR:List Nat:=[85,86,87,90,91,92,93,94,95,96,97,98,99,88,89,15]
abbrev rS(g:String->Nat):ACode:=.seq (qS [qm 32 6,qm 33 5,qb 34 .lss 32 33]<|qC 34 (.skip) (.exit 0))<|.seq (.block 1 (qS [qq 37 (.bsl 1 [(.str [])] 3 [(0,(.const (.str [102,105,114,115,116]))),(1,(.const (.str [113,50]))),(2,(.const (.str [108,97,115,116])))]),qm 38 6,qi 39 37 38 1,ql 40 1 39,qq 41 (.build [(.str []),(.sl true []),(.sl true []),(.sl true [])] [(0,1,(.tmp 40))]),qq 7 (.alloc [(.str []),(.sl true []),(.sl true []),(.sl true [])]),qs 4 7 41]<|qS [qm 42 3,qc 43 (g "(*dactyl/dactylref23.Maker).Take") [u 42,ui 3],qq 44 (.bin .add .no (ui 1) (u 43)),qm 8 44]<|.seq (qS [qmc 9 (.int .i64 0)]<|.block 2 (.loop (rN g)))<|qS [qm 83 3,qc 84 (g "(*dactyl/dactylref23.Maker).Take") [u 83,ui 3],qm 14 84]<|.seq (qS [qmc 15 (.int .i64 0)]<|.block 6 (.loop (rQ g)))<|.region false [qf 100 1 4,ql 101 1 100,qla 102 4 7,qq 103 (.bsl 4 [(.str []),(.sl false []),(.sl false []),(.sl false [])] 1 [(0,(.tmp 102))]),qa 104 4 88 101 103,qf 105 1 4,qs 1 105 104]))<|.region false [qm 35 6,qbi 36 .add 35 1,qm 6 36]
abbrev rT:List Nat:=[32,33,34,37,38,39,40,41,7,42,43,44,8,9,45,46,47,50,51,52,53,10,54,55,56,57,58,59,60,61,62,11,12,63,64,65,68,69,70,71,13,72,73,74,75,76,77,78,79,80,81,82,66,67,12,48,49,9,83,84,14,15,85,86,87,90,91,92,93,94,95,96,97,98,99,88,89,15,100,101,102,103,104,105,35,36,6]
def lR(g:String->Nat):AFn:=⟨107,[2,22,4,7,10,58,13,81,98,104],[.cell 2 2 true],qS [qq 2 (.alloc [(.str []),(.sl true [])])]<|qS [qm 16 0,qm 17 0,qn 18 17,qq 19 (.mm false [(.tmp 18),(.const (.int .i64 400))]),qq 20 (.sliceV 1 (u 16) none (some (.tmp 19)) none),qq 21 (.build [(.sl true []),(.int .i64 0)] [(0,1,(.tmp 20))]),qx 22 2 21,qm 3 22]<|qS [qq 23 (.bsl 1 [(.str [])] 3 [(0,(.const (.str [84,101,115,116]))),(1,(.const (.str [89,101,97,114,32,55,44,32,112,97,114,116,32,50]))),(2,(.const (.str [65])))]),qm 24 3,qc 25 (g "(*dactyl/dactylref23.Maker).Take") [u 24,ui 3],qi 26 23 25 1,ql 27 1 26,qq 28 (.build [(.str []),(.sl true [])] [(0,1,(.tmp 27))]),qq 4 (.alloc [(.str []),(.sl true [])]),qs 2 4 28]<|qS [qm 29 3,qc 30 (g "(*dactyl/dactylref23.Maker).Take") [u 29,ui 3],qq 31 (.bin .add .no (ui 1) (u 30)),qm 5 31]<|.seq (qS [qmc 6 (.int .i64 0)]<|.block 0 (.loop (rS g)))<|qS [qla 106 2 4,qs 2 2 106]<|.ret⟩
structure ISlack(x:Item):Prop where
 blocks:x.blocks.length<=3
 facts:x.facts.length<=6
 ask:x.ask.length<=2
 block:∀b∈x.blocks,BSlack b
 question:∀q∈x.ask,QSlack q
 bne:1<=x.blocks.length
structure XSlack(x:Exam):Prop where
 title:x.title.length<=100
 items:x.items.length<=3
 item:∀i∈x.items,ISlack i
 ine:1<=x.items.length
abbrev aUt(v:AV):Prop:=∃x:Exam,v=eL x/\x.Ok/\XSlack x
theorem MQuestion.qslack{q:Question}(h:MQuestion q):QSlack q:=by
 obtain⟨h1,h2,h3,h4⟩:=h.lens;exact⟨by omega,by omega,h.stem⟩
theorem aNr{A:AProg}{f:Nat}{args:List AV}{P:AV->Prop}(hs:aA5 A f args P){l:List Int}{i:Int}{o v:Nat}{H H2:List AObj}(hl:gD l)(ho:H[o]? = some (.box v (aH l i))){site:Option Nat}{q:Bool}
  {k:AV×List AObj×List Nat->Prop} {tg} (hk:∀val i' wr,(wr=[]∨wr=[o])->P val->bnd (eD site q H2 (some (val,H.set o (.box v (aH l i')),wr))) k):aCe (eD site q H2 (aL A f (.ptr o v 0::args) H)) k tg:=by
 obtain⟨val,i',wr,h1,h2,h3⟩:=hs l i o v H hl ho;rw[h1];exact hk val i' wr h2 h3
theorem aCC(b:Block):List.take 13 (aE b)=aE b:=List.take_of_length_le (by rw[cQ];exact Nat.le_refl _)
theorem aKt(f:Fact):(bJ f).length=4:=rfl
theorem aIx(f:Fact):List.take 4 (bJ f)=bJ f:=List.take_of_length_le (Nat.le_refl _)
theorem aNs{A:AProg}{g:String->Nat}(hh:∀(l:List Fact),l.length<=1000->∀f:Fact,∃b:Bool,∀H,aL A (g "dactyl/dactylref23.has") [.sl false (l.map bJ),.agg (bJ f)] H=some (.bool b,H,[]))
  {id:Nat} {rows:List (List AV)} {fs:List Fact} (hr:rows=fs.map bJ) (hfs:fs.length<=1000) {w:AV} {o:AObj} (hg:GSl id 4 rows w o) (f:Fact):∃b:Bool,∀H site,H[id]? = some o ->
   cY (aL A) H site (.fn (g "dactyl/dactylref23.has") [] []) [w,.agg (bJ f)]=some (.bool b,H,[]):=by
 obtain⟨b,hb⟩:=hh fs hfs f;refine⟨b,fun H site ho => ?_⟩;cases hg with
 |nil=>
  have hb2:=hb H;rw[<- hr]at hb2;simp only[go_sem,seval,aY (gT _),aM (gT _),hb2]
 |obj ver=>
  have hst:(rows.all fun r=>r.all AV.still)=true:=by rw[hr];exact aO (aB gT _)
  rw[<- hr]at hb;simp only[go_sem,seval,aY (gT _),aM (gT _),ho,hst,hb]
abbrev aKu:List Nat:=[2,22,4,7,10,58,13,81,98,104]
set_option maxHeartbeats 3200000 in
theorem aRU{A:AProg}{g:String->Nat}(hf:∀{b:Block},MBlock b->∀{a:Int},0<=a->a<=1000->aA5 A (g "(*dactyl/dactylref23.Maker).Fact") [.agg (aE b),vi a] aIt)
  (hh:∀(l:List Fact),l.length<=1000->∀f:Fact,∃b:Bool,∀H,aL A (g "dactyl/dactylref23.has") [.sl false (l.map bJ),.agg (bJ f)] H=some (.bool b,H,[]))
  {H:List AObj} {Q:AExit->bH->List AObj->List Nat->Prop} {tg} {l:List Int} (hl:gD l)
  {i:Int} {o0 o2 o5 o6 o7 o8 o9:AObj} {v7 v10:Nat} {c0 c1 c2 c3:AV} {b:Block} (hb:MBlock b) {k:Nat} (hk:k<=10) {n:Int} (hn0:0<=n) (hn:n<=2) {fs:List Fact} (hfl:fs.length<=10) (hfo:∀f∈fs,f.Ok)
  (hg:GSl (H.length+7) 4 (fs.map bJ) c2 o7) {ρ:bH} (e3:ρ 3=.ptr (H.length+1) 1 0) (e7:ρ 7=.ptr (H.length+3) v7 0) (e9:ρ 9=vi k) (e10:ρ 10=.ptr (H.length+4) v10 0) (e11:ρ 11=vi n) (e12:ρ 12=vi 0)
  (hQ:∀ρ' i' o6 o7 c2 (fs':List Fact),(∀t,rM.contains t=false->ρ' t=ρ t)->fs'.length<=fs.length+2->(∀f∈fs',f.Ok)->GSl (H.length+7) 4 (fs'.map bJ) c2 o7 ->
   Q (.exit 4) ρ' (H++[o0,.box 1 (aH l i'),o2,.box v7 [c0,c1,c2,c3],.box v10 (aE b),o5,o6,o7,o8,o9]) []):
  wl A 107 ⟨H.length,aKu⟩ (rL g) ρ (H++[o0,.box 1 (aH l i),o2,.box v7 [c0,c1,c2,c3],.box v10 (aE b),o5,o6,o7,o8,o9]) [] Q tg:=by
 refine bZ (W:=rM) (fun j ρ1 H1 wr=>wr=[]/\ρ1 12=vi j/\∃i' o6 o7 c2,∃fs':List Fact,H1=H++[o0,.box 1 (aH l i'),o2,.box v7 [c0,c1,c2,c3],.box v10 (aE b),o5,o6,o7,o8,o9]/\GSl (H.length+7) 4 (fs'.map bJ) c2 o7/\fs'.length<=fs.length+j/\∀f∈fs',f.Ok) n.toNat
  (fun ρ1 H1 wr=>wr=[]/\∃i' o6 o7 c2,∃fs':List Fact,H1=H++[o0,.box 1 (aH l i'),o2,.box v7 [c0,c1,c2,c3],.box v10 (aE b),o5,o6,o7,o8,o9]/\GSl (H.length+7) 4 (fs'.map bJ) c2 o7/\fs'.length<=fs.length+2/\∀f∈fs',f.Ok)
  (by kernel_rfl) (by rfl) ⟨rfl,e12,i,o6,o7,c2,fs,rfl,hg,Nat.le_refl _,hfo⟩ ?_ (by
   rintro ρ' H' wr' ⟨rfl,i',o6,o7,c2,fs',rfl,hg,h1,h2⟩ hf;exact hQ ρ' i' o6 o7 c2 fs' hf h1 h2 hg)
 rintro j ρ1 H1 wr1 hjl ⟨rfl,e12,i',o6,o7,c2,fs',rfl,hg,hrl,hro⟩ hfr;have f3:ρ1 3=.ptr (H.length+1) 1 0:=(hfr 3 (by decide)).trans e3
 have f7:ρ1 7=.ptr (H.length+3) v7 0:=(hfr 7 (by decide)).trans e7
 have f9:ρ1 9=vi k:=(hfr 9 (by decide)).trans e9
 have f10:ρ1 10=.ptr (H.length+4) v10 0:=(hfr 10 (by decide)).trans e10
 have f11:ρ1 11=vi n:=(hfr 11 (by decide)).trans e11
 simp only[go_sem,↓aC,seval,f11,e12];refine aD (fun hb1 => ?_) (fun hb1 => ?_)
 ·have hlt2:j<n.toNat:=by simp at hb1;omega
  simp only[go_sem,↓aC,seval,f3,f9,f10,cQ,aCC,aY (bO _),aM (bO _)];refine aNr (hf hb (a:=(k:Int)) (by omega) (by omega)) hl (i:=i') (by simp only[go_sem,seval]) ?_
  rintro val i3 wr1 hwr ⟨f,rfl,hfok⟩;have hw:bA H.length [] wr1=[]:=by rcases hwr with rfl | rfl<;>simp only[go_sem,seval]
  obtain⟨bb,hcall⟩:=aNs hh rfl (by omega) hg f
  simp only[go_sem,↓aC,seval,hcall,hw,f7,aKt,aIx,bY (gT _)];refine aD (fun hb2 => ?_) (fun hb2 => ?_)
  ·obtain⟨v',o',hg',happ⟩:=hg.app (new:=[bJ f]) (bytes:=32) (by simp) (by rfl) (by simp only[List.length_map,List.length_cons,List.length_nil];omega)
   rw[show fs'.map bJ++[bJ f]=(fs'++[f]).map bJ by simp]at hg'
   simp only[go_sem,↓aC,seval,f7,e12,aKt,aIx,aY (gT _),aM (gT _),bK (gT _),happ,hg'.cellOk,hg'.strip1];rw[dH (by omega)]
   exact⟨hlt2,rfl,i3,_,o',v',fs'++[f],rfl,hg',by simp;omega,pF hro hfok⟩
  ·simp only[go_sem,↓aC,seval,e12];rw[dH (by omega)]
   exact⟨hlt2,rfl,i3,_,o7,c2,fs',rfl,hg,by omega,hro⟩
 ·have hlt2:j=n.toNat:=by simp at hb1;omega
  subst hlt2;simp only[go_sem,seval];exact⟨i',o6,o7,c2,fs',rfl,hg,by omega,hro⟩
set_option maxHeartbeats 3200000 in
theorem aPk{A:AProg}{g:String->Nat}(ht:fC A g)(hbk:∀{k:Int},0<=k->k<7->cX A (g "(*dactyl/dactylref23.Maker).Block") [vi k] (aJu k))
  (hf:∀{b:Block},MBlock b->∀{a:Int},0<=a->a<=1000->aA5 A (g "(*dactyl/dactylref23.Maker).Fact") [.agg (aE b),vi a] aIt)
  (hh:∀(l:List Fact),l.length<=1000->∀f:Fact,∃b:Bool,∀H,aL A (g "dactyl/dactylref23.has") [.sl false (l.map bJ),.agg (bJ f)] H=some (.bool b,H,[]))
  {H:List AObj} {Q:AExit->bH->List AObj->List Nat->Prop} {tg} {l:List Int} (hl:gD l)
  {i:Int} {o0 o2 o4 o5 o6 o7 o8 o9:AObj} {v7:Nat} {c0 c3:AV} {n:Int} (hn0:1<=n) (hn:n<=3)
  {ρ:bH} (e3:ρ 3=.ptr (H.length+1) 1 0) (e7:ρ 7=.ptr (H.length+3) v7 0) (e8:ρ 8=vi n) (e9:ρ 9=vi 0)
  (hQ:∀ρ' i' o4 o5 o6 o7 c1 c2 (bs:List Block) (fs:List Fact),(∀t,rO.contains t=false->ρ' t=ρ t)->1<=bs.length/\bs.length<=3->(∀b∈bs,MBlock b)->fs.length<=6->(∀f∈fs,f.Ok) ->
   GSl (H.length+5) 13 (bs.map aE) c1 o5->GSl (H.length+7) 4 (fs.map bJ) c2 o7 ->
   Q (.exit 2) ρ' (H++[o0,.box 1 (aH l i'),o2,.box v7 [c0,c1,c2,c3],o4,o5,o6,o7,o8,o9]) []):
  wl A 107 ⟨H.length,aKu⟩ (rN g) ρ (H++[o0,.box 1 (aH l i),o2,.box v7 [c0,.sl true [],.sl true [],c3],o4,o5,o6,o7,o8,o9]) [] Q tg:=by
 refine bZ (W:=rO) (fun j ρ1 H1 wr=>wr=[]/\ρ1 9=vi j/\∃i' o4 o5 o6 o7 c1 c2,∃bs:List Block,∃fs:List Fact,H1=H++[o0,.box 1 (aH l i'),o2,.box v7 [c0,c1,c2,c3],o4,o5,o6,o7,o8,o9] /\
   GSl (H.length+5) 13 (bs.map aE) c1 o5/\GSl (H.length+7) 4 (fs.map bJ) c2 o7/\bs.length=j/\(∀b∈bs,MBlock b)/\fs.length<=2*j/\∀f∈fs,f.Ok) n.toNat
  (fun ρ1 H1 wr=>wr=[]/\∃i' o4 o5 o6 o7 c1 c2,∃bs:List Block,∃fs:List Fact,H1=H++[o0,.box 1 (aH l i'),o2,.box v7 [c0,c1,c2,c3],o4,o5,o6,o7,o8,o9] /\
   GSl (H.length+5) 13 (bs.map aE) c1 o5/\GSl (H.length+7) 4 (fs.map bJ) c2 o7/\(1<=bs.length/\bs.length<=3)/\(∀b∈bs,MBlock b)/\fs.length<=6/\∀f∈fs,f.Ok)
  (by kernel_rfl) (by rfl) ⟨rfl,e9,i,o4,o5,o6,o7,.sl true [],.sl true [],[],[],rfl,.nil _,.nil _,rfl,by simp,by simp,by simp⟩ ?_ (by
   rintro ρ' H' wr' ⟨rfl,i',o4,o5,o6,o7,c1,c2,bs,fs,rfl,hg,hg2,h1,h2,h3,h4⟩ hf;exact hQ ρ' i' o4 o5 o6 o7 c1 c2 bs fs hf h1 h2 h3 h4 hg hg2)
 rintro j ρ1 H1 wr1 hjl ⟨rfl,e9,i',o4,o5,o6,o7,c1,c2,bs,fs,rfl,hg,hg2,hbl,hbo,hfl,hfo⟩ hfr;have f3:ρ1 3=.ptr (H.length+1) 1 0:=(hfr 3 (by decide)).trans e3
 have f7:ρ1 7=.ptr (H.length+3) v7 0:=(hfr 7 (by decide)).trans e7
 have f8:ρ1 8=vi n:=(hfr 8 (by decide)).trans e8
 simp only[go_sem,↓aC,seval,f8,e9];refine aD (fun hb1 => ?_) (fun hb1 => ?_)
 ·have hlt2:j<n.toNat:=by simp at hb1;omega
  simp only[go_sem,↓aC,seval,f3];refine aW (aU ht (m:=7) (by decide)) hl (i:=i') (by simp only[go_sem,seval]) ?_
  rintro val i3 ⟨x,rfl,hx0,hx1⟩;simp only[go_sem,↓aC,seval];refine aW (hbk hx0 hx1) hl (i:=i3) (by simp only[go_sem,seval]) ?_
  rintro val i4 ⟨b,rfl,hbk1,hmb⟩;obtain⟨v',o',hg',happ⟩:=hg.app (new:=[aE b]) (bytes:=216) (by simp) (by rw[vQ,cQ];rfl) (by simp only[List.length_map,List.length_cons,List.length_nil];omega)
  rw[show bs.map aE++[aE b]=(bs++[b]).map aE by simp]at hg'
  simp only[go_sem,↓aC,seval,f3,f7,cQ,aCC,bY (bO _),aY (bO _),aM (bO _),bK (bO _),happ,hg'.cellOk,hg'.strip1];refine aW (aU ht (m:=2) (by decide)) hl (i:=i4) (by simp only[go_sem,seval]) ?_
  rintro val i5 ⟨y,rfl,hy0,hy1⟩;have hwy:IntKind.i64.wrap (1+y)=1+y:=wrap_i64 (by omega) (by omega)
  simp only[go_sem,↓aC,seval,hwy];refine aRU hf hh hl hmb (k:=j) (by omega) (n:=1+y) (by omega) (by omega) (fs:=fs) (by omega) hfo hg2 (by simp only[go_sem,seval,f3]) (by simp only[go_sem,seval,f7]) (by simp only[go_sem,seval,e9]) (by simp only[go_sem,seval]) (by simp only[go_sem,seval]) (by simp only[go_sem,seval]) ?_
  intro ρ2 i6 o6' o7' c2' fs' hf2 hfl' hfo' hg2';have g9:ρ2 9=vi j:=by rw[hf2 9 (by decide)];simp only[go_sem,seval,e9]
  simp only[go_sem,↓aC,seval,g9];rw[dH (by omega)]
  exact⟨hlt2,rfl,i6,_,o',o6',o7',v',c2',bs++[b],fs',rfl,hg',hg2',by simp[hbl],pF hbo hmb,by omega,hfo'⟩
 ·have hlt2:j=n.toNat:=by simp at hb1;omega
  subst hlt2;simp only[go_sem,seval];exact⟨i',o4,o5,o6,o7,c1,c2,bs,fs,rfl,hg,hg2,by omega,hbo,by omega,hfo⟩
theorem aRV(q:Question):(vV q).length=7:=rfl
set_option maxHeartbeats 3200000 in
theorem aUu{A:AProg}{g:String->Nat}(hqg:∀{m:Nat},m<=10->cX A (g "(*dactyl/dactylref23.Maker).Question") [vi m] aA6)
  {H:List AObj} {Q:AExit->bH->List AObj->List Nat->Prop} {tg} {l:List Int} (hl:gD l)
  {i:Int} {o0 o2 o4 o5 o6 o7 o8 o9:AObj} {v7:Nat} {c0 c1 c2:AV} {fs:List Fact} (hfl:fs.length<=6) (hg2:GSl (H.length+7) 4 (fs.map bJ) c2 o7) {n:Int} (hn0:0<=n) (hn:n<=2)
  {ρ:bH} (e3:ρ 3=.ptr (H.length+1) 1 0) (e7:ρ 7=.ptr (H.length+3) v7 0) (e14:ρ 14=vi n) (e15:ρ 15=vi 0)
  (hQ:∀ρ' i' o8 c3 (qs:List Question),(∀t,rR.contains t=false->ρ' t=ρ t)->qs.length<=2->(∀q∈qs,MQuestion q)->GSl (H.length+8) 7 (qs.map vV) c3 o8 ->
   Q (.exit 6) ρ' (H++[o0,.box 1 (aH l i'),o2,.box v7 [c0,c1,c2,c3],o4,o5,o6,o7,o8,o9]) []):
  wl A 107 ⟨H.length,aKu⟩ (rQ g) ρ (H++[o0,.box 1 (aH l i),o2,.box v7 [c0,c1,c2,.sl true []],o4,o5,o6,o7,o8,o9]) [] Q tg:=by
 refine bZ (W:=rR) (fun j ρ1 H1 wr=>wr=[]/\ρ1 15=vi j/\∃i' o8 c3,∃qs:List Question,H1=H++[o0,.box 1 (aH l i'),o2,.box v7 [c0,c1,c2,c3],o4,o5,o6,o7,o8,o9] /\
   GSl (H.length+8) 7 (qs.map vV) c3 o8/\qs.length=j/\∀q∈qs,MQuestion q) n.toNat
  (fun ρ1 H1 wr=>wr=[]/\∃i' o8 c3,∃qs:List Question,H1=H++[o0,.box 1 (aH l i'),o2,.box v7 [c0,c1,c2,c3],o4,o5,o6,o7,o8,o9] /\
   GSl (H.length+8) 7 (qs.map vV) c3 o8/\qs.length<=2/\∀q∈qs,MQuestion q)
  (by kernel_rfl) (by rfl) ⟨rfl,e15,i,o8,.sl true [],[],rfl,.nil _,rfl,by simp⟩ ?_ (by
   rintro ρ' H' wr' ⟨rfl,i',o8,c3,qs,rfl,hg,h1,h2⟩ hf;exact hQ ρ' i' o8 c3 qs hf h1 h2 hg)
 rintro j ρ1 H1 wr1 hjl ⟨rfl,e15,i',o8,c3,qs,rfl,hg,hql,hqo⟩ hfr;have f3:ρ1 3=.ptr (H.length+1) 1 0:=(hfr 3 (by decide)).trans e3
 have f7:ρ1 7=.ptr (H.length+3) v7 0:=(hfr 7 (by decide)).trans e7
 have f14:ρ1 14=vi n:=(hfr 14 (by decide)).trans e14
 simp only[go_sem,↓aC,seval,f14,e15];refine aD (fun hb1 => ?_) (fun hb1 => ?_)
 ·have hlt2:j<n.toNat:=by simp at hb1;omega
  simp only[go_sem,seval];refine bN (keep:=rP) (by rfl) (by rfl) ?_
  simp only[go_sem,↓aC,seval,rP,f3,f7,hg2.len];refine dP (hqg (m:=fs.length) (by omega)) hl (i:=i') (by simp only[go_sem,seval]) ?_
  rintro val i3 ⟨q,rfl,hmq⟩;obtain⟨v',o',hg',happ⟩:=hg.app (new:=[vV q]) (bytes:=128) (by simp) (by rfl) (by simp only[List.length_map,List.length_cons,List.length_nil];omega)
  rw[show qs.map vV++[vV q]=(qs++[q]).map vV by simp]at hg'
  simp only[go_sem,↓aC,seval,f7,e15,aRV,aM (yT _),bK (yT _),happ,hg'.cellOk,hg'.strip1,fG,eB,aR];rw[dH (by omega)]
  exact⟨hlt2,rfl,i3,o',v',qs++[q],rfl,hg',by simp[hql],pF hqo hmq⟩
 ·have hlt2:j=n.toNat:=by simp at hb1;omega
  subst hlt2;simp only[go_sem,seval];exact⟨i',o8,c3,qs,rfl,hg,by omega,hqo⟩
structure Gens(A:AProg)(g:String->Nat):Prop where
 take:fC A g
 block:∀{k:Int},0<=k->k<7->cX A (g "(*dactyl/dactylref23.Maker).Block") [vi k] (aJu k)
 fact:∀{b:Block},MBlock b->∀{a:Int},0<=a->a<=1000->aA5 A (g "(*dactyl/dactylref23.Maker).Fact") [.agg (aE b),vi a] aIt
 has:∀(l:List Fact),l.length<=1000->∀f:Fact,∃b:Bool,∀H,aL A (g "dactyl/dactylref23.has") [.sl false (l.map bJ),.agg (bJ f)] H=some (.bool b,H,[])
 question:∀{m:Nat},m<=10->cX A (g "(*dactyl/dactylref23.Maker).Question") [vi m] aA6
abbrev aRW(x:Item):Prop:=x.Ok/\ISlack x
set_option maxHeartbeats 6400000 in
theorem aRX{A:AProg}{g:String->Nat}(G:Gens A g)
  {H:List AObj} {Q:AExit->bH->List AObj->List Nat->Prop} {tg} {l:List Int} (hl:gD l)
  {i:Int} {o0 o3 o4 o5 o6 o7 o8 o9:AObj} {v4:Nat} {c0:AV} {n:Int} (hn0:1<=n) (hn:n<=3)
  {ρ:bH} (e3:ρ 3=.ptr (H.length+1) 1 0) (e4:ρ 4=.ptr (H.length+2) v4 0) (e5:ρ 5=vi n) (e6:ρ 6=vi 0)
  (hQ:∀ρ' i' o3 o4 o5 o6 o7 o8 o9 c1 (xs:List Item),(∀t,rT.contains t=false->ρ' t=ρ t)->1<=xs.length/\xs.length<=3->(∀x∈xs,aRW x)->GSl (H.length+9) 4 (xs.map cG) c1 o9 ->
   Q (.exit 0) ρ' (H++[o0,.box 1 (aH l i'),.box v4 [c0,c1],o3,o4,o5,o6,o7,o8,o9]) []):
  wl A 107 ⟨H.length,aKu⟩ (rS g) ρ (H++[o0,.box 1 (aH l i),.box v4 [c0,.sl true []],o3,o4,o5,o6,o7,o8,o9]) [] Q tg:=by
 refine bZ (W:=rT) (fun j ρ1 H1 wr=>wr=[]/\ρ1 6=vi j/\∃i' o3 o4 o5 o6 o7 o8 o9 c1,∃xs:List Item,H1=H++[o0,.box 1 (aH l i'),.box v4 [c0,c1],o3,o4,o5,o6,o7,o8,o9] /\
   GSl (H.length+9) 4 (xs.map cG) c1 o9/\xs.length=j/\∀x∈xs,aRW x) n.toNat
  (fun ρ1 H1 wr=>wr=[]/\∃i' o3 o4 o5 o6 o7 o8 o9 c1,∃xs:List Item,H1=H++[o0,.box 1 (aH l i'),.box v4 [c0,c1],o3,o4,o5,o6,o7,o8,o9] /\
   GSl (H.length+9) 4 (xs.map cG) c1 o9/\(1<=xs.length/\xs.length<=3)/\∀x∈xs,aRW x)
  (by kernel_rfl) (by rfl) ⟨rfl,e6,i,o3,o4,o5,o6,o7,o8,o9,.sl true [],[],rfl,.nil _,rfl,by simp⟩ ?_ (by
   rintro ρ' H' wr' ⟨rfl,i',o3,o4,o5,o6,o7,o8,o9,c1,xs,rfl,hg,h1,h2⟩ hf;exact hQ ρ' i' o3 o4 o5 o6 o7 o8 o9 c1 xs hf h1 h2 hg)
 rintro j ρ1 H1 wr1 hjl ⟨rfl,e6,i',o3,o4,o5,o6,o7,o8,o9,c1,xs,rfl,hg,hxl,hxo⟩ hfr;have f3:ρ1 3=.ptr (H.length+1) 1 0:=(hfr 3 (by decide)).trans e3
 have f4:ρ1 4=.ptr (H.length+2) v4 0:=(hfr 4 (by decide)).trans e4
 have f5:ρ1 5=vi n:=(hfr 5 (by decide)).trans e5
 simp only[go_sem,↓aC,seval,f5,e6];refine aD (fun hb1 => ?_) (fun hb1 => ?_)
 ·have hlt2:j<n.toNat:=by simp at hb1;omega
  obtain⟨nm,hnm,htab⟩:=aNh [[102,105,114,115,116],[113,50],[108,97,115,116]] (x:=(j:Int)) (by omega) (by simp;omega)
  simp only[List.map,aN,Int.toNat_natCast]at htab;have hnl:nm.length<=60:=by
   simp only[List.mem_cons,List.not_mem_nil,or_false]at hnm;rcases hnm with rfl | rfl | rfl<;>simp
  simp only[go_sem,↓aC,seval,f3,e6,htab];refine aW (aU G.take (m:=3) (by decide)) hl (i:=i') (by simp only[go_sem,seval]) ?_
  rintro val i3 ⟨x,rfl,hx0,hx1⟩;have hwx:IntKind.i64.wrap (1+x)=1+x:=wrap_i64 (by omega) (by omega)
  simp only[go_sem,↓aC,seval,hwx];refine aPk G.take G.block G.fact G.has hl (n:=1+x) (by omega) (by omega) (by simp only[go_sem,seval,f3]) (by simp only[go_sem,seval]) (by simp only[go_sem,seval]) (by simp only[go_sem,seval]) ?_
  intro ρ2 i4 p4 p5 p6 p7 d1 d2 bs fs hf2 hbl hbo hfl hfo hgb hgf;have g3:ρ2 3=.ptr (H.length+1) 1 0:=by rw[hf2 3 (by decide)];simp only[go_sem,seval,f3]
  have g4:ρ2 4=.ptr (H.length+2) v4 0:=by rw[hf2 4 (by decide)];simp only[go_sem,seval,f4]
  have g6:ρ2 6=vi j:=by rw[hf2 6 (by decide)];simp only[go_sem,seval,e6]
  have g7:ρ2 7=.ptr (H.length+3) (o3.ver+1) 0:=by rw[hf2 7 (by decide)];simp only[go_sem,seval]
  simp only[go_sem,↓aC,seval,g3];refine aW (aU G.take (m:=3) (by decide)) hl (i:=i4) (by simp only[go_sem,seval]) ?_
  rintro val i5 ⟨y,rfl,hy0,hy1⟩;simp only[go_sem,↓aC,seval];refine aUu G.question hl hfl hgf (n:=y) (by omega) (by omega) (by simp only[go_sem,seval,g3]) (by simp only[go_sem,seval,g7]) (by simp only[go_sem,seval]) (by simp only[go_sem,seval]) ?_
  intro ρ3 i6 p8 d3 qs hf3 hql hqo hgq;have k4:ρ3 4=.ptr (H.length+2) v4 0:=by rw[hf3 4 (by decide)];simp only[go_sem,seval,g4]
  have k6:ρ3 6=vi j:=by rw[hf3 6 (by decide)];simp only[go_sem,seval,g6]
  have k7:ρ3 7=.ptr (H.length+3) (o3.ver+1) 0:=by rw[hf3 7 (by decide)];simp only[go_sem,seval,g7]
  obtain⟨b1,b2,b3,b4,b5,b6⟩:=hgb.lend (aB bO _);obtain⟨q1,q2,q3,q4,q5,q6⟩:=hgq.lend (aB yT _);obtain⟨r1,r2,r3,r4,r5,r6⟩:=hgf.lend (aB gT _);obtain⟨v',o',hg',happ⟩:=hg.app (new:=[[.str nm,.sl false (bs.map aE),.sl false (fs.map bJ),.sl false (qs.map vV)]]) (bytes:=88) (by simp) (by rfl) (by simp only[List.length_map,List.length_cons,List.length_nil];omega)
  rw[show xs.map cG++[[.str nm,.sl false (bs.map aE),.sl false (fs.map bJ),.sl false (qs.map vV)]]=(xs++[Item.mk nm bs fs qs]).map cG by simp[cG]]at hg'
  simp only[go_sem,↓aC,seval,k4,k6,k7,b4,b5,b6,q4,q5,q6,r4,r5,r6,tT,zL,happ,hg'.cellOk,hg'.strip1];rw[dH (by omega)]
  refine⟨hlt2,rfl,i6,_,_,_,_,_,_,o',v',xs++[Item.mk nm bs fs qs],rfl,hg',by simp[hxl],pF hxo ⟨⟨by show nm.length<=1000;omega,by show bs.length<=16;omega,fun b hb=>(hbo b hb).ok,by show fs.length<=16;omega,hfo,by show qs.length<=16;omega,fun q hq=>(hqo q hq).ok⟩,
   ⟨hbl.2,hfl,hql,fun b hb=>(hbo b hb).bslack,fun q hq=>(hqo q hq).qslack,hbl.1⟩⟩⟩
 ·have hlt2:j=n.toNat:=by simp at hb1;omega
  subst hlt2;simp only[go_sem,seval];exact⟨i',o3,o4,o5,o6,o7,o8,o9,c1,xs,rfl,hg,by omega,hxo⟩
set_option maxHeartbeats 6400000 in
theorem aNt{A:AProg}{g:String->Nat}(h:Has A g "dactyl/dactylref23.Exam" (lR g))(G:Gens A g){l:List Int}(hl:gD l)(H:List AObj):
  ∃v H' wr,aL A (g "dactyl/dactylref23.Exam") [.sl false (l.map bD)] H=some (v,H',wr)/\(H'=H/\wr=[]/\aUt v):=by
 refine h.callEx (by simp[lR]) (by kernel_rfl) ?_
 have hb:dK l.length none (some (.int .i64 (if (400:Int)<l.length then 400 else l.length))) none=some (0,min l.length 400,l.length):=by
  by_cases hc:(400:Int)<l.length
  ·rw[if_pos hc];simp only[dK,kS];rw[if_pos ⟨by decide,by omega⟩]
   simp;omega
  ·rw[if_neg hc];simp only[dK,kS];rw[if_pos ⟨by omega,by omega⟩]
   simp;omega
 have hh:cH 1 (l.map bD)=true:=by cases l<;>rfl
 have htk:List.take (min l.length 400) (l.map bD)=(l.take (min l.length 400)).map bD:=List.map_take.symm;have hl2:gD (l.take (min l.length 400)):=fun a ha=>hl a (List.mem_of_mem_take ha);generalize l.take (min l.length 400)=l2 at htk hl2;simp only[lR];simp only[go_sem,↓aC,seval,hb,hh,htk];refine aW (aU G.take (m:=3) (by decide)) hl2 (i:=0) (by simp only[go_sem,seval]) ?_
 rintro val i1 ⟨x,rfl,hx0,hx1⟩;obtain⟨nm,hnm,htab⟩:=aNh [[84,101,115,116],[89,101,97,114,32,55,44,32,112,97,114,116,32,50],[65]] hx0 hx1;simp only[List.map,aN]at htab;have hnl:nm.length<=60:=by
  simp only[List.mem_cons,List.not_mem_nil,or_false]at hnm;rcases hnm with rfl | rfl | rfl<;>simp
 simp only[go_sem,↓aC,seval,hx0,htab];refine aW (aU G.take (m:=3) (by decide)) hl2 (i:=i1) (by simp only[go_sem,seval]) ?_
 rintro val i2 ⟨y,rfl,hy0,hy1⟩;have hwy:IntKind.i64.wrap (1+y)=1+y:=wrap_i64 (by omega) (by omega)
 simp only[go_sem,↓aC,seval,hwy];refine aRX G hl2 (n:=1+y) (by omega) (by omega) (by simp only[go_sem,seval]) (by simp only[go_sem,seval]) (by simp only[go_sem,seval]) (by simp only[go_sem,seval]) ?_
 intro ρ2 i3 o3 o4 o5 o6 o7 o8 o9 c1 xs hf2 hxl hxo hg;have g2:ρ2 2=.ptr H.length 1 0:=by rw[hf2 2 (by decide)];simp only[go_sem,seval]
 have g4:ρ2 4=.ptr (H.length+2) 1 0:=by rw[hf2 4 (by decide)];simp only[go_sem,seval]
 obtain⟨b1,b2,b3,b4,b5,b6⟩:=hg.lend (aB dB _);simp only[go_sem,↓aC,seval,g2,g4,hg.cellOk,b4,b5,b6,aA (aB dB _)];exact⟨Exam.mk nm xs,rfl,⟨by show nm.length<=1000;omega,by show xs.length<=16;omega,fun i hi=>(hxo i hi).1⟩,⟨by show nm.length<=100;omega,hxl.2,fun i hi=>(hxo i hi).2,hxl.1⟩⟩
end Go.AM
end
