/- Part 39: lemmas for the last text. -/
import Derived.Test.YtfpndhocfmfgdaaGreatDoorK34
import Derived.Test.YtfpndhocfmfgdaaGreatDoorK38
set_option linter.unusedVariables false
set_option linter.unusedSimpArgs false
section
set_option maxRecDepth 8000
namespace Go.AM
open Go
abbrev zM(g:String->Nat):List AOper:=[qf 97 1 11,⟨some 98,ol 1 97,none,[0]⟩,qm 99 12,qf 100 1 11,⟨some 101,ol 1 100,none,[3]⟩,qm 102 12,⟨some 103,oi 101 102 13,none,[4,3,5]⟩,⟨some 104,ola 13 103,none,[6,4,3,5]⟩,qm 105 2,⟨some 106,obi .quo 105 6,none,[8]⟩,qm 107 3,⟨some 108,oc (g "dactyl/dactylref23.spoiltBlock") [u 104,u 106,u 107],none,[7,6,4,3,5,9,8,10]⟩,⟨some 109,oi 98 99 13,none,[1,0,2,11,7,6,4,3,5,9,8,10]⟩,⟨none,os 13 109 108,none,[12,1,0,2,11,7,6,4,3,5,9,8,10]⟩]
abbrev oI:List Nat:=[1,11]
abbrev zN(g:String->Nat):List AOper:=[qf 127 3 11,⟨some 128,ol 1 127,none,[0]⟩,qm 129 13,qf 130 3 11,⟨some 131,ol 1 130,none,[3]⟩,qm 132 13,⟨some 133,oi 131 132 7,none,[4,3,5]⟩,⟨some 134,ola 7 133,none,[6,4,3,5]⟩,qm 135 2,⟨some 136,obi .quo 135 6,none,[8]⟩,qm 137 3,⟨some 138,oc (g "dactyl/dactylref23.spoiltQuestion") [u 134,u 136,u 137],none,[7,6,4,3,5,9,8,10]⟩,⟨some 139,oi 128 129 7,none,[1,0,2,11,7,6,4,3,5,9,8,10]⟩,⟨none,os 7 139 138,none,[12,1,0,2,11,7,6,4,3,5,9,8,10]⟩]
abbrev oJ:List Nat:=[1,11]
def oK(g:String->Nat):ACode:=.block 0 (qS [qbi 43 .eql 37 0,qm 42 43]<|qC 42 (qR [qq 44 (.bsl 1 [(.str [])] 4 [(0,(.const (.str []))),(1,(.const (.str [31]))),(2,(.const (.str [79,116,104,101,114]))),(3,(.const (.str [34,113,34])))]),qm 45 3,qc 46 (g "dactyl/dactylref01.Around") [u 45,ui 4],qi 47 44 46 1,ql 48 1 47,qf 49 0 4,qs 1 49 48]) (qS [qbi 51 .eql 37 1,qm 50 51]<|qC 50 (qR [qq 52 (.bsl 1 [(.str [])] 6 [(0,(.const (.str []))),(1,(.const (.str [49,97]))),(2,(.const (.str [111,116,104,101,114]))),(3,(.const (.str [85,112,112,101,114]))),(4,(.const (.str [115,101,118,101,110,116,101,101,110,108,101,116,116,101,114,115,49]))),(5,(.const (.str [97,32,98])))]),qm 53 3,qc 54 (g "dactyl/dactylref01.Around") [u 53,ui 6],qi 55 52 54 1,ql 56 1 55,qf 57 0 11,qs 1 57 56]) (qS [qbi 59 .eql 37 2,qm 58 59]<|qC 58 (qR [qq 60 (.bsl 4 [(.int .i64 0),(.int .i64 0),(.int .i64 0),(.int .i64 0)] 0 []),qf 61 2 11,ql 62 1 61,qa 63 4 32 60 62,qm 64 3,qc 65 (g "dactyl/dactylref01.Around") [u 64,ui 9],qbi 66 .sub 65 1,qm 67 3,qbi 68 .quo 67 9,qc 69 (g "dactyl/dactylref01.Around") [u 68,ui 10],qbi 70 .sub 69 1,qq 71 (.bsl 1 [(.int .i64 0)] 4 [(0,(.const (.int .i64 0))),(1,(.const (.int .i64 99))),(2,(.const (.int .i64 100))),(3,(.const (.int .i64 (-1))))]),qm 72 3,qc 73 (g "dactyl/dactylref01.Around") [u 72,ui 4],qi 74 71 73 1,ql 75 1 74,qq 76 (.build [(.int .i64 0),(.int .i64 0),(.int .i64 0),(.int .i64 0)] [(0,1,(.tmp 66)),(1,1,(.tmp 70)),(2,1,(.tmp 75))]),qq 77 (.bsl 4 [(.int .i64 0),(.int .i64 0),(.int .i64 0),(.int .i64 0)] 1 [(0,(.tmp 76))]),qa 78 4 32 63 77,qf 79 2 11,qs 1 79 78]) (qS [qbi 81 .eql 37 3,qm 80 81]<|qC 80 (qS [qf 82 1 11,ql 83 1 82,qn 84 83,qbi 85 .gtr 84 0]<|qC 85 (qS [qq 86 (.bsl 13 [(.int .i64 0),(.sl false []),(.int .i64 0),(.int .i64 0),(.sl false []),(.int .i64 0),(.sl false []),(.sl false []),(.int .i64 0),(.int .i64 0),(.sl false []),(.sl false []),(.sl false [])] 0 []),qf 87 1 11,ql 88 1 87,qa 89 13 216 86 88,qf 90 1 11,qs 1 90 89]<|qS [qm 91 1,qbi 92 .quo 91 3,qf 93 1 11,ql 94 1 93,qn 95 94,qc 96 (g "dactyl/dactylref01.Around") [u 92,u 95],qm 12 96]<|.region true (zM g)) (.skip)) (qS [qbi 111 .eql 37 4,qm 110 111]<|qC 110 (qS [qf 112 3 11,ql 113 1 112,qn 114 113,qbi 115 .gtr 114 0]<|qC 115 (qS [qq 116 (.bsl 7 [(.int .i64 0),(.sl false []),(.sl false []),(.sl false []),(.str []),(.int .i64 0),(.sl false [])] 0 []),qf 117 3 11,ql 118 1 117,qa 119 7 128 116 118,qf 120 3 11,qs 1 120 119]<|qS [qm 121 1,qbi 122 .quo 121 3,qf 123 3 11,ql 124 1 123,qn 125 124,qc 126 (g "dactyl/dactylref01.Around") [u 122,u 125],qm 13 126]<|.region true (zN g)) (.skip)) (qR [qm 38 10,qla 39 4 11,qq 40 (.bsl 4 [(.str []),(.sl false []),(.sl false []),(.sl false [])] 1 [(0,(.tmp 39))]),qa 41 4 88 38 40,qm 10 41]))))))
def jN(g:String->Nat):AFn:=⟨147,[4,8,31,11,63,78,89,119,41],[.cell 8 2 true],qS [qx 4 2 0,qq 8 (.alloc [(.str []),(.sl true [])])]<|.seq (qS [qf 14 1 4,ql 15 1 14,qn 16 15,qbi 17 .eql 16 0]<|qC 17 (qS [qf 18 0 4,ql 19 1 18,qq 20 (.bin .add .no (u 19) (uc (.str [10]))),qf 21 0 4,qs 1 21 20]<|qS [qla 22 2 4,qs 2 8 22]<|.ret) (.skip))<|qS [qm 23 1,qf 24 1 4,ql 25 1 24,qn 26 25,qc 27 (g "dactyl/dactylref01.Around") [u 23,u 26],qm 9 27]<|qS [qq 28 (.bsl 4 [(.str []),(.sl false []),(.sl false []),(.sl false [])] 0 []),qf 29 1 4,ql 30 1 29,qa 31 4 88 28 30,qm 10 31]<|qS [qm 32 10,qm 33 9,qi 34 32 33 4,qla 35 4 34,qq 11 (.alloc [(.str []),(.sl true []),(.sl true []),(.sl true [])]),qs 4 11 35]<|.seq (qS [qm 36 2,qc 37 (g "dactyl/dactylref01.Around") [u 36,ui 6]]<|oK g)<|.seq (.seq (.frz [(4,11)])<|.region false [qm 140 10,qm 141 9,qla 142 4 11,qi 143 140 141 4,qs 4 143 142])<|qS [qm 144 10,qf 145 1 4,qs 1 145 144]<|qS [qla 146 2 4,qs 2 8 146]<|.ret⟩
theorem aJv(n:Int):dN (IntKind.i64.wrap n):=by
 rw[Go.IntKind.wrap_i64];constructor<;>omega
theorem aLp(b:Block):List.drop 13 (aE b)=[]:=List.drop_eq_nil_of_le (by rw[cQ];exact Nat.le_refl _)
theorem aUv(q:Question):List.take 7 (vV q)=vV q:=List.take_of_length_le (Nat.le_refl _)
theorem aUw(q:Question):List.drop 7 (vV q)=[]:=rfl
theorem aA7{α:Type}{P:α->Prop}{l:List α}{a:α}(h:∀x∈l,P x)(ha:P a)(i:Nat):∀x∈l.set i a,P x:=by
 intro x hx;rcases List.mem_or_eq_of_mem_set hx with hx | rfl
 ·exact h x hx
 ·exact ha
theorem aNu{α:Type}{l:List α}{enc:α->List AV}{n:Int}(h0:0<=n)(h1:n<l.length):∃a∈l,(l.map enc)[n.toNat]? = some (enc a)/\l[n.toNat]? = some a:=by
 have hlt:n.toNat<l.length:=by omega
 exact⟨l[n.toNat],List.getElem_mem hlt,getElem?_map_of hlt,List.getElem?_eq_getElem hlt⟩
theorem pV(L:List Item)(k:Nat)(nm:Str)(bs:List Block)(fs:List Fact)(qs:List Question):
  (L.map cG).set k [.str nm,.sl false (bs.map aE),.sl false (fs.map bJ),.sl false (qs.map vV)]=(L.set k (Item.mk nm bs fs qs)).map cG:=by
 exact (List.map_set (f:=cG) (l:=L) (i:=k) (a:=Item.mk nm bs fs qs)).symm
abbrev aNv(v:AV):Prop:=∃x:Exam,v=eL x/\x.Ok
set_option maxHeartbeats 6400000 in
theorem aJw{A:AProg}{g:String->Nat}(h:Has A g "dactyl/dactylref23.Spoilt" (jN g))(ha:nO A g)
  (hB:∀{b:Block},b.Ok->BSlack b->∀{how by':Int},dN by'->∀H,∃v H' wr,aL A (g "dactyl/dactylref23.spoiltBlock") [.agg (aE b),vi how,vi by'] H=some (v,H',wr)/\(H'=H/\wr=[]/\∃b1:Block,v=.agg (aE b1)/\b1.Ok))
  (hQ:∀{q:Question},q.Ok->QSlack q->∀{how by':Int},dN by'->∀H,∃v H' wr,aL A (g "dactyl/dactylref23.spoiltQuestion") [.agg (vV q),vi how,vi by'] H=some (v,H',wr)/\(H'=H/\wr=[]/\∃q1:Question,v=.agg (vV q1)/\q1.Ok))
  {x:Exam} (hx:x.Ok) (hs:XSlack x) {at' how by':Int} (hat:dN at') (hby:dN by') (H:List AObj):
  ∃v H' wr,aL A (g "dactyl/dactylref23.Spoilt") [eL x,vi at',vi how,vi by'] H=some (v,H',wr)/\(H'=H/\wr=[]/\aNv v):=by
 refine h.callEx (by simp[jN]) (by kernel_rfl) ?_
 obtain⟨title,items⟩:=x;have ht1:=hs.title;have hi1:=hs.items;have hi2:=hs.item;have hi3:=hx.items;simp only at ht1 hi1 hi2 hi3;have fin:∀x1:Exam,x1.Ok->∀v:AV,v=eL x1->aNv v:=fun x1 h v e=>⟨x1,e,h⟩;simp only[jN,oK];cases hit:items with
 |nil=>
  have hadd:∀ek,kM .add ek (.str title) (.str [10])=some (.str (title++[10])):=fun ek=>jH (by simp;omega)
  simp only[go_sem,↓aC,seval,eL,hadd];exact fin ⟨title++[10],[]⟩ ⟨by show (title++[10]).length<=1000;simp;omega,by simp,by simp⟩ _ rfl
 |cons a0 r0=>
  rw[<- hit];have hne:(decide (((items.length:Nat):Int)=0))=false:=by rw[hit];simp;omega
  have hne2:(((items.length:Nat):Int)==0)=false:=by rw[hit];simp;omega
  have hem:(items.map cG).isEmpty=false:=by rw[hit];rfl
  have hhd:cH 4 (items.map cG)=true:=by rw[hit];rfl
  have hrm:bP items.length 88=true:=bV (by omega) (by decide)
  obtain⟨i0,i1⟩:=kB hat (m:=(items.length:Int)) (by rw[hit];simp;omega)
  obtain⟨it,him,hget,hget2⟩:=aNu (enc:=cG) i0 i1;have hio:=hi3 it him;have his:=hi2 it him;obtain⟨nm,bs,fs,qs⟩:=it;simp only[cG]at hget;have hstr:IntKind.i64.wrap 0=0:=wrap_i64 (by decide) (by decide)
  have hxo:∀(t:Str) (y:Item),mF t->y.Ok->(Exam.mk t (items.set (around at' items.length).toNat y)).Ok:=fun t y h1 h2=>
   ⟨h1,by show (items.set _ y).length<=16;rw[List.length_set];omega,aA7 hi3 h2 _⟩
  obtain⟨k1,k2⟩:=kB hby (m:=4) (by decide)
  obtain⟨k3,k4⟩:=kB hby (m:=6) (by decide)
  have h9:=mI (c:=1) hby (m:=9) (by decide) (by decide) (by decide) (by decide)
  have h10:=mI (c:=1) (aJv (by'.tdiv 9)) (m:=10) (by decide) (by decide) (by decide) (by decide)
  simp only[go_sem,↓aC,seval,eL,ha at',ha how,hne2,hem,hhd,hrm,i0,i1,hget];refine aD (fun hb => ?_) (fun hb => ?_)
  ·obtain⟨t,htm,htab⟩:=aNh [[],[31],[79,116,104,101,114],[34,113,34]] k1 k2;simp only[List.map,aN]at htab;have htl:mF t:=by
    have:∀s∈([[],[31],[79,116,104,101,114],[34,113,34]]:List Str),mF s:=by decide
    exact this t htm
   simp only[go_sem,↓aC,seval,ha by',k1,htab,i0,i1,hget,pV,aO (aB dB _),aA (aB dB _)]
   exact fin _ (hxo t _ htl hio) _ rfl
  simp only[go_sem,↓aC,seval];refine aD (fun hb => ?_) (fun hb => ?_)
  ·obtain⟨t,htm,htab⟩:=aNh [[],[49,97],[111,116,104,101,114],[85,112,112,101,114],[115,101,118,101,110,116,101,101,110,108,101,116,116,101,114,115,49],[97,32,98]] k3 k4;simp only[List.map,aN]at htab;have htl:mF t:=by
    have:∀s∈([[],[49,97],[111,116,104,101,114],[85,112,112,101,114],[115,101,118,101,110,116,101,101,110,108,101,116,116,101,114,115,49],[97,32,98]]:List Str),mF s:=by decide
    exact this t htm
   simp only[go_sem,↓aC,seval,ha by',k3,htab,i0,i1,hget,pV,aO (aB dB _),aA (aB dB _)]
   exact fin _ (hxo title (Item.mk t bs fs qs) hx.title { hio with name:=htl }) _ rfl
  simp only[go_sem,↓aC,seval];refine aD (fun hb => ?_) (fun hb => ?_)
  ·obtain⟨t,htm,htab⟩:=aNg [0,99,100,-1] k1 k2;simp only[List.map,bD]at htab;have htl:dN t:=by
    have:∀s∈([0,99,100,-1]:List Int),dN s:=by decide
    exact this t htm
   have hq9:∀ek,kM .quo ek (vi by') (vi 9)=some (vi (IntKind.i64.wrap (by'.tdiv 9))):=fun ek=>yQ (by decide)
   have hfl:=his.facts;simp only at hfl;have ho:(Item.mk nm bs (fs++[⟨around by' 9 - 1,around (IntKind.i64.wrap (by'.tdiv 9)) 10 - 1,t,0⟩]) qs).Ok:={ hio with lenF:=by show (fs++[_]).length<=16;rw[List.length_append];simp;omega,facts:=pF hio.facts ⟨h9.2,h10.2,htl,aB6⟩ }
   have hm:∀(l:List Fact) (a b c d:Int),l.map bJ++[[vi a,vi b,vi c,vi d]]=(l++[Fact.mk a b c d]).map bJ:=fun l a b c d=>by simp[bJ]
   by_cases hoe:fs=[]
   ·subst hoe;have hset:=pV items (around at' items.length).toNat nm bs [⟨around by' 9 - 1,around (IntKind.i64.wrap (by'.tdiv 9)) 10 - 1,t,0⟩] qs
    simp only[List.map_cons,List.map_nil,bJ]at hset;simp only[go_sem,↓aC,seval,ha by',ha (IntKind.i64.wrap (by'.tdiv 9)),hq9,h9.1,h10.1,k1,htab,bV,hset,i0,i1,hget,aO (aB dB _),aA (aB dB _)]
    exact fin _ (hxo title _ hx.title ho) _ rfl
   ·have hfe:(fs.map bJ).isEmpty=false:=by cases fs with | nil=>exact absurd rfl hoe | cons a r=>rfl
    have hfh:cH 4 (fs.map bJ)=true:=by cases fs<;>rfl
    have hr1:bP fs.length 32=true:=bV (by omega) (by decide)
    have hr2:bP (fs.length+1) 32=true:=bV (by omega) (by decide)
    simp only[go_sem,↓aC,seval,ha by',ha (IntKind.i64.wrap (by'.tdiv 9)),hq9,h9.1,h10.1,k1,htab,hfe,hfh,hr1,hr2,hm,aO (aB gT _),i0,i1,hget,pV,aO (aB dB _),aA (aB dB _)]
    exact fin _ (hxo title _ hx.title ho) _ rfl
  simp only[go_sem,↓aC,seval];refine aD (fun hb => ?_) (fun hb => ?_)
  ·by_cases hoe:bs=[]
   ·subst hoe;have hset:=pV items (around at' items.length).toNat nm [] fs qs;rw[List.map_nil]at hset;simp only[go_sem,↓aC,seval,hset,i0,i1,hget,aO (aB dB _),aA (aB dB _)];exact fin _ (hxo title _ hx.title hio) _ rfl
   ·have hbl:=his.blocks;simp only at hbl;have hbp:0<bs.length:=List.length_pos_iff.2 hoe;have hfe:(bs.map aE).isEmpty=false:=by cases bs with | nil=>exact absurd rfl hoe | cons a r=>rfl
    have hfh:cH 13 (bs.map aE)=true:=by cases bs with | nil=>rfl | cons a r=>rw[List.map_cons,vQ,cQ];rfl
    have hr1:bP bs.length 216=true:=bV (by omega) (by decide)
    have hgt:decide ((bs.length:Int)>0)=true:=by simp;omega
    have hq3:∀ek,kM .quo ek (vi at') (vi 3)=some (vi (IntKind.i64.wrap (at'.tdiv 3))):=fun ek=>yQ (by decide)
    have hq6:∀ek,kM .quo ek (vi how) (vi 6)=some (vi (IntKind.i64.wrap (how.tdiv 6))):=fun ek=>yQ (by decide)
    obtain⟨j0,j1⟩:=kB (aJv (at'.tdiv 3)) (m:=(bs.length:Int)) (by omega)
    obtain⟨b,hbm,hgetb,hgetb2⟩:=aNu (enc:=aE) j0 j1;simp only[go_sem,↓aC,seval,ha (IntKind.i64.wrap (at'.tdiv 3)),hgt,hfe,hfh,hr1,hq3];refine bN (keep:=oI) (by rfl) (by rfl) ?_
    simp only[go_sem,↓aC,seval,oI,j0,j1,hgetb,hq6,cQ,aCC,aY (bO _),aM (bO _)];refine aK1 (hB (hio.blocks b hbm) (his.block b hbm) hby _) ?_;rintro v2 H2 wr2 ⟨rfl,rfl,b1,rfl,hb1⟩;have hset:∀b1,(bs.map aE).set (around (IntKind.i64.wrap (at'.tdiv 3)) bs.length).toNat (aE b1)=(bs.set (around (IntKind.i64.wrap (at'.tdiv 3)) bs.length).toNat b1).map aE:=fun b1=>List.map_set.symm;simp only[go_sem,↓aC,seval,j0,j1,hgetb,hset,cQ,aLp,aM (bO _),bY (bO _),fG,eB,aR,aO (aB bO _),i0,i1,hget,pV,aO (aB dB _),aA (aB dB _)];exact fin _ (hxo title (Item.mk nm (bs.set (around (IntKind.i64.wrap (at'.tdiv 3)) bs.length).toNat b1) fs qs) hx.title { hio with lenB:=by show (bs.set _ b1).length<=16;rw[List.length_set];omega,blocks:=aA7 hio.blocks hb1 _ }) _ rfl
  simp only[go_sem,↓aC,seval];refine aD (fun hb => ?_) (fun hb => ?_)
  ·by_cases hoe:qs=[]
   ·subst hoe;have hset:=pV items (around at' items.length).toNat nm bs fs [];simp only[List.map_nil]at hset;simp only[go_sem,↓aC,seval,hset,i0,i1,hget,aO (aB dB _),aA (aB dB _)];exact fin _ (hxo title _ hx.title hio) _ rfl
   ·have hbl:=his.ask;simp only at hbl;have hbp:0<qs.length:=List.length_pos_iff.2 hoe;have hfe:(qs.map vV).isEmpty=false:=by cases qs with | nil=>exact absurd rfl hoe | cons a r=>rfl
    have hfh:cH 7 (qs.map vV)=true:=by cases qs<;>rfl
    have hr1:bP qs.length 128=true:=bV (by omega) (by decide)
    have hgt:decide ((qs.length:Int)>0)=true:=by simp;omega
    have hq3:∀ek,kM .quo ek (vi at') (vi 3)=some (vi (IntKind.i64.wrap (at'.tdiv 3))):=fun ek=>yQ (by decide)
    have hq6:∀ek,kM .quo ek (vi how) (vi 6)=some (vi (IntKind.i64.wrap (how.tdiv 6))):=fun ek=>yQ (by decide)
    obtain⟨j0,j1⟩:=kB (aJv (at'.tdiv 3)) (m:=(qs.length:Int)) (by omega)
    obtain⟨q,hqm,hgetb,hgetb2⟩:=aNu (enc:=vV) j0 j1;simp only[go_sem,↓aC,seval,ha (IntKind.i64.wrap (at'.tdiv 3)),hgt,hfe,hfh,hr1,hq3];refine bN (keep:=oJ) (by rfl) (by rfl) ?_
    simp only[go_sem,↓aC,seval,oJ,j0,j1,hgetb,hq6,aRV,aUv,aY (yT _),aM (yT _)];refine aK1 (hQ (hio.ask q hqm) (his.question q hqm) hby _) ?_;rintro v2 H2 wr2 ⟨rfl,rfl,q1,rfl,hq1⟩;have hset:∀q1,(qs.map vV).set (around (IntKind.i64.wrap (at'.tdiv 3)) qs.length).toNat (vV q1)=(qs.set (around (IntKind.i64.wrap (at'.tdiv 3)) qs.length).toNat q1).map vV:=fun q1=>List.map_set.symm;simp only[go_sem,↓aC,seval,j0,j1,hgetb,hset,aRV,aUw,aM (yT _),bY (yT _),fG,eB,aR,aO (aB yT _),i0,i1,hget,pV,aO (aB dB _),aA (aB dB _)];exact fin _ (hxo title (Item.mk nm bs fs (qs.set (around (IntKind.i64.wrap (at'.tdiv 3)) qs.length).toNat q1)) hx.title { hio with lenA:=by show (qs.set _ q1).length<=16;rw[List.length_set];omega,ask:=aA7 hio.ask hq1 _ }) _ rfl
  ·have hr1:bP (items.length+1) 88=true:=bV (by omega) (by decide)
   have happ:items.map cG++[[.str nm,.sl false (bs.map aE),.sl false (fs.map bJ),.sl false (qs.map vV)]]=(items++[Item.mk nm bs fs qs]).map cG:=by simp[cG]
   have hget3:((items++[Item.mk nm bs fs qs]).map cG)[(around at' items.length).toNat]? = some [.str nm,.sl false (bs.map aE),.sl false (fs.map bJ),.sl false (qs.map vV)]:=by
    rw[List.map_append,List.getElem?_append_left (by simp;omega)];exact hget
   have i2:around at' items.length<((items.length+1:Nat):Int):=by omega
   simp only[go_sem,↓aC,seval,hr1,happ,hget3,i2,i0,pV,aO (aB dB _),aA (aB dB _)];exact fin ⟨title,(items++[Item.mk nm bs fs qs]).set (around at' items.length).toNat (Item.mk nm bs fs qs)⟩ ⟨hx.title,by show (List.set _ _ _).length<=16;rw[List.length_set];simp;omega,aA7 (pF hi3 hio) hio _⟩ _ rfl
abbrev zO(g:String->Nat):ACode:=.seq (qS [qm 5 4,qf 6 1 1,ql 7 1 6,qn 8 7,qb 9 .lss 5 8]<|qC 9 (.skip) (.exit 0))<|.seq (.block 1 (qR [qm 12 3,qf 13 1 1,ql 14 1 13,qm 15 4,qi 16 14 15 4,qf 17 1 16,ql 18 1 17,qa 19 13 216 12 18,qm 3 19]))<|.region false [qm 10 4,qbi 11 .add 10 1,qm 4 11]
abbrev zP:List Nat:=[5,6,7,8,9,12,13,14,15,16,17,18,19,3,10,11,4]
def jO(g:String->Nat):AFn:=⟨21,[19],[.tmp 2],qS [qx 1 2 0,qmc 2 (.sl true [])]<|qS [qmc 3 (.sl true [])]<|.seq (qS [qmc 4 (.int .i64 0)]<|.block 0 (.loop (zO g)))<|qS [qm 20 3,qm 2 20]<|.ret⟩
section
variable {A:AProg}{g:String->Nat}
def bF(x:Exam):List Block:=x.items.flatMap Item.blocks
theorem aLq{id:Nat}{L:List Block}{w:AV}{o:AObj}(hg:GSl id 13 (L.map aE) w o)(hL:L.length<=1000000)(bs:List Block)(hbs:bs.length<=1000):∃w' o' wr,GSl id 13 ((L++bs).map aE) w' o'/\(∀X f,X[id]? = some o->fH X (some id) 13 216 w (.sl f (bs.map aE))=some (w',X.set id o',wr))/\∀x∈wr,x=id:=by
 cases bs with
 |nil=>
  refine⟨w,o,[],by rw[List.append_nil];exact hg,fun X f ho => ?_,fun x hx=>by cases hx⟩
  rw[aDy ho];generalize hr:L.map aE=rows at hg;cases hg with
  |nil=>rfl
  |obj ver=>
   have hrm:bP rows.length 216=true:=by rw[<- hr];unfold bP;simp;omega
   simp[fH,cU,eH,ho,hrm,cH]
 |cons b r=>
  obtain⟨v',o',hg',happ⟩:=hg.app (new:=(b::r).map aE) (bytes:=216) (by simp) (by rw[List.map_cons,vQ,cQ];rfl) (by simp only[List.length_map];omega)
  exact⟨v',o',[id],by rw[List.map_append];exact hg',happ,fun x hx=>List.mem_singleton.1 hx⟩
theorem aJx(h:Has A g "dactyl/dactylref25.Blocks" (jO g)){x:Exam}(hx:x.Ok)(H:List AObj):
  ∃r,aL A (g "dactyl/dactylref25.Blocks") [eL x] H=some (r,H,[])/\(r=.own 13 ((bF x).map aE)∨(bF x=[]/\r=.sl false [])):=by
 obtain⟨r,H',wr,h1,rfl,rfl,h2⟩:=h.callEx (args:=[eL x]) (H:=H) (K:=fun r H' wr=>wr=[]/\H'=H/\(r=.own 13 ((bF x).map aE)∨(bF x=[]/\r=.sl false []))) (by simp[jO]) (by kernel_rfl) (by
  have hlI:=hx.lenI;simp only[jO,eL];simp only[go_sem,↓aC,seval];refine bZ (id:=0) (W:=zP) (fun i ρ1 H1 wr=>wr=[]/\ρ1 4=vi (i:Nat)/\∃w o,H1=H++[o]/\ρ1 3=w/\GSl H.length 13 (((x.items.take i).flatMap Item.blocks).map aE) w o/\((x.items.take i).flatMap Item.blocks).length<=16*i) x.items.length
   (fun ρ1 H1 wr=>wr=[]/\∃w o,H1=H++[o]/\ρ1 3=w/\GSl H.length 13 ((bF x).map aE) w o)
   (by kernel_rfl) (by rfl) ⟨rfl,rfl,.sl true [],.gone 0,rfl,rfl,.nil _,by simp⟩ ?_ ?_
  ·rintro i ρ1 H1 wr1 hil ⟨rfl,e4,w,o,rfl,e3,hg,hle⟩ hf;have e1:ρ1 1=.ep [.str x.title,.sl false (x.items.map cG)] 0:=by rw[hf 1 (by rfl)];rfl
   simp only[go_sem,↓aC,seval,e4,e1,List.length_map,List.drop_succ_cons,List.drop_zero,List.take_succ_cons,List.take_zero];refine aD (fun hb => ?_) (fun hb => ?_)
   ·have hlt:i<x.items.length:=by simp at hb;omega
    have hget:(x.items.map cG)[i]? = some (cG x.items[i]):=by rw[List.getElem?_map,List.getElem?_eq_getElem hlt];rfl
    have hit:=hx.items _ (List.getElem_mem hlt);have htk:(x.items.take (i+1)).flatMap Item.blocks=(x.items.take i).flatMap Item.blocks++x.items[i].blocks:=by
     rw[jA hlt,List.flatMap_append,List.flatMap_singleton]
    generalize x.items[i]=it at *;have hlb:=hit.lenB;obtain⟨w',o',wr',hg',happ,hwr'⟩:=aLq hg (by omega) it.blocks (by omega)
    rw[<- htk]at hg';have hw1:IntKind.i64.wrap ((i:Int)+1)=((i+1:Nat):Int):=by rw[wrap_i64 (by omega) (by omega)];omega
    have happ':=fun f=>happ (H++[o]) f (by rw[vP];rfl)
    have hwn:bA H.length [] wr'=[]:=aA0 fun y hy=>by rw[hwr' y hy];exact Nat.le_refl _
    simp only[go_sem,↓aC,seval,e4,e3,e1,Int.natCast_nonneg,Int.toNat_natCast,hlt,hget,cG,happ',hw1,hwn,List.drop_succ_cons,List.drop_zero,List.take_succ_cons,List.take_zero];exact⟨w',o',rfl,rfl,hg',by rw[htk,List.length_append];omega⟩
   ·have hi:i=x.items.length:=by simp at hb;omega
    subst hi;rw[List.take_length]at hg;simp only[go_sem,seval];exact⟨w,o,rfl,e3,hg⟩
  ·rintro ρ2 H2 wr2 ⟨rfl,w,o,rfl,e3,hg⟩ hf;generalize hr:(bF x).map aE=rows at hg;cases hg with
   |nil=>
    have hn:bF x=[]:=by simpa using hr
    simp only[go_sem,↓aC,seval,e3];exact .inr hn
   |obj ver=>
    have hd:oC rows=true:=by rw[<- hr];exact aB bO _
    simp only[go_sem,↓aC,seval,e3,aO hd,aA hd];exact .inl trivial)
 exact⟨r,h1,h2⟩
end
abbrev oL(g:String->Nat):List AOper:=[qm 29 12,qla 30 2 11,qm 31 2,qm 32 3,⟨some 33,oc (g "dactyl/dactylref01.Around") [u 32,ui 9],none,[3]⟩,⟨some 34,.bin .mul .no (ui 6) (u 33),none,[4,3]⟩,⟨some 35,.bin .add .no (ui 3) (u 34),none,[5,4,3]⟩,qm 36 4,⟨some 37,oc (g "dactyl/dactylref23.Spoilt") [u 30,u 31,u 35,u 36],none,[1,2,6,5,7,4,3]⟩,⟨some 38,oc (g "dactyl/dactylref25.Blocks") [u 37],none,[8,1,2,6,5,7,4,3]⟩,⟨some 39,oa 13 216 29 38,none,[0,9,8,1,2,6,5,7,4,3]⟩,⟨some 12,om 39,none,[10,0,9,8,1,2,6,5,7,4,3]⟩]
abbrev dE:List Nat:=[1,4]
abbrev oM(g:String->Nat):List AOper:=[qm 71 18,⟨some 72,obi .neq 71 0,none,[0]⟩,⟨some 73,om 72,none,[1,0]⟩,⟨some 74,om 12,some (some 73,false),[2,1,0]⟩,⟨some 75,om 13,some (some 73,false),[2,1,0]⟩,⟨some 76,oi 74 75 13,some (some 73,false),[3,4,2,1,0]⟩,⟨some 77,of 0 76,some (some 73,false),[5,3,4,2,1,0]⟩,⟨some 78,ol 1 77,some (some 73,false),[6,5,3,4,2,1,0]⟩,⟨some 79,om 12,some (some 73,false),[2,1,0]⟩,⟨some 80,om 16,some (some 73,false),[2,1,0]⟩,⟨some 81,oi 79 80 13,some (some 73,false),[8,9,2,1,0]⟩,⟨some 82,of 0 81,some (some 73,false),[10,8,9,2,1,0]⟩,⟨some 83,ol 1 82,some (some 73,false),[11,10,8,9,2,1,0]⟩,⟨some 84,ob .neq 78 83,some (some 73,false),[7,6,5,3,4,12,11,10,8,9,2,1,0]⟩,⟨some 85,.pick (u 73) uT (u 84),none,[13,7,6,5,3,4,12,11,10,8,9,2,1,0]⟩]
abbrev dF:List Nat:=[]
abbrev oN(g:String->Nat):ACode:=.seq (qS [qm 54 16,qm 55 13,qb 56 .lss 54 55,qm 57 56,qT 58 57 (om 15),qT 59 57 (obi .eql 58 0),qp 60 57 59]<|qC 60 (.skip) (.exit 2))<|.seq (.block 3 (qS [qm 64 12,qm 65 16,qi 66 64 65 13,qla 67 13 66,qc 68 (g "dactyl/source.Text") [u 67],qm 63 68,qq 69 (.ext 0 (u 63)),qq 70 (.ext 1 (u 63)),qm 17 69,qm 18 70]<|.seq (.seq (.region true (oM g))<|qC 85 (.exit 3) (.skip))<|qS [qm 86 12,qm 87 13,qm 88 13,qbi 89 .add 88 1,qq 90 (.sliceV 13 (u 86) (some (.tmp 87)) (some (.tmp 89)) none),qq 91 (.build [(.str []),(.sl true []),(.sl true []),(.sl true [])] [(0,1,(.const (.str [97]))),(1,1,(.tmp 90))]),qq 92 (.bsl 4 [(.str []),(.sl false []),(.sl false []),(.sl false [])] 1 [(0,(.tmp 91))]),qq 93 (.build [(.str []),(.sl true [])] [(1,1,(.tmp 92))]),qq 19 (.alloc [(.str []),(.sl true [])]),qs 2 19 93]<|qS [qm 94 12,qm 95 16,qm 96 16,qbi 97 .add 96 1,qq 98 (.sliceV 13 (u 94) (some (.tmp 95)) (some (.tmp 97)) none),qq 99 (.build [(.str []),(.sl true []),(.sl true []),(.sl true [])] [(0,1,(.const (.str [97]))),(1,1,(.tmp 98))]),qq 100 (.bsl 4 [(.str []),(.sl false []),(.sl false []),(.sl false [])] 1 [(0,(.tmp 99))]),qq 101 (.build [(.str []),(.sl true [])] [(1,1,(.tmp 100))]),qq 20 (.alloc [(.str []),(.sl true [])]),qs 2 20 101]<|qS [qm 102 14,qm 103 17,qb 104 .eql 102 103,qla 105 2 19,qla 106 2 20,qc 107 (g "dactyl/syntax.Same") [u 105,u 106],qq 108 (.bin .neq .bool (u 104) (u 107))]<|qC 108 (qS [qmc 10 (.bool false)]<|.ret) (.skip)))<|.region false [qm 61 16,qbi 62 .add 61 1,qm 16 62]
abbrev oO:List Nat:=[54,55,56,57,58,59,60,64,65,66,67,68,63,69,70,17,18,71,72,73,74,75,76,77,78,79,80,81,82,83,84,85,86,87,88,89,90,91,92,93,19,94,95,96,97,98,99,100,101,20,102,103,104,105,106,107,108,10,61,62,16]
abbrev eN(g:String->Nat):ACode:=.seq (qS [qm 40 13,qm 41 12,qn 42 41,qb 43 .lss 40 42]<|qC 43 (.skip) (.exit 0))<|.seq (.block 1 (qS [qm 47 12,qm 48 13,qi 49 47 48 13,qla 50 13 49,qc 51 (g "dactyl/source.Text") [u 50],qm 46 51,qq 52 (.ext 0 (u 46)),qq 53 (.ext 1 (u 46)),qm 14 52,qm 15 53]<|qS [qmc 16 (.int .i64 0)]<|.block 2 (.loop (oN g))))<|.region false [qm 44 13,qbi 45 .add 44 1,qm 13 45]
abbrev oP:List Nat:=[40,41,42,43,47,48,49,50,51,46,52,53,14,15,16,54,55,56,57,58,59,60,64,65,66,67,68,63,69,70,17,18,71,72,73,74,75,76,77,78,79,80,81,82,83,84,85,86,87,88,89,90,91,92,93,19,94,95,96,97,98,99,100,101,20,102,103,104,105,106,107,108,10,61,62,16,44,45,13]
def dV(g:String->Nat):AFn:=⟨110,[11,24,19,20],[.tmp 10],qS [qmc 10 (.bool false)]<|qS [qm 21 0,qc 22 (g "dactyl/dactylref23.Exam") [u 21],qq 11 (.alloc [(.str []),(.sl true [])]),qs 2 11 22]<|qS [qla 23 2 11,qc 24 (g "dactyl/dactylref25.Blocks") [u 23],qm 25 1,qc 26 (g "dactyl/dactylref23.Exam") [u 25],qc 27 (g "dactyl/dactylref25.Blocks") [u 26],qa 28 13 216 24 27,qm 12 28]<|.seq (.region true (oL g))<|.seq (.seq (.seq (.frz [(0,12)])<|.region false [qmc 13 (.int .i64 0)])<|.block 0 (.loop (eN g)))<|qS [qc 109 (g "dactyl/dactyllaw25.lives") [],qm 10 109]<|.ret⟩
section
variable {A:AProg}{g:String->Nat}
structure LawSpecs25(A:AProg)(g:String->Nat):Prop where
 exam:∀{l:List Int},gD l->∀H,∃x:Exam,aL A (g "dactyl/dactylref23.Exam") [.sl false (l.map bD)] H=some (eL x,H,[])/\x.Ok/\XSlack x
 spoilt:∀{x:Exam},x.Ok->XSlack x->∀{at' how by':Int},dN at'->dN by'->∀H,∃x':Exam,aL A (g "dactyl/dactylref23.Spoilt") [eL x,vi at',vi how,vi by'] H=some (eL x',H,[])/\x'.Ok
 blocks:∀{x:Exam},x.Ok->∀H,∃r,aL A (g "dactyl/dactylref25.Blocks") [eL x] H=some (r,H,[])/\(r=.own 13 ((bF x).map aE)∨(bF x=[]/\r=.sl false []))
 around:nO A g
 text:aCB A g
 same:kP A (g "dactyl/syntax.Same") eL Exam.Ok
 lives:∀H,aL A (g "dactyl/dactyllaw25.lives") [] H=some (.bool true,H,[])
def aJy(b:Block):Exam:=⟨[],[⟨[97],[b],[],[]⟩]⟩
theorem aPl{b:Block}(h:b.Ok):(aJy b).Ok:=by
 refine⟨by show ([]:Str).length<=1000;decide,by show 1<=16;decide,fun i hi => ?_⟩
 rw[List.mem_singleton.1 hi];exact⟨by show ([97]:Str).length<=1000;decide,by show 1<=16;decide,fun c hc=>by rw[List.mem_singleton.1 hc];exact h,by show 0<=16;decide,(fun _ h=>by cases h),by show 0<=16;decide,fun _ h=>by cases h⟩
theorem aNw{a b:Block}:eqv (aJy a) (aJy b)=eqv a b:=by
 rw[Bool.eq_iff_iff,dI,dI];unfold aJy;simp
theorem aEU{x:Exam}(h:x.Ok):∀b∈bF x,b.Ok:=fun b hb=>by
 obtain⟨i,hi,hb⟩:=List.mem_flatMap.1 hb;exact (h.items i hi).blocks b hb
theorem aCD{x:Exam}(h:x.Ok):(bF x).length<=256:=by
 have:∀l:List Item,(∀i∈l,i.blocks.length<=16)->(l.flatMap Item.blocks).length<=16*l.length:=by
  intro l
  induction l with
  |nil=>simp
  |cons a r ih=>
   intro hl;have h1:=hl a (by simp)
   have h2:=ih fun i hi=>hl i (by simp[hi])
   simp only[List.flatMap_cons,List.length_append,List.length_cons];omega
 have h1:=this x.items fun i hi=>(h.items i hi).lenB;have h2:=h.lenI;unfold bF;omega
theorem aEV{x:Exam}(h:XSlack x):bF x≠[]:=by
 obtain⟨t,is⟩:=x;have h1:=h.ine;cases is with
 |nil=>simp at h1
 |cons i r=>
  have h2:=(h.item i (by simp)).bne
  intro e;unfold bF at e;simp only[List.flatMap_cons,List.append_eq_nil_iff]at e;rw[e.1]at h2;simp at h2
set_option maxHeartbeats 3200000 in
theorem aH2(S:LawSpecs25 A g){L:List Block}(hL:∀b∈L,b.Ok)(hLl:L.length<=1000){H:List AObj}{o0 o1 o2 o3:AObj}{ρ:bH}{Q:AExit->bH->List AObj->List Nat->Prop}
  {tg:Tg (A,110,(⟨H.length,[11,24,19,20]⟩:Ctx),eN g,Q)} (h12:ρ 12=.sl false (L.map aE)) (h13:ρ 13=vi 0)
  (hQ:∀ρ' o2 o3,Q (.exit 0) ρ' (H++[o0,o1,o2,o3]) []):wl A 110 ⟨H.length,[11,24,19,20]⟩ (eN g) ρ (H++[o0,o1,o2,o3]) [] Q tg:=by
 refine bZ (id:=0) (W:=oP) (fun i ρ1 H1 wr=>wr=[]/\ρ1 13=vi (i:Nat)/\∃o2 o3,H1=H++[o0,o1,o2,o3]) L.length
  (fun ρ1 H1 wr=>wr=[]/\∃o2 o3,H1=H++[o0,o1,o2,o3]) (by kernel_rfl) (by rfl) ⟨rfl,h13,o2,o3,rfl⟩ ?_ (by
   rintro ρ' H' wr' ⟨rfl,p2,p3,rfl⟩ hf;exact hQ ρ' p2 p3)
 rintro i ρ1 H1 wr1 hil ⟨rfl,e13,p2,p3,rfl⟩ hf;have e12:ρ1 12=.sl false (L.map aE):=by rw[hf 12 (by rfl)];exact h12
 simp only[go_sem,↓aC,seval,e13,e12,List.length_map];refine aD (fun hb => ?_) (fun hb => ?_)
 ·have hlt:i<L.length:=by simp at hb;omega
  have hget:(L.map aE)[i]? = some (aE L[i]):=by rw[List.getElem?_map,List.getElem?_eq_getElem hlt];rfl
  have hok:=hL _ (List.getElem_mem hlt);have hw1:IntKind.i64.wrap ((i:Int)+1)=((i+1:Nat):Int):=by rw[wrap_i64 (by omega) (by omega)];omega
  obtain⟨s,e,ht,hte⟩:=S.text L[i] hok (H++[o0,o1,p2,p3]);have hsl:((L.map aE).take (i+1)).drop i=[aE L[i]]:=by
   rw[jA (by simpa using hlt),List.drop_append_of_le_length (by simp;omega),List.drop_eq_nil_of_le (by simp;omega)]
   simp
  have hbi:dK L.length (some (vi (i:Nat))) (some (vi ((i+1:Nat):Int))) none=some (i,i+1,L.length):=xB (by omega) (by omega)
  generalize L[i]=bi at *;simp only[go_sem,↓aC,seval,e13,e12,Int.natCast_nonneg,Int.toNat_natCast,hlt,hget,cQ,gC.take,aY (bO bi),aM (bO bi),ht,List.drop_zero];refine bZ (id:=2) (W:=oO) (fun k ρ2 H2 wr=>wr=[]/\ρ2 16=vi (k:Nat)/\∃q2 q3,H2=H++[o0,o1,q2,q3]) i
   (fun ρ2 H2 wr=>wr=[]/\∃q2 q3,H2=H++[o0,o1,q2,q3]) (by kernel_rfl) (by rfl) ⟨rfl,rfl,p2,p3,rfl⟩ ?_ (by
    rintro ρ2 H2 wr2 ⟨rfl,q2,q3,rfl⟩ hf2;have f13:ρ2 13=vi (i:Nat):=by rw[hf2 13 (by rfl)];exact e13
    simp only[go_sem,↓aC,seval,f13,hw1];exact⟨hlt,q2,q3,rfl⟩)
  rintro k ρ2 H2 wr2 hkl ⟨rfl,f16,q2,q3,rfl⟩ hf2;have f12:ρ2 12=.sl false (L.map aE):=by rw[hf2 12 (by rfl)];exact e12
  have f13:ρ2 13=vi (i:Nat):=by rw[hf2 13 (by rfl)];exact e13
  have f14:ρ2 14=.str s:=by rw[hf2 14 (by rfl)];rfl
  have f15:ρ2 15=vi e:=by rw[hf2 15 (by rfl)];rfl
  simp only[go_sem,↓aC,seval];cases hb2:decide (k<i)with
  |false=>
   simp only[go_sem,↓aC,seval,f16,f13,hb2,Bool.false_beq];exact⟨q2,q3,rfl⟩
  |true=>
  have hki:k<i:=of_decide_eq_true hb2;cases ze:(e==0)with
  |false=>
   simp only[go_sem,↓aC,seval,f16,f13,f15,hb2,ze,beq_self_eq_true];exact⟨q2,q3,rfl⟩
  |true=>
  have he0:e=0:=by simpa using ze
  have hkL:k<L.length:=by omega
  have aHw:(L.map aE)[k]? = some (aE L[k]):=by rw[List.getElem?_map,List.getElem?_eq_getElem hkL];rfl
  have kok:=hL _ (List.getElem_mem hkL);obtain⟨t,f,kt,ktf⟩:=S.text L[k] kok (H++[o0,o1,q2,q3]);have ksl:((L.map aE).take (k+1)).drop k=[aE L[k]]:=by
   rw[jA (by simpa using hkL),List.drop_append_of_le_length (by simp;omega),List.drop_eq_nil_of_le (by simp;omega)]
   simp
  have hbk:dK L.length (some (vi (k:Nat))) (some (vi ((k+1:Nat):Int))) none=some (k,k+1,L.length):=xB (by omega) (by omega)
  have hw2:IntKind.i64.wrap ((k:Int)+1)=((k+1:Nat):Int):=by rw[wrap_i64 (by omega) (by omega)];omega
  generalize L[k]=bk at *;simp only[go_sem,↓aC,seval,f16,f13,f15,f12,hb2,ze,beq_self_eq_true,Int.natCast_nonneg,Int.ofNat_lt,Int.toNat_natCast,aHw,cQ,gC.take,aY (bO bk),aM (bO bk),kt,List.drop_zero];refine bN (keep:=dF) (H0:=_) (by simp only[go_sem,seval,cI];rfl) (by rfl) ?_
  have tk1:∀b:Block,List.take 1 (aE b)=[vi b.kind]:=fun b=>by
   unfold aE;rfl
  have h13:(1:Nat)<=13:=by decide
  cases zf:(f != 0)with
  |true=>
   simp only[go_sem,↓aC,seval,dF,f16,zf,Bool.true_beq,hw2];exact⟨hki,q2,q3,rfl⟩
  |false=>
  have hf0:f=0:=by simpa using zf
  cases zk:(bi.kind != bk.kind)with
  |true=>
   simp only[go_sem,↓aC,seval,dF,f16,f13,f12,zf,zk,tk1,h13,hget,aHw,cQ,List.drop_zero,Int.natCast_nonneg,Int.toNat_natCast,beq_self_eq_true,hw2];exact⟨hki,q2,q3,rfl⟩
  |false=>
  have hkk:bi.kind=bk.kind:=by simpa using zk
  obtain⟨gi,si⟩:=hte he0;obtain⟨gk,sk⟩:=ktf hf0;have heq:(s==t)=eqv bi bk:=by
   rw[si,sk,Bool.eq_iff_iff,dI,beq_iff_eq];exact aUj gi gk hkk
  have hhead:cH 13 (L.map aE)=true:=by cases L<;>simp[cH,cQ]
  have hsm:=fun X=>S.same (aJy bi) (aJy bk) X (aPl hok);rw[aNw]at hsm;simp only[eL,aJy,List.map_cons,List.map_nil,cG]at hsm;simp only[go_sem,↓aC,seval,dF,f16,f13,f14,f12,zf,zk,tk1,h13,hget,aHw,cQ,List.drop_zero,List.length_map,Int.natCast_nonneg,Int.toNat_natCast,beq_self_eq_true,hw1,hw2,hbi,hbk,hsl,ksl,heq,hsm,hhead];exact⟨hki,_,_,rfl⟩
 ·simp only[go_sem,seval];exact⟨p2,p3,rfl⟩
set_option maxHeartbeats 3200000 in
theorem aXn(h:Has A g "dactyl/dactyllaw25.SourceDifferent" (dV g))(S:LawSpecs25 A g){l m:List Int}(hl:gD l)(hm:gD m){at' how by':Int}(hat:dN at')(hby:dN by')(H:List AObj):
  aL A (g "dactyl/dactyllaw25.SourceDifferent") [.sl false (l.map bD),.sl false (m.map bD),vi at',vi how,vi by'] H=some (.bool true,H,[]):=by
 refine h.call (by simp[dV]) (by kernel_rfl) ?_
 simp only[dV];obtain⟨x,hx1,hx2,hx3⟩:=S.exam hl (H++[.gone 0,.gone 0,.gone 0,.gone 0]);obtain⟨r1,hr1,hr1'⟩:=S.blocks hx2 (H++[.box 1 [.str x.title,.sl false (x.items.map cG)],.gone 0,.gone 0,.gone 0]);have hbne:=aEV hx3;have hr1':=hr1'.resolve_right fun e=>hbne e.1;subst hr1';obtain⟨y,hy1,hy2,hy3⟩:=S.exam hm (H++[.box 1 [.str x.title,.sl false (x.items.map cG)],.vec 1 13 ((bF x).map aE),.gone 0,.gone 0]);obtain⟨r2,hr2,hr2'⟩:=S.blocks hy2 (H++[.box 1 [.str x.title,.sl false (x.items.map cG)],.vec 1 13 ((bF x).map aE),.gone 0,.gone 0]);have hr2':=hr2'.resolve_right fun e=>aEV hy3 e.1;subst hr2';have hbl1:=aCD hx2;have hbl2:=aCD hy2;simp only[eL]at hx1 hr1 hy1 hr2;have yh:cH 13 ((bF y).map aE)=true:=by
  cases e:bF y with
  |nil=>rfl
  |cons b r=>simp[cH,cQ]
 have ye:((bF y).map aE).isEmpty=false:=by
  cases e:bF y with
  |nil=>exact absurd e (aEV hy3)
  |cons b r=>rfl
 have yr:bP ((bF x).length+(bF y).length) 216=true:=by unfold bP;simp;omega
 simp only[go_sem,↓aC,seval,hx1,hr1,hy1,hr2,yh,ye,yr,List.length_map];refine bN (keep:=dE) (H0:=_) (by simp only[go_sem,seval,cI];rfl) (by rfl) ?_
 have har:=fun X=>S.around how 9 X;obtain⟨z,hz1,hz2⟩:=S.spoilt (how:=IntKind.i64.wrap (3+IntKind.i64.wrap (6*around how 9))) hx2 hx3 hat hby (H++[.box 1 [.str x.title,.sl false (x.items.map cG)],.vec 1 13 ((bF x).map aE++(bF y).map aE),.gone 0,.gone 0]);obtain⟨r3,hr3,hr3'⟩:=S.blocks hz2 (H++[.box 1 [.str x.title,.sl false (x.items.map cG)],.vec 1 13 ((bF x).map aE++(bF y).map aE),.gone 0,.gone 0]);have hbl3:=aCD hz2;simp only[eL]at hz1 hr3;have zr:bP ((bF x).length+(bF y).length+(bF z).length) 216=true:=by unfold bP;simp;omega
 have zh:cH 13 ((bF z).map aE)=true:=by
  cases e:bF z with
  |nil=>rfl
  |cons b r=>simp[cH,cQ]
 have hln:∀a b:AObj,(H++[.box 1 [.str x.title,.sl false (x.items.map cG)],a,.gone 0,.gone 0]).length=(H++[.box 1 [.str x.title,.sl false (x.items.map cG)],b,.gone 0,.gone 0]).length:=fun a b=>by simp
 have hr3'':(r3=.sl false []/\bF z=[])∨(r3=.own 13 ((bF z).map aE)):=by
  rcases hr3' with e | ⟨e1,e2⟩
  ·exact .inr e
  ·exact .inl ⟨e2,e1⟩
 have oks:∀b∈bF x++bF y++bF z,b.Ok:=fun b hb=>by
  rcases List.mem_append.1 hb with hb | hb
  ·rcases List.mem_append.1 hb with hb | hb
   ·exact aEU hx2 b hb
   ·exact aEU hy2 b hb
  ·exact aEU hz2 b hb
 have hst:((bF x++bF y++bF z).map aE).all (fun r=>r.all AV.still)=true:=aO (aB bO _);have hLl:(bF x++bF y++bF z).length<=1000:=by simp only[List.length_append];omega
 have hlv:=S.lives
 by_cases hzn:bF z=[]
 ·rw[hzn,List.append_nil]at oks hst hLl;rw[List.map_append]at hst;have ze:((bF z).map aE).isEmpty=true:=by rw[hzn];rfl
  rcases hr3'' with⟨rfl,hn⟩ | rfl
  ·simp only[go_sem,↓aC,seval,dE,har,hz1,hr3,yr,List.length_append,List.length_map,fG,eB,aR,hst];rw[<- List.map_append];refine aH2 S oks hLl (by rfl) (by rfl) ?_
   intro ρ2 p2 p3;simp only[go_sem,↓aC,seval,hlv]
  ·simp only[go_sem,↓aC,seval,dE,har,hz1,hr3,zr,zh,ze,List.length_append,List.length_map,fG,eB,aR,hst];rw[<- List.map_append];refine aH2 S oks hLl (by rfl) (by rfl) ?_
   intro ρ2 p2 p3;simp only[go_sem,↓aC,seval,hlv]
 ·have hr3f:=hr3''.resolve_left fun e=>hzn e.2;subst hr3f;rw[List.map_append,List.map_append]at hst;have ze:((bF z).map aE).isEmpty=false:=by
   cases e:bF z with
   |nil=>exact absurd e hzn
   |cons b r=>rfl
  simp only[go_sem,↓aC,seval,dE,har,hz1,hr3,zr,zh,ze,List.length_append,List.length_map,fG,eB,aR,hst];rw[<- List.map_append,<- List.map_append];refine aH2 S oks hLl (by rfl) (by rfl) ?_
  intro ρ2 p2 p3;simp only[go_sem,↓aC,seval,hlv]
end
end Go.AM
end
