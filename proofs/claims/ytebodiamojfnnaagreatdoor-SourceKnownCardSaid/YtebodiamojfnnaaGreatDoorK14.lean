/- Part 14: lemmas for the last text. -/
import Derived.Test.YtebodiamojfnnaaGreatDoorK03
import Derived.Test.YtebodiamojfnnaaGreatDoorK04
import Derived.Test.YtebodiamojfnnaaGreatDoorK10
import Derived.Test.YtebodiamojfnnaaGreatDoorK12
import Derived.Test.YtebodiamojfnnaaGreatDoorK13
import Derived.DeepKeys2
import Derived.Handed
import Derived.ChangeSlices
import Derived.ProofKit
import Derived.OpenShut
import Derived.Lib.LaidTab
import Derived.Lib.ItoaNum
import Derived.Test.YtebodiamojfnnaaGreatDoorRows
import Derived.Test.YtebodiamojfnnaaGreatDoorTie
import Derived.Test.YtebodiamojfnnaaGreatDoorCards
import Derived.LaidMore
import Derived.Stop.Joined
import Derived.SevenTiedAt
import Derived.Lay
import Derived.WideKeyElems2
set_option linter.unusedVariables false
set_option linter.unusedSimpArgs false
set_option maxHeartbeats 6400000
set_option maxRecDepth 100000
open Bool renaming and_eq_true -> AI, true -> Qt, false -> Qu
open Go renaming Code -> Ql, World -> BL, MemPlace -> JI, TypeId -> BP, Value -> BE, Program -> CU, DataW -> IK, MapEntry -> FO, bounds_i64 -> MF
open Go.ChangeSpec renaming witness_shaped -> Qc
open Go.DataW renaming Trod -> IE, trod -> EZ, TrodAll -> OX
open Go.DataW.agg renaming injEq -> Qm
open Go.DataW.iface renaming injEq -> PZ
open Go.DataW.map renaming injEq -> Qo
open Go.IntKind renaming i64 -> AR, wrap_i64 -> PW
open Go.Lit renaming toCell -> NP
open Go.Program renaming tiled -> OD
open Go.Value renaming okWide -> LW, cells -> JY
open Go.WideElems renaming rd -> KP, rg -> NQ, open_map -> Qn
open Go.World renaming var? -> PQ, cell? -> EF, holding -> LI
open List renaming drop -> KW, getElem?_eq_getElem -> AP, map_set -> ME, length_set -> CP, map -> DR, map_cons -> BI, map_nil -> BY, length_pos_iff -> MY, mem_map -> DB, getElem?_eq_some_iff -> AH, mem_of_getElem? -> AN, getElem?_map -> BN, getElem?_cons_zero -> BG, mapM_cons -> KX, contains_iff_mem -> EH
open List.cons renaming injEq -> JG
open Nat renaming le_refl -> AQ, add_zero -> DU, mul_one -> FK, zero_add -> BC
open Option renaming bind_some -> FG, map_some -> DE, bind_eq_some_iff -> LH, map_eq_some_iff -> EL, some -> Qr, none -> Qs
open Option.some renaming injEq -> AG, inj -> DZ
open Prod.mk renaming injEq -> BK
section
namespace Go.AM
open Go
abbrev aB5(g:SN):List ae:=[qf 97 1 11,⟨Qr 98,ol 1 97,Qs,[0]⟩,qm 99 12,qf 100 1 11,⟨Qr 101,ol 1 100,Qs,[3]⟩,qm 102 12,⟨Qr 103,oi 101 102 13,Qs,[4,3,5]⟩,⟨Qr 104,ola 13 103,Qs,[6,4,3,5]⟩,qm 105 2,⟨Qr 106,obi .quo 105 6,Qs,[8]⟩,qm 107 3,⟨Qr 108,oc (g "az") [u 104,u 106,u 107],Qs,[7,6,4,3,5,9,8,10]⟩,⟨Qr 109,oi 98 99 13,Qs,[1,0,2,11,7,6,4,3,5,9,8,10]⟩,⟨Qs,os 13 109 108,Qs,[12,1,0,2,11,7,6,4,3,5,9,8,10]⟩]
abbrev pB:LN:=[1,11]
abbrev aB6(g:SN):List ae:=[qf 127 3 11,⟨Qr 128,ol 1 127,Qs,[0]⟩,qm 129 13,qf 130 3 11,⟨Qr 131,ol 1 130,Qs,[3]⟩,qm 132 13,⟨Qr 133,oi 131 132 7,Qs,[4,3,5]⟩,⟨Qr 134,ola 7 133,Qs,[6,4,3,5]⟩,qm 135 2,⟨Qr 136,obi .quo 135 6,Qs,[8]⟩,qm 137 3,⟨Qr 138,oc (g "aA") [u 134,u 136,u 137],Qs,[7,6,4,3,5,9,8,10]⟩,⟨Qr 139,oi 128 129 7,Qs,[1,0,2,11,7,6,4,3,5,9,8,10]⟩,⟨Qs,os 7 139 138,Qs,[12,1,0,2,11,7,6,4,3,5,9,8,10]⟩]
abbrev pC:LN:=[1,11]
def pD(g:SN):ag:=.block 0 (qS [qbi 43 .eql 37 0,qm 42 43]<|qC 42 (qR [qq 44 (.bsl 1 [(.str [])] 4 [(0,(.const (.str []))),(1,(.const (.str [31]))),(2,(.const (.str [79,116,104,101,114]))),(3,(.const (.str [34,113,34])))]),qm 45 3,qc 46 (g "c") [u 45,ui 4],qi 47 44 46 1,ql 48 1 47,qf 49 0 4,qs 1 49 48]) (qS [qbi 51 .eql 37 1,qm 50 51]<|qC 50 (qR [qq 52 (.bsl 1 [(.str [])] 6 [(0,(.const (.str []))),(1,(.const (.str [49,97]))),(2,(.const (.str [111,116,104,101,114]))),(3,(.const (.str [85,112,112,101,114]))),(4,(.const (.str [115,101,118,101,110,116,101,101,110,108,101,116,116,101,114,115,49]))),(5,(.const (.str [97,32,98])))]),qm 53 3,qc 54 (g "c") [u 53,ui 6],qi 55 52 54 1,ql 56 1 55,qf 57 0 11,qs 1 57 56]) (qS [qbi 59 .eql 37 2,qm 58 59]<|qC 58 (qR [qq 60 (.bsl 4 [z0,z0,z0,z0] 0 []),qf 61 2 11,ql 62 1 61,qa 63 4 32 60 62,qm 64 3,qc 65 (g "c") [u 64,ui 9],qbi 66 .sub 65 1,qm 67 3,qbi 68 .quo 67 9,qc 69 (g "c") [u 68,ui 10],qbi 70 .sub 69 1,qq 71 (.bsl 1 [z0] 4 [(0,(.const z0)),(1,(.const (vi 99))),(2,(.const (vi 100))),(3,(.const (.int .i64 (-1))))]),qm 72 3,qc 73 (g "c") [u 72,ui 4],qi 74 71 73 1,ql 75 1 74,qq 76 (.build [z0,z0,z0,z0] [(0,1,(.tmp 66)),(1,1,(.tmp 70)),(2,1,(.tmp 75))]),qq 77 (.bsl 4 [z0,z0,z0,z0] 1 [(0,(.tmp 76))]),qa 78 4 32 63 77,qf 79 2 11,qs 1 79 78]) (qS [qbi 81 .eql 37 3,qm 80 81]<|qC 80 (qS [qf 82 1 11,ql 83 1 82,qn 84 83,qbi 85 .gtr 84 0]<|qC 85 (qS [qq 86 (.bsl 13 [z0,(.sl Qu []),z0,z0,(.sl Qu []),z0,(.sl Qu []),(.sl Qu []),z0,z0,(.sl Qu []),(.sl Qu []),(.sl Qu [])] 0 []),qf 87 1 11,ql 88 1 87,qa 89 13 216 86 88,qf 90 1 11,qs 1 90 89]<|qS [qm 91 1,qbi 92 .quo 91 3,qf 93 1 11,ql 94 1 93,qn 95 94,qc 96 (g "c") [u 92,u 95],qm 12 96]<|.region Qt (aB5 g)) (.skip)) (qS [qbi 111 .eql 37 4,qm 110 111]<|qC 110 (qS [qf 112 3 11,ql 113 1 112,qn 114 113,qbi 115 .gtr 114 0]<|qC 115 (qS [qq 116 (.bsl 7 [z0,(.sl Qu []),(.sl Qu []),(.sl Qu []),(.str []),z0,(.sl Qu [])] 0 []),qf 117 3 11,ql 118 1 117,qa 119 7 128 116 118,qf 120 3 11,qs 1 120 119]<|qS [qm 121 1,qbi 122 .quo 121 3,qf 123 3 11,ql 124 1 123,qn 125 124,qc 126 (g "c") [u 122,u 125],qm 13 126]<|.region Qt (aB6 g)) (.skip)) (qR [qm 38 10,qla 39 4 11,qq 40 (.bsl 4 [(.str []),(.sl Qu []),(.sl Qu []),(.sl Qu [])] 1 [(0,(.tmp 39))]),qa 41 4 88 38 40,qm 10 41]))))))
def nQ(g:SN):bw:=⟨147,[4,8,31,11,63,78,89,119,41],[.cell 8 2 Qt],qS [qx 4 2 0,qq 8 (.alloc [(.str []),(.sl Qt [])])]<|.seq (qS [qf 14 1 4,ql 15 1 14,qn 16 15,qbi 17 .eql 16 0]<|qC 17 (qS [qf 18 0 4,ql 19 1 18,qq 20 (.bin .add .no (u 19) (uc (.str [10]))),qf 21 0 4,qs 1 21 20]<|qS [qla 22 2 4,qs 2 8 22]<|.ret) (.skip))<|qS [qm 23 1,qf 24 1 4,ql 25 1 24,qn 26 25,qc 27 (g "c") [u 23,u 26],qm 9 27]<|qS [qq 28 (.bsl 4 [(.str []),(.sl Qu []),(.sl Qu []),(.sl Qu [])] 0 []),qf 29 1 4,ql 30 1 29,qa 31 4 88 28 30,qm 10 31]<|qS [qm 32 10,qm 33 9,qi 34 32 33 4,qla 35 4 34,qq 11 (.alloc [(.str []),(.sl Qt []),(.sl Qt []),(.sl Qt [])]),qs 4 11 35]<|.seq (qS [qm 36 2,qc 37 (g "c") [u 36,ui 6]]<|pD g)<|.seq (.seq (.frz [(4,11)])<|.region Qu [qm 140 10,qm 141 9,qla 142 4 11,qi 143 140 141 4,qs 4 143 142])<|qS [qm 144 10,qf 145 1 4,qs 1 145 144]<|qS [qla 146 2 4,qs 2 8 146]<|.ret⟩
theorem aMp(n:Int):eA (AR.wrap n):=by rw[PW];constructor<;>omega
theorem aOA(b:Block):KW 13 (aE b)=[]:=List.drop_eq_nil_of_le (by rw[cF];exact AQ _)
theorem aYn(q:Question):List.take 7 (gR q)=gR q:=List.take_of_length_le (AQ _)
theorem aYo(q:Question):KW 7 (gR q)=[]:=rfl
theorem aBu{α:Type}{P:α->Prop}{l:List α}{a:α}(h:∀x∈l,P x)(ha:P a)(i:Nat):∀x∈l.set i a,P x:=by
 intro x hx;rcases List.mem_or_eq_of_mem_set hx with hx | rfl
 ·exact h x hx
 exact ha
theorem aQE{α:Type}{l:List α}{enc:α->LA}{n:Int}(h0:0<=n)(h1:n<l.length):∃a∈l,(l.map enc)[n.toNat]? = Qr (enc a)/\l[n.toNat]? = Qr a:=by
 have hlt:n.toNat<l.length:=by omega
 exact⟨l[n.toNat],List.getElem_mem hlt,getElem?_map_of hlt,AP hlt⟩
theorem qD(L:List Item)(k:Nat)(nm:Str)(bs:List Block)(fs:List Fact)(qs:List Question):(L.map aO).set k [.str nm,.sl Qu (bs.map aE),.sl Qu (fs.map aI),.sl Qu (qs.map gR)]=(L.set k (Item.mk nm bs fs qs)).map aO:=by exact (ME (f:=aO) (l:=L) (i:=k) (a:=Item.mk nm bs fs qs)).symm
abbrev aQF(v:AV):Prop:=∃x:jm,v=dE x/\x.Ok
theorem aMq{A:af}{g:SN}(h:Has A g "aq" (nQ g))(ha:qK A g) (hB:∀{b:Block},b.Ok->va b->∀{how by':Int},eA by'->∀H,∃v H' wr,aG A (g "az") [.agg (aE b),vi how,vi by'] H=Qr (v,H',wr)/\(H'=H/\wr=[]/\∃b1:Block,v=.agg (aE b1)/\b1.Ok)) (hQ:∀{q:Question},q.Ok->uz q->∀{how by':Int},eA by'->∀H,∃v H' wr,aG A (g "aA") [.agg (gR q),vi how,vi by'] H=Qr (v,H',wr)/\(H'=H/\wr=[]/\∃q1:Question,v=.agg (gR q1)/\q1.Ok)) {x:jm} (hx:x.Ok) (hs:vb x) {at' how by':Int} (jk:eA at') (rh:eA by') (H:LO):∃v H' wr,aG A (g "aq") [dE x,vi at',vi how,vi by'] H=Qr (v,H',wr)/\(H'=H/\wr=[]/\aQF v):=by
 refine h.bp ?_;obtain⟨title,items⟩:=x;have It:=hs.title;have G7:=hs.items;have sw:=hs.item;have O2:=hx.items;simp only at It G7 sw O2;have fin:∀x1:jm,x1.Ok->∀v:AV,v=dE x1->aQF v:=fun x1 h v e=>⟨x1,e,h⟩;simp only[nQ,pD];cases M5:items with
 |nil=>have ji:∀ek,kJ .add ek (.str title) (.str [10])=Qr (.str (title++[10])):=fun ek=>kE (by simp;omega);simp only[go_sem,↓aB,seval,dE,ji];exact fin ⟨title++[10],[]⟩ ⟨by show (title++[10]).length<=1000;simp;omega,by simp,by simp⟩ _ rfl
 |cons a0 r0=>
  rw[<- M5];have bl:(decide (((items.length:Nat):Int)=0))=false:=by rw[M5];simp;omega
  have ya:(((items.length:Nat):Int)==0)=false:=by rw[M5];simp;omega
  have Nr:(items.map aO).isEmpty=false:=by rw[M5];rfl
  have tz:dF 4 (items.map aO)=true:=by rw[M5];rfl
  have R1:bP items.length 88=true:=cD (by omega) (by decide);obtain⟨i0,i1⟩:=kV jk (m:=(items.length:Int)) (by rw[M5];simp;omega);obtain⟨it,Jp,cj,B7⟩:=aQE (enc:=aO) i0 i1;have kh:=O2 it Jp;have Bz:=sw it Jp;obtain⟨nm,bs,fs,qs⟩:=it;simp only[aO]at cj;have Ns:AR.wrap 0=0:=wrap_i64 (by decide) (by decide);have xa:∀(t:Str) (y:Item),lI t->y.Ok->(jm.mk t (items.set (bu at' items.length).toNat y)).Ok:=fun t y h1 h2=>⟨h1,by show (items.set _ y).length<=16;rw[CP];omega,aBu O2 h2 _⟩;obtain⟨k1,k2⟩:=kV rh (m:=4) (by decide);obtain⟨k3,k4⟩:=kV rh (m:=6) (by decide);have h9:=nA (c:=1) rh (m:=9) (by decide) (by decide) (by decide) (by decide);have B8:=nA (c:=1) (aMp (by'.tdiv 9)) (m:=10) (by decide) (by decide) (by decide) (by decide);simp only[go_sem,↓aB,seval,dE,ha at',ha how,ya,Nr,tz,R1,i0,i1,cj];refine aD (fun hb=>?_) (fun hb=>?_)
  ·obtain⟨t,qt,cx⟩:=aQl [[],[31],[79,116,104,101,114],[34,113,34]] k1 k2;simp only[DR,aN]at cx;have tl:lI t:=by
    have:∀s∈([[],[31],[79,116,104,101,114],[34,113,34]]:List Str),lI s:=by decide
    exact this t qt
   simp only[go_sem,↓aB,seval,ha by',k1,cx,i0,i1,cj,qD,aT (aC dV _),aA (aC dV _)];exact fin _ (xa t _ tl kh) _ rfl
  simp only[go_sem,↓aB,seval];refine aD (fun hb=>?_) (fun hb=>?_)
  ·obtain⟨t,qt,cx⟩:=aQl [[],[49,97],[111,116,104,101,114],[85,112,112,101,114],[115,101,118,101,110,116,101,101,110,108,101,116,116,101,114,115,49],[97,32,98]] k3 k4;simp only[DR,aN]at cx;have tl:lI t:=by
    have:∀s∈([[],[49,97],[111,116,104,101,114],[85,112,112,101,114],[115,101,118,101,110,116,101,101,110,108,101,116,116,101,114,115,49],[97,32,98]]:List Str),lI s:=by decide
    exact this t qt
   simp only[go_sem,↓aB,seval,ha by',k3,cx,i0,i1,cj,qD,aT (aC dV _),aA (aC dV _)];exact fin _ (xa title (Item.mk t bs fs qs) hx.title { kh with name:=tl }) _ rfl
  simp only[go_sem,↓aB,seval];refine aD (fun hb=>?_) (fun hb=>?_)
  ·obtain⟨t,qt,cx⟩:=aQk [0,99,100,-1] k1 k2;simp only[DR,bF]at cx;have tl:eA t:=by
    have:∀s∈([0,99,100,-1]:List Int),eA s:=by decide
    exact this t qt
   have Jq:∀ek,kJ .quo ek (vi by') (vi 9)=Qr (vi (AR.wrap (by'.tdiv 9))):=fun ek=>aAl (by decide);have I9:=Bz.facts;simp only at I9;have ho:(Item.mk nm bs (fs++[⟨bu by' 9 - 1,bu (AR.wrap (by'.tdiv 9)) 10 - 1,t,0⟩]) qs).Ok:={ kh with B1:=by show (fs++[_]).length<=16;rw[List.length_append];simp;omega,facts:=pS kh.facts ⟨h9.2,B8.2,tl,aCH⟩ };have hm:∀(l:List Fact) (a b c d:Int),l.map aI++[[vi a,vi b,vi c,vi d]]=(l++[Fact.mk a b c d]).map aI:=fun l a b c d=>by simp[aI]
   by_cases lr:fs=[]
   ·subst lr;have lg:=qD items (bu at' items.length).toNat nm bs [⟨bu by' 9 - 1,bu (AR.wrap (by'.tdiv 9)) 10 - 1,t,0⟩] qs;simp only[BI,BY,aI]at lg;simp only[go_sem,↓aB,seval,ha by',ha (AR.wrap (by'.tdiv 9)),Jq,h9.1,B8.1,k1,cx,cD,lg,i0,i1,cj,aT (aC dV _),aA (aC dV _)];exact fin _ (xa title _ hx.title ho) _ rfl
   have D5:(fs.map aI).isEmpty=false:=by cases fs with | nil=>exact Zw rfl lr | cons a r=>rfl
   have Ca:dF 4 (fs.map aI)=true:=by cases fs<;>rfl
   have gj:bP fs.length 32=true:=cD (by omega) (by decide);have nv:bP (fs.length+1) 32=true:=cD (by omega) (by decide);simp only[go_sem,↓aB,seval,ha by',ha (AR.wrap (by'.tdiv 9)),Jq,h9.1,B8.1,k1,cx,D5,Ca,gj,nv,hm,aT (aC eL _),i0,i1,cj,qD,aT (aC dV _),aA (aC dV _)];exact fin _ (xa title _ hx.title ho) _ rfl
  simp only[go_sem,↓aB,seval];refine aD (fun hb=>?_) (fun hb=>?_)
  ·by_cases lr:bs=[]
   ·subst lr;have lg:=qD items (bu at' items.length).toNat nm [] fs qs;rw[BY]at lg;simp only[go_sem,↓aB,seval,lg,i0,i1,cj,aT (aC dV _),aA (aC dV _)];exact fin _ (xa title _ hx.title kh) _ rfl
   have zo:=Bz.blocks;simp only at zo;have Nt:0<bs.length:=MY.2 lr;have D5:(bs.map aE).isEmpty=false:=by cases bs with | nil=>exact Zw rfl lr | cons a r=>rfl
   have Ca:dF 13 (bs.map aE)=true:=by cases bs with | nil=>rfl | cons a r=>rw[BI,aCj,cF];rfl
   have gj:bP bs.length 216=true:=cD (by omega) (by decide);have V8:decide ((bs.length:Int)>0)=true:=by simp;omega
   have Hl:∀ek,kJ .quo ek (vi at') (vi 3)=Qr (vi (AR.wrap (at'.tdiv 3))):=fun ek=>aAl (by decide);have Hm:∀ek,kJ .quo ek (vi how) (vi 6)=Qr (vi (AR.wrap (how.tdiv 6))):=fun ek=>aAl (by decide);obtain⟨j0,j1⟩:=kV (aMp (at'.tdiv 3)) (m:=(bs.length:Int)) (by omega);obtain⟨b,Jr,wv,U3⟩:=aQE (enc:=aE) j0 j1;simp only[go_sem,↓aB,seval,ha (AR.wrap (at'.tdiv 3)),V8,D5,Ca,gj,Hl];refine aY (aq:=pB) (by rfl) (by rfl) ?_;simp only[go_sem,↓aB,seval,pB,j0,j1,wv,Hm,cF,aEB,aS (bG _),aK (bG _)];refine aMV (hB (kh.blocks b Jr) (Bz.block b Jr) rh _) ?_;rintro v2 H2 en ⟨rfl,rfl,b1,rfl,fo⟩;have lg:∀b1,(bs.map aE).set (bu (AR.wrap (at'.tdiv 3)) bs.length).toNat (aE b1)=(bs.set (bu (AR.wrap (at'.tdiv 3)) bs.length).toNat b1).map aE:=fun b1=>ME.symm;simp only[go_sem,↓aB,seval,j0,j1,wv,lg,cF,aOA,aK (bG _),bQ (bG _),eH,dG,aL,aT (aC bG _),i0,i1,cj,qD,aT (aC dV _),aA (aC dV _)];exact fin _ (xa title (Item.mk nm (bs.set (bu (AR.wrap (at'.tdiv 3)) bs.length).toNat b1) fs qs) hx.title { kh with zq:=by show (bs.set _ b1).length<=16;rw[CP];omega,blocks:=aBu kh.blocks fo _ }) _ rfl
  simp only[go_sem,↓aB,seval];refine aD (fun hb=>?_) (fun hb=>?_)
  ·by_cases lr:qs=[]
   ·subst lr;have lg:=qD items (bu at' items.length).toNat nm bs fs [];simp only[BY]at lg;simp only[go_sem,↓aB,seval,lg,i0,i1,cj,aT (aC dV _),aA (aC dV _)];exact fin _ (xa title _ hx.title kh) _ rfl
   have zo:=Bz.ask;simp only at zo;have Nt:0<qs.length:=MY.2 lr;have D5:(qs.map gR).isEmpty=false:=by cases qs with | nil=>exact Zw rfl lr | cons a r=>rfl
   have Ca:dF 7 (qs.map gR)=true:=by cases qs<;>rfl
   have gj:bP qs.length 128=true:=cD (by omega) (by decide);have V8:decide ((qs.length:Int)>0)=true:=by simp;omega
   have Hl:∀ek,kJ .quo ek (vi at') (vi 3)=Qr (vi (AR.wrap (at'.tdiv 3))):=fun ek=>aAl (by decide);have Hm:∀ek,kJ .quo ek (vi how) (vi 6)=Qr (vi (AR.wrap (how.tdiv 6))):=fun ek=>aAl (by decide);obtain⟨j0,j1⟩:=kV (aMp (at'.tdiv 3)) (m:=(qs.length:Int)) (by omega);obtain⟨q,Js,wv,U3⟩:=aQE (enc:=gR) j0 j1;simp only[go_sem,↓aB,seval,ha (AR.wrap (at'.tdiv 3)),V8,D5,Ca,gj,Hl];refine aY (aq:=pC) (by rfl) (by rfl) ?_;simp only[go_sem,↓aB,seval,pC,j0,j1,wv,Hm,aVz,aYn,aS (aBI _),aK (aBI _)];refine aMV (hQ (kh.ask q Js) (Bz.jd q Js) rh _) ?_;rintro v2 H2 en ⟨rfl,rfl,q1,rfl,Nu⟩;have lg:∀q1,(qs.map gR).set (bu (AR.wrap (at'.tdiv 3)) qs.length).toNat (gR q1)=(qs.set (bu (AR.wrap (at'.tdiv 3)) qs.length).toNat q1).map gR:=fun q1=>ME.symm;simp only[go_sem,↓aB,seval,j0,j1,wv,lg,aVz,aYo,aK (aBI _),bQ (aBI _),eH,dG,aL,aT (aC aBI _),i0,i1,cj,qD,aT (aC dV _),aA (aC dV _)];exact fin _ (xa title (Item.mk nm bs fs (qs.set (bu (AR.wrap (at'.tdiv 3)) qs.length).toNat q1)) hx.title { kh with tj:=by show (qs.set _ q1).length<=16;rw[CP];omega,ask:=aBu kh.ask Nu _ }) _ rfl
  have gj:bP (items.length+1) 88=true:=cD (by omega) (by decide);have db:items.map aO++[[.str nm,.sl Qu (bs.map aE),.sl Qu (fs.map aI),.sl Qu (qs.map gR)]]=(items++[Item.mk nm bs fs qs]).map aO:=by simp[aO]
  have Cb:((items++[Item.mk nm bs fs qs]).map aO)[(bu at' items.length).toNat]? = Qr [.str nm,.sl Qu (bs.map aE),.sl Qu (fs.map aI),.sl Qu (qs.map gR)]:=by rw[List.map_append,List.getElem?_append_left (by simp;omega)];exact cj
  have i2:bu at' items.length<((items.length+1:Nat):Int):=by omega
  simp only[go_sem,↓aB,seval,gj,db,Cb,i2,i0,qD,aT (aC dV _),aA (aC dV _)];exact fin ⟨title,(items++[Item.mk nm bs fs qs]).set (bu at' items.length).toNat (Item.mk nm bs fs qs)⟩ ⟨hx.title,by show (List.set _ _ _).length<=16;rw[CP];simp;omega,aBu (pS O2 kh) kh _⟩ _ rfl
structure mi(A:af)(g:SN)(E:Int->Int->List Shape->Int)(tB tP:Nat):Prop where
 law:Has A g "bj" (jK g)
 J3:Has A g "ap" (pM g)
 spoilt:Has A g "aq" (nQ g)
 J4:Has A g "az" (jJ g)
 J5:Has A g "aA" (gK g)
 bu:Has A g "c" (nP g)
 J6:Has A g "H" (mV g)
 take:Has A g "a" (kC g)
 block:Has A g "Q" (fT g)
 fact:Has A g "J" (gF g)
 has:Has A g "u" (rI g)
 jd:Has A g "R" (eT g)
 at':Has A g "ax" (oQ g)
 runs:Has A g "K" (gB g)
 expr:Has A g "ar" (gE g)
 sum:Has A g "aw" (gQ g)
 cd:Has A g "at" (gC g)
 ye:Has A g "as" (fD g)
 yb:Has A g "av" (fE g)
 lines:Has A g "au" (fS g)
 phrase:Has A g "i" (fC g)
 term:Has A g "k" (gD g)
 box:Has A g "I" (rR g)
 arity:Has A g "ay" (oI g)
 full:oh A g tB
 hold:lp A g tB
 text:og A g tB tP
 check:Has A g "D" (tE g)
 value:Has A g "aO" (aAX g)
 facts:Has A g "aN" (tM g)
 ph:C2 A g
 blk:iw A g
 form:lu A g
 Cc:Has A g "aY" (aCG g)
 U4:Has A g "ba" (aAY g)
 j7:Has A g "aZ" (rK g)
 Hn:Has A g "O" (oR g)
 Cd:aAA A (g "bf") 4 Qt
 add:Has A g "g" (iJ g)
 U5:Has A g "F" (aB4 g)
 fig:aCD A g E
 itoa:aJc A g
 atoi:aJG A g
 del:aAZ A g
 wu:∀H,aG A (g "bq") [] H=Qr (.bool Qt,H,[])
section
variable {A:af}{g:SN}{E:Int->Int->List Shape->Int}{tB tP:Nat}
theorem bBm(F:mi A g E tB tP):Gens A g:=by
 have ha:=yX F.bu;have ht:=aQi F.take F.at' ha;have hp:=aOq F.phrase ht;have hr:=aSp F.runs ht hp;have Db:=fun op H=>aOv F.arity op H;have qt:=fun d hd=>aNp F.term ht Db d hd;have V6:∀{x y w hh:Int},(0<=x/\x<=1000)->(0<=y/\y<=1000)->(0<=w/\w<=1000)->(0<=hh/\hh<=1000)->∀H,aG A (g "I") [vi x,vi y,vi w,vi hh] H=Qr (.sl Qu ((P4 x y w hh).map bL),H,[]):=
  fun h1 h2 h3 h4 H=>aSy F.box h1 h2 h3 h4 H
 exact⟨ht,fun h0 h1=>aQy F.block hr (aSx F.expr ht qt) (aVx F.sum ht) (aSv F.cd ht hp) (aOz F.ye ht V6) (aOx F.yb ht) (aQp F.lines ht) h0 h1,
  fun hb _ h0 h1=>aSz F.fact ht hb h0 h1,fun l hl f=>aSq F.has l hl f,fun hm=>aLg F.jd ht hp hr (aLd F.J6) hm⟩
theorem bBn(F:mi A g E tB tP):N1 A g E where
 valid:=fun hx H=>aTh F.full _ hx H
 same:=fun x l hl _ _ _ ho=>aVs F.Cd F.Hn x l hl ho
 block:=fun b hb hB H=>aMm F.blk F.fig F.form b hb hB H
 fact:=fun it hi j hj hf H=>aOu F.hold F.Cc it hi j hj hf H
 jd:=fun it hi q hq H=>aLh (fun q hq H=>aQt F.atoi F.itoa F.U4 q hq (by have:q.key.length<=1000:=hq.key;omega) H) F.j7 it hi q hq H
 del:=F.del
 add:=F.add
 check:=F.U5
theorem aMr(F:mi A g E tB tP):ng A g E tB tP where
 J3:=fun hl H=>by
  obtain⟨v,H',wr,h1,rfl,rfl,x,rfl,hx,hs⟩:=aQB F.J3 (bBm F) hl H;exact⟨x,h1,hx,hs⟩
 spoilt:=fun hx hs _ _ _ h1 h2 H=>by
  obtain⟨v,H',wr,h3,rfl,rfl,x',rfl,wz⟩:=aMq F.spoilt (yX F.bu) (fun h1 h2 _ _ h3 H=>aLl F.J4 (yX F.bu) h1 h2 h3 H) (fun h1 h2 _ _ h3 H=>aLk F.J5 (yX F.bu) h1 h2 h3 H) hx hs h1 h2 H;exact⟨x',h3,wz⟩
 check:=fun hx H=>aQD (bBn F) hx H
 val:=⟨F.hold,F.text,F.check,F.fig,F.value,fun b f H hb hl hw hh h8 a0 b0 a1 b1 k2 k4=>aVp F.ph F.fig b f H hb hl hw hh h8 a0 b0 a1 b1 k2 k4⟩
 full:=F.full
 facts:=F.facts
 wu:=F.wu
theorem aOB(F:mi A g E tB tP){l:List Int}(hl:jP l){at' how by':Int}(jk:eA at')(rh:eA by')(H:LO):aG A (g "bj") [.sl Qu (l.map bF),vi at',vi how,vi by'] H=Qr (.bool Qt,H,[]):=
 aQC (aMr F) F.law hl jk rh H
end
def gX(g:SN):bw:=⟨21,[14,20],[.tmp 6],qS [qmc 6 (.sl Qt [])]<|qS [qm 8 1,qq 9 (.conv (.toInt .u64) (u 8)),qm 7 9]<|.seq (qS [qm 10 1,qbi 11 .lss 10 0]<|qC 11 (qS [qm 12 0,qq 13 (.bsl 1 [(.int .u8 0)] 1 [(0,(.const (.int .u8 45)))]),qa 14 1 1 12 13,qm 0 14]<|.region Qu [qm 15 7,qq 16 (.un .neg (u 15)),qm 7 16]) (.skip))<|qS [qm 17 0,qm 18 7,qm 19 2,qq 20 (.ee (uf (g "bd")) [(.tmp 17),(.tmp 18),(.tmp 19)]),qm 6 20]<|.ret⟩
theorem aJJ:∀(k n:Nat),n<10 ^ (k+1)->nC (k+1) n=dec n
 |0,n,h=>by
  have h':n<10:=by simpa using h
  rw[dec,nC,Zy h',Zy h']
 |k+1,n,h=>by
  rw[dec,nC];split
  ·rfl
  rw[aJJ k (n / 10) (by rw[Nat.pow_succ]at h;omega)]
section
variable {A:af}{g:SN}
theorem aLn(hp:A.bq (g "bd")=Qr oN){n:Int}(h0:0<=n)(h9:n<=999999):fY A (g "bd") [.int .u64 n,vi 10] (dec n.toNat):=by
 intro H t v hb ht;have e7:nC 7 n.toNat=dec n.toNat:=aJJ 6 _ (by have:(10:Nat) ^ (6+1)=10000000:=(by decide);omega);cases hb with
 |nil=>refine (oL (n:=0) ?_);unfold dD qL;rw[hp];show (match oN [.sl Qt [],.int .u64 n,.int .i64 10] H with | some r=>Qr (cT H r) | none=>_)=_;simp only[oN];rw[Zy ⟨h0,by omega,trivial⟩,e7];simp[cT,eU];rfl
 |obj id ver t ho=>refine (oL (n:=0) ?_);unfold dD qL;rw[hp];show (match oN [.sr id ver t.length,.int .u64 n,.int .i64 10] H with | some r=>Qr (cT H r) | none=>_)=_;simp only[oN,ho];rw[Zy ⟨trivial,kG t,h0,by omega,by omega,trivial,aEk t⟩,e7];simp only[cT,eU,List.append_nil,BI,BY,vX];rfl
abbrev bCn:LO:=[.gone 0,.gone 0]
theorem aLo(h:Has A g "bm" (gX g))(hp:A.bq (g "bd")=Qr oN){n:Int}(h0:0<=n)(h9:n<=999999):fY A (g "bm") [vi n,vi 10] (dec n.toNat):=by
 intro H t v hb ht;obtain⟨v1,H1,dc,h1,h2⟩:=h.bp (args:=[v,vi n,vi 10]) (H:=H) (K:=fun v' H'' ba=>Qr (v',H'',ba)=oX H t (dec n.toNat) v) (by
  have hw:IntKind.u64.wrap n=n:=by unfold IntKind.wrap;simp[IntKind.bits,IntKind.signed];omega
  have hn:decide (n<0)=false:=by rw[decide_eq_false_iff_not];omega
  obtain⟨o,ver,jk,kq⟩:=hb.call (L:=bCn) (i:=1) ht (by decide) (aLn hp h0 h9);simp only[gX];simp only[go_sem,↓aB,seval,pT,hw,hn,kq];exact jk.done rfl _)
 rw[h1,h2]
theorem aMs(h:Has A g "bl" (vW g))(hi:Has A g "bm" (gX g))(hp:A.bq (g "bd")=Qr oN):aBk A g:=by
 intro n h0 h9 H t v hb ht;obtain⟨v1,H1,dc,h1,h2⟩:=h.bp (args:=[v,vi n,vi 10]) (H:=H) (K:=fun v' H'' ba=>Qr (v',H'',ba)=oX H t (dec n.toNat) v) (by
  obtain⟨o,ver,jk,kq⟩:=hb.call (L:=[.gone 0]) (i:=0) ht (by decide) (aLo hi hp h0 h9);rw[DU]at kq;simp only[vW];simp only[go_sem,↓aB,seval,kq];exact jk.done rfl _)
 rw[h1,h2]
end
section
variable {A:af}{g:SN}
theorem aQG(hp:A.bq (g "f")=Qr sC):aJc A g:=by
 intro n H hn;refine dT ?_;rw[hp];rw[FG];have h:(0:Int)<=n/\(n:Int)<1000000:=⟨by omega,by omega⟩;have e7:nC 7 n=dec n:=aJJ 6 n (by have:(10:Nat) ^ (6+1)=10000000:=(by decide);omega);have e:sC [vi n] H=if (0:Int)<=n/\(n:Int)<1000000 then Qr (.str (nC 7 (n:Int).toNat),[],[])else if (n:Int)<0 /\ -1000000<(n:Int)then Qr (.str (45::nC 7 (-(n:Int)).toNat),[],[])else none:=by unfold sC;rfl
 rw[e,Zy h,Int.toNat_natCast,e7]
theorem aQH{te:Nat}(hp:A.bq (g "cM")=Qr (aHz te)):aJG A g:=by
 intro s H hs;cases ha:Lib.atoiAll s with
 |ok v=>refine⟨v,.bj,dT ?_,.inl rfl⟩;rw[hp];show aHz te [.str s] H=_;unfold aHz;simp only[Zy hs,ha]
 |range=>refine⟨Lib.atoiSat s,.ifc te .undef,dT ?_,.inr ⟨_,_,rfl⟩⟩;rw[hp];show aHz te [.str s] H=_;unfold aHz;simp only[Zy hs,ha]
 |_=>refine⟨0,.ifc te .undef,dT ?_,.inr ⟨_,_,rfl⟩⟩;rw[hp];show aHz te [.str s] H=_;unfold aHz;simp only[Zy hs,ha]
theorem aSC(hp:A.bq (g "cK")=Qr (aWl (g "aX"))):aAZ A g:=by
 intro a b c e H o v ho;have h:aWl (g "aX") [.sr o v 1,.fn (g "aX") [] []] H=Qr (if e=0 then (.sl Qu [],[(o,.gone v)],[])else (.sr o v 1,[],[])):=by unfold aWl;simp only[ho];rw[Zy ⟨trivial,trivial,trivial⟩];split<;>rfl
 refine (yN (by rw[hp];exact h)).trans ?_;split
 ·simp[cT,eU]
 simp[cT,eU]
end
def aYp:List (String×Nat)->SN
 | [],_=>100000
 | (a,n)::r,s=>if a=s then n else aYp r s
def bBo:List (String×Nat):=[("a",11),
 ("b",201),
 ("dt",213),
 ("c",16),
 ("d",76),
 ("e",85),
 ("f",67),
 ("du",216),
 ("g",22),
 ("i",43),
 ("h",142),
 ("dv",279),
 ("k",72),
 ("H",44),
 ("dw",217),
 ("j",192),
 ("l",89),
 ("I",73),
 ("u",14),
 ("m",211),
 ("n",210),
 ("o",61),
 ("q",87),
 ("r",185),
 ("ap",4),
 ("p",54),
 ("s",145),
 ("D",27),
 ("t",394),
 ("J",13),
 ("K",36),
 ("v",86),
 ("aq",5),
 ("w",62),
 ("x",63),
 ("y",64),
 ("z",19),
 ("A",156),
 ("B",8),
 ("C",404),
 ("Q",12),
 ("R",15),
 ("E",91),
 ("dx",215),
 ("dy",214),
 ("F",6),
 ("G",26),
 ("ar",37),
 ("as",40),
 ("at",39),
 ("au",42),
 ("av",41),
 ("aw",38),
 ("ax",35),
 ("ay",153),
 ("az",17),
 ("aA",18),
 ("L",212),
 ("M",45),
 ("N",170),
 ("O",21),
 ("P",298),
 ("S",92),
 ("T",181),
 ("U",384),
 ("dz",150),
 ("dA",218),
 ("dB",219),
 ("aB",52),
 ("V",147),
 ("W",32),
 ("X",143),
 ("Y",148),
 ("Z",101),
 ("aa",144),
 ("ab",169),
 ("ac",82),
 ("ad",47),
 ("ae",157),
 ("af",84),
 ("ag",178),
 ("ah",236),
 ("ai",247),
 ("aj",75),
 ("ak",229),
 ("al",244),
 ("am",186),
 ("an",57),
 ("bk",232),
 ("bl",268),
 ("ao",180),
 ("aC",90),
 ("aD",182),
 ("aE",179),
 ("aF",294),
 ("aG",257),
 ("aH",256),
 ("dC",149),
 ("aI",95),
 ("aJ",94),
 ("aK",96),
 ("aL",187),
 ("aM",146),
 ("aN",7),
 ("aO",9),
 ("aP",74),
 ("aQ",183),
 ("aR",80),
 ("aS",163),
 ("aT",253),
 ("aU",162),
 ("aV",172),
 ("aW",237),
 ("aX",51),
 ("aY",24),
 ("aZ",25),
 ("ba",58),
 ("bb",398),
 ("bc",405),
 ("bm",300),
 ("bd",327),
 ("be",260),
 ("bf",20),
 ("bg",106),
 ("bh",116),
 ("bi",238),
 ("bn",184),
 ("bo",293),
 ("bp",56),
 ("bj",3),
 ("bq",10),
 ("br",109),
 ("bs",111),
 ("bt",112),
 ("bu",113),
 ("bv",195),
 ("bw",108),
 ("bx",102),
 ("by",103),
 ("bz",105),
 ("bA",107),
 ("bB",104),
 ("bT",30),
 ("bC",28),
 ("bD",59),
 ("bE",31),
 ("bF",98),
 ("bG",166),
 ("bH",168),
 ("bI",249),
 ("bJ",251),
 ("bK",78),
 ("bL",161),
 ("bU",160),
 ("bM",48),
 ("bN",23),
 ("bO",305),
 ("bP",191),
 ("bQ",164),
 ("bR",284),
 ("cP",228),
 ("bS",200),
 ("bV",88),
 ("bW",141),
 ("bX",292),
 ("bY",123),
 ("bZ",55),
 ("ca",196),
 ("cb",114),
 ("cc",99),
 ("cd",29),
 ("ce",118),
 ("cf",137),
 ("cg",122),
 ("ch",125),
 ("ci",129),
 ("cj",133),
 ("ck",130),
 ("cl",138),
 ("cm",134),
 ("cn",60),
 ("co",119),
 ("cp",126),
 ("cq",53),
 ("cr",167),
 ("cs",246),
 ("ct",235),
 ("cu",165),
 ("cv",173),
 ("cw",223),
 ("cx",225),
 ("cy",402),
 ("cz",396),
 ("cA",393),
 ("cB",395),
 ("cC",397),
 ("cD",399),
 ("cE",400),
 ("cF",401),
 ("cG",403),
 ("cH",274),
 ("cI",115),
 ("cJ",110),
 ("cK",50),
 ("cL",227),
 ("cQ",230),
 ("cM",117),
 ("cN",204),
 ("cO",267),
 ("cR",124),
 ("cS",139),
 ("cT",120),
 ("cU",127),
 ("cV",131),
 ("cW",135),
 ("cX",248),
 ("cY",250),
 ("cZ",79),
 ("da",81),
 ("db",46),
 ("dc",252),
 ("dd",83),
 ("de",171),
 ("df",306),
 ("dg",194),
 ("dh",100),
 ("di",97),
 ("dj",234),
 ("dk",226),
 ("dl",231),
 ("dm",233),
 ("dn",224),
 ("do",307),
 ("dp",308),
 ("dq",321),
 ("dr",320),
 ("ds",299)]
def gZ(s:String):Nat:=aYp bBo s
theorem aLp:mh AM0 gZ:=by refine' {load:=by kernel_rfl,..}<;>exact⟨by kernel_rfl,by kernel_rfl⟩
theorem aQI:OutFns AM0 gZ 165 167:=by refine' {cc:=by kernel_rfl,itoa:=by kernel_rfl,..}<;>exact⟨by kernel_rfl,by kernel_rfl⟩
theorem aOC:TextFns AM0 gZ 165 167:=by refine' {toOutFns:=aQI,rep:=aLp,num:=by kernel_rfl,cnt:=by kernel_rfl,..}<;>exact⟨by kernel_rfl,by kernel_rfl⟩
theorem aMt:BlockPrt AM0 gZ 165 167:=by refine' {toTextFns:=aOC,..}<;>exact⟨by kernel_rfl,by kernel_rfl⟩
theorem aQJ:uw AM0 gZ 165 where
 toBlockPrt:=aMt
 source:=⟨by kernel_rfl,by kernel_rfl⟩
 str:=by kernel_rfl
theorem aQK:RepAll AM0 gZ 165 167:=by refine' {cc:=by kernel_rfl,str:=by kernel_rfl,grow:=by kernel_rfl,cnt:=by kernel_rfl,ix1:=by kernel_rfl,..}<;>exact⟨by kernel_rfl,by kernel_rfl⟩
theorem aQL:WrtFns AM0 gZ 165 167:=by refine' {toRepAll:=aQK,join:=by kernel_rfl,itoa:=by kernel_rfl,..}<;>exact⟨by kernel_rfl,by kernel_rfl⟩
theorem aQM:MelFns AM0 gZ 165 167:=by refine' {toWrtFns:=aQL,..}<;>exact⟨by kernel_rfl,by kernel_rfl⟩
theorem aOD:rj AM0 gZ 165 167:=by refine' {toMelFns:=aQM,rpl:=aLp,num:=by kernel_rfl,..}<;>exact⟨by kernel_rfl,by kernel_rfl⟩
theorem aSD:sn AM1 where
 fn:=by kernel_rfl
 bq:=by kernel_rfl
theorem aLq:PlaneFns AM1 gZ:=by refine' {yf:=aSD,..}<;>exact⟨by kernel_rfl,by kernel_rfl⟩
theorem aMu:ij AM1 gZ:=by refine' {toPlaneFns:=aLq,Bb:=⟨189,⟨by kernel_rfl,by kernel_rfl⟩,⟨by kernel_rfl,by kernel_rfl⟩⟩,Bc:=⟨190,⟨by kernel_rfl,by kernel_rfl⟩,⟨by kernel_rfl,by kernel_rfl⟩⟩,..}<;>exact⟨by kernel_rfl,by kernel_rfl⟩
theorem aQN:sn AM0 where
 fn:=by kernel_rfl
 bq:=by kernel_rfl
theorem aMv:PlaneFns AM0 gZ:=by refine' {yf:=aQN,..}<;>exact⟨by kernel_rfl,by kernel_rfl⟩
theorem aMw:ny AM0 gZ:=by constructor<;>exact⟨by kernel_rfl,by kernel_rfl⟩
theorem aQO:si AM0 gZ:=by refine' {Aj:=⟨⟨115,197,289,⟨by kernel_rfl,by kernel_rfl⟩,⟨by kernel_rfl,by kernel_rfl⟩,⟨by kernel_rfl,by kernel_rfl⟩,⟨by kernel_rfl,by kernel_rfl⟩⟩⟩,sj:=⟨⟨110,193,290,⟨by kernel_rfl,by kernel_rfl⟩,⟨by kernel_rfl,by kernel_rfl⟩,⟨by kernel_rfl,by kernel_rfl⟩,⟨by kernel_rfl,by kernel_rfl⟩⟩⟩,Ak:=⟨⟨194,261,291,⟨by kernel_rfl,by kernel_rfl⟩,⟨by kernel_rfl,by kernel_rfl⟩,⟨by kernel_rfl,by kernel_rfl⟩,⟨by kernel_rfl,by kernel_rfl⟩⟩⟩,..}<;>exact⟨by kernel_rfl,by kernel_rfl⟩
theorem aMx:kb AM0 gZ:=by refine' {mel:=aQO,same:=aMw,sj:=⟨⟨154,221,155,⟨by kernel_rfl,by kernel_rfl⟩,⟨by kernel_rfl,by kernel_rfl⟩,⟨by kernel_rfl,by kernel_rfl⟩,⟨by kernel_rfl,by kernel_rfl⟩⟩⟩,Q8:=⟨⟨285,315,286,⟨by kernel_rfl,by kernel_rfl⟩,⟨by kernel_rfl,by kernel_rfl⟩,⟨by kernel_rfl,by kernel_rfl⟩,⟨by kernel_rfl,by kernel_rfl⟩⟩⟩,allI:=⟨⟨97,188,239,⟨by kernel_rfl,by kernel_rfl⟩,⟨by kernel_rfl,by kernel_rfl⟩,⟨by kernel_rfl,by kernel_rfl⟩,⟨by kernel_rfl,by kernel_rfl⟩⟩⟩,Am:=⟨⟨240,287,241,⟨by kernel_rfl,by kernel_rfl⟩,⟨by kernel_rfl,by kernel_rfl⟩,⟨by kernel_rfl,by kernel_rfl⟩,⟨by kernel_rfl,by kernel_rfl⟩⟩⟩,An:=⟨⟨242,68,243,⟨by kernel_rfl,by kernel_rfl⟩,⟨by kernel_rfl,by kernel_rfl⟩,⟨by kernel_rfl,by kernel_rfl⟩,⟨by kernel_rfl,by kernel_rfl⟩⟩⟩,Ao:=⟨⟨100,189,245,⟨by kernel_rfl,by kernel_rfl⟩,⟨by kernel_rfl,by kernel_rfl⟩,⟨by kernel_rfl,by kernel_rfl⟩,⟨by kernel_rfl,by kernel_rfl⟩⟩⟩,Ap:=⟨⟨106,190,288,⟨by kernel_rfl,by kernel_rfl⟩,⟨by kernel_rfl,by kernel_rfl⟩,⟨by kernel_rfl,by kernel_rfl⟩,⟨by kernel_rfl,by kernel_rfl⟩⟩⟩,..}<;>exact⟨by kernel_rfl,by kernel_rfl⟩
theorem aHq:kc AM0 gZ 165:=by refine' {blk:=aMx,src:=aQJ,R9:=⟨⟨158,222,159,⟨by kernel_rfl,by kernel_rfl⟩,⟨by kernel_rfl,by kernel_rfl⟩,⟨by kernel_rfl,by kernel_rfl⟩,⟨by kernel_rfl,by kernel_rfl⟩⟩⟩,B6:=⟨⟨174,254,175,⟨by kernel_rfl,by kernel_rfl⟩,⟨by kernel_rfl,by kernel_rfl⟩,⟨by kernel_rfl,by kernel_rfl⟩,⟨by kernel_rfl,by kernel_rfl⟩⟩⟩,S0:=⟨⟨176,255,177,⟨by kernel_rfl,by kernel_rfl⟩,⟨by kernel_rfl,by kernel_rfl⟩,⟨by kernel_rfl,by kernel_rfl⟩,⟨by kernel_rfl,by kernel_rfl⟩⟩⟩,allI:=⟨⟨20,49,77,⟨by kernel_rfl,by kernel_rfl⟩,⟨by kernel_rfl,by kernel_rfl⟩,⟨by kernel_rfl,by kernel_rfl⟩,⟨by kernel_rfl,by kernel_rfl⟩⟩⟩,..}<;>exact⟨by kernel_rfl,by kernel_rfl⟩
theorem aIM:lu AM0 gZ:=by refine' {con:=⟨259,⟨by kernel_rfl,by kernel_rfl⟩,⟨by kernel_rfl,by kernel_rfl⟩⟩,..}<;>exact⟨by kernel_rfl,by kernel_rfl⟩
theorem aOE:oh AM0 gZ 165:=by refine' {val:=aHq,..}<;>exact⟨by kernel_rfl,by kernel_rfl⟩
theorem aQP:ke AM0 gZ:=by refine' {noY:=aQN,..}<;>exact⟨by kernel_rfl,by kernel_rfl⟩
theorem aMy:lp AM0 gZ 165:=by refine' {fam:=aQP,valid:=aHq,..}<;>exact⟨by kernel_rfl,by kernel_rfl⟩
theorem aSE:C2 AM0 gZ:=by refine' {fns:=aMv,con:=⟨190,⟨by kernel_rfl,by kernel_rfl⟩,⟨by kernel_rfl,by kernel_rfl⟩⟩,..}<;>exact⟨by kernel_rfl,by kernel_rfl⟩
theorem aQQ:iw AM0 gZ:=by refine' {cI:=⟨188,⟨by kernel_rfl,by kernel_rfl⟩,⟨by kernel_rfl,by kernel_rfl⟩⟩,cN:=⟨261,⟨by kernel_rfl,by kernel_rfl⟩,⟨by kernel_rfl,by kernel_rfl⟩⟩,cB:=⟨193,⟨by kernel_rfl,by kernel_rfl⟩,⟨by kernel_rfl,by kernel_rfl⟩⟩,cH:=⟨197,⟨by kernel_rfl,by kernel_rfl⟩,⟨by kernel_rfl,by kernel_rfl⟩⟩,..}<;>exact⟨by kernel_rfl,by kernel_rfl⟩
theorem aOF:og AM0 gZ 165 167:=by refine' {form:=aIM,wrt:=aOD,B9:=aMs ⟨by kernel_rfl,by kernel_rfl⟩ ⟨by kernel_rfl,by kernel_rfl⟩ (by kernel_rfl),..}<;>exact⟨by kernel_rfl,by kernel_rfl⟩
theorem aMz:mi AM0 gZ (aNn AM1 (gZ "p")) 165 167:=by refine' {full:=aOE,hold:=aMy,text:=aOF,ph:=aSE,blk:=aQQ,form:=aIM,Cd:=⟨49,⟨by kernel_rfl,by kernel_rfl⟩,⟨by kernel_rfl,by kernel_rfl⟩⟩,fig:=aOt aMu (by kernel_rfl),itoa:=aQG (by kernel_rfl),atoi:=aQH (te:=328) (by kernel_rfl),del:=aSC (by kernel_rfl),wu:=fun H=>(by rw[show gZ "bq" = 10 by kernel_rfl];exact dT rfl),..}<;>exact⟨by kernel_rfl,by kernel_rfl⟩
theorem aIN{l:List Int}(hl:jP l){a:Int}(ha:eA a)(h:Int){b:Int}(hb:eA b)(H:LO):aG AM0 3 [.sl Qu (l.map bF),vi a,vi h,vi b] H=Qr (.bool Qt,H,[]):=by
 have:=aOB aMz hl (at':=a) (how:=h) (by':=b) ha hb H;have e:gZ "bj" = 3:=by kernel_rfl
 rwa [e]at this
end Go.AM
end
section
namespace Go.AM
open Go Go.ChangeShapes Go.WideShapes Go.ChangeAt Go.RowKit
def G0(C:ag->Ql->Prop)(W:BL):G:={ perm:=fun b i=>W.cell? ⟨b,i,Qs⟩,obj:=fun _=>Qs,whole:=fun b=>W.heap[b]?,io:=(W.os,W.output),code:=C }
theorem wf0(C:ag->Ql->Prop)(W:BL):WF (G0 C W) [] W where
 perm:=fun _ _ _ h=>h
 lt:=fun _ _ h=>by cases h
 blk:=fun _ _ h=>by cases h
 st:=fun _ _ _ _ h=>by cases h
 obj:=fun _ _ _ hb=>by have:=hb.loc;cases this
 jh:=fun _ _ _ hb=>by have:=hb.loc;cases this
 inj:=fun _ _ _ _ _ _ hb=>by have:=hb.loc;cases this
 whole:=⟨fun _ _ h=>⟨h,fun _ _ _ hb=>by have:=hb.loc;cases this⟩,rfl⟩
theorem aLr{C:ag->Ql->Prop}{W W':BL}{g':G}{H':LO}(h:Step (G0 C W) [] W g' H' W' []){b:Nat}(hb:b<W.heap.size):W'.heap[b]? = W.heap[b]? := h.frame.2 b hb fun o ho=>by cases ho
theorem aQR{C:ag->Ql->Prop}{W W':BL}{g':G}{H':LO}(h:Step (G0 C W) [] W g' H' W' [])(may:JI->Prop):W.keptBut W' may:=by have e:=h.wf.whole.io;rw[h.le.io]at e;have e':(W.os,W.output)=(W'.os,W'.output):=e;refine⟨(congrArg Prod.fst e').symm,(congrArg Prod.snd e').symm,fun i hi=>?_⟩;rw[aLr h hi];split<;>simp_all
section
variable {H:Type}{enc:BP×BE->H}{P:CU}{W:BL}{C:ag->Ql->Prop}
theorem aSF{t e:BP}{base:Nat}{v:BE}{d:IK H}{p:List JI}(ht:P.underlying t=Qr (.slice e))(he:P.underlying e=Qr (.int .i64))(hc:P.cellsOf e=1) (kp:LW P W .any base t v) (hd:IE enc P W 0 (fun _=>Qt) Qt t v d p):∃l:List Int,jP l/\ai (G0 C W) (.sl Qu (l.map bF)) v /\ ∀(W':BL) (sp:Nat->Bool),(∀b,b<W.heap.size->W'.heap[b]? = W.heap[b]?)->(∀q∈p,sp q.block=Qt)->IE enc P W' 0 sp Qt t v d p:=by
 simp only[LW,ht,Cell.okWide]at kp;obtain⟨fuel,hd⟩:=hd;have qj:v=.slice Qs 0 0∨∃a len cap,v=.slice (Qr a) len cap/\a.spot=none:=by
  unfold Cell.ok at kp;rw[ht]at kp;split at kp<;>first | exact kp.elim | skip
  all_goals first | (rename_i h;cases h;done) | skip
  ·exact .inl rfl
  exact .inr ⟨_,_,_,rfl,kp.2.2.2.1⟩
 rcases open_ints ht he hc hd with⟨e1,e2⟩ | ⟨a,len,cap,zs,e1,_,hl,hm,hz,e2,bc,U9⟩
 ·have hv:v=.slice Qs 0 0:=by
   rcases qj with rfl | ⟨a,len,cap,rfl,_⟩
   ·rfl
   simp[JY]at e1
  subst hv;cases e2;exact⟨[],(fun a ha=>by cases ha),.kn _,fun W' sp _ _=>shut_slice_nil ht⟩
 have hv:v=.slice (Qr a) len cap/\a.spot=none:=by
  rcases qj with rfl | ⟨a',len',cap',rfl,hs⟩
  ·simp[JY]at e1
  simp[JY]at e1;obtain⟨rfl,rfl,rfl⟩:=e1;exact⟨rfl,hs⟩
 obtain⟨rfl,hs⟩:=hv;simp only[BK]at e2;obtain⟨rfl,rfl⟩:=e2;simp only[Zv]at hz;have ji:∀i,a.add i=⟨a.block,a.off+i,Qs⟩:=fun i=>by
  have ea:a=⟨a.block,a.off,Qs⟩:=by cases a;simp at hs;subst hs;rfl
  rw[ea];exact Addr.add_lit _ _ _
 have hlt:0<zs.length->a.block<W.heap.size:=fun h0=>by
  have:=bc 0 h0;rw[ji]at this;exact World.block_lt_of_cell? (a:=⟨a.block,a.off+0,Qs⟩) W this
 refine⟨zs.take len,fun n hn=>?_, ?_,fun W' sp Df l9=>?_⟩
 ·have:=MF (U9 n (List.mem_of_mem_take hn));exact⟨this.1,this.2⟩
 ·have ea:a=⟨a.block,a.off,Qs⟩:=by cases a;simp at hs;subst hs;rfl
  have ax:((zs.take len).map bF).length=len:=by simp;omega
  have key:ai (G0 C W) (.sl Qu ((zs.take len).map bF)) (.slice (Qr ⟨a.block,a.off,Qs⟩) ((zs.take len).map bF).length cap):=by
   refine .sl Qu _ a.block a.off cap 1 (by omega) (fun h=>by cases h) (fun row hr=>?_) (fun row hr=>?_) (fun i j hi hj=>?_) fun i j row c x hr sx hx=>?_
   ·obtain⟨n,_,rfl⟩:=DB.1 hr;rfl
   ·obtain⟨n,_,rfl⟩:=DB.1 hr;rfl
   ·have:j=0:=by omega
    subst this;show (W.cell? ⟨a.block,a.off+i*1+0,Qs⟩).isSome;have:=bc i (by omega);rw[ji]at this;simp only[FK,DU,this];rfl
   have hi:i<len:=by rw[<- ax];exact (AH.1 hr).1
   have hj:j=0:=by obtain⟨n,_,rfl⟩:=DB.1 (AN hr);have:=(AH.1 sx).1;simp[bF]at this;exact this
   subst hj;have wz:W.cell? ⟨a.block,a.off+i*1+0,Qs⟩=Qr x:=hx;have nc:=bc i (by omega);rw[ji]at nc;simp only[FK,DU]at wz;rw[nc]at wz;cases wz;rw[BN]at hr;have l7:(zs.take len)[i]? = Qr (zs.getD i 0):=by rw[List.getElem?_take,Zy hi,AP (by omega)];simp[List.getD,show i<zs.length by omega]
   rw[l7]at hr;simp only[DE,AG]at hr;subst hr;simp only[bF,BG,AG]at sx;subst sx;exact .int _ _
  rw[ax,<- ea]at key;exact key
 refine⟨2,shut_ints 0 ht he hc (Nat.zero_le _) hl hm ?_ (fun i hi=>?_) U9⟩
 ·by_cases h0:0<zs.length
  ·have:sp a.block=true:=l9 (.cell a.block (a.off+0)) (MemPlace.mem_row.2 ⟨0,h0,rfl⟩);rw[this,Zy rfl,hz]
  split<;>omega
 have h1:=bc i hi;rw[ji]at h1 ⊢;exact (World.cell?_of_block (a:=⟨a.block,a.off+i,Qs⟩) (Df a.block (hlt (by omega)))).trans h1
mutual
def aHr{H:Type}:IK H->List BE
 |.lit l=>[l.toCell]
 |.agg ds=>aLs ds
 |_=>[]
def aLs{H:Type}:List (IK H)->List BE
 | []=>[]
 |d::r=>aHr d++aLs r
end
theorem aHs{α:Type}{f:α->Option (IK H×List JI)}{ch:α->List BE}:∀{L:List α} {xs:List (IK H×List JI)},L.mapM f=Qr xs->(∀x∈L,∀a,f x=Qr a->ch x=aHr a.1)->(L.map ch).flatten=aLs (xs.map (·.1))
 | [],xs,h,_=>by
  simp at h;subst h;simp[aLs]
 |x::L,xs,h,da=>by
  rw[KX]at h;simp only[bind,LH,pure,AG]at h;obtain⟨a,ha,asx',has,rfl⟩:=h;rw[BI,List.flatten_cons,BI,aLs,aHs has (fun y hy=>da y (by simp[hy])),da x (by simp) a ha]
theorem aDP{base:Nat}{sp:Nat->Bool}{held:Bool}:∀(m:Nat) (t:BP),P.tiled m t=Qt->∀(n:Nat) (cs:List BE) (x:IK H×List JI),EZ enc P W base sp held n t cs=Qr x->cs=aHr x.1
 |0,_,h=>by simp[OD]at h
 |m+1,t,ht=>by
  intro n cs x h;unfold OD at ht;cases n with
  |zero=>simp[EZ]at h
  |succ n=>
   cases hu:P.underlying t with
   |none=>simp[hu]at ht
   |some kd=>
    cases kd
    case bool=>simp only[EZ,hu]at h;split at h<;>simp_all<;>(subst h;simp[aHr,NP])
    case int q=>simp only[EZ,hu]at h;split at h<;>simp_all<;>(obtain⟨⟨rfl,_⟩,rfl⟩:=h;simp[aHr,NP])
    case string=>simp only[EZ,hu]at h;split at h<;>simp_all<;>(obtain⟨_,rfl⟩:=h;simp[aHr,NP])
    case array k e=>
     simp only[hu,AI,beq_iff_eq]at ht;simp only[EZ,hu]at h;split at h
     ·rename_i hl;obtain⟨asx,ha,rfl⟩:=EL.1 h;show cs=aHr (.agg (asx.map (·.1)));rw[aHr,<- aHs (ch:=fun i=>(cs.drop (i*P.cellsOf e)).take (P.cellsOf e)) ha (fun i _ a Nv=>aDP m e ht.2 n _ a Nv),chunks_flatten _ k cs (by rw[hl,ht.1])]
     cases h
    case struct fs=>
     simp only[hu,AI,beq_iff_eq]at ht;simp only[EZ,hu]at h;split at h
     ·rename_i hl;obtain⟨asx,ha,rfl⟩:=EL.1 h;show cs=aHr (.agg (asx.map (·.1)));rw[aHr,<- aHs (ch:=fun f:Field=>(cs.drop f.offset).take (P.cellsOf f.type)) ha (fun f hf a Br=>aDP m f.type (Array.all_eq_true_iff_forall_mem.1 ht.2 f (Array.mem_toList_iff.1 hf)) n _ a Br),fields_flatten cs _ 0 _ ht.1 hl];rfl
     cases h
    all_goals (simp[hu]at ht;done)
theorem aVD{nm:String}{n:Nat}{row:LA}{vs:List BE}{cs:Array BE}(hn:P.globalNamed nm=Qr n)(hv:W.var? P nm=Qr cs)(ru:cs.toList=vs)(hr:aQZ Qu vs=Qr row)(bd:row.all AV.still=Qt):ai (G0 C W) (.ep row 0) (.pointer (Qr ⟨n,0,Qs⟩))/\∃cs t fz,(G0 C W).whole n=Qr (.cells cs t fz)/\cs.size=row.length:=by
 unfold PQ at hv;rw[hn]at hv;simp only[FG]at hv;split at hv
 ·rename_i cs' t fz fb;simp only[AG]at hv;subst hv;have hl:=aB8 hr (G0 C W);have gd:cs'.size=row.length:=by rw[hl.1,<- ru];simp
  have bc:∀j,W.cell? ⟨n,j,Qs⟩=cs'[j]? := fun j=>by simp[EF,fb]
  refine⟨?_,cs',t,fz,fb,gd⟩;refine .ep row 0 n 0 bd (fun j hj=>?_) fun j a x ha hx=>?_
  ·show (W.cell? ⟨n,0+j,Qs⟩).isSome;rw[BC,bc,Array.getElem?_eq_getElem (by omega)];rfl
  have wz:W.cell? ⟨n,0+j,Qs⟩=Qr x:=hx;rw[BC,bc]at wz;refine hl.2 j a x ha ?_;rw[<- ru];simpa using wz
 cases hv
end
end Go.AM
end
section
namespace Go.Proofs.YtebodiamojfnnaaGreatDoor
open Go Go.ChangeShapes Go.WideShapes Go.ChangeAt Go.WideMaps Go.WideElems Go.RowKit Go.AM
theorem own:ownKnob Tryz.prog.godebug=none:=by kernel_rfl
abbrev aHt:List (String×IK Unit):=Rows.sourceKnownRow.laid
abbrev zW:List (String×IK Unit):=aHt.filter fun x=>x.2.handleName?.isNone
abbrev bC7:IK Unit:=match (Rows.laid_dactyl_typing_families:IK Unit)with | .iface _ d=>d | d=>d
def yZ(k b:Int)(f:Nat):FO:=⟨.int .i64 k,.agg #[.int .i64 b,.func (.func f) #[] #[]],k.toNat⟩
def aOG:Array FO := #[yZ 0 (-1) 393,yZ 1 3 395,yZ 2 4 397,yZ 3 4 399,yZ 4 4 400,yZ 5 5 401,yZ 6 6 403]
noncomputable def aNv(os:Os):BL:={ LI Tryz.prog os ⟨#[],#[],[]⟩ with
 heap:=((LI Tryz.prog os ⟨#[],#[],[]⟩).heap.setIfInBounds 0 (.cells #[.map (Qr (LI Tryz.prog os ⟨#[],#[],[]⟩).heap.size)] 124)).push (.map aOG 7) }
noncomputable def aB7(os:Os):BL:=(aNv os).layVars Tryz.prog zW
theorem aLt(os:Os):(aB7 os).os=os:=World.layVars_os _ _ _
theorem aOH(os:Os)(args:Array BE):laidMet Tryz.prog zW ((aB7 os).forCall (fun _ _=>0) ⟨#[],args,[]⟩).memory:=by
 have e1:(zW.filter fun x=>(zW.map (·.1)).contains x.1)=zW:=List.filter_eq_self.2 fun x hx=>EH.2 (DB.2 ⟨x,hx,rfl⟩);have e2:(zW.filter fun x => !(zW.map (·.1)).contains x.1)=[]:=List.filter_eq_nil_iff.2 fun x hx=>by rw[EH.2 (DB.2 ⟨x,hx,rfl⟩)];simp
 have h:laidMet Tryz.prog zW (aB7 os):=laidMet_layVars (w0:=aNv os) (zW.map (·.1)) [] (by rw[e1];rfl) (by rw[e1];kernel_rfl) (by rw[e1];kernel_rfl) (by rw[e2];exact LaidIn.none);exact h.of_heap (by simp[World.memory,World.forCall,Input.heap])
theorem aSG(os:Os)(args:Array BE):laidMetH Tryz.prog aHt ((aB7 os).forCall (fun _ _=>0) ⟨#[],args,[]⟩).memory:=
 laidMetH_of_parts3 (fuel:=8) (aOH os args) (by kernel_rfl) (by kernel_rfl)
end Go.Proofs.YtebodiamojfnnaaGreatDoor
end
section
namespace Go.Proofs.YtebodiamojfnnaaGreatDoor
open Go Go.ChangeShapes Go.WideShapes Go.ChangeAt Go.WideMaps Go.WideElems Go.RowKit Go.AM
theorem aQS:(aHt.filter fun x=>x.2.handleName?.isSome)=[("dactyl/typing.families",Rows.laid_dactyl_typing_families)]:=by kernel_rfl
theorem aNw{W:BL}(h:laidMetH Tryz.prog aHt W):laidMet Tryz.prog zW W:=by unfold laidMetH at h;rw[aQS]at h;exact h.1
theorem aMA{P:CU}{w:BL}{nm:String}{d:IK Unit}:∀{laid:List (String×IK Unit)} {ps:List JI} (i:Nat),DataW.LaidVars P w laid ps->laid[i]? = Qr (nm,d) ->∃g t cs fuel p,P.globalNamed nm=Qr g/\(P.globals[g]?).map (·.type)=Qr t/\w.var? P nm=Qr cs/\EZ (fun _=>()) P w 0 (fun _=>Qt) Qu fuel t cs.toList=Qr (d,p)
 | [],_,i,_,h=>by simp at h
 | (n,d')::r,ps,0,hl,h=>by
  obtain⟨g,t,cs,fuel,p,q,h1,h2,h3,h4,_,_⟩:=hl;simp only[BG,AG,BK]at h;obtain⟨rfl,rfl⟩:=h;exact⟨g,t,cs,fuel,p,h1,h2,h3,h4⟩
 | (n,d')::r,ps,i+1,hl,h=>by
  obtain⟨g,t,cs,fuel,p,q,_,_,_,_,h5,_⟩:=hl;exact aMA i h5 (by simpa using h)
abbrev CK:ag->Ql->Prop:=fun a c=>∃nl ty rs frz,a=nR Tryz.prog ⟨aBx.row,nl,ty,rs⟩ frz c
theorem aIO{W:BL}(h:laidMetH Tryz.prog aHt W){nm:String}{d:IK Unit}(i n t:Nat){row:LA}(hi:zW[i]? = Qr (nm,d))(hn:Tryz.prog.globalNamed nm=Qr n)(ht:(Tryz.prog.globals[n]?).map (·.type)=Qr t) (tl:Tryz.prog.tiled 9 t=Qt) (hr:aQZ Qu (aHr d)=Qr row) (bd:row.all AV.still=Qt):ai (G0 CK W) (.ep row 0) (.pointer (Qr ⟨n,0,Qs⟩))/\∃cs t fz,(G0 CK W).whole n=Qr (.cells cs t fz)/\cs.size=row.length:=by obtain⟨ps,hl,_⟩:=aNw h;obtain⟨g,t',cs,fuel,p,h1,h2,h3,h4⟩:=aMA i hl hi;obtain rfl:=DZ (hn.symm.trans h1);obtain rfl:=DZ (ht.symm.trans h2);exact aVD hn h3 (aDP 9 _ tl fuel _ _ h4) hr bd
theorem aQT{W:BL}{nm:String}{n:Nat}{a:AV}{x:BE}{cs:Array BE}(hn:Tryz.prog.globalNamed nm=Qr n)(hv:W.var? Tryz.prog nm=Qr cs)(ru:cs.toList=[x])(hr:ai (G0 CK W) a x)(bd:a.still=Qt):ai (G0 CK W) (.ep [a] 0) (.pointer (Qr ⟨n,0,Qs⟩))/\∃cs t fz,(G0 CK W).whole n=Qr (.cells cs t fz)/\cs.size=[a].length:=by
 unfold PQ at hv;rw[hn]at hv;simp only[FG]at hv;split at hv
 ·rename_i cs' t fz fb;simp only[AG]at hv;subst hv;have e:cs' = #[x]:=Array.eq_one_of_toList ru;subst e;refine⟨?_,_,t,fz,fb,rfl⟩;refine .ep [a] 0 n 0 (by simp[bd]) (fun j hj=>?_) fun j b y ha hx=>?_
  ·have:j=0:=by simpa using hj
   subst this;show (W.cell? ⟨n,0+0,Qs⟩).isSome;simp[EF,fb]
  have hj:j<1:=(AH.1 ha).1;have:j=0:=by omega
  subst this;have wz:W.cell? ⟨n,0+0,Qs⟩=Qr y:=hx;simp[EF,fb]at wz;subst wz;simp at ha;subst ha;exact hr
 cases hv
theorem aNx: "*" ++ "errors.errorString" = "*errors.errorString" := by decide
theorem aSH(u:BP)(h:Tryz.prog.typeName? 3 u=Qr "*errors.errorString"):u=388:=
 typeName_ptr_named (nm:= "errors.errorString") (by rw[aNx];kernel_rfl) (by kernel_rfl) (by decide) u (by rw[aNx];exact h)
theorem aTl{W:BL}(h:laidMetH Tryz.prog aHt W){nm:String}{d:IK Unit}(i n:Nat)(hi:zW[i]? = Qr (nm,.iface "*errors.errorString" d))(hn:Tryz.prog.globalNamed nm=Qr n)(ht:(Tryz.prog.globals[n]?).map (·.type)=Qr 174):ai (G0 CK W) (.ep [.ifc 388 .undef] 0) (.pointer (Qr ⟨n,0,Qs⟩))/\∃cs t fz,(G0 CK W).whole n=Qr (.cells cs t fz)/\cs.size=[AV.ifc 388 .undef].length:=by
 obtain⟨ps,hl,_⟩:=aNw h;obtain⟨g,t',cs,fuel,p,h1,h2,h3,h4⟩:=aMA i hl hi;obtain rfl:=DZ (hn.symm.trans h1);obtain rfl:=DZ (ht.symm.trans h2);have key:∃u v,cs.toList=[.iface u v]/\Tryz.prog.typeName? 3 u=Qr "*errors.errorString" := by
  cases fuel with
  |zero=>simp[EZ]at h4
  |succ m=>
   unfold EZ at h4;simp only[Tryz.underlying174]at h4;split at h4<;>first | (simp at h4;done) | skip
   all_goals first | (exfalso;rename_i hA hB;cases hA;done) | skip
   rename_i u v _ ru;refine⟨u,v,ru, ?_⟩;cases jq:Tryz.prog.typeName? 3 u with
   |none=>rw[jq]at h4;cases h4
   |some name=>rw[jq]at h4;obtain⟨x,_,hx⟩:=EL.1 h4;simp only[BK,PZ]at hx;rw[hx.1.1]
 obtain⟨u,v,ru,hu⟩:=key;obtain rfl:=aSH u hu;exact aQT hn h3 ru (.ifc _ _ _ rfl (.undef _)) rfl
theorem aSI{α β:Type}{f:α->β}:∀{m D:List β},m.Perm D->∀{l:List α},l.map f=m->∃xs,l.Perm xs/\xs.map f=D:=by
 intro m D h
 induction h with
 |nil=>intro l e;exact⟨l,.refl _,e⟩
 |cons x _ ih=>
  intro l e;cases l with
  |nil=>simp at e
  |cons a l=>simp only[BI,JG]at e;obtain⟨xs,h1,h2⟩:=ih e.2;exact⟨a::xs,h1.cons a,by simp[e.1,h2]⟩
 |swap x y r=>
  intro l e
  match l,e with
  |a::b::l,e=>simp only[BI,JG]at e;exact⟨b::a::l,.swap _ _ _,by simp[e.1,e.2.1,e.2.2]⟩
 |trans _ _ ih1 ih2=>intro l e;obtain⟨xs,h1,h2⟩:=ih1 e;obtain⟨ys,h3,h4⟩:=ih2 h2;exact⟨ys,h1.trans h3,h4⟩
theorem sA{W:BL}{n:Nat}{x:FO}{k b:Int}{f:Nat}{c:UInt8}{r:List UInt8}(ud:((List.range Tryz.prog.funcs.size).filter fun f=>(Tryz.prog.funcs[f]?).any (·.name.toUTF8.data.toList==c::r))=[f]) (h:KP Tryz.prog 3 (elemAt (funcToken Tryz.prog) Tryz.prog W 0 (fun _=>Qt) Qt n 123) x=Qr (.int .i64 k,.agg [.lit (.int .i64 b),.held (c::r)])):x.key=.int .i64 k/\x.val=.agg #[.int .i64 b,.func (.func f) #[] #[]]:=by
 obtain⟨key,val,born⟩:=x;have hk:=rd_key h;obtain⟨z,hz,he⟩:=rd_val h;constructor
 ·have hu:Tryz.prog.underlying 3=Qr (.int .i64):=Tryz.underlying3;unfold keyOf mapKey at hk;rw[hu]at hk;dsimp only at hk;split at hk<;>first | (cases hk;done) | skip
  ·split at hk
   ·rename_i hc;obtain⟨rfl,_⟩:=hc;cases hk;rfl
   cases hk
  rename_i hA;cases hA
 unfold elemAt at hz;split at hz
 ·rename_i qj;have hu:Tryz.prog.underlying 123=_:=Tryz.underlying123;unfold Value.formed at qj;rw[hu]at qj;cases val<;>simp at qj
  rename_i cs;have Z4:Tryz.prog.cellsOf 3=1:=by kernel_rfl
  have Ce:Tryz.prog.cellsOf 121=1:=by kernel_rfl
  have N2:Tryz.prog.cellsOf 123=2:=by kernel_rfl
  rw[N2]at qj;obtain⟨v0,v1,rfl⟩:∃v0 v1,cs = #[v0,v1]:=by
   match cs,qj with
   |⟨[v0,v1]⟩,_=>exact⟨v0,v1,rfl⟩
  cases n with
  |zero=>simp[EZ]at hz
  |succ m=>
   unfold EZ at hz;rw[hu]at hz;dsimp only[JY]at hz;rw[Zy (by rw[N2];rfl)]at hz;obtain⟨xs,re,rfl⟩:=EL.1 hz;rw[KX,KX,List.mapM_nil]at re;simp only[bind,LH,pure,AG]at re;obtain⟨a,ha,_,⟨c',P8,_,rfl,rfl⟩,rfl⟩:=re;rw[Z4]at ha;rw[Ce]at P8;simp only[BI,BY,Qm,JG,and_true]at he;have e0:=aDP 1 3 (by kernel_rfl) _ _ _ ha;rw[<- he.1]at e0;have e0:[v0]=[Value.int .i64 b]:=e0;have ec:c'=(.held (c::r),c'.2):=by rw[he.2]
   rw[ec]at P8;have e1:v1=.func (.func f) #[] #[]:=func_of_trod Tryz.underlying121 ud P8;cases e0;rw[e1]
 cases hz
theorem aVE{W:BL}{n:Nat}{es:Array FO}{xs:List FO}{D:List (Lit×IK (List UInt8))}(hp:es.toList.Perm xs)(hr:∀x∈es.toList,∃y,KP Tryz.prog 3 (elemAt (funcToken Tryz.prog) Tryz.prog W 0 (fun _=>Qt) Qt n 123) x=Qr y) (hx:xs.map (NQ Tryz.prog 3 (elemAt (funcToken Tryz.prog) Tryz.prog W 0 (fun _=>Qt) Qt n 123))=D):∀i:Nat,∀x,xs[i]? = Qr x->∀d,D[i]? = Qr d->KP Tryz.prog 3 (elemAt (funcToken Tryz.prog) Tryz.prog W 0 (fun _=>Qt) Qt n 123) x=Qr d:=by intro i x hi d hd;rw[<- hx,BN,hi]at hd;simp only[DE,AG]at hd;obtain⟨y,hy⟩:=hr x (hp.mem_iff.2 (AN hi));rw[rg_of hy]at hd;rw[hy,hd]
theorem aCN{g:G}(b:Int)(f:Nat):ai g (aT4 b f) (.agg #[.int .i64 b,.func (.func f) #[] #[]]):=.agg _ _ rfl fun i a x ha hx=>by
 match i,ha,hx with
 |0,ha,hx=>simp at ha hx;subst ha;subst hx;exact .int _ _
 |1,ha,hx=>simp at ha hx;subst ha;subst hx;exact .fn f [] [] #[] #[] rfl rfl (fun _ _ _ h=>by simp at h) (fun _ _ _ h=>by simp at h)
 |i+2,ha,hx=>simp at ha
theorem aSJ:bC7.funcsOut=.map [(.int .i64 0,.agg [.lit (.int .i64 (-1)),.held [100,97,99,116,121,108,47,116,121,112,105,110,103,46,102,97,109,105,108,105,101,115,36,49]]),(.int .i64 1,.agg [.lit (.int .i64 3),.held [100,97,99,116,121,108,47,116,121,112,105,110,103,46,102,97,109,105,108,105,101,115,36,50]]),(.int .i64 2,.agg [.lit (.int .i64 4),.held [100,97,99,116,121,108,47,116,121,112,105,110,103,46,102,97,109,105,108,105,101,115,36,51]]),(.int .i64 3,.agg [.lit (.int .i64 4),.held [100,97,99,116,121,108,47,116,121,112,105,110,103,46,102,97,109,105,108,105,101,115,36,52]]),(.int .i64 4,.agg [.lit (.int .i64 4),.held [100,97,99,116,121,108,47,116,121,112,105,110,103,46,102,97,109,105,108,105,101,115,36,53]]),(.int .i64 5,.agg [.lit (.int .i64 5),.held [100,97,99,116,121,108,47,116,121,112,105,110,103,46,102,97,109,105,108,105,101,115,36,54]]),(.int .i64 6,.agg [.lit (.int .i64 6),.held [100,97,99,116,121,108,47,116,121,112,105,110,103,46,102,97,109,105,108,105,101,115,36,55]])]:=by kernel_rfl
theorem aVF{W:BL}(h:laidMetH Tryz.prog aHt W):ai (G0 CK W) (.ep aUy 0) (.pointer (Qr ⟨0,0,Qs⟩))/\∃cs t fz,(G0 CK W).whole 0=Qr (.cells cs t fz)/\cs.size=aUy.length:=by
 obtain⟨g,t,cs,fuel,p,hg,ht,hv,hd⟩:=h.funcs (n:= "dactyl/typing.families") (d:=bC7) (AN (i:=11) rfl);have h0:Tryz.prog.globalNamed "dactyl/typing.families" = Qr 0:=by kernel_rfl
 have h1:(Tryz.prog.globals[0]?).map (·.type)=Qr 124:=by kernel_rfl
 obtain rfl:=DZ (h0.symm.trans hg);obtain rfl:=DZ (h1.symm.trans ht);rw[aSJ]at hd;rcases Qn Tryz.underlying124 hd with⟨_,hx⟩ | ⟨b,es,clock,n,_,ru,fb,_,F,hx⟩
 ·cases hx
 simp only[BK,Qo]at hx;have pz:=(sorted_perm (es.toList.map (NQ Tryz.prog 3 (elemAt (funcToken Tryz.prog) Tryz.prog W 0 (fun _=>Qt) Qt n 123)))).symm;rw[<- hx.1]at pz;obtain⟨xs,hp,re⟩:=aSI pz rfl;have ax:xs.length=7:=by have:=congrArg List.length re;simpa using this
 have cn:=aVE hp F.reads re;obtain⟨x0,x1,x2,x3,x4,x5,x6,rfl⟩:∃x0 x1 x2 x3 x4 x5 x6,xs=[x0,x1,x2,x3,x4,x5,x6]:=by
  match xs,ax with
  | [x0,x1,x2,x3,x4,x5,x6],_=>exact⟨_,_,_,_,_,_,_,rfl⟩
 obtain⟨k0,v0⟩:=sA (f:=393) (by kernel_rfl) (cn 0 x0 rfl _ rfl);obtain⟨k1,v1⟩:=sA (f:=395) (by kernel_rfl) (cn 1 x1 rfl _ rfl);obtain⟨k2,v2⟩:=sA (f:=397) (by kernel_rfl) (cn 2 x2 rfl _ rfl);obtain⟨k3,v3⟩:=sA (f:=399) (by kernel_rfl) (cn 3 x3 rfl _ rfl);obtain⟨k4,v4⟩:=sA (f:=400) (by kernel_rfl) (cn 4 x4 rfl _ rfl);obtain⟨k5,v5⟩:=sA (f:=401) (by kernel_rfl) (cn 5 x5 rfl _ rfl);obtain⟨k6,v6⟩:=sA (f:=403) (by kernel_rfl) (cn 6 x6 rfl _ rfl);refine aQT h0 hv ru (.fmp _ _ b es clock _ fb (.inr ⟨hp,.i64,[0,1,2,3,4,5,6], ?_,by decide⟩) rfl rfl (fun i a x ha hx=>?_) fun i a x ha hx=>?_) rfl
 ·simp[k0,k1,k2,k3,k4,k5,k6]
 ·match i,ha,hx with
  |0,ha,hx=>simp at ha hx;subst ha;subst hx;rw[k0];exact .int _ _
  |1,ha,hx=>simp at ha hx;subst ha;subst hx;rw[k1];exact .int _ _
  |2,ha,hx=>simp at ha hx;subst ha;subst hx;rw[k2];exact .int _ _
  |3,ha,hx=>simp at ha hx;subst ha;subst hx;rw[k3];exact .int _ _
  |4,ha,hx=>simp at ha hx;subst ha;subst hx;rw[k4];exact .int _ _
  |5,ha,hx=>simp at ha hx;subst ha;subst hx;rw[k5];exact .int _ _
  |6,ha,hx=>simp at ha hx;subst ha;subst hx;rw[k6];exact .int _ _
  |i+7,ha,hx=>simp at hx
 match i,ha,hx with
 |0,ha,hx=>simp at ha hx;subst ha;subst hx;rw[v0];exact aCN _ _
 |1,ha,hx=>simp at ha hx;subst ha;subst hx;rw[v1];exact aCN _ _
 |2,ha,hx=>simp at ha hx;subst ha;subst hx;rw[v2];exact aCN _ _
 |3,ha,hx=>simp at ha hx;subst ha;subst hx;rw[v3];exact aCN _ _
 |4,ha,hx=>simp at ha hx;subst ha;subst hx;rw[v4];exact aCN _ _
 |5,ha,hx=>simp at ha hx;subst ha;subst hx;rw[v5];exact aCN _ _
 |6,ha,hx=>simp at ha hx;subst ha;subst hx;rw[v6];exact aCN _ _
 |i+7,ha,hx=>simp at hx
theorem aSK{W:BL}(h:laidMetH Tryz.prog aHt W):bM Tryz.prog aBx (G0 CK W) where
 row:=fun n row hn=>by
  have hn:aZA n=Qr row:=hn;unfold aZA at hn;split at hn
  ·cases hn;exact aIO h 9 1 170 rfl (by kernel_rfl) (by kernel_rfl) (by kernel_rfl) (by kernel_rfl) (by kernel_rfl)
  ·cases hn;exact aIO h 6 5 244 rfl (by kernel_rfl) (by kernel_rfl) (by kernel_rfl) (by kernel_rfl) (by kernel_rfl)
  ·cases hn;exact aIO h 7 2 238 rfl (by kernel_rfl) (by kernel_rfl) (by kernel_rfl) (by kernel_rfl) (by kernel_rfl)
  ·cases hn;exact aIO h 8 3 239 rfl (by kernel_rfl) (by kernel_rfl) (by kernel_rfl) (by kernel_rfl) (by kernel_rfl)
  ·cases hn;exact aIO h 10 4 239 rfl (by kernel_rfl) (by kernel_rfl) (by kernel_rfl) (by kernel_rfl) (by kernel_rfl)
  ·cases hn;exact aVF h
  ·cases hn;exact aTl h 5 6 rfl (by kernel_rfl) (by kernel_rfl)
  ·cases hn;exact aTl h 4 7 rfl (by kernel_rfl) (by kernel_rfl)
  ·cases hn;exact aIO h 2 9 368 rfl (by kernel_rfl) (by kernel_rfl) (by kernel_rfl) (by kernel_rfl) (by kernel_rfl)
  cases hn
 code:=fun a c=>Iff.rfl
end Go.Proofs.YtebodiamojfnnaaGreatDoor
end
section
namespace Go.Proofs.YtebodiamojfnnaaGreatDoor
open Go Go.ChangeMaps Go.ChangeShapes Go.WideShapes Go.ChangeAt Go.WideMaps Go.WideElems Go.RowKit Go.AM
theorem aLu{H:Type}{enc:BP×BE->H}{P:CU}{w:BL}{base:Nat}{spare:Nat->Bool}{held:Bool}{t1 t2 t3 t4:BP}{args:Array BE}{ds:List (IK H)}{ps:List JI} (h:OX enc P w base spare held [t1,t2,t3,t4] args.toList ds ps):∃v1 v2 v3 v4 d1 d2 d3 d4 p1 p2 p3 p4,args = #[v1,v2,v3,v4]/\ds=[d1,d2,d3,d4]/\ps=p1++(p2++(p3++p4)) /\ IE enc P w base spare held t1 v1 d1 p1/\IE enc P w base spare held t2 v2 d2 p2/\IE enc P w base spare held t3 v3 d3 p3 /\ IE enc P w base spare held t4 v4 d4 p4:=by obtain⟨v1,r1,d1,s1,p1,q1,e1,rfl,rfl,h1,h⟩:=trodAll_cons h;obtain⟨v2,r2,d2,s2,p2,q2,rfl,rfl,rfl,h2,h⟩:=trodAll_cons h;obtain⟨v3,r3,d3,s3,p3,q3,rfl,rfl,rfl,h3,h⟩:=trodAll_cons h;obtain⟨v4,r4,d4,s4,p4,q4,rfl,rfl,rfl,h4,h⟩:=trodAll_cons h;obtain⟨_,rfl,rfl⟩:=trodAll_nil h;exact⟨v1,v2,v3,v4,d1,d2,d3,d4,p1,p2,p3,p4,by cases args;simp_all,rfl,by simp,h1,h2,h3,h4⟩
theorem aMB{l:List Int}(hl:jP l){a h b:Int}(ha:eA a)(hb:eA b)(g:G)(w:BL)(xs:List BE)(hw:WF g [] w)(hg:bM Tryz.prog aBx g) (hx:fU g [.sl Qu (l.map bF),vi a,vi h,vi b] xs):Calls Tryz.prog 3 xs.toArray w fun e w'=>e=.returned (.bool Qt)/\∃g',Step g [] w g' [] w' []:=by
 obtain⟨k,pt⟩:=oM (aIN hl ha h hb []);obtain⟨_,hc⟩:=(sU bBh k).1 3 _ [] _ _ _ pt g w xs hw hg hx;refine hc.mono ?_;intro e w' he;cases e with
 |returned v=>obtain⟨g',h1,h2⟩:=he;cases h2;exact⟨rfl,g',h1⟩
 |_=>exact he.elim
theorem lifted(os:Os)(started:os.Started)(H:Type)(enc:BP×BE->H):ReturnsInHanded {} Tryz.checked os 3 .any (fun w args=>(Rows.sourceKnownSpec.pre enc Tryz.prog Tryz.f3 [] Qu w args/\laidMetH Tryz.prog aHt w)/\sizedMet enc Tryz.prog Tryz.f3 (OpenSpec.ofChange Rows.sourceKnownSpec) Qu w args) (Rows.sourceKnownSpec.post enc Tryz.prog Tryz.f3 Qu Qt Qu Qu):=by
 refine returnsInHanded_of_change_and (C:=Tryz.checked) (X:=fun w _=>laidMetH Tryz.prog aHt w) (fun _ _ _ hh h=>h.of_heap hh) own started (by kernel_rfl) Tryz.func3
  (Qc (enc:=enc) (C:=Tryz.checked) (os:=os) (X:=fun w _=>laidMetH Tryz.prog aHt w) Qu (aB7 os) #[.slice Qs 0 0,.int .i64 0,.int .i64 0,.int .i64 0] 8 (aLt _) (World.shaped_of_ZipB (by kernel_rfl) (by kernel_rfl)) (by kernel_rfl) (by kernel_rfl) (by kernel_rfl) (aSG os _)) ?_
 intro W base args ds gs before N3 hW _ _ hL _;have kp:∀(j:Nat) t v,Tryz.f3.params[j]? = Qr t->args[j]? = Qr v->LW Tryz.prog W .any base t v:=N3;have Df:=hW;obtain⟨p,q,Jt,hV,rfl,Kq,Ci⟩:=hW;have hA:OX enc Tryz.prog W 0 (fun _=>Qt) Qt Tryz.f3.params.toList args.toList ds p:=Jt;rw[Tryz.params3]at hA kp;obtain⟨v1,v3,v4,v5,d1,d3,d4,d5,p1,p3,p4,p5,rfl,rfl,rfl,h1,h3,h4,h5⟩:=aLu hA;obtain⟨rfl,rfl⟩:=trodVars_none hV;obtain⟨l,hl,r1,k1⟩:=aSF (C:=CK) Tryz.underlying22 Tryz.underlying3 (by kernel_rfl) (kp 0 22 v1 rfl rfl) h1;obtain⟨n3,rfl,rfl,rfl,w3⟩:=open_int Tryz.underlying3 (kp 1 3 v3 rfl rfl) h3;obtain⟨n4,rfl,rfl,rfl,w4⟩:=open_int Tryz.underlying3 (kp 2 3 v4 rfl rfl) h4;obtain⟨n5,rfl,rfl,rfl,w5⟩:=open_int Tryz.underlying3 (kp 3 3 v5 rfl rfl) h5;clear Jt N3;have hx:fU (G0 CK W) [.sl Qu (l.map bF),vi n3,vi n4,vi n5] [v1,.int .i64 n3,.int .i64 n4,.int .i64 n5]:=by
  refine⟨rfl,fun i c x hc hy=>?_⟩
  match i,hc,hy with
  |0,hc,hy=>cases hc;cases hy;exact r1
  |1,hc,hy=>cases hc;cases hy;exact .int _ _
  |2,hc,hy=>cases hc;cases hy;exact .int _ _
  |3,hc,hy=>cases hc;cases hy;exact .int _ _
 have b3:=MF w3;have b5:=MF w5;refine (aMB hl ⟨b3.1,b3.2⟩ ⟨b5.1,b5.2⟩ (G0 CK W) W _ (wf0 CK W) (aSK hL) hx).mono fun e W' ⟨he,g',bd⟩=>?_;subst he;refine⟨_,rfl,_,_,_,[],p1++([]++([]++[])),[],Df, ?_, ?_,rfl,aQR bd _,fun hh=>by cases hh⟩
 ·exact trodAll_mk1 (shut_bool Tryz.underlying4 _)
 have hold:∀b,b<W.heap.size->W'.heap[b]? = W.heap[b]? := fun b hb=>aLr bd hb;have hlt:∀q∈(p1++([]++([]++[])))++[],(fun b=>decide (b<W.heap.size)) q.block=true:=fun q hq=>by simpa using Df.lt q hq
 rw[Tryz.params3];refine⟨p1,[]++([]++([]++[])),k1 W' _ hold (fun q hq=>hlt q (by simp[hq])),⟨[],[]++([]++[]),shut_int Tryz.underlying3 w3,⟨[],[]++[],shut_int Tryz.underlying3 w4,⟨[],[],shut_int Tryz.underlying3 w5,rfl,rfl⟩,rfl⟩,rfl⟩,by simp⟩
end Go.Proofs.YtebodiamojfnnaaGreatDoor
end
