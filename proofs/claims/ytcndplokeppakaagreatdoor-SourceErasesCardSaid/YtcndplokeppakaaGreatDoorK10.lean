/- Part 10: lemmas for the last text. -/
import Derived.Test.YtcndplokeppakaaGreatDoorK03
import Derived.Test.YtcndplokeppakaaGreatDoorK07
import Derived.Test.YtcndplokeppakaaGreatDoorK09
set_option linter.unusedVariables false
set_option linter.unusedSimpArgs false
set_option maxHeartbeats 6400000
set_option maxRecDepth 100000
open Bool renaming true -> QS, false -> QT
open Go.IntKind renaming i64 -> AR
open Int renaming natCast_nonneg -> AU, toNat_natCast -> AT
open List renaming length_map -> AF, drop_zero -> AD, take_succ_cons -> AA, take_zero -> AE, getElem_mem -> AS, map_congr_left -> C5, flatMap_def -> Qg, length_cons -> AW, length_nil -> AZ, mem_append_left -> CZ, mem_append_right -> CX, map -> DR, length_append -> BA
open Nat renaming zero_add -> BC
open Option renaming some -> QQ, none -> N2
section
namespace Go.AM
open Go
abbrev bDk(g:SN):List ae:=[qm 17 0,qm 18 5,⟨QQ 19,oi 17 18 1,N2,[0,1]⟩,⟨QQ 20,ol 1 19,N2,[2,0,1]⟩,qm 21 1,qm 22 5,⟨QQ 23,oi 21 22 1,N2,[4,5]⟩,⟨QQ 24,ol 1 23,N2,[6,4,5]⟩,⟨QQ 25,ob .neq 20 24,N2,[3,2,0,1,7,6,4,5]⟩]
abbrev bCT:LN:=[]
abbrev bDl(g:SN):ag:=.seq (qS [qm 11 5,qm 12 0,qn 13 12,qb 14 .lss 11 13]<|qC 14 (.skip) (.exit 0))<|.seq (.block 1 (.seq (.region QS (bDk g))<|qC 25 (qS [qmc 4 (.bool QT)]<|.ret) (.skip)))<|.region QT [qm 15 5,qbi 16 .add 15 1,qm 5 16]
def bIw(g:SN):bw:=⟨26,[],[.tmp 4],qS [qmc 4 (.bool QT)]<|.seq (qS [qm 6 0,qn 7 6,qm 8 1,qn 9 8,qb 10 .neq 7 9]<|qC 10 (qS [qmc 4 (.bool QT)]<|.ret) (.skip))<|.seq (qS [qmc 5 z0]<|.block 0 (.loop (bDl g)))<|qS [qmc 4 (.bool QS)]<|.ret⟩
abbrev bIQ(g:SN):List ae:=[qm 17 0,qm 18 5,⟨QQ 19,oi 17 18 1,N2,[0,1]⟩,⟨QQ 20,ol 1 19,N2,[2,0,1]⟩,qm 21 1,qm 22 5,⟨QQ 23,oi 21 22 1,N2,[4,5]⟩,⟨QQ 24,ol 1 23,N2,[6,4,5]⟩,⟨QQ 25,oc (g "ab") [u 20,u 24],N2,[3,2,0,1,7,6,4,5]⟩,⟨QQ 26,.un .not (u 25),N2,[8,3,2,0,1,7,6,4,5]⟩]
abbrev bIG:LN:=[]
abbrev bIR(g:SN):ag:=.seq (qS [qm 11 5,qm 12 0,qn 13 12,qb 14 .lss 11 13]<|qC 14 (.skip) (.exit 0))<|.seq (.block 1 (.seq (.region QS (bIQ g))<|qC 26 (qS [qmc 4 (.bool QT)]<|.ret) (.skip)))<|.region QT [qm 15 5,qbi 16 .add 15 1,qm 5 16]
def bIx(g:SN):bw:=⟨27,[],[.tmp 4],qS [qmc 4 (.bool QT)]<|.seq (qS [qm 6 0,qn 7 6,qm 8 1,qn 9 8,qb 10 .neq 7 9]<|qC 10 (qS [qmc 4 (.bool QT)]<|.ret) (.skip))<|.seq (qS [qmc 5 z0]<|.block 0 (.loop (bIR g)))<|qS [qmc 4 (.bool QS)]<|.ret⟩
abbrev bIN(g:SN):List ae:=[qla 19 2 9,qla 20 2 9,qm 21 1,qm 22 2,qm 23 3,⟨QQ 24,oc (g "aI") [u 20,u 21,u 22,u 23],N2,[1,2,3,4]⟩,⟨QQ 25,.bsl 2 [(.str []),(.sl QT [])] 2 [(0,(.tmp 19)),(1,(.tmp 24))],N2,[0,5,1,2,3,4]⟩,⟨QQ 10,om 25,N2,[6,0,5,1,2,3,4]⟩]
abbrev bID:LN:=[0,5]
abbrev bIO(g:SN):List ae:=[qla 35 2 12,qm 36 10,qm 37 11,⟨QQ 38,oi 36 37 2,N2,[1,2]⟩,⟨QQ 39,ola 2 38,N2,[3,1,2]⟩,⟨QQ 40,oc (g "aL") [u 39],N2,[4,3,1,2]⟩,⟨QQ 41,oc (g "as") [u 35,u 40],N2,[0,5,4,3,1,2]⟩,⟨QQ 42,.un .not (u 41),N2,[6,0,5,4,3,1,2]⟩,⟨QQ 43,om 42,N2,[7,6,0,5,4,3,1,2]⟩,⟨QQ 44,ola 2 12,QQ (QQ 43,QT),[8,7,6,0,5,4,3,1,2]⟩,⟨QQ 45,oc (g "V") [u 44],QQ (QQ 43,QT),[9,8,7,6,0,5,4,3,1,2]⟩,⟨QQ 46,ola 2 12,QQ (QQ 43,QT),[8,7,6,0,5,4,3,1,2]⟩,⟨QQ 47,oc (g "as") [u 45,u 46],QQ (QQ 43,QT),[11,10,9,8,7,6,0,5,4,3,1,2]⟩,⟨QQ 48,.un .not (u 47),QQ (QQ 43,QT),[12,11,10,9,8,7,6,0,5,4,3,1,2]⟩,⟨QQ 49,.pick (u 43) uT (u 48),N2,[13,12,11,10,9,8,7,6,0,5,4,3,1,2]⟩]
abbrev bIE:LN:=[0,5,10,11]
abbrev bIP(g:SN):ag:=.seq (qS [qm 26 11,qbi 27 .lss 26 2]<|qC 27 (.skip) (.exit 0))<|.seq (.block 1 (qS [qm 30 10,qm 31 11,qi 32 30 31 2,qla 33 2 32,qc 34 (g "V") [u 33],qq 12 (.alloc [(.str []),(.sl QS [])]),qs 2 12 34]<|.seq (.seq (.region QS (bIO g))<|qC 49 (qS [qmc 8 (.bool QT)]<|.ret) (.skip))<|qS [qm 51 10,qm 52 11,qi 53 51 52 2,qla 54 2 53,qc 55 (g "y") [u 54],qm 50 55,qq 56 (.ext 0 (u 50)),qq 57 (.ext 1 (u 50)),qm 13 56,qm 14 57]<|qS [qla 59 2 12,qc 60 (g "y") [u 59],qm 58 60,qq 61 (.ext 0 (u 58)),qq 62 (.ext 1 (u 58)),qm 15 61,qm 16 62]<|.seq (qS [qm 63 14,qm 64 16,qb 65 .neq 63 64,qm 66 65,qF 67 66 (om 13),qF 68 66 (om 15),qF 69 66 (oc (g "aM") [u 67,u 68]),qF 70 66 (.un .not (u 69)),qq 71 (.pick (u 66) uT (u 70))]<|qC 71 (qS [qmc 8 (.bool QT)]<|.ret) (.skip))<|qS [qm 72 10,qm 73 11,qi 74 72 73 2,qla 75 2 74,qc 76 (g "w") [u 75],qn 77 76,qbi 78 .eql 77 0,qm 79 78,qT 80 79 (ola 2 12),qT 81 79 (oc (g "w") [u 80]),qT 82 79 (on 81),qT 83 79 (obi .gtr 82 0),qp 84 79 83]<|qC 84 (qS [qmc 8 (.bool QT)]<|.ret) (.skip)))<|.region QT [qm 28 11,qbi 29 .add 28 1,qm 11 29]
def bIy(g:SN):bw:=⟨92,[9,12],[.tmp 8],qS [qmc 8 (.bool QT)]<|qS [qm 17 0,qc 18 (g "aH") [u 17],qq 9 (.alloc [(.str []),(.sl QS [])]),qs 2 9 18]<|.seq (.region QS (bIN g))<|.seq (qS [qmc 11 z0]<|.block 0 (.loop (bIP g)))<|qS [qla 85 2 9,qc 86 (g "w") [u 85],qn 87 86,qbi 88 .eql 87 0,qm 89 88,qT 90 89 (oc (g "ca") []),qp 91 89 90,qm 8 91]<|.ret⟩
section
variable {A:af}{g:SN}{V:Item->Fact->Str×Int}{E:Int->Int->List Shape->Int}
theorem bK3(h:Has A g "ab" (bIw g))(r:List Str)(hl:r.length<=1000000)(H:LO):aG A (g "ab") [.sl QT (r.map aN),.sl QT (r.map aN)] H=QQ (.bool QS,H,[]):=by
 refine h.call ?_;simp only[bIw];simp only[go_sem,↓aB,seval,AF,bne_self_eq_false];refine bJ (id:=0) (fun i ρ1 H1 wr=>wr=[]/\H1=H/\ρ1 5=vi (i:Nat)) r.length (fun ρ1 H1 wr=>wr=[]/\H1=H) bIv rfl ⟨rfl,siT,rfl⟩ ?_ ?_
 ·rintro i ρ1 H1 dc mg ⟨rfl,rfl,e5⟩ hf;have f0:ρ1 0=.sl QT (r.map aN):=hf 0 rfl;have f1:ρ1 1=.sl QT (r.map aN):=hf 1 rfl;simp only[go_sem,↓aB,seval,e5,f0,AF];refine aD (fun hb=>?_) (fun hb=>?_)
  ·have hlt:i<r.length:=by simpa using hb
   have hg:(r.map aN)[i]? = QQ [.str r[i]]:=getElem?_map_of hlt;have V1:=wS (i:=i) omT;simp only[go_sem,seval];refine aY (aq:=bCT) rfT rfT ?_;simp only[go_sem,↓aB,seval,bCT,e5,f0,f1,hg,hlt,V1,bne_self_eq_false,AU,AT,AD,AA,AE]
  have:i=r.length:=by grind
  subst this;simp only[go_sem,seval]
 rintro ρ' H' ba ⟨rfl,rfl⟩ hf;simp only[go_sem,↓aB,seval]
theorem bK4(hT:Has A g "ab" (bIw g))(h:Has A g "aM" (bIx g))(R:List (List Str))(hl:R.length<=1000000)(hr:∀r∈R,r.length<=1000000)(H:LO):aG A (g "aM") [.sl QT (hU R),.sl QT (hU R)] H=QQ (.bool QS,H,[]):=by
 refine h.call ?_;simp only[bIx];have tl:(hU R).length=R.length:=by unfold hU;rw[AF]
 simp only[go_sem,↓aB,seval,tl,bne_self_eq_false];refine bJ (id:=0) (fun i ρ1 H1 wr=>wr=[]/\H1=H/\ρ1 5=vi (i:Nat)) R.length (fun ρ1 H1 wr=>wr=[]/\H1=H) bIv rfl ⟨rfl,siT,rfl⟩ ?_ ?_
 ·rintro i ρ1 H1 dc mg ⟨rfl,rfl,e5⟩ hf;have f0:ρ1 0=.sl QT (hU R):=hf 0 rfl;have f1:ρ1 1=.sl QT (hU R):=hf 1 rfl;simp only[go_sem,↓aB,seval,e5,f0,tl];refine aD (fun hb=>?_) (fun hb=>?_)
  ·have hlt:i<R.length:=by simpa using hb
   have hg:(hU R)[i]? = QQ [.sl QT (R[i].map aN)]:=by unfold hU;grind
   have V1:=wS (i:=i) omT;have hc:=fun H=>bK3 hT R[i] (hr _ (AS hlt)) H;generalize R[i]=r at *;simp only[go_sem,seval];refine aY (aq:=bIG) rfT rfT ?_;simp only[go_sem,↓aB,seval,bIG,e5,f0,f1,hg,hc,hlt,V1,AU,AT,AD,AA,AE]
  have:i=R.length:=by grind
  subst this;simp only[go_sem,seval]
 rintro ρ' H' ba ⟨rfl,rfl⟩ hf;simp only[go_sem,↓aB,seval]
theorem bJH(hV:bEN A g V)(hB:∀x y:Item,x.Ok->y.Ok->x.blocks=y.blocks->∀f,V x f=V y f)(h:Has A g "y" (tM g)){x:jm}(hx:x.Ok):∃(R:List (List Str)) (e:Int),R.length<=16/\(∀r∈R,r.length<=16)/\∀H,aG A (g "y") [dE x] H=QQ (.tup [.sl QT (hU R),vi e],H,[])/\aG A (g "y") [dE (bD5 x)] H=QQ (.tup [.sl QT (hU R),vi e],H,[]):=by
 have h1:=fun H=>bGN hV h x hx H;have h2:=fun H=>bGN hV h (bD5 x) (bIV hx) H;have key:∀{β:Type} (p:Str×Int->β),(x.items.map bDh).map (fun it=>it.facts.map fun f=>p (V it f))=x.items.map fun it=>it.facts.map fun f=>p (V it f):=fun p=>by
  rw[List.map_map];refine C5 fun it M5=>?_;show it.facts.map _=_;refine C5 fun f _=>?_;rw[hB (bDh it) it (bJ4 (hx.items it M5)) (hx.items it M5) rfl]
 have e1:bCF V (bD5 x)=bCF V x:=key Prod.fst;have e2:bIT V (bD5 x)=bIT V x:=by show bIK (bIB V (x.items.map bDh))=bIK (bIB V x.items);unfold bIB;rw[Qg,Qg,key Prod.snd]
 rw[e1,e2]at h2;by_cases z:bIT V x=0
 ·rw[Zy z]at h1 h2;refine⟨bCF V x,bIT V x,by unfold bCF;rw[AF];exact hx.G8,fun r hr=>?_,fun H=>⟨h1 H,h2 H⟩⟩;obtain⟨it,M5,rfl⟩:=List.mem_map.1 hr;rw[AF];exact (hx.items it M5).B1
 rw[Zx z]at h1 h2;exact⟨[],bIT V x,siT,siT,fun H=>⟨h1 H,h2 H⟩⟩
theorem bJw(x:jm):bD5 (bD5 x)=bD5 x:=by simp[bD5,bDh,bEe,Function.comp_def]
structure l5(A:af)(g:SN)(V:Item->Fact->Str×Int)(E:Int->Int->List Shape->Int):Prop where
 J3:∀{l:List Int},jP l->∀H,∃x:jm,aG A (g "aH") [.sl QT (l.map bF)] H=QQ (dE x,H,[])/\my x
 spoilt:∀{x:jm},my x->∀{at' how by':Int},eA at'->eA by'->∀H,∃y:jm,aG A (g "aI") [dE x,vi at',vi how,vi by'] H=QQ (dE y,H,[])/\rz y
 fig:∀s,bGI s->E 60 50 s=0
 same:pX A (g "as") dE jm.Ok
 erase:∀x:jm,x.Ok->∀H,aG A (g "V") [dE x] H=QQ (dE (bD5 x),H,[])
 wy:∀x:jm,x.Ok->∀H,aG A (g "aL") [dE x] H=QQ (dE (bD5 x),H,[])
 val:bEN A g V
 Wd:∀x y:Item,x.Ok->y.Ok->x.blocks=y.blocks->∀f,V x f=V y f
 facts:Has A g "y" (tM g)
 check:N1 A g E (fun x=>bDt x=QS) bJB
 Re:Has A g "ab" (bIw g)
 H5:Has A g "aM" (bIx g)
 law:Has A g "bp" (bIy g)
 wu:∀H,aG A (g "ca") [] H=QQ (.bool QS,H,[])
abbrev bKd(r:AV):Prop:=r=.own 4 []∨r=.sl QT []∨r=.ar
theorem bJx(S:l5 A g V E){x:jm}(hs:rz x)(H:LO):(∃r row rows,aG A (g "w") [dE x] H=QQ (r,H,[])/\(r=.own 4 (row::rows)∨r=.sl QT (row::rows))) ∨ ∃r,aG A (g "w") [dE x] H=QQ (r,H,[])/\bKd r/\∀H,∃r,aG A (g "w") [dE (bD5 x)] H=QQ (r,H,[])/\bKd r:=by
 obtain⟨r,rows,h1,h2,h3,_⟩:=bJ8 S.check hs.ok H;cases rows with
 |cons row rows=>grind
 |nil=>obtain⟨hB,hI⟩:=h3 rfl;refine .inr ⟨r,h1,h2.imp_right fun h=>h.imp_right fun h=>h.1,fun H=>?_⟩;obtain⟨r,rows,k1,k2,_,k4⟩:=bJ8 S.check (bIV hs.ok) H;rw[k4 (hs.short hB (bK1 hI)) (bK2 hB hI)]at k2;grind
theorem bJI(S:l5 A g V E){x:jm}(hx:my x)(H:LO):∃r,aG A (g "w") [dE x] H=QQ (r,H,[])/\bKd r:=by obtain⟨r,rows,k1,k2,_,k4⟩:=bJ8 S.check hx.ok H;rw[k4 hx.short (hx.none S.fig)]at k2;grind
theorem bJJ(S:l5 A g V E){l:List Int}(hl:jP l){at' how by':Int}(jk:eA at')(rh:eA by')(H:LO):aG A (g "bp") [.sl QT (l.map bF),vi at',vi how,vi by'] H=QQ (.bool QS,H,[]):=by
 refine S.law.call ?_;obtain⟨x,lz,hx⟩:=S.J3 hl (H++[.gone 0,.gone 0]);obtain⟨x',lq,hs⟩:=S.spoilt hx (how:=how) jk rh (H++[.box 1 (wO x),.gone 0]);have Wo:=fun H=>bJI S hx H;simp only[bIy];simp only[dE,wO]at lz lq Wo;simp only[go_sem,↓aB,seval,lz,AD,AE];refine aY (aq:=bID) rfT rfT ?_;simp only[go_sem,↓aB,seval,bID,lq,eH,dG,aL,AD,AA,AE];have re:∀y∈[x,x'],rz y:=fun y hy=>by
  rcases List.mem_cons.1 hy with rfl | hy
  ·exact hx.Wb
  grind
 have cn:[[AV.str x.title,AV.sl QT (x.items.map aO)],[AV.str x'.title,AV.sl QT (x'.items.map aO)]]=([x,x']:List jm).map wO:=rfl;rw[cn];generalize hX:([x,x']:List jm)=xs at *;have n9:xs.length=2:=by grind
 generalize Wt:ah.box 1 [AV.str x.title,AV.sl QT (x.items.map aO)]=o0;refine bJ (id:=0) (fun i ρ1 H1 wr=>wr=[]/\ρ1 11=vi (i:Nat)/\∃o1,H1=H++[o0,o1]) 2 (fun ρ1 H1 wr=>wr=[]/\∃o1,H1=H++[o0,o1]) bIv rfl ⟨rfl,rfl,_,rfl⟩ ?_ ?_
 ·rintro i ρ1 H1 dc mg ⟨rfl,e11,o1,rfl⟩ hf;have f10:ρ1 10=.sl QS (xs.map wO):=hf 10 rfl;simp only[go_sem,↓aB,seval,e11];refine aD (fun e3=>?_) (fun e3=>?_)
  ·have hlt:i<xs.length:=by grind
   have dy:=wS (i:=i) omT;have cj:=mgE wO hlt;have j9:=re _ (AS hlt);generalize xs[i]=y at *;have Sz:=bIV j9.ok;have Ez:=fun H=>S.erase y j9.ok H;have V7:=fun H=>S.wy y j9.ok H;have Wm:=fun H=>S.erase _ Sz H;rw[bJw]at Wm;have Fg:=fun H=>S.same (bD5 y) (bD5 y) H Sz;rw[show eqv (bD5 y) (bD5 y)=QS by simp[eqv]]at Fg;obtain⟨R,e,Ww,La,Wq⟩:=bJH S.val S.Wd S.facts j9.ok;have Jh:=fun H=>(Wq H).1;have cq:=fun H=>(Wq H).2;have Wu:=fun H=>bK4 S.Re S.H5 R omT (fun r hr=>by grind) H;have E8:=fun H=>bJx S j9 H;generalize bD5 y=a at *;simp only[dE]at Ez V7 Wm Fg Jh cq E8;generalize hU R=TR at *;have sw:i<2:=omT;simp only[go_sem,↓aB,seval,e11,f10,cj,wO,Ez,AU,AT,AD,List.drop_succ_cons,AA,AE];refine aY (aq:=bIE) rfT rfT ?_;simp only[go_sem,↓aB,seval,bIE,e11,f10,cj,wO,V7,Wm,Fg,eH,dG,aL,AU,AT,AD,AA,AE,Zz];simp only[go_sem,↓aB,seval,e11,f10,cj,wO,Jh,cq,Wu,bne_self_eq_false,AU,AT,AD,AA,AE,Zz];rcases E8 (H++[o0,.box (o1.ver+1) [.str a.title,.sl QT (a.items.map aO)]])with⟨r,row,rows,mj,nc⟩ | ⟨r,mj,nc,Z4⟩
   ·have hz:(((rows.length+1:Nat):Int)==0)=false:=soT;rcases nc with rfl | rfl
    all_goals
     simp only[go_sem,↓aB,seval,e11,mj,dy,hz,AW,Bool.false_beq];grind
   obtain⟨r',Z4,Cj⟩:=Z4 (H++[o0,.box (o1.ver+1) [.str a.title,.sl QT (a.items.map aO)]]);rcases nc with rfl | rfl | rfl<;>rcases Cj with rfl | rfl | rfl
   all_goals
    simp only[go_sem,↓aB,seval,e11,mj,Z4,dy,AZ,AD,AA,AE,Zz];exact⟨sw,_,rfl⟩
  have:i=2:=by grind
  subst this;simp only[go_sem,seval];grind
 rintro ρ' H' ba ⟨rfl,o1,rfl⟩ hf;have f9:ρ' 9=.ptr H.length 1 0:=hf 9 rfl;have E4:=S.wu (H++[o0,o1]);obtain⟨r,hc,hr⟩:=Wo (H++[o0,o1]);rw[<- Wt]at *;rcases hr with rfl | rfl | rfl
 all_goals
  simp only[go_sem,↓aB,seval,f9,hc,E4,AZ,AD,AA,AE,Zz]
end
theorem aSy{A:af}{g:SN}(h:Has A g "O" (rR g)){x y w hh:Int}(hx:0<=x/\x<=1000)(hy:0<=y/\y<=1000)(hw:0<=w/\w<=1000)(ft:0<=hh/\hh<=1000)(H:LO):aG A (g "O") [vi x,vi y,vi w,vi hh] H=QQ (.sl QT ([(x,y),(x+w,y),(x+w,y+hh),(x,y+hh)].map bL),H,[]):=by have h1:AR.wrap (x+w)=x+w:=wrap_i64 omT omT;have h2:AR.wrap (y+hh)=y+hh:=wrap_i64 omT omT;refine h.call ?_;simp only[rR];simp only[go_sem,seval,h1,h2,bL]
theorem aOz{A:af}{g:SN}(h:Has A g "au" (fD g))(ht:fR A g) (V6:∀{x y w hh:Int},(0<=x/\x<=1000)->(0<=y/\y<=1000)->(0<=w/\w<=1000)->(0<=hh/\hh<=1000)->∀H,aG A (g "O") [vi x,vi y,vi w,vi hh] H=QQ (.sl QT ((P4 x y w hh).map bL),H,[])):dI A (g "au") [] aNr:=by
 refine h.gen (by simp[fD]) (fun n=>bIv) ?_;intro l i o v H hl hlt ho;have bl:∀k,(H.length+k==o)=false:=fun k=>by simp;omega
 simp only[fD];simp only[go_sem,seval];refine aY (aq:=kW) rfT rfT ?_;simp only[go_sem,seval,kW];refine eB (bA ht (m:=4) deT) hl (i:=i) (by simp only[go_sem,seval,eK,hlt,ho]) ?_;rintro val i1 ⟨x1,rfl,jr,lz⟩;have w1:AR.wrap (24+x1)=24+x1:=wrap_i64 omT omT;simp only[go_sem,seval,hlt,fN,w1];refine eB (bA ht (m:=9) deT) hl (i:=i1) (by simp only[go_sem,seval,aP,hlt]) ?_;rintro val i2 ⟨x2,rfl,C9,Jj⟩;have w2:AR.wrap (30+x2)=30+x2:=wrap_i64 omT omT;have fo:=fun H=>V6 (x:=2) (y:=2) (w:=24+x1) (hh:=30+x2) deT deT omT omT H;simp only[go_sem,seval,hlt,aR,w2,fo,bP,eH,dG,bl,aL];refine bB (bA ht (m:=3) deT) hl (i:=i2) (by simp only[go_sem,seval,aP,hlt]) ?_;rintro val i3 ⟨x3,rfl,Pd,Pe⟩;simp only[go_sem,seval,hlt,aR];have s1:Shape.mk 2 (P4 2 2 (24+x1) (30+x2))∈bE7:=CZ _ (bEo (f:=fun x y=>⟨2,P4 2 2 (24+x) (30+y)⟩) jr lz C9 Jj);have S1:bHs [Shape.mk 2 (P4 2 2 (24+x1) (30+x2))]:=⟨fun a ha=>by rw[List.mem_singleton.1 ha];exact s1,_,_,rfl,rfl⟩;refine xX (W:=[23,24,25,26,27,28,29,30,31,32,33,34,35,36]) (fun _ H1 wr=>wr=[o]/\∃i' o5,∃S:List Shape,1<=S.length/\S.length<=2/\bHs S /\
  H1=H.set o (.box v (aM l i'))++[.gone 0,.gone 0,.box 1 [vi 0,vi 0,.sl QS []],.box 1 [vi 60,vi 50,.sr (H.length+4) 1 S.length],.vec 1 2 (S.map aH),o5,.gone 0,.gone 0,.gone 0]) rfT (fun hb=>?_) (fun hb=>?_) ?_
 ·refine aY (aq:=kX) rfT rfT ?_;simp only[go_sem,seval,kX];refine eB (bA ht (m:=5) deT) hl (i:=i3) (by simp only[go_sem,seval,aP,hlt]) ?_;rintro val i4 ⟨x4,rfl,Pf,Pg⟩;have w4:AR.wrap (10+x4)=10+x4:=wrap_i64 omT omT;simp only[go_sem,seval,hlt,aR,w4];refine eB (bA ht (m:=8) deT) hl (i:=i4) (by simp only[go_sem,seval,aP,hlt]) ?_;rintro val i5 ⟨x5,rfl,Ph,Pj⟩;have w5:AR.wrap (12+x5)=12+x5:=wrap_i64 omT omT;simp only[go_sem,seval,hlt,aR,w5,bP,eH,dG,bl,aL];exact⟨i5,_,[Shape.mk 2 (P4 2 2 (24+x1) (30+x2)),Shape.mk 0 [(10+x4,12+x5)]],siT,siT,S1.app (CX _ (CZ _ (bEo (f:=fun x y=>⟨0,[(10+x,12+y)]⟩) Pf Pg Ph Pj))),rfl⟩
 ·simp only[go_sem,seval];exact⟨i3,_,[Shape.mk 2 (P4 2 2 (24+x1) (30+x2))],siT,siT,S1,rfl⟩
 rintro ρ2 H2 en ⟨rfl,i6,o5,S,Pk,Pl,Jk,rfl⟩ cq;have g0:ρ2 0=.ptr o v 0:=by rw[cq 0 rfl];simp only[go_sem,seval]
 have g2:ρ2 2=.ptr (H.length+2) 1 0:=by rw[cq 2 rfl];simp only[go_sem,seval]
 have g3:ρ2 3=.ptr (H.length+3) 1 0:=by rw[cq 3 rfl];simp only[go_sem,seval]
 have g94:ρ2 94=.undef:=by rw[cq 94 rfl];simp only[go_sem,seval]
 simp only[go_sem,seval,g0];refine bB (bA ht (m:=4) deT) hl (i:=i6) (by simp only[go_sem,seval,aP,hlt]) ?_;rintro val i7 ⟨x6,rfl,Mw,Mx⟩;have w6:AR.wrap (36+x6)=36+x6:=wrap_i64 omT omT;simp only[go_sem,seval,hlt,aR,w6];refine bB (bA ht (m:=2) deT) hl (i:=i7) (by simp only[go_sem,seval,aP,hlt]) ?_;rintro val i8 ⟨x7,rfl,My,Mz⟩;simp only[go_sem,seval,hlt,aR];have vg:∀(a:Shape) (S:List Shape),S.map aH++[[vi a.kind,.sl QT (a.points.map bL)]]=(S++[a]).map aH:=fun a S=>by simp[aH]
 refine xX (W:=[43,44,45,46,47,48,49,50,51,52,53,54,55,56,57,58,59,60,61,62,63,64,65,66,67,68,69,70]) (fun _ H1 wr=>wr=[o]/\∃i' o5 o6 o7,∃S:List Shape,2<=S.length/\S.length<=3/\bHs S /\
  H1=H.set o (.box v (aM l i'))++[.gone 0,.gone 0,.box 1 [vi 0,vi 0,.sl QS []],.box 1 [vi 60,vi 50,.sr (H.length+4) 1 S.length],.vec 1 2 (S.map aH),o5,o6,o7,.gone 0]) rfT (fun hb=>?_) (fun hb=>?_) ?_
 ·refine aY (aq:=kY) rfT rfT ?_;have w7:AR.wrap (36+x6+8)=36+x6+8:=wrap_i64 omT omT;simp only[go_sem,seval,kY,g0,g3,w7];refine eB (bA ht (m:=6) deT) hl (i:=i8) (by simp only[go_sem,seval,aP,hlt]) ?_;rintro val i9 ⟨x8,rfl,Hd,He⟩;have w8:AR.wrap (10+x8)=10+x8:=wrap_i64 omT omT;have hr:bP (S.length+1) 32=true:=by unfold bP;simp;omega
  have N0:=vg ⟨1,[(36+x6,4),(36+x6+8,10+x8),(36+x6,30)]⟩ S;simp only[DR,bL]at N0;simp only[go_sem,seval,hlt,aR,w8,hr,N0,eH,dG,bl,aL];exact⟨i9,_,_,_,S++[⟨1,[(36+x6,4),(36+x6+8,10+x8),(36+x6,30)]⟩],soT,soT,Jk.app (CX _ (CX _ (CZ _ (bEo (f:=fun x y=>⟨1,[(36+x,4),(36+x+8,10+y),(36+x,30)]⟩) Mw Mx Hd He)))),by simp only[BA,AW,AZ,BC];rfl⟩
 ·refine aY (aq:=kZ) rfT rfT ?_;simp only[go_sem,seval,kZ,g0,g3];refine eB (bA ht (m:=12) deT) hl (i:=i8) (by simp only[go_sem,seval,aP,hlt]) ?_;rintro val i9 ⟨x8,rfl,Hd,He⟩;have w8:AR.wrap (12+x8)=12+x8:=wrap_i64 omT omT;have hr:bP (S.length+1) 32=true:=by unfold bP;simp;omega
  have dp:=fun H=>V6 (x:=36+x6) (y:=5) (w:=10) (hh:=12+x8) omT deT deT omT H;have N0:=vg ⟨2,P4 (36+x6) 5 10 (12+x8)⟩ S;simp only[DR]at N0 dp;simp only[go_sem,seval,hlt,aR,w8,dp,hr,N0,eH,dG,bl,aL];exact⟨i9,_,_,_,S++[⟨2,P4 (36+x6) 5 10 (12+x8)⟩],soT,soT,Jk.app (CX _ (CX _ (CX _ (CZ _ (bEo (f:=fun x y=>⟨2,P4 (36+x) 5 10 (12+y)⟩) Mw Mx Hd He))))),by simp only[BA,AW,AZ,BC];rfl⟩
 rintro ρ3 H3 wr3 ⟨rfl,i9,o5',o6,o7,T,Na,Pm,Jl,rfl⟩ im;have e0:ρ3 0=.ptr o v 0:=by rw[im 0 rfl];simp only[go_sem,seval,g0]
 have e2:ρ3 2=.ptr (H.length+2) 1 0:=by rw[im 2 rfl];simp only[go_sem,seval,g2]
 have e3:ρ3 3=.ptr (H.length+3) 1 0:=by rw[im 3 rfl];simp only[go_sem,seval,g3]
 have e94:ρ3 94=.undef:=by rw[im 94 rfl];simp only[go_sem,seval,g94]
 clear cq im;simp only[go_sem,seval,e0];refine bB (bA ht (m:=3) deT) hl (i:=i9) (by simp only[go_sem,seval,aP,hlt]) ?_;rintro val i10 ⟨x9,rfl,Nb,Nc⟩;simp only[go_sem,seval,hlt,aR];refine aD (fun hb=>?_) (fun hb=>?_)
 ·simp only[go_sem,seval];refine aY (aq:=lA) rfT rfT ?_;simp only[go_sem,seval,lA,e0,e3];refine eB (bA ht (m:=20) deT) hl (i:=i10) (by simp only[go_sem,seval,aP,hlt]) ?_;rintro val i11 ⟨x10,rfl,Nd,Nf⟩;have w10:AR.wrap (36+x10)=36+x10:=wrap_i64 omT omT;have hr:bP (T.length+1) 32=true:=by unfold bP;simp;omega
  simp only[go_sem,seval,e3,hlt,aR,w10,hr,eH,dG,bl,aL];have w11:AR.wrap (((T.length+1:Nat):Int) - 1)=(T.length:Int):=by rw[wrap_i64 omT omT];omega
  have l8:(T.map aH++[[AV.int AR 1,AV.sr H.length 1 2]])[T.length]? = QQ [AV.int AR 1,AV.sr H.length 1 2]:=siT;rw[w11];refine aY (aq:=lB) rfT rfT ?_;have w12:AR.wrap (36+x10+3)=36+x10+3:=wrap_i64 omT omT;have lg:∀x y,(T.map aH++[x]).set T.length y=T.map aH++[y]:=fun x y=>by simp
  have N0:=vg ⟨1,[(36,44),(36+x10+3,44)]⟩ T;simp only[DR,bL]at N0;have ax:(T++[Shape.mk 1 [(36,44),(36+x10+3,44)]]).length=T.length+1:=siT;simp only[go_sem,seval,lB,e2,e3,l8,AT,w12,lg,N0,hlt,ax,AF,aT (aC bW (T++[Shape.mk 1 [(36,44),(36+x10+3,44)]])),aW,aA (aC bW _),aA (aC aU _)];exact⟨⟨i11,rfl⟩,T++[Shape.mk 1 [(36,44),(36+x10+3,44)]],rfl,soT,Jl.app (CX _ (CX _ (CX _ (CX _ (bEo (y:=0) (f:=fun x y=>⟨1,[(36,44),(36+x+3,44)]⟩) Nd Nf deT deT)))))⟩
 simp only[go_sem,seval,e3,e94,e2,hlt,aT (aC bW T),aW,aA (aC bW _),aA (aC aU _)];exact⟨⟨i10,rfl⟩,T,rfl,⟨Na,omT⟩,Jl⟩
structure Qw(A:af)(g:SN):Prop where
 J3:Has A g "aH" (pM g)
 bu:Has A g "c" (nP g)
 J6:Has A g "I" (mV g)
 take:Has A g "a" (kC g)
 block:Has A g "W" (fT g)
 fact:Has A g "L" (gF g)
 has:Has A g "B" (rI g)
 jd:Has A g "X" (eT g)
 at':Has A g "aF" (oQ g)
 runs:Has A g "M" (gB g)
 expr:Has A g "at" (gE g)
 sum:Has A g "ay" (gQ g)
 cd:Has A g "av" (gC g)
 ye:Has A g "au" (fD g)
 yb:Has A g "ax" (fE g)
 lines:Has A g "aw" (fS g)
 phrase:Has A g "i" (fC g)
 term:Has A g "n" (gD g)
 box:Has A g "O" (rR g)
 arity:Has A g "aG" (oI g)
 spoilt:Has A g "aI" (nQ g)
 J4:Has A g "aJ" (jJ g)
 J5:Has A g "aK" (gK g)
structure wz(A:af)(g:SN):Prop where
 Rw:Qw A g
 law:Has A g "bp" (bIy g)
 same:wx A g
 erase:Has A g "V" (bDw g)
 wy:Has A g "aL" (bIH g)
 Rx:ke A (g "bq") 7 128
 Ry:ke A (g "cb") 4 88
 Qu:Has A g "y" (tM g)
 blk:iw A g
 Cc:Has A g "be" (aCG g)
 U4:Has A g "bg" (aAY g)
 j7:Has A g "bf" (rK g)
 Hn:Has A g "T" (oR g)
 Cd:aAA A (g "bl") 4 QS
 add:Has A g "f" (iJ g)
 U5:Has A g "w" (aB4 g)
 Re:Has A g "ab" (bIw g)
 H5:Has A g "aM" (bIx g)
 itoa:aJc A g
 atoi:aJG A g
 del:aAZ A g
 wu:∀H,aG A (g "ca") [] H=QQ (.bool QS,H,[])
section
variable {A:af}{g:SN}{E:Int->Int->List Shape->Int}{P:Block->Fact->Bool}{tB tP:Nat}
theorem aQG(hp:A.bq (g "g")=QQ sC):aJc A g:=by
 intro n H hn;refine dT ?_;rw[hp];rw[Option.bind_some];have h:(0:Int)<=n/\(n:Int)<1000000:=⟨omT,omT⟩;have e7:nC 7 n=dec n:=aJJ 6 n (by have:(10:Nat) ^ (6+1)=10000000:=deT;omega);have e:sC [vi n] H=if (0:Int)<=n/\(n:Int)<1000000 then QQ (.str (nC 7 (n:Int).toNat),[],[])else if (n:Int)<0 /\ -1000000<(n:Int)then QQ (.str (45::nC 7 (-(n:Int)).toNat),[],[])else none:=by unfold sC;rfl
 rw[e,Zy h,AT,e7]
theorem aQH{te:Nat}(hp:A.bq (g "bY")=QQ (aHz te)):aJG A g:=by
 intro s H hs;have h:∀n e,(∀H,aHz te [.str s] H=QQ (.tup [vi n,e],[],[]))->aG A (g "bY") [.str s] H=QQ (.tup [vi n,e],H,[]):=fun n e h=>by
  refine dT ?_;rw[hp];exact h H
 cases ha:Lib.atoiAll s with
 |ok v=>exact⟨v,.bj,h _ _ fun H=>by unfold aHz;simp only[Zy hs,ha],.inl ⟨by unfold bJk;rw[ha],rfl⟩⟩
 |range=>exact⟨Lib.atoiSat s,.ifc te .undef,h _ _ fun H=>by unfold aHz;simp only[Zy hs,ha],.inr ⟨by unfold bJk;rw[ha],_,_,rfl⟩⟩
 |_=>exact⟨0,.ifc te .undef,h _ _ fun H=>by unfold aHz;simp only[Zy hs,ha],.inr ⟨by unfold bJk;rw[ha],_,_,rfl⟩⟩
theorem aSC(hp:A.bq (g "cV")=QQ (aWl (g "bd"))):aAZ A g:=by
 intro a b c e H o v ho;have h:aWl (g "bd") [.sr o v 1,.fn (g "bd") [] []] H=QQ (if e=0 then (.sl QT [],[(o,.gone v)],[])else (.sr o v 1,[],[])):=by unfold aWl;simp only[ho];rw[Zy ⟨trivial,trivial,trivial⟩];split<;>rfl
 refine (yN (by rw[hp];exact h)).trans ?_;split
 ·simp[cT,eU]
 simp[cT,eU]
theorem bIi(F:Qw A g):Gens A g:=by
 have ha:=yX F.bu;have ht:=aQi F.take F.at' ha;have hp:=aOq F.phrase ht;have hr:=aSp F.runs ht hp;have Db:=fun op H=>aOv F.arity op H;have qt:=fun d hd=>aNp F.term ht Db d hd;have V6:∀{x y w hh:Int},(0<=x/\x<=1000)->(0<=y/\y<=1000)->(0<=w/\w<=1000)->(0<=hh/\hh<=1000)->∀H,aG A (g "O") [vi x,vi y,vi w,vi hh] H=QQ (.sl QT ((P4 x y w hh).map bL),H,[]):=
  fun h1 h2 h3 h4 H=>aSy F.box h1 h2 h3 h4 H
 exact⟨ht,fun h0 h1=>aQy F.block hr (aSx F.expr ht qt) (aVx F.sum ht) (aSv F.cd ht hp) (aOz F.ye ht V6) (aOx F.yb ht) (aQp F.lines ht) h0 h1,
  fun hb _ h0 h1=>aSz F.fact ht hb h0 h1,fun l hl f H=>aSq F.has l hl f H,fun hm=>aLg F.jd ht hp hr (aLd F.J6) hm⟩
theorem bBn(F:wz A g)(G:Qb A g E P tB tP):N1 A g E (fun x=>bDt x=QS) bJB where
 valid:=fun {x} hx H=>by
  obtain⟨e,h1,h2,h3,h4⟩:=aTh G.hold.valid x hx H;refine⟨e,h1,fun h=>?_,fun⟨hB,M,k1,k2⟩=>h4 hB M k1 k2⟩;cases hB:bDt x with
  |true=>rfl
  |false=>rw[h2 hB]at h;cases h
 items:=fun h=>bIY h
 same:=fun x l hl _ _ _ ho=>bKc F.Cd F.Hn x l hl ho
 block:=fun b hb hB H=>bJQ F.blk G.fig G.text.form b hb hB H
 fact:=fun it hi j f hf h H=>bJZ G.hold F.Cc it hi j f hf h H
 jd:=fun it hi q hq H=>bJe (fun q hq H=>bJR F.atoi F.itoa F.U4 q hq H) F.j7 it hi q hq H
 del:=F.del
 add:=F.add
 check:=F.U5
theorem bJy(F:wz A g)(G:Qb A g E P tB tP)(hE:∀s,bGI s->E 60 50 s=0){l:List Int}(hl:jP l){at' how by':Int}(jk:eA at')(rh:eA by')(H:LO):aG A (g "bp") [.sl QT (l.map bF),vi at',vi how,vi by'] H=QQ (.bool QS,H,[]):=by
 obtain⟨V,hV,hB⟩:=bJG G;have ha:=yX F.Rw.bu;exact bJJ (V:=V) (E:=E) {
  J3:=fun hl H=>by
   obtain⟨v,H',wr,h1,rfl,rfl,x,rfl,hx⟩:=aQB F.Rw.J3 (bIi F.Rw) hl H;exact⟨x,h1,hx⟩
  spoilt:=fun hx _ _ _ h1 h2 H=>by
   obtain⟨v,H',wr,h3,rfl,rfl,x',rfl,Qy⟩:=aMq F.Rw.spoilt ha (fun h1 h2 _ _ h3 H=>aLl F.Rw.J4 ha h1 h2 h3 H) (fun h1 h2 _ _ h3 H=>aLk F.Rw.J5 ha h1 h2 h3 H) hx h1 h2 H;exact⟨x',h3,Qy⟩
  fig:=hE
  same:=bJN F.same
  erase:=fun x hx H=>bFT F.erase F.Rx F.Ry x hx H
  wy:=fun x hx H=>bJh F.wy x hx H
  val:=hV
  Wd:=hB
  facts:=F.Qu
  check:=bBn F G
  Re:=F.Re
  H5:=F.H5
  law:=F.law
  wu:=F.wu } hl jk rh H
end
def aYp:List (String×Nat)->SN
 | [],_=>100000
 | (a,n)::r,s=>if a=s then n else aYp r s
def bBo:List (String×Nat):=[("a",13),
 ("b",236),
 ("c",18),
 ("d",103),
 ("e",112),
 ("dG",226),
 ("g",86),
 ("f",35),
 ("h",150),
 ("i",49),
 ("j",218),
 ("n",92),
 ("o",116),
 ("dH",229),
 ("I",50),
 ("p",68),
 ("k",78),
 ("q",245),
 ("r",244),
 ("y",9),
 ("s",91),
 ("t",114),
 ("u",211),
 ("v",177),
 ("z",32),
 ("w",11),
 ("x",407),
 ("A",113),
 ("B",16),
 ("C",98),
 ("D",99),
 ("E",100),
 ("l",135),
 ("m",131),
 ("V",6),
 ("J",30),
 ("K",63),
 ("F",183),
 ("G",417),
 ("H",82),
 ("L",15),
 ("M",42),
 ("N",118),
 ("dI",281),
 ("O",93),
 ("P",128),
 ("Q",246),
 ("R",69),
 ("S",196),
 ("T",34),
 ("bq",22),
 ("U",316),
 ("W",14),
 ("X",17),
 ("Y",119),
 ("Z",207),
 ("aa",397),
 ("ab",31),
 ("ac",179),
 ("ad",175),
 ("ae",180),
 ("af",176),
 ("as",7),
 ("ag",195),
 ("ah",184),
 ("ai",204),
 ("aj",250),
 ("ak",261),
 ("al",102),
 ("am",57),
 ("an",258),
 ("ao",212),
 ("ap",81),
 ("aq",60),
 ("ar",206),
 ("at",43),
 ("au",46),
 ("av",45),
 ("aw",48),
 ("ax",47),
 ("ay",44),
 ("az",117),
 ("aA",208),
 ("aB",205),
 ("aC",307),
 ("aD",271),
 ("aE",270),
 ("aF",41),
 ("aG",151),
 ("aH",4),
 ("aI",5),
 ("aJ",19),
 ("aK",20),
 ("aL",8),
 ("aM",10),
 ("aN",122),
 ("aO",121),
 ("aP",76),
 ("aQ",123),
 ("aR",213),
 ("aS",178),
 ("aT",101),
 ("aU",209),
 ("aV",189),
 ("aW",109),
 ("aX",267),
 ("aY",111),
 ("aZ",188),
 ("ba",198),
 ("bb",251),
 ("bc",95),
 ("bd",75),
 ("be",37),
 ("bf",38),
 ("bg",83),
 ("bh",411),
 ("bi",418),
 ("bj",342),
 ("bk",274),
 ("cb",21),
 ("bl",33),
 ("bm",133),
 ("bn",143),
 ("bo",252),
 ("br",210),
 ("bs",306),
 ("bt",80),
 ("bp",3),
 ("dJ",228),
 ("bu",136),
 ("bv",138),
 ("bw",139),
 ("bx",140),
 ("by",221),
 ("bz",129),
 ("bA",130),
 ("bB",132),
 ("bC",134),
 ("bD",64),
 ("bE",96),
 ("bF",67),
 ("bG",125),
 ("bH",107),
 ("bI",192),
 ("bJ",194),
 ("bK",71),
 ("bL",263),
 ("bM",265),
 ("bN",105),
 ("bO",187),
 ("bP",26),
 ("bQ",72),
 ("bR",36),
 ("bS",318),
 ("bT",323),
 ("bU",217),
 ("bV",190),
 ("bW",94),
 ("cc",56),
 ("bX",288),
 ("bY",144),
 ("bZ",235),
 ("cd",115),
 ("ce",149),
 ("cf",305),
 ("ca",12),
 ("dK",230),
 ("cg",157),
 ("ch",79),
 ("ci",222),
 ("cj",141),
 ("ck",126),
 ("cl",66),
 ("cm",65),
 ("cn",152),
 ("co",171),
 ("cp",156),
 ("cq",159),
 ("cr",163),
 ("cs",167),
 ("ct",164),
 ("cu",172),
 ("cv",168),
 ("cw",97),
 ("cx",153),
 ("cy",160),
 ("cz",77),
 ("cA",24),
 ("cB",193),
 ("cC",260),
 ("cD",249),
 ("cE",191),
 ("cF",199),
 ("cG",51),
 ("cH",53),
 ("cI",29),
 ("cJ",415),
 ("cK",409),
 ("cL",406),
 ("cM",408),
 ("cN",410),
 ("cO",412),
 ("cP",413),
 ("cQ",414),
 ("cR",416),
 ("cS",294),
 ("cT",142),
 ("cU",137),
 ("cV",74),
 ("cW",55),
 ("cX",58),
 ("cY",239),
 ("cZ",287),
 ("dL",231),
 ("dM",232),
 ("dN",227),
 ("da",158),
 ("db",173),
 ("dc",154),
 ("dd",161),
 ("de",165),
 ("df",169),
 ("dg",262),
 ("dh",264),
 ("di",106),
 ("dj",108),
 ("dk",70),
 ("dl",266),
 ("dm",110),
 ("dn",197),
 ("do",324),
 ("dp",220),
 ("dq",127),
 ("dr",124),
 ("ds",62),
 ("dt",54),
 ("du",59),
 ("dv",25),
 ("dw",23),
 ("dx",28),
 ("dy",61),
 ("dz",27),
 ("dA",52),
 ("dB",325),
 ("dC",326),
 ("dD",334),
 ("dE",333),
 ("dF",317)]
def gZ(s:String):Nat:=aYp bBo s
theorem bEJ{A:af}{f:Nat}(args:LA)(hp:A.bq f=QQ Go.Proofs.Sa.Qa)(H:LO):(A.bq f).bind (· args H)=match args with | [.sl _ []]=>QQ (.sl QT [],[],[]) | _=>none:=by rw[hp];rfl
theorem aMw:HasSameB AM0 gZ:=by constructor<;>exact⟨bIv,bIv⟩
theorem bJK:wx AM0 gZ:=by refine' {toHasSameB:=aMw,..}<;>exact⟨bIv,bIv⟩
theorem aQO:si AM0 gZ:=by refine' {Aj:=⟨⟨142,223,302,⟨bIv,bIv⟩,⟨bIv,bIv⟩,⟨bIv,bIv⟩,⟨bIv,bIv⟩⟩⟩,sj:=⟨⟨137,219,303,⟨bIv,bIv⟩,⟨bIv,bIv⟩,⟨bIv,bIv⟩,⟨bIv,bIv⟩⟩⟩,Ak:=⟨⟨220,275,304,⟨bIv,bIv⟩,⟨bIv,bIv⟩,⟨bIv,bIv⟩,⟨bIv,bIv⟩⟩⟩,..}<;>exact⟨bIv,bIv⟩
theorem aMx:kb AM0 gZ:=by refine' {mel:=aQO,same:=aMw,sj:=⟨⟨181,247,182,⟨bIv,bIv⟩,⟨bIv,bIv⟩,⟨bIv,bIv⟩,⟨bIv,bIv⟩⟩⟩,Q8:=⟨⟨298,328,299,⟨bIv,bIv⟩,⟨bIv,bIv⟩,⟨bIv,bIv⟩,⟨bIv,bIv⟩⟩⟩,allI:=⟨⟨124,214,253,⟨bIv,bIv⟩,⟨bIv,bIv⟩,⟨bIv,bIv⟩,⟨bIv,bIv⟩⟩⟩,Am:=⟨⟨254,300,255,⟨bIv,bIv⟩,⟨bIv,bIv⟩,⟨bIv,bIv⟩,⟨bIv,bIv⟩⟩⟩,An:=⟨⟨256,87,257,⟨bIv,bIv⟩,⟨bIv,bIv⟩,⟨bIv,bIv⟩,⟨bIv,bIv⟩⟩⟩,Ao:=⟨⟨127,215,259,⟨bIv,bIv⟩,⟨bIv,bIv⟩,⟨bIv,bIv⟩,⟨bIv,bIv⟩⟩⟩,Ap:=⟨⟨133,216,301,⟨bIv,bIv⟩,⟨bIv,bIv⟩,⟨bIv,bIv⟩,⟨bIv,bIv⟩⟩⟩,..}<;>exact⟨bIv,bIv⟩
theorem aQQ:iw AM0 gZ:=by refine' {cI:=⟨214,⟨bIv,bIv⟩,⟨bIv,bIv⟩⟩,cN:=⟨275,⟨bIv,bIv⟩,⟨bIv,bIv⟩⟩,cB:=⟨219,⟨bIv,bIv⟩,⟨bIv,bIv⟩⟩,cH:=⟨223,⟨bIv,bIv⟩,⟨bIv,bIv⟩⟩,..}<;>exact⟨bIv,bIv⟩
theorem bJY:Qw AM0 gZ:=by constructor<;>exact⟨bIv,bIv⟩
theorem bJz:wz AM0 gZ:=by refine' {Rw:=bJY,same:=bJK,Rx:=bEB (zs:=[z0,(.sl QT []),(.sl QT []),(.sl QT []),(.str []),z0,(.sl QT [])]) bIv fun args H=>bEJ args bIv H,Ry:=bEB (zs:=[(.str []),(.sl QT []),(.sl QT []),(.sl QT [])]) bIv fun args H=>bEJ args bIv H,blk:=aQQ,Cd:=⟨73,⟨bIv,bIv⟩,⟨bIv,bIv⟩⟩,itoa:=aQG bIv,atoi:=aQH (te:=341) bIv,del:=aSC bIv,wu:=fun H=>(by rw[show gZ "ca" = 12 by kernel_rfl];exact dT rfl),..}<;>exact⟨bIv,bIv⟩
theorem aLp:mh AM0 gZ:=by refine' {load:=by kernel_rfl,..}<;>exact⟨bIv,bIv⟩
theorem aQI:OutFns AM0 gZ 187 189:=by refine' {cc:=by kernel_rfl,itoa:=by kernel_rfl,..}<;>exact⟨bIv,bIv⟩
theorem aOC:TextFns AM0 gZ 187 189:=by refine' {toOutFns:=aQI,rep:=aLp,num:=by kernel_rfl,cnt:=by kernel_rfl,..}<;>exact⟨bIv,bIv⟩
theorem aMt:BlockPrt AM0 gZ 187 189:=by refine' {toTextFns:=aOC,..}<;>exact⟨bIv,bIv⟩
theorem aQJ:uw AM0 gZ 187 where
 toBlockPrt:=aMt
 source:=⟨bIv,bIv⟩
 str:=bIv
theorem aQK:RepAll AM0 gZ 187 189:=by refine' {cc:=by kernel_rfl,str:=by kernel_rfl,grow:=by kernel_rfl,cnt:=by kernel_rfl,ix1:=by kernel_rfl,..}<;>exact⟨bIv,bIv⟩
theorem aQL:WrtFns AM0 gZ 187 189:=by refine' {toRepAll:=aQK,join:=by kernel_rfl,itoa:=by kernel_rfl,..}<;>exact⟨bIv,bIv⟩
theorem aQM:MelFns AM0 gZ 187 189:=by refine' {toWrtFns:=aQL,..}<;>exact⟨bIv,bIv⟩
theorem aOD:rj AM0 gZ 187 189:=by refine' {toMelFns:=aQM,rpl:=aLp,num:=by kernel_rfl,..}<;>exact⟨bIv,bIv⟩
theorem bGW:sn AK where
 fn:=bIv
 bq:=bIv
theorem bFg:PlaneFns AK gZ:=by refine' {yf:=bGW,..}<;>exact⟨bIv,bIv⟩
theorem bEK:Rp AK gZ:=by refine' {toPlaneFns:=bFg,..}<;>exact⟨bIv,bIv⟩
theorem bDB:ij AMs gZ (shV AK (gZ "m")) (shV AK (gZ "l")):=by refine' {shaped:=(bF3 bEK bIv bIv).1,simple:=(bF3 bEK bIv bIv).2,Bb:=⟨215,⟨bIv,bIv⟩,⟨bIv,bIv⟩⟩,Bc:=⟨216,⟨bIv,bIv⟩,⟨bIv,bIv⟩⟩,..}<;>exact⟨bIv,bIv⟩
theorem bGX:sn AM2 where
 fn:=bIv
 bq:=bIv
theorem bFh:PlaneFns AM2 gZ:=by refine' {yf:=bGX,..}<;>exact⟨bIv,bIv⟩
theorem bGs:C2 AM2 gZ:=by refine' {fns:=bFh,con:=⟨216,⟨bIv,bIv⟩,⟨bIv,bIv⟩⟩,..}<;>exact⟨bIv,bIv⟩
theorem aHq:kc AM0 gZ 187:=by refine' {blk:=aMx,src:=aQJ,R9:=⟨⟨185,248,186,⟨bIv,bIv⟩,⟨bIv,bIv⟩,⟨bIv,bIv⟩,⟨bIv,bIv⟩⟩⟩,B6:=⟨⟨200,268,201,⟨bIv,bIv⟩,⟨bIv,bIv⟩,⟨bIv,bIv⟩,⟨bIv,bIv⟩⟩⟩,S0:=⟨⟨202,269,203,⟨bIv,bIv⟩,⟨bIv,bIv⟩,⟨bIv,bIv⟩,⟨bIv,bIv⟩⟩⟩,allI:=⟨⟨33,73,104,⟨bIv,bIv⟩,⟨bIv,bIv⟩,⟨bIv,bIv⟩,⟨bIv,bIv⟩⟩⟩,..}<;>exact⟨bIv,bIv⟩
theorem aIM:lu AM0 gZ:=by refine' {con:=⟨273,⟨bIv,bIv⟩,⟨bIv,bIv⟩⟩,..}<;>exact⟨bIv,bIv⟩
theorem aOE:oh AM0 gZ 187:=by refine' {val:=aHq,..}<;>exact⟨bIv,bIv⟩
theorem aQN:sn AM0 where
 fn:=bIv
 bq:=bIv
theorem aQP:ln AM0 gZ:=by refine' {noY:=aQN,..}<;>exact⟨bIv,bIv⟩
theorem aMy:lp AM0 gZ 187:=by refine' {fam:=aQP,valid:=aOE,..}<;>exact⟨bIv,bIv⟩
theorem aOF:og AM0 gZ 187 189:=by refine' {form:=aIM,wrt:=aOD,B9:=aMs ⟨bIv,bIv⟩ ⟨bIv,bIv⟩ bIv,..}<;>exact⟨bIv,bIv⟩
theorem bGt:Qb AM0 gZ (aNn AMs (gZ "k")) (bGK AM2 (gZ "p")) 187 189:=by refine' {hold:=aMy,text:=aOF,fig:=aOt bDB bIv,ph:=bGd bGs (aOt bDB bIv) bIv,..}<;>exact⟨bIv,bIv⟩
noncomputable def bEg(k:Nat):Bool:=((bE7.drop k).take 7).all fun a=>aE3 AK 10000 100 131 [.agg (aH a)] [] aJi&&aE3 AK 10000 100 135 [.agg (aH a)] [] aJi
end Go.AM
end
