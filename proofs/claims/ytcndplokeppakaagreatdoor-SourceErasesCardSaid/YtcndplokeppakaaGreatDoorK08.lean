/- Part 8: lemmas for the last text. -/
import Derived.Test.YtcndplokeppakaaGreatDoorK03
import Derived.Test.YtcndplokeppakaaGreatDoorK07
set_option linter.unusedVariables false
set_option linter.unusedSimpArgs false
set_option maxHeartbeats 6400000
set_option maxRecDepth 60000
open Bool renaming true_or -> EP, false_or -> II, true_beq -> CE, and_eq_true -> AI, eq_iff_iff -> DS, false_beq -> BB, false_and -> BQ, true_and -> BR, true -> QS, false -> QT
open Go.BinOp renaming eql -> JT
open Go.IntKind renaming i64 -> AR, wrap -> GA, bits -> LK, signed -> KC, u8 -> KD
open Go.Lib renaming indexByte -> EV
open Int renaming natCast_nonneg -> AU, toNat_natCast -> AT, tmod_nonneg -> HV, tmod_lt_of_pos -> GX, eq_ofNat_of_zero_le -> DN
open List renaming drop_succ_cons -> AB, drop_zero -> AD, take_succ_cons -> AA, take_zero -> AE, append_nil -> AJ, length_map -> AF, cons_append -> DO, nil_append -> CW, range' -> FM, mem_append -> AY, mem_range'_1 -> FC, mem_cons -> BD, map_nil -> BY, length_nil -> AZ, map_cons -> BI, length_cons -> AW, getElem?_cons_zero -> BG, range -> GZ, range_succ -> LQ, map_append -> DQ, flatMap_append -> JK, length_append -> BA, mem_flatMap -> IM, mem_range -> HE, append_assoc -> CJ, length_filter_le -> MJ, count_eq_zero -> NH, mem_cons_of_mem -> BZ, getElem_mem -> AS, take_length -> DM, mem_map -> DB, drop_eq_getElem_cons -> FD, drop_length -> JX, mem_singleton -> CG, all_eq_true -> AO, getElem?_cons_succ -> CT, headD_nil -> OW, headD_cons -> ON, getElem?_eq_getElem -> AP, replicate -> AX, map_replicate -> PQ, getElem?_map -> BN, map -> DR, length -> FN, take -> FW
open Nat renaming le_add_right -> EG, succ_mul -> JS, mul_le_mul -> JL, zero_add -> BC, le_refl -> AQ, mul_one -> FK, zero_le -> FF
open Option renaming map_some -> DE, some -> QQ, none -> N2
open Option.some renaming injEq -> AG
open Prod renaming fst -> EM, snd -> GQ
open UInt8 renaming ofNat -> CN
section
namespace Go.AM
open Go
def aDh(g:SN):bw:=⟨8,[],[.tmp 3],qS [qmc 3 (.bool QT)]<|qS [qf 4 2 1,ql 5 1 4,qm 6 0,qc 7 (g "dq") [u 5,u 6],qm 3 7]<|.ret⟩
def aDi(g:SN):bw:=⟨26,[],[.tmp 3],qS [qx 2 2 0,qmc 3 (.bool QT)]<|qS [qf 4 0 2,ql 5 1 4,qbi 6 .lss 5 0,qm 7 6,qF 8 7 (of 0 2),qF 9 7 (ol 1 8),qF 10 7 (of 0 1),qF 11 7 (ol 1 10),qF 12 7 (ob .gtr 9 11),qq 13 (.pick (u 7) uT (u 12)),qm 14 13,qF 15 14 (of 1 2),qF 16 14 (ol 1 15),qF 17 14 (obi .lss 16 0),qq 18 (.pick (u 14) uT (u 17)),qm 19 18,qF 20 19 (of 1 2),qF 21 19 (ol 1 20),qF 22 19 (of 1 1),qF 23 19 (ol 1 22),qF 24 19 (ob .gtr 21 23),qq 25 (.pick (u 19) uT (u 24)),qm 3 25]<|.ret⟩
def aDj(g:SN):bw:=⟨7,[],[.tmp 2],qS [qx 1 2 0,qmc 2 (.bool QT)]<|qS [qf 3 1 1,ql 4 1 3,qn 5 4,qbi 6 .gtr 5 12,qm 2 6]<|.ret⟩
def aDk(g:SN):bw:=⟨6,[],[.tmp 2],qS [qx 1 2 0,qmc 2 (.bool QT)]<|qS [qla 3 2 1,qc 4 (g "m") [u 3],qq 5 (.un .not (u 4)),qm 2 5]<|.ret⟩
def aDl(g:SN):bw:=⟨8,[],[.tmp 3],qS [qx 2 2 0,qmc 3 (.bool QT)]<|qS [qf 4 1 2,ql 5 1 4,ql 6 1 1,qc 7 (g "bm") [u 5,u 6],qm 3 7]<|.ret⟩
def aDm(g:SN):bw:=⟨6,[],[.tmp 2],qS [qx 1 2 0,qmc 2 (.bool QT)]<|qS [qla 3 2 1,qc 4 (g "l") [u 3],qq 5 (.un .not (u 4)),qm 2 5]<|.ret⟩
def aBW(g:SN):ag:=.block 0 (qS [qf 8 0 1,ql 9 1 8,qf 10 1 1,ql 11 1 10,qq 12 (.mm QT [(.tmp 9),(.tmp 11)]),qbi 13 .lss 12 0,qm 14 13,qF 15 14 (of 0 1),qF 16 14 (ol 1 15),qF 17 14 (of 1 1),qF 18 14 (ol 1 17),qF 19 14 (.mm QS [(.tmp 16),(.tmp 18)]),qF 20 14 (obi .gtr 19 1000),qq 21 (.pick (u 14) uT (u 20)),qm 22 21,qF 23 22 (of 2 1),qF 24 22 (ol 1 23),qF 25 22 (on 24),qF 26 22 (obi .gtr 25 8),qq 27 (.pick (u 22) uT (u 26)),qm 28 27,qF 29 28 (om 3),qF 30 28 (.dm (u 29) [(.const (.fn (g "bz") [] []))]),qq 31 (.pick (u 28) uT (u 30)),qm 7 31]<|qC 7 (qS [qmc 2 (vi 4)]<|.ret) (qS [qm 33 3,qq 34 (.dm (u 33) [(.const (.fn (g "bA") [] []))]),qm 32 34]<|qC 32 (qS [qmc 2 (vi 1)]<|.ret) (qS [qm 36 3,qq 37 (.mkf (g "bB") [] [(.tmp 4)]),qq 38 (.dm (u 36) [(.tmp 37)]),qm 35 38]<|qC 35 (qS [qmc 2 (vi 5)]<|.ret) (qS [qm 40 3,qq 41 (.dm (u 40) [(.const (.fn (g "bC") [] []))]),qm 39 41]<|qC 39 (qS [qmc 2 (vi 2)]<|.ret) (.skip)))))
def aGS(g:SN):bw:=⟨42,[4],[.tmp 2],qS [qx 1 3 0,qmc 2 z0]<|qS [qq 5 (.mkf (g "ck") [] [(.tmp 1)]),qm 3 5]<|qS [qq 6 (.mkf (g "P") [] [(.tmp 1)]),qq 4 (.alloc [.bx]),qs 1 4 6]<|.seq (aBW g)<|qS [qmc 2 z0]<|.ret⟩
section
variable {A:af}{g:SN}{q4 q6:Shape->Bool}
def aAA(A:af)(f k:Nat)(agg:Bool):Prop:=∃fi,(A.fn f=QQ (aLV fi)/\A.bq f=N2)/\(A.fn fi=QQ (aKx k agg)/\A.bq fi=N2)
theorem aBX{α:Type}{f k:Nat}{agg:Bool}(h:aAA A f k agg){enc:α->LA}(he:mv k agg enc){ay:LA}(hc:jc ay){l:List α}(hl:aRL l){H:LO}{f1:Nat} (hs:∀a∈l,∃r:Bool,aG A f1 (asV agg (enc a)::ay) H=QQ (.bool r,H,[])):∃r:Bool,aG A f [.sl QT (l.map enc),.fn f1 [] ay] H=QQ (.bool r,H,[])/\((∀a∈l,aG A f1 (asV agg (enc a)::ay) H=QQ (.bool QT,H,[]))->r=QT):=by
 obtain⟨fi,⟨a1,a2⟩,b1,b2⟩:=h;refine⟨_,aGr (q:=fun a=>match aG A f1 (asV agg (enc a)::ay) H with | some (.bool b,_,_)=>b | _=>QT) a1 a2 hc (aDa b1 b2 he hc hl fun a ha=>?_),fun hf=>?_⟩
 all_goals grind
abbrev bEZ(A:af)(f:Nat)(q:Shape->Bool):Prop:=∀(s:Shape),s.points.length<=1000->0<=s.kind/\s.kind<=2->∀H:LO,aG A f [.agg (aH s)] H=QQ (.bool (q s),H,[])
structure ij(A:af)(g:SN)(q4 q6:Shape->Bool):Prop where
 shaped:bEZ A (g "m") q4
 simple:bEZ A (g "l") q6
 Bb:aAA A (g "dq") 2 QS
 Bc:aAA A (g "bm") 2 QS
 v1:Has A g "ck" (aDh g)
 v2:Has A g "P" (aDi g)
 v3:Has A g "bz" (aDj g)
 v4:Has A g "bA" (aDk g)
 v5:Has A g "bB" (aDl g)
 v6:Has A g "bC" (aDm g)
 valid:Has A g "k" (aGS g)
abbrev aWo(w h:Int)(l:List Shape):AV:=.ep [vi w,vi h,.sl QT (l.map aH)] 0
theorem aSb(F:ij A g q4 q6){w hh:Int}{l:List Shape}(hl:l.length<=1000){f1:Nat}{ay:LA}(hc:jc ay){H:LO}(hs:∀s∈l,∃r:Bool,aG A f1 (.agg (aH s)::ay) H=QQ (.bool r,H,[])):∃r:Bool,aG A (g "ck") [.fn f1 [] ay,aWo w hh l] H=QQ (.bool r,H,[])/\((∀s∈l,aG A f1 (.agg (aH s)::ay) H=QQ (.bool QT,H,[]))->r=QT):=by obtain⟨r,hr,hf⟩:=aBX F.Bb aKE hc (by grind) hs;refine⟨r,F.v1.call ?_,hf⟩;simp only[aDh];simp only[go_sem,↓aB,seval,AB,AD,AA,AE,hr,AJ]
theorem bB5(F:ij A g q4 q6){w hh:Int}{l:List Shape}(p:Int×Int)(H:LO):aG A (g "P") [.agg (bL p),aWo w hh l] H=QQ (.bool (decide (p.1<0) || (decide (p.1>w) || (decide (p.2<0) || decide (p.2>hh)))),H,[]):=by refine F.v2.call ?_;simp only[aDi];cases e1:decide (p.1<0)<;>cases e2:decide (p.1>w)<;>cases e3:decide (p.2<0)<;>simp only[go_sem,↓aB,seval,bL,e1,e2,e3,EP,II,Zz,CE,AB,AD,AA,AE,AJ]
theorem bB6(F:ij A g q4 q6)(s:Shape)(H:LO):aG A (g "bz") [.agg (aH s)] H=QQ (.bool (decide ((s.points.length:Int)>12)),H,[]):=by refine F.v3.call ?_;simp only[aDj];simp only[go_sem,↓aB,seval,aH,AF,AB,AD,AA,AE,AJ]
theorem bB7(F:ij A g q4 q6)(s:Shape)(hs:s.points.length<=1000)(hk:0<=s.kind/\s.kind<=2)(H:LO):aG A (g "bA") [.agg (aH s)] H=QQ (.bool (!q4 s),H,[]):=by have hr:=F.shaped s hs hk H;refine F.v4.call ?_;simp only[aDk];simp only[aH]at hr ⊢;simp only[go_sem,↓aB,seval,hr,AJ]
theorem bB8(F:ij A g q4 q6)(s:Shape)(hs:s.points.length<=1000)(hk:0<=s.kind/\s.kind<=2)(H:LO):aG A (g "bC") [.agg (aH s)] H=QQ (.bool (!q6 s),H,[]):=by have hr:=F.simple s hs hk H;refine F.v6.call ?_;simp only[aDm];simp only[aH]at hr ⊢;simp only[go_sem,↓aB,seval,hr,AJ]
theorem bB9(F:ij A g q4 q6){w hh:Int}{l:List Shape}(s:Shape)(hs:s.points.length<=1000){X:LO}{o:Nat}(ho:X[o]? = QQ (.box 1 [.fn (g "P") [] [aWo w hh l]])):∃r:Bool,aG A (g "bB") [.agg (aH s),.ptr o 1 0] X=QQ (.bool r,X,[])/\((∀p∈s.points,(0<=p.1/\p.1<=w)/\0<=p.2/\p.2<=hh)->r=QT):=by
 obtain⟨r,hr,hf⟩:=aBX (H:=X) F.Bc aGu (cQ.ep [vi w,vi hh,.sl QT (l.map aH)] 0) (by show s.points.length<_;omega) (fun p _=>⟨_,bB5 F (w:=w) (hh:=hh) (l:=l) p _⟩);refine⟨r,F.v5.call ?_,fun h=>hf fun p hp=>?_⟩
 ·simp only[aDl];simp only[go_sem,↓aB,seval,aH,AJ,AB,AD,AA,AE,ho,hr]
 have:=h p hp;show aG A (g "P") [.agg (bL p),aWo w hh l] X=_;rw[bB5 F p X];grind
abbrev aDn(w h:Int)(l:List Shape):LA:=[vi w,vi h,.sl QT (l.map aH)]
theorem aJz(F:ij A g q4 q6)(w hh:Int)(l:List Shape)(hw:1<=w/\w<=1000)(Cw:1<=hh/\hh<=1000)(hl:l.length<=8)(hs:∀s∈l,vQ s=QS)(H:LO):∃e:Int,aG A (g "k") [.agg (aDn w hh l)] H=QQ (vi e,H,[])/\((∀s∈l,(q4 s=QS/\q6 s=QS)/\s.points.length<=12/\∀p∈s.points,(0<=p.1/\p.1<=w)/\0<=p.2/\p.2<=hh)->e=0):=by
 have l9:∀s∈l,s.points.length<=1000/\0<=s.kind/\s.kind<=2:=fun s hm=>by
  have q1:=hs s hm;unfold vQ at q1;simp only[AI,eG]at q1;omega
 obtain⟨v,H',wr,h1,rfl,rfl,m,rfl,h2⟩:=F.valid.bp (args:=[.agg (aDn w hh l)]) (H:=H) (K:=fun v H' wr=>wr=[]/\H'=H/\∃r:Int,v=vi r/\((∀s∈l,(q4 s=QS/\q6 s=QS)/\s.points.length<=12/\∀p∈s.points,(0<=p.1/\p.1<=w)/\0<=p.2/\p.2<=hh)->r=0)) (by
  generalize hX:H++[.box 1 [.fn (g "P") [] [aWo w hh l]]]=X;have ho:X[H.length]? = QQ (.box 1 [.fn (g "P") [] [aWo w hh l]]):=by grind
  obtain⟨r3,g3,z3⟩:=aSb F (w:=w) (hh:=hh) (l:=l) omT cQ (H:=X) (f1:=g "bz") (fun s hm=>⟨_,bB6 F s X⟩);obtain⟨r4,g4,z4⟩:=aSb F (w:=w) (hh:=hh) (l:=l) omT cQ (H:=X) (f1:=g "bA") (fun s hm=>⟨_,bB7 F s (l9 s hm).1 (l9 s hm).2 X⟩);obtain⟨r5,g5,z5⟩:=aSb F (w:=w) (hh:=hh) (l:=l) omT (cQ.ptr H.length 1 0) (H:=X) (f1:=g "bB") (fun s hm=>by obtain⟨r,h,_⟩:=bB9 F s (l9 s hm).1 ho;grind);obtain⟨r6,g6,z6⟩:=aSb F (w:=w) (hh:=hh) (l:=l) omT cQ (H:=X) (f1:=g "bC") (fun s hm=>⟨_,bB8 F s (l9 s hm).1 (l9 s hm).2 X⟩);have hz:(∀s∈l,(q4 s=QS/\q6 s=QS)/\s.points.length<=12/\∀p∈s.points,(0<=p.1/\p.1<=w)/\0<=p.2/\p.2<=hh)->r3=QT/\r4=QT/\r5=QT/\r6=false:=fun hg=>by
   refine⟨z3 fun s hm=>?_,z4 fun s hm=>?_,z5 fun s hm=>?_,z6 fun s hm=>?_⟩
   ·grind [bB6]
   ·rw[bB7 F s (l9 s hm).1 (l9 s hm).2 X,(hg s hm).1.1];rfl
   ·obtain⟨r,h,h0⟩:=bB9 F s (l9 s hm).1 ho;rw[h,h0 (hg s hm).2.2]
   rw[bB8 F s (l9 s hm).1 (l9 s hm).2 X,(hg s hm).1.2];rfl
  subst hX;simp only[aGS];simp only[go_sem,↓aB,seval];simp only[aBW];have c1:decide ((if hh<w then hh else w)<0)=false:=by grind
  have c2:decide ((if w<hh then hh else w)>1000)=false:=by grind
  have c3:decide ((l.length:Int)>8)=false:=by grind
  cases r3 with
  |true=>simp only[go_sem,↓aB,seval,c1,c2,c3,g3,AF,AB,AD,AA,AE,Zz];grind
  |false=>
  cases r4 with
  |true=>simp only[go_sem,↓aB,seval,c1,c2,c3,g3,g4,AF,AB,AD,AA,AE,Zz];grind
  |false=>
  cases r5 with
  |true=>simp only[go_sem,↓aB,seval,c1,c2,c3,g3,g4,g5,AF,AB,AD,AA,AE,Zz];grind
  |false=>
  cases r6 with
  |true=>simp only[go_sem,↓aB,seval,c1,c2,c3,g3,g4,g5,g6,AF,AB,AD,AA,AE,Zz];grind
  |false=>
   simp only[go_sem,↓aB,seval,c1,c2,c3,g3,g4,g5,g6,AF,AB,AD,AA,AE,Zz];grind)
 grind
end
abbrev aAB(g:SN):List ae:=[qf 10 2 4,⟨QQ 11,of 0 10,N2,[0]⟩,⟨QQ 12,ol 1 11,N2,[1,0]⟩,qf 13 0 4,⟨QQ 14,of 0 13,N2,[3]⟩,⟨QQ 15,ol 1 14,N2,[4,3]⟩,⟨QQ 16,ob .sub 12 15,N2,[2,1,0,5,4,3]⟩,qf 17 2 4,⟨QQ 18,of 1 17,N2,[7]⟩,⟨QQ 19,ol 1 18,N2,[8,7]⟩,qf 20 0 4,⟨QQ 21,of 1 20,N2,[10]⟩,⟨QQ 22,ol 1 21,N2,[11,10]⟩,⟨QQ 23,ob .sub 19 22,N2,[9,8,7,12,11,10]⟩,⟨QQ 5,om 16,N2,[6,2,1,0,5,4,3]⟩,⟨QQ 6,om 23,N2,[13,9,8,7,12,11,10,14,6,2,1,0,5,4,3]⟩]
abbrev aAC:LN:=[]
def aAD(g:SN):ag:=.block 0 (.dz (.tmp 8) [9] (qS [qq 4 (.alloc [z0,z0,z0,z0]),qs 4 4 9]<|.block 1 (.seq (.region QS (aAB g))<|.region QT [ql 24 1 3,qm 25 5,qm 26 5,qq 27 (.un .neg (u 26)),qm 28 6,qm 29 6,qq 30 (.un .neg (u 29)),qq 31 (.mm QS [(.tmp 25),(.tmp 27),(.tmp 28),(.tmp 30)]),qb 32 .add 24 31,qs 1 3 32])))
def tC(g:SN):bw:=⟨34,[1,3,9,4],[.tmp 2],qS [qx 1 2 0,qmc 2 z0]<|qS [qq 3 (.alloc [z0]),qz (.store 1 (u 3) (ui 0))]<|.seq (qS [qla 7 2 1,qc 8 (g "v") [u 7]]<|aAD g)<|qS [ql 33 1 3,qm 2 33]<|.ret⟩
abbrev aGT(g:SN):List ae:=[qla 5 2 2,⟨QQ 6,oc (g "ae") [u 5],N2,[0]⟩,qla 7 2 3,⟨QQ 8,oc (g "ae") [u 7],N2,[2,1,0]⟩,⟨QQ 9,ob .gtr 6 8,N2,yq3⟩,⟨QQ 4,om 9,N2,yq4⟩]
abbrev aAE:LN:=[1,2]
def aAF(g:SN):bw:=⟨10,[],[.tmp 4],qS [qx 2 2 0,qx 3 2 1,qmc 4 (.bool QT)]<|.seq (.region QS (aGT g))<|.ret⟩
abbrev aTd(g:SN):ag:=qS [qq 4 (.alloc [z0,z0,z0,z0]),qs 4 4 9]<|.block 1 (.seq (.region QS (aAB g))<|.region QT [ql 24 1 3,qm 25 5,qm 26 5,qq 27 (.un .neg (u 26)),qm 28 6,qm 29 6,qq 30 (.un .neg (u 29)),qq 31 (.mm QS [(.tmp 25),(.tmp 27),(.tmp 28),(.tmp 30)]),qb 32 .add 24 31,qs 1 3 32])
section
variable {A:af}{g:SN}
def LnI(g:SN)(H:LO)(x0:ah)(X:LO):Prop:=∃(n:Int) (x3:ah) (l:LA),X=H++[x0,.box 1 [vi n],.rnd 1 H.length [1,3,9,4] [9] (aTd g) l QT N2,x3]/\l.length=34/\ck l 3=.ptr (H.length+1) 1 0
theorem aV3(hY:sn A)(H:LO)(x0:ah):aAv A (H.length+2) 1 H.length (H.length+4) (fun _=>LnI g H x0) (fun _=>False):=by
 refine⟨fun i X hX=>?_,fun X hX=>hX.elim,fun i X a b c d hi hX=>?_⟩
 ·obtain⟨n,x3,l,rfl,_⟩:=hX;simp
 obtain⟨n,x3,l,rfl,hl,h3⟩:=hX;refine mT hY (K:=fun e H' wr=>(if e=.normal then LnI g H x0 H' else False)/\∀x∈wr,H.length<=x) (N:=34) (l:=l) (by rw[bX];rfl) rfl bIv bIv hl ?_;have hs:ck (dH l [9] [.agg [vi a,vi b,vi c,vi d]])=upd (ck l) 9 (.agg [vi a,vi b,vi c,vi d]):=nG omT;rw[hs];generalize hρ:ck l=ρ at *;simp only[DO,CW];have fq:∀{w2:LN} {n:Nat},(∀x∈w2,H.length<=x)->∀x∈FM H.length n++(H.length+2)::w2,H.length<=x:=fun {w2 n} h x hx=>by
  rcases AY.1 hx with hx | hx
  ·rw[FC]at hx;exact hx.1
  rcases BD.1 hx with rfl | hx
  ·omega
  exact h x hx
 simp only[go_sem,↓aB,seval];refine⟨_,_,_,_,_,rfl, ?_⟩;refine aY (aq:=aAC) rfT rfT ?_;simp only[go_sem,↓aB,seval,aAC,h3,AD,AA,AE,AB];exact⟨_,_,_,_,_,rfl,⟨_,_,l,rfl,hl,by rw[hρ];exact h3⟩,fq siT⟩
theorem aL0(F:PlaneFns A g)(h:Has A g "ae" (tC g))(s:Shape)(hs:s.points.length<=1000)(H:LO):∃n:Int,aG A (g "ae") [.agg (aH s)] H=QQ (vi n,H,[]):=by
 obtain⟨v,H',wr,h1,rfl,rfl,m,rfl⟩:=h.bp (args:=[.agg (aH s)]) (H:=H) (K:=fun v H' wr=>wr=[]/\H'=H/\∃n:Int,v=vi n) (by
  have ot:=fun H=>lG F.seg s H;simp only[tC];simp only[aH]at ot ⊢;simp only[go_sem,↓aB,seval,ot,AD,AA,AE];simp only[aAD];simp only[go_sem,seval];generalize ah.box 1 [vi s.kind,AV.sl QT (s.points.map bL)]=x0;refine wC (id:=H.length+2) (v:=1) (X:=fun l=>H++[x0,.box 1 [vi 0],.rnd 1 H.length [1,3,9,4] [9] (aTd g) l QT N2,.gone 0]) rfT rfT siT (fun _=>rfT) (by unfold bH;rw[bX];rfl) (fun l=>by rw[sV];rfl) ?_;intro l hl he;obtain⟨H2,en,k1,k2,k3⟩:=wD F.zy (aV3 (g:=g) F.yf H x0) s.kind s.points hs _ (⟨0,.gone 0,l,rfl,hl,by rw[he];rfl⟩:LnI g H x0 _);have hw:bE H.length [] ((H.length+2)::en)=[]:=kH (fun x hx=>by rcases BD.1 hx with rfl | hx;exact EG _ _;exact k3 x hx);rcases k2 with⟨i,hi,n,x3,l2,rfl,iq,_⟩ | k2
  ·refine⟨_,_,_,_,_,_,_,_,N2,k1,by rw[bX];rfl, ?_⟩;rw[hw,eS];show pP 0 _ _ .normal _ _ _;simp only[go_sem,↓aB,seval,AD,AA,AE];exact⟨_,rfl⟩
  exact k2.elim)
 exact⟨m,h1⟩
theorem aQ5(F:PlaneFns A g)(h:Has A g "ae" (tC g))(h2:Has A g "E" (aAF g))(s t:Shape)(hs:s.points.length<=1000)(ht:t.points.length<=1000)(H:LO):∃r:Bool,aG A (g "E") [.agg (aH s),.agg (aH t)] H=QQ (.bool r,H,[]):=by obtain⟨n,hn⟩:=aL0 F h s hs H;obtain⟨m,hm⟩:=aL0 F h t ht H;refine⟨decide (n>m),h2.call ?_⟩;simp only[aAF];simp only[aH]at hn hm ⊢;simp only[go_sem,↓aB,seval];refine aY (aq:=aAE) rfT rfT ?_;simp only[go_sem,↓aB,seval,aAE,hn,hm,eH,dG,aL,AD,AA,AE]
end
def rE(g:SN):ag:=.block 2 (qS [qla 11 2 2,qla 12 4 6,qc 13 (g "j") [u 11,u 12],qm 10 13]<|qC 10 (qS [qz (.store 1 (u 4) uF)]<|.ret) (qS [qf 15 0 6,qf 16 1 15,ql 17 1 16,qf 18 1 2,ql 19 1 18,qb 20 .leq 17 19,qm 21 20,qT 22 21 (of 2 6),qT 23 21 (of 1 22),qT 24 21 (ol 1 23),qT 25 21 (of 1 2),qT 26 21 (ol 1 25),qT 27 21 (ob .gtr 24 26),qp 28 21 27,qm 29 28,qT 30 29 (of 0 6),qT 31 29 (ola 2 30),qT 32 29 (of 2 6),qT 33 29 (ola 2 32),qT 34 29 (ola 2 2),qT 35 29 (oc (g "r") [u 31,u 33,u 34]),qT 36 29 (obi .gtr 35 0),qp 37 29 36,qm 14 37]<|qC 14 (qR [ql 38 1 5,qbi 39 .add 38 1,qs 1 5 39]) (qS [qf 41 0 6,qf 42 1 41,ql 43 1 42,qf 44 1 2,ql 45 1 44,qb 46 .gtr 43 45,qm 47 46,qT 48 47 (of 2 6),qT 49 47 (of 1 48),qT 50 47 (ol 1 49),qT 51 47 (of 1 2),qT 52 47 (ol 1 51),qT 53 47 (ob .leq 50 52),qp 54 47 53,qm 55 54,qT 56 55 (of 0 6),qT 57 55 (ola 2 56),qT 58 55 (of 2 6),qT 59 55 (ola 2 58),qT 60 55 (ola 2 2),qT 61 55 (oc (g "r") [u 57,u 59,u 60]),qT 62 55 (obi .lss 61 0),qp 63 55 62,qm 40 63]<|qC 40 (qR [ql 64 1 5,qbi 65 .sub 64 1,qs 1 5 65]) (.skip))))
def aAG(g:SN):ag:=.block 0 (.dz (.tmp 8) [9] (qS [qq 6 (.alloc [z0,z0,z0,z0]),qs 4 6 9]<|.block 1 (rE g)))
def oY(g:SN):bw:=⟨68,[4,5,9,6],[.cell 4 1 QT],qS [qx 2 2 0,qx 3 2 1,qq 4 (.alloc [(.bool QT)])]<|qS [qq 5 (.alloc [z0]),qz (.store 1 (u 5) (ui 0))]<|.seq (qS [qla 7 2 3,qc 8 (g "v") [u 7]]<|aAG g)<|qS [ql 66 1 5,qbi 67 .neq 66 0,qs 1 4 67]<|.ret⟩
abbrev aQ6(g:SN):ag:=qS [qq 6 (.alloc [z0,z0,z0,z0]),qs 4 6 9]<|.block 1 (rE g)
section
variable {A:af}{g:SN}
def WtI(g:SN)(H:LO)(px py:Int)(pend:Option bf)(X:LO):Prop:=∃(n:Int) (x3:ah) (l:LA),X=H++[.box 1 [.bool QT],.box 1 [vi n],.rnd 1 H.length [4,5,9,6] [9] (aQ6 g) l QT pend,x3]/\l.length=68/\ck l 4=.ptr H.length 1 0/\ck l 5=.ptr (H.length+1) 1 0/\ck l 2=.ep [vi px,vi py] 0
theorem aV4(F:PlaneFns A g)(H:LO)(px py:Int):aAv A (H.length+2) 1 H.length (H.length+4) (fun _=>WtI g H px py N2) (WtI g H px py (QQ .ret)):=by
 refine⟨fun i X hX=>?_,fun X hX=>?_,fun i X a b c d hi hX=>?_⟩
 ·obtain⟨n,x3,l,rfl,_⟩:=hX;simp
 ·obtain⟨n,x3,l,rfl,_⟩:=hX;simp
 obtain⟨n,x3,l,rfl,hl,h4,h5,h2⟩:=hX;refine mT F.yf (K:=fun e H' wr=>(if e=.normal then WtI g H px py N2 H' else WtI g H px py (QQ .ret) H')/\∀x∈wr,H.length<=x) (N:=68) (l:=l) (by rw[bX];rfl) rfl bIv bIv hl ?_;have hs:ck (dH l [9] [.agg [vi a,vi b,vi c,vi d]])=upd (ck l) 9 (.agg [vi a,vi b,vi c,vi d]):=nG omT;rw[hs];generalize hρ:ck l=ρ at *;simp only[DO,CW];have fq:∀{w2:LN} {n:Nat},(∀x∈w2,H.length<=x)->∀x∈FM H.length n++(H.length+2)::w2,H.length<=x:=fun {w2 n} h x hx=>by
  rcases AY.1 hx with hx | hx
  ·rw[FC]at hx;exact hx.1
  rcases BD.1 hx with rfl | hx
  ·omega
  exact h x hx
 have s13:(⟨H.length,[4,5,9,6,YF+(H.length+2),YF+1]⟩:Ctx).site (QQ 13)=none:=aBm rfT deT;have s35:(⟨H.length,[4,5,9,6,YF+(H.length+2),YF+1]⟩:Ctx).site (QQ 35)=none:=aBm rfT deT;have s61:(⟨H.length,[4,5,9,6,YF+(H.length+2),YF+1]⟩:Ctx).site (QQ 61)=none:=aBm rfT deT;simp only[go_sem,↓aB,seval];refine⟨_,_,_,_,_,rfl, ?_⟩;simp only[rE];generalize Gc:H++[ah.box 1 [.bool QT],.box 1 [vi n],.rnd 1 H.length [4,5,9,6] [9] (aQ6 g) l QS N2,.box (x3.ver+1) [vi a,vi b,vi c,vi d]]=HH;obtain⟨r1,gj⟩:=aJy F.on F.oe px py a b c d HH;obtain⟨m1,V9⟩:=aEu F.oe a b c d px py HH;subst Gc;have B:True:=trivial;cases r1 with
 |true=>simp only[go_sem,↓aB,seval,h4,h2,s13,gj,AD,AA,AE,AB];exact⟨_,_,_,_,_,rfl,⟨_,_,l,rfl,hl,by rw[hρ];exact h4,by rw[hρ];exact h5,by rw[hρ];exact h2⟩,fq siT⟩
 |false=>
  have e4:decide (b>py) = !decide (b<=py):=by rw[DS];simp
  have e5:decide (d<=py) = !decide (d>py):=by rw[DS];simp
  cases e1:decide (b<=py)<;>cases e2:decide (d>py)<;>cases e3:decide (m1>0)<;>cases e6:decide (m1<0) <;>
   (rw[e1]at e4;rw[e2]at e5;simp only[go_sem,↓aB,seval,h5,h2,s13,s35,s61,gj,V9,e1,e2,e3,e4,e5,e6,AD,AA,AE,AB,Zz,BB];exact⟨_,_,_,_,_,rfl,⟨_,_,l,rfl,hl,by rw[hρ];exact h4,by rw[hρ];exact h5,by rw[hρ];exact h2⟩,fq siT⟩)
theorem aQ7(F:PlaneFns A g)(h:Has A g "af" (oY g))(px py:Int)(s:Shape)(hs:s.points.length<=1000)(H:LO):∃r:Bool,aG A (g "af") [P2 px py,.agg (aH s)] H=QQ (.bool r,H,[]):=by
 obtain⟨v,H',wr,h1,rfl,rfl,m,rfl⟩:=h.bp (args:=[P2 px py,.agg (aH s)]) (H:=H) (K:=fun v H' wr=>wr=[]/\H'=H/\∃r:Bool,v=.bool r) (by
  have ot:=fun H=>lG F.seg s H;simp only[oY];simp only[aH]at ot ⊢;simp only[go_sem,↓aB,seval,ot,AD,AA,AE];simp only[aAG];simp only[go_sem,seval];refine wC (id:=H.length+2) (v:=1) (X:=fun l=>H++[.box 1 [.bool QT],.box 1 [vi 0],.rnd 1 H.length [4,5,9,6] [9] (aQ6 g) l QT N2,.gone 0]) rfT rfT siT (fun _=>rfT) (by unfold bH;rw[bX];rfl) (fun l=>by rw[sV];rfl) ?_;intro l hl he;obtain⟨H2,en,k1,k2,k3⟩:=wD F.zy (aV4 (g:=g) F H px py) s.kind s.points hs _ (⟨0,.gone 0,l,rfl,hl,by rw[he];rfl,by rw[he];rfl,by rw[he];rfl⟩:WtI g H px py N2 _);have hw:bE H.length [] ((H.length+2)::en)=[]:=kH (fun x hx=>by rcases BD.1 hx with rfl | hx;exact EG _ _;exact k3 x hx);rcases k2 with⟨i,hi,n,x3,l2,rfl,iq,_⟩ | ⟨n,x3,l2,rfl,iq,_⟩
  ·refine⟨_,_,_,_,_,_,_,_,N2,k1,by rw[bX];rfl, ?_⟩;rw[hw,eS];show pP 0 _ _ .normal _ _ _;simp only[go_sem,↓aB,seval,AD,AA,AE];exact⟨_,rfl⟩
  refine⟨_,_,_,_,_,_,_,_,QQ .ret,k1,by rw[bX];rfl, ?_⟩;rw[hw,eS];show pP 0 _ _ .ret _ _ _;simp only[go_sem,↓aB,seval,AD,AA,AE];exact⟨_,rfl⟩)
 exact⟨m,h1⟩
end
abbrev aL1(g:SN):List ae:=[qf 14 1 1,⟨QQ 15,ol 1 14,N2,[0]⟩,⟨QQ 16,.iaV (u 15) (ui 0) 2,N2,[1,0]⟩,⟨QQ 17,ola 2 16,N2,[2,1,0]⟩,qf 18 1 1,⟨QQ 19,ol 1 18,N2,[4]⟩,⟨QQ 20,.iaV (u 19) (ui 0) 2,N2,[5,4]⟩,⟨QQ 21,ola 2 20,N2,[6,5,4]⟩,qq 4 (.alloc [z0,z0]),qq 5 (.alloc [z0,z0]),⟨N2,os 2 4 17,N2,[3,2,1,0,8,9]⟩,⟨N2,os 2 5 21,N2,[7,6,5,4,10,3,2,1,0,8,9]⟩]
abbrev aF4:LN:=[5,7,10]
abbrev aL2(g:SN):ag:=qS [qb 26 .lss 25 24]<|.seq (qC 26 (.skip) (.exit 0))<|.seq (.block 1 (qS [qi 27 23 25 2,qla 28 2 27,qq 7 (.alloc [z0,z0]),qs 2 7 28]<|qS [qf 29 0 4,ql 30 1 29,qf 31 0 7,ql 32 1 31,qq 33 (.mm QT [(.tmp 30),(.tmp 32)]),qf 34 1 4,ql 35 1 34,qf 36 1 7,ql 37 1 36,qq 38 (.mm QT [(.tmp 35),(.tmp 37)]),qq 39 (.build [z0,z0] [(0,1,(.tmp 33)),(1,1,(.tmp 38))]),qs 2 4 39]<|.region QT [qf 40 0 5,ql 41 1 40,qf 42 0 7,ql 43 1 42,qq 44 (.mm QS [(.tmp 41),(.tmp 43)]),qf 45 1 5,ql 46 1 45,qf 47 1 7,ql 48 1 47,qq 49 (.mm QS [(.tmp 46),(.tmp 48)]),qq 50 (.build [z0,z0] [(0,1,(.tmp 44)),(1,1,(.tmp 49))]),qs 2 5 50]))<|.region QT [qbi 51 .add 25 1,qm 25 51]
abbrev aL3(g:SN):List ae:=[qla 52 2 4,qla 53 2 5,⟨N2,os 2 2 52,N2,[0]⟩,⟨N2,os 2 3 53,N2,[1,2,0]⟩]
abbrev aF5:LN:=[1,2]
def aDo(g:SN):bw:=⟨54,[1,2,3,4,5,7],[.cell 2 2 QS,.cell 3 2 QS],qS [qx 1 2 0,qq 2 (.alloc [z0,z0]),qq 3 (.alloc [z0,z0])]<|.seq (qS [qf 8 1 1,ql 9 1 8,qn 10 9,qbi 11 .eql 10 0]<|qC 11 (qS [qq 12 (.build [z0,z0] []),qq 13 (.build [z0,z0] []),qs 2 2 12,qs 2 3 13]<|.ret) (.skip))<|.seq (.region QS (aL1 g))<|.seq (qS [qf 22 1 1,ql 23 1 22,qn 24 23,qmc 25 z0]<|.block 0 (.loop (aL2 g)))<|.seq (.region QS (aL3 g))<|.ret⟩
def aEv(g:SN):bw:=⟨36,[5,6,7,8],[.tmp 4],qS [qx 2 2 0,qx 3 2 1,qmc 4 (.bool QT)]<|qS [qla 10 2 2,qc 11 (g "ac") [u 10],qm 9 11,qq 12 (.ext 0 (u 9)),qq 13 (.ext 1 (u 9)),qq 5 (.alloc [z0,z0]),qq 6 (.alloc [z0,z0]),qs 2 5 12,qs 2 6 13]<|qS [qla 15 2 3,qc 16 (g "ac") [u 15],qm 14 16,qq 17 (.ext 0 (u 14)),qq 18 (.ext 1 (u 14)),qq 7 (.alloc [z0,z0]),qq 8 (.alloc [z0,z0]),qs 2 7 17,qs 2 8 18]<|qS [qf 19 1 2,ql 20 1 19,qn 21 20,qbi 22 .gtr 21 0,qm 23 22,qT 24 23 (of 1 3),qT 25 23 (ol 1 24),qT 26 23 (on 25),qT 27 23 (obi .gtr 26 0),qp 28 23 27,qm 29 28,qT 30 29 (of 0 6),qT 31 29 (ol 1 30),qT 32 29 (of 0 7),qT 33 29 (ol 1 32),qT 34 29 (ob .lss 31 33),qp 35 29 34,qm 4 35]<|.ret⟩
section
variable {A:af}{g:SN}
theorem aTe(h:Has A g "ac" (aDo g))(s:Shape)(hs:s.points.length<=1000)(H:LO):∃a b c d:Int,aG A (g "ac") [.agg (aH s)] H=QQ (.tup [P2 a b,P2 c d],H,[]):=by
 obtain⟨v,H',wr,h1,rfl,rfl,a,b,c,d,rfl⟩:=h.bp (args:=[.agg (aH s)]) (H:=H) (K:=fun v H' wr=>wr=[]/\H'=H/\∃a b c d:Int,v=.tup [P2 a b,P2 c d]) (by
  simp only[aDo];cases hp:s.points with
  |nil=>simp only[go_sem,↓aB,seval,aH,hp,BY,AZ,AD,AB,AA,AE];simp only[go_sem,↓aB,seval,iE,aEP,aNP,aBv,AD,AA,AE];exact⟨_,_,_,_,rfl⟩
  |cons p ps=>
   have hz:(((ps.length+1:Nat):Int)==0)=false:=soT;have Qk:ps.length+1<=1000:=by rw[hp]at hs;exact hs
   simp only[go_sem,↓aB,seval,aH,hp,BI,AW,AF,hz,AD,AB,AA,AE];refine aY (aq:=aF4) (H0:=_) (by simp only[go_sem,seval,cS];rfl) rfT ?_;simp only[go_sem,↓aB,seval,aF4,BG,bL,AW,AF,eH,dG,aL,AD,AB,AA,AE];have Ta:([vi p.1,vi p.2]::ps.map bL)=(p::ps).map bL:=rfl;rw[Ta];have Bd:(p::ps).length=ps.length+1:=rfl;rw[<- Bd]at Qk ⊢;generalize (p::ps)=L at *;refine bJ (id:=0) (fun i ρ1 H1 wr=>wr=[]/\ρ1 25=vi (i:Nat)/\∃(x0:ah) (x1 x2:LA) (a b c d:Int) (x5:ah),H1=H++[x0,.box 1 x1,.box 1 x2,.box 1 [vi a,vi b],.box 1 [vi c,vi d],x5]/\x1.length=2/\x2.length=2) L.length
    (fun ρ1 H1 wr=>wr=[]/\∃(x0:ah) (x1 x2:LA) (a b c d:Int) (x5:ah),H1=H++[x0,.box 1 x1,.box 1 x2,.box 1 [vi a,vi b],.box 1 [vi c,vi d],x5]/\x1.length=2/\x2.length=2) bIv rfl ⟨rfl,rfl,_,_,_,_,_,_,_,_,rfl,rfl,rfl⟩ ?_ ?_
   ·rintro i ρ1 H1 dc mg ⟨rfl,e25,x0,x1,x2,a,b,c,d,x5,rfl,l1,l2⟩ hf;have f23:ρ1 23=.sl QT (L.map bL):=hf 23 rfl;have f24:ρ1 24=vi (L.length:Nat):=hf 24 rfl;have f4:ρ1 4=.ptr (H.length+3) 1 0:=hf 4 rfl;have f5:ρ1 5=.ptr (H.length+4) 1 0:=hf 5 rfl;simp only[go_sem,↓aB,seval,e25,f24];refine aD (fun e3=>?_) (fun e3=>?_)
    ·have hlt:i<L.length:=by simp at e3;omega
     have dy:=wS (i:=i) omT;have cj:=mgE bL hlt;generalize L[i]=q at *;simp only[go_sem,↓aB,seval,e25,f23,f4,f5,cj,hlt,bL,dy,AU,AT,AD,AB,AA,AE];exact⟨_,_,_,_,_,_,_,_,rfl,l1,l2⟩
    have:i=L.length:=by simp at e3;omega
    subst this;simp only[go_sem,seval];exact⟨_,_,_,_,_,_,_,_,rfl,l1,l2⟩
   rintro ρ' H' ba ⟨rfl,x0,x1,x2,a,b,c,d,x5,rfl,l1,l2⟩ hf;have f2:ρ' 2=.ptr (H.length+1) 1 0:=hf 2 rfl;have f3:ρ' 3=.ptr (H.length+2) 1 0:=hf 3 rfl;have f4:ρ' 4=.ptr (H.length+3) 1 0:=hf 4 rfl;have f5:ρ' 5=.ptr (H.length+4) 1 0:=hf 5 rfl
   match x1,l1,x2,l2 with
   | [u1,u2],_,[v1,v2],_=>
   simp only[go_sem,seval];refine aY (aq:=aF5) rfT rfT ?_;simp only[go_sem,↓aB,seval,aF5,f2,f3,f4,f5,eH,dG,aL,iE,aEP,aNP,aBv,AD,AB,AA,AE];exact⟨_,_,_,_,rfl⟩)
 exact⟨a,b,c,d,h1⟩
theorem aV5(h:Has A g "ac" (aDo g))(h2:Has A g "D" (aEv g))(s t:Shape)(hs:s.points.length<=1000)(ht:t.points.length<=1000)(H:LO):∃r:Bool,aG A (g "D") [.agg (aH s),.agg (aH t)] H=QQ (.bool r,H,[]):=by
 obtain⟨v,H',wr,h1,rfl,rfl,m,rfl⟩:=h2.bp (args:=[.agg (aH s),.agg (aH t)]) (H:=H) (K:=fun v H' wr=>wr=[]/\H'=H/\∃r:Bool,v=.bool r) (by
  obtain⟨a,b,c,d,fo⟩:=aTe h s hs (H++[.gone 0,.gone 0,.gone 0,.gone 0]);obtain⟨a',b',c',d',dp⟩:=aTe h t ht (H++[.box 1 [vi a,vi b],.box 1 [vi c,vi d],.gone 0,.gone 0]);simp only[aEv];simp only[aH]at fo dp ⊢;simp only[go_sem,↓aB,seval,fo,dp,AF,AD,AB,AA,AE];cases e1:decide ((s.points.length:Int)>0)with
  |false=>simp only[go_sem,↓aB,seval,BB];exact⟨_,rfl⟩
  |true=>cases e2:decide ((t.points.length:Int)>0)with
   |false=>simp only[go_sem,↓aB,seval,e2,AF,AD,AB,AA,AE,Zz,BB];exact⟨_,rfl⟩
   |true=>simp only[go_sem,↓aB,seval,e2,AF,AD,AB,AA,AE,Zz];exact⟨_,rfl⟩)
 exact⟨m,h1⟩
end
def rF(g:SN):ag:=.block 2 (.dz (.tmp 24) [25] (qS [qq 6 (.alloc [z0,z0,z0,z0]),qs 4 6 25]<|.block 3 (qS [qla 26 4 5,qla 27 4 6,qc 28 (g "aS") [u 26,u 27]]<|qC 28 (qS [qz (.store 1 (u 4) uF)]<|.ret) (.skip))))
def aAH(g:SN):ag:=.block 0 (.dz (.tmp 21) [22] (qS [qq 5 (.alloc [z0,z0,z0,z0]),qs 4 5 22]<|.block 1 (qS [qla 23 2 3,qc 24 (g "v") [u 23]]<|rF g)))
def aAI(g:SN):bw:=⟨29,[4,22,5,25,6],[.cell 4 1 QT],qS [qx 2 2 0,qx 3 2 1,qq 4 (.alloc [(.bool QT)])]<|.seq (qS [qf 7 0 3,ql 8 1 7,qbi 9 .neq 8 2,qm 10 9,qF 11 10 (of 1 2),qF 12 10 (ol 1 11),qF 13 10 (on 12),qF 14 10 (obi .eql 13 0),qq 15 (.pick (u 10) uT (u 14))]<|qC 15 (qS [qz (.store 1 (u 4) uF)]<|.ret) (.skip))<|.seq (qS [qf 16 1 2,ql 17 1 16,qq 18 (.mkf (g "ad") [] [(.tmp 3)]),qc 19 (g "bm") [u 17,u 18]]<|qC 19 (qS [qz (.store 1 (u 4) uF)]<|.ret) (.skip))<|.seq (qS [qla 20 2 2,qc 21 (g "v") [u 20]]<|aAH g)<|qS [qz (.store 1 (u 4) uT)]<|.ret⟩
def oP(g:SN):bw:=⟨8,[],[.tmp 3],qS [qx 2 2 0,qmc 3 (.bool QT)]<|qS [qla 4 2 2,qla 5 2 1,qc 6 (g "af") [u 4,u 5],qq 7 (.un .not (u 6)),qm 3 7]<|.ret⟩
section
variable {A:af}{g:SN}
theorem aOk{N:Nat}{c:Ctx}{x:aa}{ps:LN}{body:ag}{ρ:bN}{H:LO}{wr:LN}{Q:bf->bN->LO->LN->Prop}{tg:Tg (A,N,c,ag.dz x ps body,Q)}{id f:Nat}{first ay:LA} (hx:x.at ρ=.fn f first ay) (hs:c.site ps.head? = QQ id) (hid:id<H.length) (ht:eZ c H=QS) {v:Nat} {X:LA->LO} (hv:bH H id=v) (hm:∀l,(make H id fun v=>.rnd v c.base c.sites ps body l QT N2)=X l) (h:∀l:LA,l.length=N->ck l=ρ->∃r H2 en b' s' p' cc' r' pend,aG A f (first++.yld id v::ay) (X l)=QQ (r,H2,en) /\ H2[id]? = QQ (.rnd v b' s' p' cc' r' QT pend)/\eZ c H2=QS/\Q (pend.getD .normal) ρ (H2.set id (.gone v)) (bE c.base wr (id::en))):wc A N c (.dz x ps body) ρ H wr Q tg:=by subst hv;unfold wc;rw[wpc];intro l hl he;obtain⟨r,H2,en,b',s',p',cc',r',pend,h1,h2,h4,h3⟩:=h l hl he;rw[<- hm l]at h1;obtain⟨n,hn⟩:=oM h1;refine⟨n+1,pend.getD .normal,⟨l,H2.set id (.gone (bH H id)),bE c.base wr (id::en)⟩, ?_,hl,by grind⟩;rw[iU,aa.ka];grind
theorem aIE{b t:Nat}{l ys:LN}(h:l.contains t=QT)(ht:t<YF)(hy:∀y∈ys,YF<=y):(⟨b,l++ys⟩:Ctx).site (QQ t)=none:=by unfold Ctx.site;grind
abbrev aQ8(g:SN):ag:=qS [qq 6 (.alloc [z0,z0,z0,z0]),qs 4 6 25]<|.block 3 (qS [qla 26 4 5,qla 27 4 6,qc 28 (g "aS") [u 26,u 27]]<|qC 28 (qS [qz (.store 1 (u 4) uF)]<|.ret) (.skip))
def InI(g:SN)(H:LO)(x1:ah)(v5 v2 o1:Nat)(a1 b1 c1 d1:Int)(pend:Option bf)(X:LO):Prop:=∃(x4:ah) (l:LA),X=H++[.box 1 [.bool QT],x1,.box v5 [vi a1,vi b1,vi c1,vi d1],.rnd v2 H.length [4,22,5,25,6,YF+o1,YF+1] [25] (aQ8 g) l QT pend,x4] /\
 l.length=29/\ck l 4=.ptr H.length 1 0/\ck l 5=.ptr (H.length+2) v5 0
theorem aV6(F:PlaneFns A g)(H:LO)(x1:ah)(v5 v2 o1:Nat)(a1 b1 c1 d1:Int):aAv A (H.length+3) v2 H.length (H.length+5) (fun _=>InI g H x1 v5 v2 o1 a1 b1 c1 d1 N2) (InI g H x1 v5 v2 o1 a1 b1 c1 d1 (QQ .ret)):=by
 refine⟨fun i X hX=>?_,fun X hX=>?_,fun i X a b c d hi hX=>?_⟩
 ·obtain⟨x4,l,rfl,_⟩:=hX;simp
 ·obtain⟨x4,l,rfl,_⟩:=hX;simp
 obtain⟨x4,l,rfl,hl,h4,h5⟩:=hX;refine mT F.yf (K:=fun e H' wr=>(if e=.normal then InI g H x1 v5 v2 o1 a1 b1 c1 d1 N2 H' else InI g H x1 v5 v2 o1 a1 b1 c1 d1 (QQ .ret) H')/\∀x∈wr,H.length<=x) (N:=29) (l:=l) (by rw[bX];rfl) rfl bIv bIv hl ?_;have hs:ck (dH l [25] [.agg [vi a,vi b,vi c,vi d]])=upd (ck l) 25 (.agg [vi a,vi b,vi c,vi d]):=nG omT;rw[hs];generalize hρ:ck l=ρ at *;simp only[DO,CW];have fq:∀{w2:LN} {n:Nat},(∀x∈w2,H.length<=x)->∀x∈FM H.length n++(H.length+3)::w2,H.length<=x:=fun {w2 n} h x hx=>by
  grind
 have s28:(⟨H.length,[4,22,5,25,6,YF+o1,YF+1,YF+(H.length+3),YF+v2]⟩:Ctx).site (QQ 28)=none:=aIE (l:=[4,22,5,25,6]) (ys:=[YF+o1,YF+1,YF+(H.length+3),YF+v2]) rfT deT (fun y hy=>by grind);simp only[go_sem,↓aB,seval];refine⟨_,_,_,_,_,rfl, ?_⟩;generalize Gc:H++[ah.box 1 [.bool QT],x1,.box v5 [vi a1,vi b1,vi c1,vi d1],.rnd v2 H.length [4,22,5,25,6,YF+o1,YF+1] [25] (aQ8 g) l QS N2,.box (x4.ver+1) [vi a,vi b,vi c,vi d]]=HH;obtain⟨r1,gj⟩:=aQ1 F a1 b1 c1 d1 a b c d HH;subst Gc;cases r1 with
 |true=>simp only[go_sem,↓aB,seval,h4,h5,s28,gj,AD,AA,AE,AB];exact⟨_,_,_,_,_,rfl,⟨_,l,rfl,hl,by simp_all,by simp_all⟩,fq siT⟩
 |false=>simp only[go_sem,↓aB,seval,h5,s28,gj,AD,AA,AE];exact⟨_,_,_,_,_,rfl,⟨_,l,rfl,hl,by simp_all,by simp_all⟩,fq siT⟩
theorem aJA{b o v:Nat}{l:LN}{X:LO}{b':Nat}{s' p':LN}{c':ag}{r':LA}(h:X[o]? = QQ (.rnd v b' s' p' c' r' QS N2)):eZ ⟨b,l++[YF+o,YF+v]⟩ X=true:=by simp_all [Ctx.rd,YF,List.reverse_append,Zy,EG,Nat.add_sub_cancel_left,eZ]
abbrev aJB(g:SN):ag:=qS [qq 5 (.alloc [z0,z0,z0,z0]),qs 4 5 22]<|.block 1 (qS [qla 23 2 3,qc 24 (g "v") [u 23]]<|rF g)
def aYa(g:SN)(H:LO)(t:Shape)(pend:Option bf)(X:LO):Prop:=∃(x5 x3 x4:ah) (l:LA),X=H++[.box 1 [.bool QT],.rnd 1 H.length [4,22,5,25,6] [22] (aJB g) l QT pend,x5,x3,x4] /\
 l.length=29/\ck l 4=.ptr H.length 1 0/\ck l 3=.ep (aH t) 0
theorem aSc(F:PlaneFns A g)(H:LO)(t:Shape)(ht:t.points.length<=1000):aAv A (H.length+1) 1 H.length (H.length+5) (fun _=>aYa g H t N2) (aYa g H t (QQ .ret)):=by
 refine⟨fun i X hX=>?_,fun X hX=>?_,fun i X a b c d hi hX=>?_⟩
 ·obtain⟨x5,x3,x4,l,rfl,_⟩:=hX;simp
 ·obtain⟨x5,x3,x4,l,rfl,_⟩:=hX;simp
 obtain⟨x5,x3,x4,l,rfl,hl,h4,h3⟩:=hX;refine mT F.yf (K:=fun e H' wr=>(if e=.normal then aYa g H t N2 H' else aYa g H t (QQ .ret) H')/\∀x∈wr,H.length<=x) (N:=29) (l:=l) (by rw[bX];rfl) rfl bIv bIv hl ?_;have hs:ck (dH l [22] [.agg [vi a,vi b,vi c,vi d]])=upd (ck l) 22 (.agg [vi a,vi b,vi c,vi d]):=nG omT;rw[hs];generalize hρ:ck l=ρ at *;simp only[DO,CW];have fq:∀{w2:LN} {n:Nat},(∀x∈w2,H.length<=x)->∀x∈FM H.length n++(H.length+1)::w2,H.length<=x:=fun {w2 n} h x hx=>by
  grind
 have s24:(⟨H.length,[4,22,5,25,6,YF+(H.length+1),YF+1]⟩:Ctx).site (QQ 24)=none:=aIE (l:=[4,22,5,25,6]) (ys:=[YF+(H.length+1),YF+1]) rfT deT (fun y hy=>by grind);have ot:=fun H=>lG F.seg t H;simp only[aH]at ot h3;simp only[go_sem,↓aB,seval];refine⟨_,_,_,_,_,rfl, ?_⟩;simp only[go_sem,↓aB,seval,h3,s24,ot,AD,AA,AE];simp only[rF];simp only[go_sem,seval];refine aOk (id:=H.length+3) (v:=x3.ver+1) (X:=fun l2=>H++[.box 1 [.bool QT],.rnd 1 H.length [4,22,5,25,6] [22] (aJB g) l QS N2,.box (x5.ver+1) [vi a,vi b,vi c,vi d],.rnd (x3.ver+1) H.length [4,22,5,25,6,YF+(H.length+1),YF+1] [25] (aQ8 g) l2 QT N2,x4]) rfT rfT siT (aJA (l:=[4,22,5,25,6]) (by rw[bX];rfl)) (by unfold bH;grind) (fun l=>by rw[sV];rfl) ?_;intro l2 iq V7;obtain⟨H2,en,k1,k2,k3⟩:=wD F.zy (aV6 F H (.rnd 1 H.length [4,22,5,25,6] [22] (aJB g) l QS N2) (x5.ver+1) (x3.ver+1) (H.length+1) a b c d) t.kind t.points ht _ (⟨x4,l2,rfl,iq,by rw[V7];exact h4,by rw[V7];rfl⟩:InI g H _ _ _ _ a b c d N2 _);have hw:bE H.length [] ((H.length+3)::en)=[]:=kH (fun x hx=>by grind);rcases k2 with⟨i,_,x4',l2',rfl,Gd,_⟩ | ⟨x4',l2',rfl,Gd,_⟩
 ·refine⟨_,_,_,_,_,_,_,_,N2,k1,by rw[bX];rfl,aJA (l:=[4,22,5,25,6]) (by rw[bX];rfl), ?_⟩;rw[hw,eS];show pP 2 _ _ .normal _ _ _;simp only[go_sem,seval];exact⟨_,_,_,_,_,rfl,⟨_,_,_,l,rfl,hl,by simp_all,by rw[hρ];simpa only[aH]using h3⟩,fq siT⟩
 refine⟨_,_,_,_,_,_,_,_,QQ .ret,k1,by rw[bX];rfl,aJA (l:=[4,22,5,25,6]) (by rw[bX];rfl), ?_⟩;rw[hw,eS];show pP 2 _ _ .ret _ _ _;simp only[go_sem,seval];exact⟨_,_,_,_,_,rfl,⟨_,_,_,l,rfl,hl,by simp_all,by rw[hρ];simpa only[aH]using h3⟩,fq siT⟩
end
section
variable {A:af}{g:SN}
theorem aYb(F:PlaneFns A g)(hw:Has A g "af" (oY g))(h:Has A g "ad" (oP g))(p:Int×Int)(t:Shape)(ht:t.points.length<=1000)(H:LO):∃r:Bool,aG A (g "ad") [.agg (bL p),.ep (aH t) 0] H=QQ (.bool r,H,[]):=by obtain⟨r,hr⟩:=aQ7 F hw p.1 p.2 t ht H;refine⟨!r,h.call ?_⟩;simp only[oP];simp only[aH,bL]at hr ⊢;simp only[go_sem,↓aB,seval,hr,AD,AA,AE]
theorem aQ9(F:PlaneFns A g)(hw:Has A g "af" (oY g))(hc:aAA A (g "bm") 2 QS)(h1:Has A g "ad" (oP g))(h:Has A g "C" (aAI g))(s t:Shape)(hs:s.points.length<=1000)(ht:t.points.length<=1000)(H:LO):∃r:Bool,aG A (g "C") [.agg (aH s),.agg (aH t)] H=QQ (.bool r,H,[]):=by
 obtain⟨v,H',wr,h1,rfl,rfl,m,rfl⟩:=h.bp (args:=[.agg (aH s),.agg (aH t)]) (H:=H) (K:=fun v H' wr=>wr=[]/\H'=H/\∃r:Bool,v=.bool r) (by
  have po:=fun H=>aBX (H:=H) hc aGu (cQ.ep (aH t) 0) (l:=s.points) (f1:=g "ad") (by show s.points.length<_;omega) (fun p _=>aYb F hw h1 p t ht H);obtain⟨r1,gj⟩:=po (H++[.box 1 [.bool QT],.gone 0,.gone 0,.gone 0,.gone 0]);have ot:=fun H=>lG F.seg s H;simp only[aAI];simp only[aH]at ot gj ⊢;cases e1:(t.kind != 2)with
  |true=>simp only[go_sem,↓aB,seval,e1,CE,AD,AA,AE,AB];exact⟨_,rfl⟩
  |false=>
   cases e2:((s.points.length:Int)==0)with
   |true=>simp only[go_sem,↓aB,seval,e1,e2,AF,Zz,AD,AA,AE,AB];exact⟨_,rfl⟩
   |false=>
    cases r1 with
    |true=>simp only[go_sem,↓aB,seval,e1,e2,gj,AF,Zz,AD,AA,AE,AB];exact⟨_,rfl⟩
    |false=>
     simp only[go_sem,↓aB,seval,e1,e2,gj,ot,AF,Zz,AD,AA,AE,AB];simp only[aAH];simp only[go_sem,seval];refine wC (id:=H.length+1) (v:=1) (X:=fun l=>H++[.box 1 [.bool QT],.rnd 1 H.length [4,22,5,25,6] [22] (aJB g) l QT N2,.gone 0,.gone 0,.gone 0]) rfT rfT siT (fun _=>rfT) (by unfold bH;rw[bX];rfl) (fun l=>by rw[sV];rfl) ?_;intro l hl he;obtain⟨H2,en,k1,k2,k3⟩:=wD F.zy (aSc (g:=g) F H t ht) s.kind s.points hs _ (⟨.gone 0,.gone 0,.gone 0,l,rfl,hl,by rw[he];rfl,by rw[he];rfl⟩:aYa g H t N2 _);have hw:bE H.length [] ((H.length+1)::en)=[]:=kH (fun x hx=>by rcases BD.1 hx with rfl | hx;exact EG _ _;exact k3 x hx);rcases k2 with⟨i,hi,x5,x3,x4,l2,rfl,iq,_⟩ | ⟨x5,x3,x4,l2,rfl,iq,_⟩
     ·refine⟨_,_,_,_,_,_,_,_,N2,k1,by rw[bX];rfl, ?_⟩;rw[hw,eS];show pP 0 _ _ .normal _ _ _;simp only[go_sem,↓aB,seval,AD,AA,AE];exact⟨_,rfl⟩
     refine⟨_,_,_,_,_,_,_,_,QQ .ret,k1,by rw[bX];rfl, ?_⟩;rw[hw,eS];show pP 0 _ _ .ret _ _ _;simp only[go_sem,↓aB,seval,AD,AA,AE];exact⟨_,rfl⟩)
 exact⟨m,h1⟩
end
def yQ(g:SN):bw:=⟨21,[1],[.tmp 2],qS [qx 1 4 0,qmc 2 (.bool QT)]<|qS [qf 3 0 1,ql 4 1 3,qc 5 (g "d") [u 4,ui 0,ui 6],qm 6 5,qT 7 6 (of 1 1),qT 8 6 (ol 1 7),qT 9 6 (oc (g "d") [u 8,ui 0,ui 7]),qp 10 6 9,qm 11 10,qT 12 11 (of 2 1),qT 13 11 (ol 1 12),qT 14 11 (oc (g "d") [u 13,ui 0,ui 99]),qp 15 11 14,qm 16 15,qT 17 16 (of 3 1),qT 18 16 (ol 1 17),qT 19 16 (oc (g "d") [u 18,ui 0,ui 99]),qp 20 16 19,qm 2 20]<|.ret⟩
def jI(g:SN):bw:=⟨5,[],[.tmp 2],qS [qmc 2 (.bool QT)]<|qS [qm 3 0,qc 4 (g "d") [u 3,ui 0,ui 7],qm 2 4]<|.ret⟩
abbrev aBz(g:SN):List ae:=[qf 3 0 1,⟨QQ 4,ol 1 3,N2,[0]⟩,⟨QQ 5,oc (g "d") [u 4,ui 0,ui 2],N2,[1,0]⟩,⟨QQ 6,om 5,N2,[2,1,0]⟩,⟨QQ 7,of 1 1,QQ (QQ 6,QS),yq3⟩,⟨QQ 8,ol 1 7,QQ (QQ 6,QS),yq4⟩,⟨QQ 9,oc (g "aZ") [u 8],QQ (QQ 6,QS),yq5⟩,⟨QQ 10,op 6 9,N2,yq6⟩,⟨QQ 11,om 10,N2,yq7⟩,⟨QQ 12,of 2 1,QQ (QQ 11,QS),yq8⟩,⟨QQ 13,ol 1 12,QQ (QQ 11,QS),yq9⟩,⟨QQ 14,on 13,QQ (QQ 11,QS),bBZ⟩,⟨QQ 15,of 6 1,QQ (QQ 11,QS),yq8⟩,⟨QQ 16,ol 1 15,QQ (QQ 11,QS),12::yq8⟩,⟨QQ 17,on 16,QQ (QQ 11,QS),13::12::yq8⟩,⟨QQ 18,ob .eql 14 17,QQ (QQ 11,QS),11::10::9::14::13::12::yq8⟩,⟨QQ 19,op 11 18,N2,15::11::10::9::14::13::12::yq8⟩,⟨QQ 20,om 19,N2,16::15::11::10::9::14::13::12::yq8⟩,⟨QQ 21,of 2 1,QQ (QQ 20,QS),17::16::15::11::10::9::14::13::12::yq8⟩,⟨QQ 22,ol 1 21,QQ (QQ 20,QS),18::17::16::15::11::10::9::14::13::12::yq8⟩,⟨QQ 23,oc (g "S") [ui 1,ui 40],QQ (QQ 20,QS),17::16::15::11::10::9::14::13::12::yq8⟩,⟨QQ 24,oc (g "ag") [u 22,ui 0,ui 6,u 23],QQ (QQ 20,QS),19::18::20::17::16::15::11::10::9::14::13::12::yq8⟩,⟨QQ 25,op 20 24,N2,21::19::18::20::17::16::15::11::10::9::14::13::12::yq8⟩,⟨QQ 26,om 25,N2,22::21::19::18::20::17::16::15::11::10::9::14::13::12::yq8⟩,⟨QQ 27,of 6 1,QQ (QQ 26,QS),23::22::21::19::18::20::17::16::15::11::10::9::14::13::12::yq8⟩,⟨QQ 28,ol 1 27,QQ (QQ 26,QS),24::23::22::21::19::18::20::17::16::15::11::10::9::14::13::12::yq8⟩,⟨QQ 29,oc (g "S") [ui 0,ui 60],QQ (QQ 26,QS),23::22::21::19::18::20::17::16::15::11::10::9::14::13::12::yq8⟩,⟨QQ 30,oc (g "ag") [u 28,ui 0,ui 6,u 29],QQ (QQ 26,QS),25::24::26::23::22::21::19::18::20::17::16::15::11::10::9::14::13::12::yq8⟩,⟨QQ 31,op 26 30,N2,27::25::24::26::23::22::21::19::18::20::17::16::15::11::10::9::14::13::12::yq8⟩,⟨QQ 32,om 31,N2,28::27::25::24::26::23::22::21::19::18::20::17::16::15::11::10::9::14::13::12::yq8⟩,⟨QQ 33,of 3 1,QQ (QQ 32,QS),29::28::27::25::24::26::23::22::21::19::18::20::17::16::15::11::10::9::14::13::12::yq8⟩,⟨QQ 34,ol 1 33,QQ (QQ 32,QS),30::29::28::27::25::24::26::23::22::21::19::18::20::17::16::15::11::10::9::14::13::12::yq8⟩,⟨QQ 35,oc (g "cE") [u 34,ui 0,ui 8,uf (g "ai")],QQ (QQ 32,QS),31::30::29::28::27::25::24::26::23::22::21::19::18::20::17::16::15::11::10::9::14::13::12::yq8⟩,⟨QQ 36,op 32 35,N2,32::31::30::29::28::27::25::24::26::23::22::21::19::18::20::17::16::15::11::10::9::14::13::12::yq8⟩,⟨QQ 37,om 36,N2,33::32::31::30::29::28::27::25::24::26::23::22::21::19::18::20::17::16::15::11::10::9::14::13::12::yq8⟩,⟨QQ 38,of 4 1,QQ (QQ 37,QS),34::33::32::31::30::29::28::27::25::24::26::23::22::21::19::18::20::17::16::15::11::10::9::14::13::12::yq8⟩,⟨QQ 39,ol 1 38,QQ (QQ 37,QS),35::34::33::32::31::30::29::28::27::25::24::26::23::22::21::19::18::20::17::16::15::11::10::9::14::13::12::yq8⟩,⟨QQ 40,oc (g "R") [u 39,ui 0,ui 40],QQ (QQ 37,QS),36::35::34::33::32::31::30::29::28::27::25::24::26::23::22::21::19::18::20::17::16::15::11::10::9::14::13::12::yq8⟩,⟨QQ 41,op 37 40,N2,37::36::35::34::33::32::31::30::29::28::27::25::24::26::23::22::21::19::18::20::17::16::15::11::10::9::14::13::12::yq8⟩,⟨QQ 42,om 41,N2,38::37::36::35::34::33::32::31::30::29::28::27::25::24::26::23::22::21::19::18::20::17::16::15::11::10::9::14::13::12::yq8⟩,⟨QQ 43,of 5 1,QQ (QQ 42,QS),39::38::37::36::35::34::33::32::31::30::29::28::27::25::24::26::23::22::21::19::18::20::17::16::15::11::10::9::14::13::12::yq8⟩,⟨QQ 44,ol 1 43,QQ (QQ 42,QS),40::39::38::37::36::35::34::33::32::31::30::29::28::27::25::24::26::23::22::21::19::18::20::17::16::15::11::10::9::14::13::12::yq8⟩,⟨QQ 45,oc (g "d") [u 44,ui 0,ui 100],QQ (QQ 42,QS),41::40::39::38::37::36::35::34::33::32::31::30::29::28::27::25::24::26::23::22::21::19::18::20::17::16::15::11::10::9::14::13::12::yq8⟩,⟨QQ 46,op 42 45,N2,42::41::40::39::38::37::36::35::34::33::32::31::30::29::28::27::25::24::26::23::22::21::19::18::20::17::16::15::11::10::9::14::13::12::yq8⟩,⟨QQ 2,om 46,N2,43::42::41::40::39::38::37::36::35::34::33::32::31::30::29::28::27::25::24::26::23::22::21::19::18::20::17::16::15::11::10::9::14::13::12::yq8⟩]
abbrev cL:LN:=[19,20,25,26]
def oH(g:SN):bw:=⟨47,[1],[.tmp 2],qS [qx 1 7 0,qmc 2 (.bool QT)]<|.seq (.region QS (aBz g))<|.ret⟩
def aHJ(f:Fact):Bool:=wi f.kind 0 6&&wi f.block 0 7&&wi f.a 0 99&&wi f.b 0 99
def aOl(n:Int):Bool:=wi n 0 7
def aWp(q:Question):Bool:=wi q.kind 0 2&&aGx q.lk&&((q.options.length:Int)==(q.dv.length:Int))&&(wi q.options.length 0 6&&q.options.all (vP 1 40)) &&
 (wi q.dv.length 0 6&&q.dv.all (vP 0 60))&&(wi q.cy.length 0 8&&q.cy.all aOl)&&vP 0 40 q.key&&wi q.points 0 100
noncomputable def aGU(x:Item):Bool:=aO7 x.name&&(wi x.blocks.length 0 8&&x.blocks.all dQ)&&(wi x.facts.length 0 8&&x.facts.all aHJ)&&(wi x.ask.length 0 4&&x.ask.all aWp)
section
variable {A:af}{g:SN}{tB:Nat}
theorem aMe(h:Has A g "aW" (yQ g))(hw:eO A g)(f:Fact)(H:LO):aG A (g "aW") [.agg (aI f)] H=QQ (.bool (aHJ f),H,[]):=by
 refine h.call ?_;simp only[yQ,aHJ];have h1:=fun H=>hw f.kind 0 6 H;have h2:=fun H=>hw f.block 0 7 H;have h3:=fun H=>hw f.a 0 99 H;have h4:=fun H=>hw f.b 0 99 H;cases e1:wi f.kind 0 6 with
 |false=>simp only[go_sem,↓aB,seval,aI,h1,e1,BQ,BB]
 |true=>cases e2:wi f.block 0 7 with
  |false=>simp only[go_sem,↓aB,seval,aI,h1,h2,e1,e2,BQ,BR,Zz,BB]
  |true=>cases e3:wi f.a 0 99 with
   |false=>simp only[go_sem,↓aB,seval,aI,h1,h2,h3,e1,e2,e3,BQ,BR,Zz,BB]
   |true=>simp only[go_sem,↓aB,seval,aI,h1,h2,h3,h4,e1,e2,e3,BR,Zz]
theorem aQa(h:Has A g "ai" (jI g))(hw:eO A g)(n:Int)(H:LO):aG A (g "ai") [vi n] H=QQ (.bool (aOl n),H,[]):=by refine h.call ?_;have hw:=hw n 0 7;simp only[jI,aOl];simp only[go_sem,↓aB,seval,hw]
theorem aGV(h:Has A g "aY" (oH g))(h1:Has A g "ai" (jI g))(hB:kb A g)(q:Question)(hq:q.Ok)(H:LO):aG A (g "aY") [.agg (gR q)] H=QQ (.bool (aWp q),H,[]):=by
 refine h.call ?_;have hw:=kO hB.within;have ht:=qW hB.text hB.wg hB.sj hw;have tx:∀{s:Str},lI s->s.length<=1000000:=fun h=>by grind
 have k1:=fun H=>hw q.kind 0 2 H;have k2:=fun H=>aGy hB.runs hB.L8 hB.Q8 hw ht q.lk (by have:=hq.fg;omega) (fun r hr=>tx (hq.lk r hr).text) H;have k4:=fun H=>aBj hB q.options hq.Q3 (fun s hs=>tx (hq.options s hs)) 1 40 0 6 H;have k5:=fun H=>aBj hB q.dv hq.vw (fun s hs=>tx (hq.dv s hs)) 0 60 0 6 H;have k6:=fun H=>hB.allI.spec hw aLX cQ (l:=q.cy) (H:=H) (f1:=g "ai") (q:=aOl) (lo:=0) (hi:=8) (by have:=hq.Q4;grind) fun _ n _=>aQa h1 hw n H;have k7:=fun H=>ht q.key 0 40 H (tx hq.key);have k8:=fun H=>hw q.points 0 100 H;have u1:=fun H=>aDb hB.Sb 1 40 H;have u2:=fun H=>aDb hB.Sb 0 60 H;simp only[oH,aWp];simp only[go_sem,↓aB,seval,gR];refine aY (aq:=cL) rfT rfT ?_;cases e1:wi q.kind 0 2 with
 |false=>simp only[go_sem,↓aB,seval,cL,k1,e1,BQ,BB]
 |true=>cases e2:aGx q.lk with
  |false=>simp only[go_sem,↓aB,seval,cL,k1,k2,e1,e2,BQ,BR,Zz,BB]
  |true=>cases e3:((q.options.length:Int)==(q.dv.length:Int))with
   |false=>simp only[go_sem,↓aB,seval,cL,k1,k2,e1,e2,e3,AF,BQ,BR,Zz,BB]
   |true=>cases e4:(wi q.options.length 0 6&&q.options.all (vP 1 40))with
    |false=>simp only[go_sem,↓aB,seval,cL,k1,k2,k4,u1,e1,e2,e3,e4,AF,BQ,BR,Zz,BB,eH,dG,aL]
    |true=>cases e5:(wi q.dv.length 0 6&&q.dv.all (vP 0 60))with
     |false=>simp only[go_sem,↓aB,seval,cL,k1,k2,k4,k5,u1,u2,e1,e2,e3,e4,e5,AF,BQ,BR,Zz,BB,eH,dG,aL]
     |true=>cases e6:(wi q.cy.length 0 8&&q.cy.all aOl)with
      |false=>simp only[go_sem,↓aB,seval,cL,k1,k2,k4,k5,k6,u1,u2,e1,e2,e3,e4,e5,e6,AF,BQ,BR,Zz,BB,eH,dG,aL]
      |true=>cases e7:vP 0 40 q.key with
       |false=>simp only[go_sem,↓aB,seval,cL,k1,k2,k4,k5,k6,k7,u1,u2,e1,e2,e3,e4,e5,e6,e7,AF,BQ,BR,Zz,BB,eH,dG,aL]
       |true=>simp only[go_sem,↓aB,seval,cL,k1,k2,k4,k5,k6,k7,k8,u1,u2,e1,e2,e3,e4,e5,e6,e7,AF,BR,Zz,eH,dG,aL]
end
abbrev aFq(g:SN):ag:=qS [qb 12 .lss 11 10]<|.seq (qC 12 (.skip) (.exit 2))<|.seq (.block 3 (qS [qm 13 11,qm 5 13]<|qS [qm 14 0,qm 15 4,qm 16 5,qq 17 (.dm (u 14) [(.tmp 15),(.tmp 16)]),qq 18 (.un .not (u 17))]<|qC 18 (.ret) (.skip)))<|.region QT [qbi 19 .add 11 1,qm 11 19]
abbrev aFr(g:SN):ag:=qS [qb 8 .lss 7 6]<|.seq (qC 8 (.skip) (.exit 0))<|.seq (.block 1 (qS [qm 9 7,qm 4 9]<|qS [ql 10 1 2,qmc 11 z0]<|.block 2 (.loop (aFq g))))<|.region QT [qbi 20 .add 7 1,qm 7 20]
def yR(g:SN):bw:=⟨21,[],[],qS [ql 6 1 1,qmc 7 z0]<|.block 0 (.loop (aFr g))⟩
abbrev aDp(g:SN):ag:=qS [qb 19 .lss 18 17]<|.seq (qC 19 (.skip) (.exit 2))<|.seq (.block 3 (qS [qm 20 18,qi 21 16 18 2,qla 22 2 21,qq 6 (.alloc [z0,(.sl QS [])]),qm 5 20,qs 2 6 22]<|qS [qm 23 4,qm 24 5,qb 25 .neq 23 24,qm 26 25,qT 27 26 (ol 1 2),qT 28 26 (obi .neq 27 2),qT 29 26 (om 28),qF 30 29 (of 0 6),qF 31 29 (ol 1 30),qF 32 29 (obi .eql 31 2),qT 33 26 (.pick (u 29) uT (u 32)),qp 34 26 33,qm 35 34,qT 36 35 (om 0),qT 37 35 (om 4),qT 38 35 (om 5),qT 39 35 (.dm (u 36) [(.tmp 37),(.tmp 38)]),qT 40 35 (.un .not (u 39)),qp 41 35 40]<|qC 41 (.ret) (.skip)))<|.region QT [qbi 42 .add 18 1,qm 18 42]
abbrev aDq(g:SN):ag:=qS [qb 12 .lss 11 10]<|.seq (qC 12 (.skip) (.exit 0))<|.seq (.block 1 (qS [qm 13 11,qm 4 13]<|qS [qf 14 8 1,qf 15 2 14,ql 16 1 15,qn 17 16,qmc 18 z0]<|.block 2 (.loop (aDp g))))<|.region QT [qbi 43 .add 11 1,qm 11 43]
def rG(g:SN):bw:=⟨44,[6],[],qS [qf 7 8 1,qf 8 2 7,ql 9 1 8,qn 10 9,qmc 11 z0]<|.block 0 (.loop (aDq g))⟩
def aGW(g:SN):bw:=⟨6,[],[.tmp 4],qS [qx 2 1 0,qx 3 1 1,qmc 4 .bx]<|qS [qq 5 (.mkf (g "G") [] [(.tmp 2),(.tmp 3)]),qm 4 5]<|.ret⟩
def aDr(g:SN):bw:=⟨6,[],[.tmp 4],qS [qx 2 13 0,qx 3 1 1,qmc 4 .bx]<|qS [qq 5 (.mkf (g "bi") [] [(.tmp 2),(.tmp 3)]),qm 4 5]<|.ret⟩
abbrev aEw:=List (Nat×Nat)
theorem aMf{base:Nat}{v:AV}{H:LO}{wr:LN}:cJ base (v,H,wr)=(v,H.take base,wr)∨cJ base (v,H,wr)=(v,H,wr):=by unfold cJ;grind
section
variable {A:af}{g:SN}
structure ux(A:af)(o v base n:Nat)(I:aEw->LO->Prop):Prop where
 len:∀p H,I p H->H.length=n
 go:∀p H X (a b:Nat),p.length<10000->a<1000->b<1000->I p H->∃(H':LO) (wr:LN),aG A YF [.own 0 [],.yld o v,vi a,vi b] (H++X)=QQ (.bool QS,H'++X,wr)/\I (p++[(a,b)]) H'/\∀x∈wr,base<=x
def aV7(A:af)(f:Nat)(ay:LA)(L:aEw):Prop:=∀(o v base n:Nat) (I:aEw->LO->Prop) (H:LO),ux A o v base n I->I [] H ->
 ∃H' X wr,aG A f (.yld o v::ay) H=QQ (.tup [],H'++X,wr)/\I L H'/\∀x∈wr,base<=x
theorem aGX{o v base n:Nat}{I:aEw->LO->Prop}(hR:ux A o v base n I){p:aEw}{H X:LO}{a b:Nat}(hp:p.length<10000)(ha:a<1000)(hb:b<1000)(hI:I p H){site:Option Nat}{k:AV×LO×LN->Prop}{tg} (hk:∀H' wr,I (p++[(a,b)]) H'->(∀x∈wr,base<=x)->H'.length=H.length->k (.bool QS,H'++X,wr)):aCi (cX (aG A) (H++X) site (.yld o v) [vi a,vi b]) k tg:=by
 obtain⟨H',wr,h1,h2,h3⟩:=hR.go p H X a b hp ha hb hI;have he:cX (aG A) (H++X) site (.yld o v) [vi a,vi b]=QQ (.bool QS,H'++X,wr):=by rw[aGL];have:kA (H++X) [vi a,vi b]=QQ ([vi a,vi b],[]):=rfl;rw[this];dsimp only;have e2:([vi a,vi b]:LA).map AV.strip=[vi a,vi b]:=rfl;rw[e2,show dL (H++X) []=H++X from rfl,h1];rfl
 rw[he];exact hk H' wr h2 h3 ((hR.len _ _ h2).trans (hR.len _ _ hI).symm)
theorem aOm{o v base n:Nat}{I:aEw->LO->Prop}(hR:ux A o v base n I){p:aEw}{H:LO}{a b:Nat}(hp:p.length<10000)(ha:a<1000)(hb:b<1000)(hI:I p H){site:Option Nat}{k:AV×LO×LN->Prop}{tg} (hk:∀H' wr,I (p++[(a,b)]) H'->(∀x∈wr,base<=x)->H'.length=H.length->k (.bool QS,H',wr)):aCi (cX (aG A) H site (.yld o v) [vi a,vi b]) k tg:=by have:=aGX (X:=[]) hR hp ha hb hI (site:=site) (k:=k) (tg:=tg) (fun H' wr h1 h2 h3=>by grind);grind
def aMg(i m:Nat):aEw:=(GZ m).map fun k=>(i,k)
def qA(n m:Nat):aEw:=(GZ n).flatMap fun i=>aMg i m
theorem aL4{i m:Nat}:aMg i (m+1)=aMg i m++[(i,m)]:=by unfold aMg;rw[LQ,DQ];rfl
theorem aEx{n m:Nat}:qA (n+1) m=qA n m++aMg n m:=by unfold qA;rw[LQ,JK];simp
theorem aJC{i m:Nat}:(aMg i m).length=m:=by simp[aMg]
theorem rH{n m:Nat}:(qA n m).length=n*m:=by
 induction n with
 |zero=>simp[qA]
 |succ n ih=>rw[aEx,BA,ih,aJC,JS]
theorem aNh{i m a b:Nat}:(a,b)∈aMg i m↔a=i/\b<m:=by unfold aMg;grind
theorem aDs{n m a b:Nat}:(a,b)∈qA n m↔a<n/\b<m:=by
 unfold qA;rw[IM];constructor
 ·rintro⟨i,hi,h⟩;obtain⟨rfl,h2⟩:=aNh.1 h;grind
 rintro⟨h1,h2⟩;exact⟨a,HE.2 h1,aNh.2 ⟨rfl,h2⟩⟩
theorem aDt(h:Has A g "G" (yR g)){n m:Nat}(hn:n<=64)(hm:m<=64):aV7 A (g "G") [.ep [vi n] 0,.ep [vi m] 0] (qA n m):=by
 intro o v base N I H hR hI;have ax:H.length=N:=hR.len _ _ hI;obtain⟨v',H',ba,h1,rfl,h2,h3⟩:=h.bp (args:=[.yld o v,.ep [vi n] 0,.ep [vi m] 0]) (H:=H) (K:=fun v H' wr=>v=.tup []/\I (qA n m) H'/\∀x∈wr,base<=x) (by
  simp only[yR];simp only[go_sem,↓aB,seval,AJ,AD,AA,AE];refine bJ (id:=0) (fun i ρ1 H1 wr=>ρ1 7=vi (i:Nat)/\I (qA i m) H1/\∀x∈wr,base<=x) n (fun ρ1 H1 wr=>I (qA n m) H1/\∀x∈wr,base<=x)
   bIv rfl ⟨rfl,hI,fun x hx=>by cases hx⟩ ?_ ?_
  ·rintro i ρ1 H1 dc mg ⟨e7,yy,dy⟩ hf;have f6:ρ1 6=vi (n:Nat):=hf 6 rfl;have f0:ρ1 0=.yld o v:=hf 0 rfl;have f2:ρ1 2=.ep [vi m] 0:=hf 2 rfl;simp only[go_sem,↓aB,seval,e7,f6];refine aD (fun e3=>?_) (fun e3=>?_)
   ·have hlt:i<n:=by grind
    have hw:=wS (i:=i) omT;have V4:i*m<=64*64:=JL omT hm;simp only[go_sem,↓aB,seval,e7,f2,AD,AA,AE];refine bJ (id:=2) (fun j ρ2 H2 wr=>ρ2 11=vi (j:Nat)/\I (qA i m++aMg i j) H2/\∀x∈wr,base<=x) m (fun ρ2 H2 wr=>I (qA (i+1) m) H2/\∀x∈wr,base<=x)
     bIv rfl ⟨rfl,by simpa [aMg]using yy,dy⟩ ?_ ?_
    ·rintro j ρ2 H2 en mo ⟨e11,I6,gn⟩ cq;have k10:ρ2 10=vi (m:Nat):=cq 10 rfl;have k0:ρ2 0=.yld o v:=(cq 0 rfl).trans f0;have k4:ρ2 4=vi (i:Nat):=cq 4 rfl;simp only[go_sem,↓aB,seval,e11,k10];refine aD (fun e4=>?_) (fun e4=>?_)
     ·have jlt:j<m:=by grind
      have tv:=wS (i:=j) omT;simp only[go_sem,↓aB,seval,e11,k0,k4];refine aOm hR (p:=qA i m++aMg i j) (by rw[BA,rH,aJC];omega) omT omT I6 ?_;rintro H3 wr3 I7 pr yz;simp only[go_sem,↓aB,seval,tv,e11];grind [aL4,CJ,rB]
     have:j=m:=by grind
     subst this;simp only[go_sem,seval];rw[aEx];grind
    rintro ρ3 H3 wr3 ⟨I7,pr⟩ im;have e7':ρ3 7=vi (i:Nat):=(im 7 rfl).trans e7;simp only[go_sem,↓aB,seval,e7',hw];grind
   have:i=n:=by grind
   subst this;simp only[go_sem,seval];grind
  rintro ρ' H' ba ⟨W0,tv⟩ hf;simp only[go_sem,↓aB,seval];rw[jG (by have:=hR.len _ _ W0;omega)];grind)
 exact⟨H',[],ba,by grind,h2,h3⟩
def aGY(l:List Shape)(kind:Int)(i k:Nat):Bool:=((i:Int) != (k:Int))&&((kind != 2) || (((l[k]?).map Shape.kind).getD 0==2))
def tD(l:List Shape)(kind:Int)(i m:Nat):aEw:=(aMg i m).filter fun p=>aGY l kind p.1 p.2
def iI(l:List Shape)(kind:Int)(n m:Nat):aEw:=(qA n m).filter fun p=>aGY l kind p.1 p.2
theorem aGZ{l:List Shape}{kind:Int}{i m:Nat}:tD l kind i (m+1)=tD l kind i m++(if aGY l kind i m then [(i,m)] else []):=by grind [tD,aL4,aGY]
theorem aL5{l:List Shape}{kind:Int}{n m:Nat}:iI l kind (n+1) m=iI l kind n m++tD l kind n m:=by unfold iI tD;rw[aEx,List.filter_append]
theorem aV8{l:List Shape}{kind:Int}{n m i j:Nat}:(iI l kind n m++tD l kind i j).length<=n*m+j:=by rw[BA];have h1:=MJ (fun p:Nat×Nat=>aGY l kind p.1 p.2) (qA n m);grind [MJ,aGY,aMg,rH,aJC,iI,tD]
theorem aCw(h:Has A g "bi" (rG g))(b:Block)(kind:Int)(hl:b.aw.length<=64):aV7 A (g "bi") [.ep (aE b) 0,.ep [vi kind] 0] (iI b.aw kind b.aw.length b.aw.length):=by
 intro o v base N I H hR hI;have ax:H.length=N:=hR.len _ _ hI;obtain⟨c0,c1,c2,c3,c4,c5,c6,c7,c11,c12,ig⟩:∃c0 c1 c2 c3 c4 c5 c6 c7 c11 c12,aE b=[c0,c1,c2,c3,c4,c5,c6,c7,vi b.w,vi b.h,.sl QT (b.aw.map aH),c11,c12]:=by obtain⟨_,_,⟨_,_,_⟩,_,_,_,_,_,_,_,_⟩:=b;exact⟨_,_,_,_,_,_,_,_,_,_,rfl⟩
 have E3:(b.aw.map aH).length=b.aw.length:=AF ..;obtain⟨v',H',ba,h1,rfl,h2,h3⟩:=h.bp (args:=[.yld o v,.ep (aE b) 0,.ep [vi kind] 0]) (H:=H) (K:=fun v H' wr=>v=.tup []/\(∃H0 X,H'=H0++X/\I (iI b.aw kind b.aw.length b.aw.length) H0)/\∀x∈wr,base<=x) (by
  rw[ig];simp only[rG];simp only[go_sem,↓aB,seval,AB,AD,AA,AE,BC,E3];generalize Dl:b.aw=l at *;refine bJ (id:=0) (fun i ρ1 H1 wr=>ρ1 11=vi (i:Nat)/\(∃H0 x,H1=H0++[x]/\I (iI l kind i l.length) H0)/\∀x∈wr,base<=x) l.length (fun ρ1 H1 wr=>(∃H0 x,H1=H0++[x]/\I (iI l kind l.length l.length) H0)/\∀x∈wr,base<=x)
   bIv rfl ⟨rfl,⟨H,_,rfl,hI⟩,fun x hx=>by cases hx⟩ ?_ ?_
  ·rintro i ρ1 H1 dc mg ⟨e7,⟨H0,x0,rfl,yy⟩,dy⟩ hf;have f10:ρ1 10=vi (l.length:Nat):=hf 10 rfl;have f0:ρ1 0=.yld o v:=hf 0 rfl;have f1:ρ1 1=.ep [c0,c1,c2,c3,c4,c5,c6,c7,vi b.w,vi b.h,.sl QT (l.map aH),c11,c12] 0:=hf 1 rfl;have f2:ρ1 2=.ep [vi kind] 0:=hf 2 rfl;simp only[go_sem,↓aB,seval,e7,f10];refine aD (fun e3=>?_) (fun e3=>?_)
   ·have hlt:i<l.length:=by grind
    have hw:=wS (i:=i) omT;have V4:i*l.length<=64*64:=JL omT hl;simp only[go_sem,↓aB,seval,e7,f1,AB,AD,AA,AE,BC,E3];refine bJ (id:=2) (fun j ρ2 H2 wr=>ρ2 18=vi (j:Nat)/\(∃H0 x,H2=H0++[x]/\I (iI l kind i l.length++tD l kind i j) H0)/\∀x∈wr,base<=x) l.length (fun ρ2 H2 wr=>(∃H0 x,H2=H0++[x]/\I (iI l kind (i+1) l.length) H0)/\∀x∈wr,base<=x)
     bIv rfl ⟨rfl,⟨H0,x0,rfl,by simpa [tD,aMg]using yy⟩,dy⟩ ?_ ?_
    ·rintro j ρ2 H2 en mo ⟨e11,⟨H0',x1,rfl,I6⟩,gn⟩ cq;have k10:ρ2 17=vi (l.length:Nat):=cq 17 rfl;have k16:ρ2 16=.sl QT (l.map aH):=cq 16 rfl;have k0:ρ2 0=.yld o v:=(cq 0 rfl).trans f0;have k2:ρ2 2=.ep [vi kind] 0:=(cq 2 rfl).trans f2;have k4:ρ2 4=vi (i:Nat):=cq 4 rfl;simp only[go_sem,↓aB,seval,e11,k10];refine aD (fun e4=>?_) (fun e4=>?_)
     ·have jlt:j<l.length:=by grind
      have tv:=wS (i:=j) omT;have fh:=mgE aH jlt;have V2:H0'.length=H.length:=(hR.len _ _ I6).trans ax.symm;have g1:∀y:ah,(H0'++[y])[H.length]? = QQ y:=fun y=>by simp_all
      have g2:∀y z:ah,(H0'++[y]).set H.length z=H0'++[z]:=fun y z=>by simp_all
      have g3:∀(y:ah) (mk:Nat->ah),make (H0'++[y]) H.length mk=H0'++[mk (y.ver+1)]:=fun y mk=>by unfold make;grind
      have g4:∀y:ah,bH (H0'++[y]) H.length=y.ver+1:=fun y=>by unfold bH;rw[g1];rfl
      have g5:H.length<H0'.length+1:=omT;have hok:aGY l kind i j=(((i:Int) != (j:Int))&&((kind != 2) || (l[j].kind==2))):=by unfold aGY;grind
      have Qk:(iI l kind i l.length++tD l kind i j).length<10000:=by grind [aV8]
      have tp:aGY l kind i j=QT->tD l kind i (j+1)=tD l kind i j:=fun h=>by rw[aGZ,h];simp
      have Be:aGY l kind i j=QS->iI l kind i l.length++tD l kind i (j+1)=iI l kind i l.length++tD l kind i j++[(i,j)]:=fun h=>by rw[aGZ,h];simp
      cases e5:((i:Int) != (j:Int))with
      |false=>simp only[go_sem,↓aB,seval,e5,tv,e11,k16,k4,AU,AT,jlt,fh,aH,g1,g2,g5,AB,AD,AA,AE,BB];grind
      |true=>cases e6:(kind != 2)with
       |true=>simp only[go_sem,↓aB,seval,e5,e6,e11,k16,k4,k2,k0,AU,AT,jlt,fh,aH,g1,g2,g5,AB,AD,AA,AE,Zz,CE];refine aGX hR Qk (by grind) omT I6 ?_;rintro H3 wr3 I7 pr yz;simp only[go_sem,↓aB,seval,tv,e11,Zz];exact⟨jlt,⟨H3,_,rfl,by grind⟩,rB gn pr⟩
       |false=>cases e7:(l[j].kind==2)with
        |true=>simp only[go_sem,↓aB,seval,e5,e6,e7,e11,k16,k4,k2,k0,AU,AT,jlt,fh,aH,g1,g2,g5,AB,AD,AA,AE,Zz];refine aGX hR Qk omT omT I6 ?_;rintro H3 wr3 I7 pr yz;simp only[go_sem,↓aB,seval,tv,e11,Zz];exact⟨jlt,⟨H3,_,rfl,by grind⟩,rB gn pr⟩
        |false=>simp only[go_sem,↓aB,seval,e5,e6,e7,tv,e11,k16,k4,k2,AU,AT,jlt,fh,aH,g1,g2,g5,AB,AD,AA,AE,Zz,BB];grind
     have:j=l.length:=by grind
     subst this;simp only[go_sem,seval];rw[aL5];grind
    rintro ρ3 H3 wr3 ⟨⟨H0',x1,rfl,I7⟩,pr⟩ im;have e7':ρ3 11=vi (i:Nat):=(im 11 rfl).trans e7;simp only[go_sem,↓aB,seval,e7',hw];grind
   have:i=l.length:=by grind
   subst this;simp only[go_sem,seval];grind
  rintro ρ' H' ba ⟨⟨H0,x0,rfl,W0⟩,tv⟩ hf;have V2:H0.length=H.length:=(hR.len _ _ W0).trans ax.symm;simp only[go_sem,↓aB,seval];rcases aMf (base:=H.length) (v:=AV.tup []) (H:=H0++[x0]) (wr:=ba)with e | e
  ·rw[e,<- V2,List.take_left];exact⟨rfl,⟨H0,[],by rw[AJ],W0⟩,tv⟩
  grind)
 grind
end
def aAJ(g:SN):ag:=.block 0 (qS [qbi 16 .eql 14 1,qm 15 16]<|qC 15 (qS [qf 17 2 1,qla 18 3 17,qc 19 (g "aP") [u 18],qm 2 19]<|.ret) (qS [qbi 21 .eql 14 4,qm 20 21]<|qC 20 (qS [qf 22 8 1,qla 23 3 22,qc 24 (g "k") [u 23],qm 2 24]<|.ret) (.skip)))
def tE(g:SN):bw:=⟨25,[],[.tmp 2],qS [qx 1 13 0,qmc 2 z0]<|.seq (qS [qla 4 13 1,qq 5 (.bsl 13 [z0,(.sl QT []),z0,z0,(.sl QT []),z0,(.sl QT []),(.sl QT []),z0,z0,(.sl QT []),(.sl QT []),(.sl QT [])] 1 [(0,(.tmp 4))]),qq 6 (.build [(.str []),(.sl QS []),(.sl QS []),(.sl QS [])] [(0,1,(.const (.str [97]))),(1,1,(.tmp 5))]),qq 7 (.bsl 4 [(.str []),(.sl QT []),(.sl QT []),(.sl QT [])] 1 [(0,(.tmp 6))]),qq 8 (.build [(.str []),(.sl QS [])] [(0,1,(.const (.str [120]))),(1,1,(.tmp 7))]),qc 9 (g "z") [u 8],qm 3 9]<|qS [qm 10 3,qbi 11 .neq 10 0]<|qC 11 (qS [qm 12 3,qm 2 12]<|.ret) (.skip))<|.seq (qS [qf 13 0 1,ql 14 1 13]<|aAJ g)<|qS [qmc 2 z0]<|.ret⟩
def aDu(g:SN):bw:=⟨8,[],[.tmp 4],qS [qmc 4 z0]<|qS [qm 5 0,qm 6 1,qc 7 (g "cS") [u 5,u 6],qm 4 7]<|.ret⟩
def kI(g:SN):ag:=.block 0 (qS [qm 17 5,qbi 18 .eql 17 0,qm 19 18,qF 20 19 (om 1),qF 21 19 (om 0),qF 22 19 (ob .eql 20 21),qq 23 (.pick (u 19) uT (u 22)),qm 16 23]<|qC 16 (qS [qmc 4 z0]<|.ret) (qS [qm 25 5,qbi 26 .eql 25 1,qm 24 26]<|qC 24 (qS [qm 27 0,qm 28 1,qq 29 (.ixS (u 28) (ui 0)),qc 30 (g "bT") [u 27,u 29],qm 4 30]<|.ret) (qS [qm 32 5,qm 33 0,qq 34 (.fg (u 33)),qb 35 .geq 32 34,qm 31 35]<|qC 31 (qS [qmc 4 (.int .i64 (-1))]<|.ret) (qS [qm 37 5,qq 38 (.bad),qb 39 .leq 37 38,qm 40 39,qT 41 40 (om 0),qT 42 40 (.fg (u 41)),qT 43 40 (obi .leq 42 64),qp 44 40 43,qm 36 44]<|qC 36 (qS [qm 45 0,qm 46 1,qc 47 (g "do") [u 45,u 46],qm 4 47]<|.ret) (.skip)))))
abbrev qB(g:SN):ag:=.seq (qS [qm 57 8,qm 58 9,qb 59 .lss 57 58]<|qC 59 (.skip) (.exit 1))<|.block 2 (.seq (qS [qm 60 0,qm 61 8,qq 62 (.ixS (u 60) (u 61)),qm 63 6,qb 64 .neq 62 63]<|qC 64 (qS [qm 65 0,qm 66 8,qbi 67 .add 66 1,qm 68 9,qq 69 (.fm (u 65) (QQ (.tmp 67)) (QQ (.tmp 68))),qm 70 6,qc 71 (g "bT") [u 69,u 70],qm 11 71]<|.seq (qS [qm 72 11,qbi 73 .lss 72 0]<|qC 73 (qS [qmc 4 (.int .i64 (-1))]<|.ret) (.skip))<|.region QT [qm 74 8,qm 75 11,qbi 76 .add 75 1,qb 77 .add 74 76,qm 8 77]) (.skip))<|.seq (qS [qm 78 0,qm 79 8,qbi 80 .add 79 1,qq 81 (.ixS (u 78) (u 80)),qm 82 7,qb 83 .eql 81 82,qm 84 83,qT 85 84 (om 0),qT 86 84 (om 8),qT 87 84 (om 8),qT 88 84 (om 5),qT 89 84 (ob .add 87 88),qT 90 84 (.fm (u 85) (QQ (.tmp 86)) (QQ (.tmp 89))),qT 91 84 (om 1),qT 92 84 (ob .eql 90 91),qp 93 84 92]<|qC 93 (qS [qm 94 8,qm 4 94]<|.ret) (.skip))<|qS [qm 95 8,qbi 96 .add 95 1,qm 8 96]<|qS [qm 97 10,qbi 98 .add 97 1,qm 10 98]<|qS [qm 99 5,qq 100 (.bad),qb 101 .leq 99 100,qm 102 101,qT 103 102 (om 10),qT 104 102 (om 8),qT 105 102 (oc (g "dB") [u 104]),qT 106 102 (ob .gtr 103 105),qp 107 102 106]<|qC 107 (qS [qm 108 0,qm 109 8,qq 110 (.fm (u 108) (QQ (.tmp 109)) N2),qm 111 1,qc 112 (g "do") [u 110,u 111],qm 12 112]<|.seq (qS [qm 113 12,qbi 114 .geq 113 0]<|qC 114 (qS [qm 115 12,qm 116 8,qb 117 .add 115 116,qm 4 117]<|.ret) (.skip))<|qS [qmc 4 (.int .i64 (-1))]<|.ret) (qS [qm 118 5,qq 119 (.bad),qb 120 .gtr 118 119,qm 121 120,qT 122 121 (om 10),qT 123 121 (om 8),qT 124 121 (.bin .shr .no (u 123) (uc (.int .u64 4))),qT 125 121 (.bin .add .no (ui 4) (u 124)),qT 126 121 (ob .geq 122 125),qp 127 121 126,qm 128 127,qT 129 128 (om 8),qT 130 128 (om 9),qT 131 128 (ob .lss 129 130),qp 132 128 131]<|qC 132 (qS [qm 133 0,qm 134 8,qq 135 (.fm (u 133) (QQ (.tmp 134)) N2),qm 136 1,qc 137 (g "dC") [u 135,u 136],qm 13 137]<|.seq (qS [qm 138 13,qbi 139 .lss 138 0]<|qC 139 (qS [qmc 4 (.int .i64 (-1))]<|.ret) (.skip))<|qS [qm 140 8,qm 141 13,qb 142 .add 140 141,qm 4 142]<|.ret) (.skip)))
def lX(g:SN):bw:=⟨143,[],[.tmp 4],qS [qmc 4 z0]<|qS [qm 14 1,qq 15 (.fg (u 14)),qm 5 15]<|.seq (kI g)<|qS [qm 48 1,qq 49 (.ixS (u 48) (ui 0)),qm 6 49]<|qS [qm 50 1,qq 51 (.ixS (u 50) (ui 1)),qm 7 51]<|qS [qmc 8 z0]<|qS [qm 52 0,qq 53 (.fg (u 52)),qm 54 5,qb 55 .sub 53 54,qbi 56 .add 55 1,qm 9 56]<|qS [qmc 10 z0]<|.seq (.block 1 (.loop (qB g)))<|qS [qmc 4 (.int .i64 (-1))]<|.ret⟩
abbrev aDv(g:SN):ag:=qS [qb 54 .lss 53 52]<|.seq (qC 54 (.skip) (.exit 0))<|.seq (.block 1 (qS [qm 55 11,qm 56 0,qm 57 11,qq 58 (.fm (u 56) (QQ (.tmp 57)) N2),qm 59 1,qc 60 (g "cY") [u 58,u 59],qb 61 .add 55 60,qm 12 61]<|qS [qm 62 0,qm 63 11,qm 64 12,qq 65 (.fm (u 62) (QQ (.tmp 63)) (QQ (.tmp 64))),qc 66 (g "h") [u 10,u 65]]<|qS [qm 67 2,qc 68 (g "h") [u 10,u 67]]<|.region QT [qm 69 12,qm 70 1,qq 71 (.fg (u 70)),qb 72 .add 69 71,qm 11 72]))<|.region QT [qbi 73 .add 53 1,qm 53 73]
abbrev aDw(g:SN):ag:=qS [qb 79 .lss 78 77]<|.seq (qC 79 (.skip) (.exit 2))<|.seq (.block 3 (qS [qm 81 0,qm 82 11,qq 83 (.fm (u 81) (QQ (.tmp 82)) N2),qc 84 (g "dF") [u 83],qm 80 84,qq 85 (.ext 0 (u 80)),qq 86 (.ext 1 (u 80)),qm 13 85,qm 14 86]<|qS [qm 87 11,qm 88 14,qb 89 .add 87 88,qm 15 89]<|qS [qm 90 0,qm 91 11,qm 92 15,qq 93 (.fm (u 90) (QQ (.tmp 91)) (QQ (.tmp 92))),qc 94 (g "h") [u 10,u 93]]<|qS [qm 95 2,qc 96 (g "h") [u 10,u 95]]<|.region QT [qm 97 15,qm 11 97]))<|.region QT [qbi 98 .add 78 1,qm 78 98]
def aAK(g:SN):bw:=⟨104,[10],[.tmp 8],qS [qmc 8 (.str [])]<|.seq (qS [qm 16 1,qm 17 2,qb 18 .eql 16 17,qm 19 18,qF 20 19 (om 3),qF 21 19 (obi .eql 20 0),qq 22 (.pick (u 19) uT (u 21))]<|qC 22 (qS [qm 23 0,qm 8 23]<|.ret) (.skip))<|.seq (qS [qm 24 0,qm 25 1,qc 26 (g "U") [u 24,u 25],qm 9 26]<|qS [qm 27 9,qbi 28 .eql 27 0]<|qC 28 (qS [qm 29 0,qm 8 29]<|.ret) (qS [qm 30 3,qbi 31 .lss 30 0,qm 32 31,qF 33 32 (om 9),qF 34 32 (om 3),qF 35 32 (ob .lss 33 34),qq 36 (.pick (u 32) uT (u 35))]<|qC 36 (qR [qm 37 9,qm 3 37]) (.skip)))<|qS [qq 10 (.gv 187 [.nilPtr,.ar])]<|qS [qm 38 0,qq 39 (.fg (u 38)),qm 40 3,qm 41 2,qq 42 (.fg (u 41)),qm 43 1,qq 44 (.fg (u 43)),qb 45 .sub 42 44,qb 46 .mul 40 45,qb 47 .add 39 46,qc 48 (g "ce") [u 10,u 47]]<|qS [qmc 11 z0]<|.seq (qS [qm 49 1,qq 50 (.fg (u 49)),qbi 51 .gtr 50 0]<|qC 51 (qS [qm 52 3,qmc 53 z0]<|.block 0 (.loop (aDv g))) (qS [qm 74 2,qc 75 (g "h") [u 10,u 74]]<|qS [qm 76 3,qbi 77 .sub 76 1,qmc 78 z0]<|.block 2 (.loop (aDw g))))<|qS [qm 99 0,qm 100 11,qq 101 (.fm (u 99) (QQ (.tmp 100)) N2),qc 102 (g "h") [u 10,u 101]]<|qS [qc 103 (g "Y") [u 10],qm 8 103]<|.ret⟩
def tF(g:SN):bw:=⟨11,[],[.tmp 6],qS [qmc 6 (.str [])]<|qS [qm 7 0,qm 8 1,qm 9 2,qc 10 (g "cZ") [u 7,u 8,u 9,ui (-1)],qm 6 10]<|.ret⟩
theorem aIF{c:UInt8}:∀{l:Str},0<l.count c->∃u w,l=u++c::w/\c∉u/\EV l c=(u.length:Nat)/\w.count c+1=l.count c
 | [],h=>by simp at h
 |b::l,h=>by
  by_cases e:b=c
  ·subst e;refine⟨[],l,rfl,siT, ?_, ?_⟩
   ·unfold EV;simp
   simp[]
  have hb:(b==c)=false:=by simpa using e
  rw[List.count_cons,hb]at h;obtain⟨u,w,h1,h2,h3,h4⟩:=aIF (l:=l) (by simpa using h);refine⟨b::u,w,by rw[h1];rfl,by grind, ?_, ?_⟩
  all_goals grind [EV]
theorem aL6{n l:Nat}(h:l<=n):dU n (QQ (vi l)) N2 N2=QQ (l,n,n):=by unfold dU iL vi;grind
theorem aH0{n l k:Nat}(h1:l<=k)(h2:k<=n):dU n (QQ (vi l)) (QQ (vi k)) N2=QQ (l,k,n):=by unfold dU iL vi;grind
theorem aCx(a b:Str):esc mL (a++b)=esc mL a++esc mL b:=JK
theorem aDx:∀{u:Str},(126:UInt8)∉u->esc mL u=u
 | [],_=>rfl
 |c::u,h=>by
  simp only[BD,not_or]at h;rw[aFC,aDx h.2];simp_all [mL,beq_eq_false_iff_ne,Ne.symm]
theorem yS:∀u:Str,(esc mL u).length<=2*u.length
 | []=>by simp[esc]
 |c::u=>by
  rw[aFC,BA,AW];have:=yS u;grind
@[go_sem] theorem aTf{call:Nat->LA->LO->Out}{ρ:bN}{H:LO}{ty:Nat}{zs:LA}{id:Nat}:nB call (QQ id) QT ρ H (.gv ty zs)=if id<H.length then QQ (.ptr id (bH H id) 0,make H id (.cw · ty zs),[id])else none:=(rfl)
section
variable {A:af}{g:SN}{tB tP:Nat}
structure RepAll(A:af)(g:SN)(tB tP:Nat):Prop where
 ws:Has A g "h" (cO g)
 cc:A.bq (g "u")=QQ (fB tB tP)
 str:A.bq (g "Y")=QQ (aAh 5)
 grow:A.bq (g "ce")=QQ (aNR 187 5)
 cnt:A.bq (g "U")=QQ aE7
 ix1:A.bq (g "bT")=QQ aYu
 ix2:Has A g "cS" (lX g)
 ix:Has A g "cY" (aDu g)
 rep:Has A g "cZ" (aAK g)
 So:Has A g "bZ" (tF g)
theorem aOn(F:RepAll A g tB tP)(s:Str)(c:UInt8)(H:LO):aG A (g "cY") [.str s,.str [c]] H=QQ (vi (EV s c),H,[]):=by
 have h1:aG A (g "bT") [.str s,.int .u8 c.toNat] H=QQ (vi (EV s c),H,[]):=dT (by
  rw[F.ix1];show QQ (AV.int .i64 (EV s (((c.toNat:Nat):Int).toNat.toUInt8)),[],[])=_;simp_all)
 have h2:aG A (g "cS") [.str s,.str [c]] H=QQ (vi (EV s c),H,[]):=by
  refine F.ix2.call ?_;simp only[lX];simp only[go_sem,↓aB,seval,AJ];simp only[kI];simp only[go_sem,↓aB,seval,Zz];cases z:([c]==s)with
  |true=>
   have hz:[c]=s:=by simpa using z
   have:EV s c=0:=by rw[<- hz];unfold EV;simp
   rw[this];simp only[go_sem,↓aB,seval]
  |false=>simp only[go_sem,↓aB,seval,h1,AJ,BG]
 refine F.ix.call ?_;simp only[aDu];simp only[go_sem,↓aB,seval,h2,AJ]
theorem aL7(F:RepAll A g tB tP)(s:Str)(hs:s.length<=10000)(H:LO):aG A (g "cZ") [.str s,.str [126],.str [126,126],vi (-1)] H=QQ (.str (esc mL s),H,[]):=by
 refine F.rep.call ?_;have Bf:∀H,aG A (g "U") [.str s,.str [126]] H=QQ (vi (s.count 126:Nat),H,[]):=fun H=>dT (by rw[F.cnt];rfl);have kq:s.count 126<=s.length:=List.count_le_length;simp only[aAK];have bl:(([126]:Str)==[126,126])=false:=deT;cases z:(((s.count 126:Nat):Int)==0)with
 |true=>
  have hz:s.count 126=0:=by simpa using z
  have hq:esc mL s=s:=aDx (NH.1 hz);simp only[go_sem,↓aB,seval,bl,Bf,z,hq,Zz,AJ]
 |false=>
  have hz:0<s.count 126:=Nat.pos_of_ne_zero (by simpa using z);have dy:AR.wrap (((s.count 126:Nat):Int)*1)=((s.count 126:Nat):Int):=by rw[wrap_i64 omT omT];omega
  have gn:AR.wrap ((s.length:Int)+((s.count 126:Nat):Int))=((s.length+s.count 126:Nat):Int):=by rw[wrap_i64 omT omT];omega
  have pr:AR.wrap 1=1:=wrap_i64 deT deT;have Bg:aG A (g "ce") [.ptr H.length 1 0,vi ((s.length+s.count 126:Nat):Int)] (H++[.cw 1 187 [.nilPtr,.ar]])=QQ (.tup [],PSt (H++[.gone 0,.gone 0]) 187 H.length 1 (H.length+1) 1 [],[H.length]):=by
   rw[yN (r:=(.tup [],[(H.length,.cw 1 187 [.ptr H.length 1 0,.sr (H.length+1) 1 0])],[.gl 1 5 1 []]))]
   ·simp[cT,eU,PSt]
   rw[F.grow];grind [aNR]
  have B8:decide ((1:Int)>0)=true:=deT;have c:gf (H++[ah.gone 0,ah.gone 0]).length H.length (H.length+1):=⟨siT,siT,omT⟩;have od:∀{w:LN},Wr2 H.length (H.length+1) w->bE H.length [] w=[]:=fun {w} h=>kH fun x hx=>by grind
  simp only[go_sem,↓aB,seval,bl,Bf,z,Zz,CE,AW,AZ,dy,gn,pr,Bg];refine bJ (id:=0) (fun i ρ1 H1 wr=>wr=[]/\ρ1 53=vi (i:Nat)/\∃p q,s=p++q/\H1=PSt (H++[.gone 0,.gone 0]) 187 H.length 1 (H.length+1) 1 (esc mL p)/\ρ1 11=vi (p.length:Nat)/\q.count 126+i=s.count 126) (s.count 126)
   (fun ρ1 H1 wr=>wr=[]/\∃p q,s=p++q/\H1=PSt (H++[.gone 0,.gone 0]) 187 H.length 1 (H.length+1) 1 (esc mL p)/\ρ1 11=vi (p.length:Nat)/\q.count 126=0)
   bIv rfl ⟨rfl,rfl,[],s,rfl,rfl,rfl,rfl⟩ ?_ ?_
  ·rintro i ρ1 H1 dc mg ⟨rfl,e53,p,q,p0,rfl,e11,W3⟩ hf;have e52:ρ1 52=vi (s.count 126:Nat):=hf 52 rfl;have e0:ρ1 0=.str s:=hf 0 rfl;have e1:ρ1 1=.str [126]:=hf 1 rfl;have e2:ρ1 2=.str [126,126]:=hf 2 rfl;have e10:ρ1 10=.ptr H.length 1 0:=hf 10 rfl;simp only[go_sem,↓aB,seval,e53,e52];refine aD (fun hb=>?_) (fun hb=>?_)
   ·have hlt:i<s.count 126:=by grind
    obtain⟨u,w,k1,k2,k3,k4⟩:=aIF (c:=126) (l:=q) omT;have G6:s.length=p.length+u.length+1+w.length:=by grind
    have fo:dU s.length (QQ (vi (p.length:Nat))) N2 N2=QQ (p.length,s.length,s.length):=aL6 omT;have lq:s.drop p.length=q:=by grind
    have l8:=fun H=>aOn F q 126 H;rw[k3]at l8;have As:AR.wrap ((p.length:Int)+(u.length:Int))=((p.length+u.length:Nat):Int):=by rw[wrap_i64 omT omT];omega
    have dp:dU s.length (QQ (vi (p.length:Nat))) (QQ (vi ((p.length+u.length:Nat):Int))) N2=QQ (p.length,p.length+u.length,s.length):=aH0 omT omT;have nu:(s.take (p.length+u.length)).drop p.length=u:=by grind
    have Iw:=yS p;obtain⟨wa,f1,f2⟩:=vY F.ws F.cc (ty:=187) (v:=1) (v2:=1) (T:=esc mL p) (s:=u) c omT;obtain⟨wb,f3,f4⟩:=vY F.ws F.cc (ty:=187) (v:=1) (v2:=1) (T:=esc mL p++u) (s:=[126,126]) c soT;have Au:AR.wrap (((p.length+u.length:Nat):Int)+1)=((p.length+u.length+1:Nat):Int):=by rw[wrap_i64 omT omT];omega
    have Lz:=wS (i:=i) omT;simp only[go_sem,↓aB,seval,e53,e0,e1,e2,e10,e11,fo,dp,lq,nu,l8,As,Au,Lz,f1,f3,od f2,od f4,AW,AZ];refine⟨hlt,p++u++[126],w,by grind, ?_, ?_,omT⟩
    ·rw[aCx,aCx,aDx k2];rfl
    simp;omega
   have hi:i=s.count 126:=by grind
   subst hi;simp only[go_sem,seval];grind
  rintro ρ2 H2 en ⟨rfl,p,q,p0,rfl,e11,W3⟩ hf;have e0:ρ2 0=.str s:=hf 0 rfl;have e10:ρ2 10=.ptr H.length 1 0:=hf 10 rfl;have G6:s.length=p.length+q.length:=by rw[p0];simp
  have fo:dU s.length (QQ (vi (p.length:Nat))) N2 N2=QQ (p.length,s.length,s.length):=aL6 omT;have lq:s.drop p.length=q:=by grind
  have Iw:=yS p;have Ge:esc mL p++q=esc mL s:=by rw[p0,aCx,aDx (NH.1 W3)]
  have Ma:esc mL s≠[]:=fun e=>by
   have:=yS s;cases s with
   |nil=>simp at hz
   |cons a r=>rw[aFC]at e;split at e<;>cases e
  obtain⟨wa,f1,f2⟩:=vY F.ws F.cc (ty:=187) (v:=1) (v2:=1) (T:=esc mL p) (s:=q) c omT;rw[Ge]at f1;have bd:=aCs F.str (ty:=187) (v:=1) (v2:=1) (T:=esc mL s) c Ma (by grind);simp only[go_sem,↓aB,seval,e0,e10,e11,fo,lq,f1,od f2,bd];unfold PSt;grind
theorem aAL(F:RepAll A g tB tP)(s:Str)(hs:s.length<=10000)(H:LO):aG A (g "bZ") [.str s,.str [126],.str [126,126]] H=QQ (.str (esc mL s),H,[]):=by refine F.So.call ?_;have h1:=aL7 F s hs H;simp only[tF];simp only[go_sem,↓aB,seval,h1,AJ]
end
def aDy(b:Nat)(H:LO)(o:Nat):Bool:=match H[o]? with
 |some x=>x.under b
 |none=>QS
@[go_sem] theorem aV9{base o:Nat}{v:AV}{H:LO}(h:v.under base=QS)(h2:aDy base H o=QS):cJ base (v,H,[o])=(v,H.take base,[o]):=
 aEb h (by rw[List.all_cons,List.all_nil,Bool.and_true];exact h2)
theorem aF6{b o:Nat}{H:LO}{x:ah}(h:o<H.length):aDy b (H.set o x) o=x.under b:=by unfold aDy;rw[List.getElem?_set_self h]
theorem aW{b o:Nat}{H L:LO}{x:ah}(h:o<H.length):aDy b (H.set o x++L) o=x.under b:=by unfold aDy;rw[aP h]
theorem ew.len{id k:Nat}{rows:List LA}{v:AV}{o:ah}(h:ew id k rows v o):aW6 v=QQ (.int .i64 rows.length):=by cases h<;>rfl
theorem ew.inv{id k:Nat}{rows:List LA}{v:AV}{o:ah}(h:ew id k rows v o)(bl:rows≠[]):∃ver,v=.sr id ver rows.length/\o=.vec ver k rows:=by
 cases h with
 |nil=>exact Zw rfl bl
 |obj ver=>exact⟨ver,rfl,rfl⟩
abbrev aBA(g:SN):ag:=qS [qb 9 .lss 8 7]<|.seq (qC 9 (.skip) (.exit 0))<|.seq (.block 1 (qS [qi 10 6 8 1,ql 11 1 10,qm 5 11]<|.region QT [qm 12 3,qm 13 5,qc 14 (g "bZ") [u 13,uc (.str [126]),uc (.str [126,126])],qq 15 (.bsl 1 [(.str [])] 1 [(0,(.tmp 14))]),qa 16 1 16 12 15,qm 3 16]))<|.region QT [qbi 17 .add 8 1,qm 8 17]
def wE(g:SN):bw:=⟨20,[16],[.tmp 2],qS [qmc 2 (.str [])]<|qS [qmc 3 (.sl QS [])]<|.seq (qS [qm 6 0,qn 7 6,qmc 8 z0]<|.block 0 (.loop (aBA g)))<|qS [qm 18 3,qc 19 (g "s") [u 18,uc (.str [126,124])],qm 2 19]<|.ret⟩
abbrev aCy(g:SN):ag:=qS [qb 10 .lss 9 8]<|.seq (qC 10 (.skip) (.exit 0))<|.seq (.block 1 (qS [qi 11 7 9 2,qla 12 2 11,qq 6 (.alloc [z0,(.str [])]),qs 2 6 12]<|.seq (qS [qf 13 0 6,ql 14 1 13,qm 15 4,qb 16 .neq 14 15]<|qC 16 (qR [qm 17 3,qq 18 (.bin .add .no (u 17) (uc (.str [126,124]))),qm 3 18]) (.skip))<|qS [qf 19 0 6,ql 20 1 19,qm 4 20]<|.region QT [qm 21 3,qf 22 1 6,ql 23 1 22,qc 24 (g "bZ") [u 23,uc (.str [126]),uc (.str [126,126])],qb 25 .add 21 24,qm 3 25]))<|.region QT [qbi 26 .add 9 1,qm 9 26]
def zR(g:SN):bw:=⟨28,[6],[.tmp 2],qS [qmc 2 (.str [])]<|qS [qmc 3 (.str []),qmc 4 z0]<|.seq (qS [qm 7 0,qn 8 7,qmc 9 z0]<|.block 0 (.loop (aCy g)))<|qS [qm 27 3,qm 2 27]<|.ret⟩
abbrev aDz(g:SN):ag:=qS [qb 18 .lss 17 16]<|.seq (qC 18 (.skip) (.exit 0))<|.seq (.block 1 (qS [qi 19 15 17 1,ql 20 1 19,qm 5 20]<|.region QT [qm 21 3,qm 22 5,qc 23 (g "g") [u 22],qq 24 (.bin .add .no (uc (.str [32])) (u 23)),qb 25 .add 21 24,qm 3 25]))<|.region QT [qbi 26 .add 17 1,qm 17 26]
def aAM(g:SN):bw:=⟨28,[],[.tmp 2],qS [qx 1 2 0,qmc 2 (.str [])]<|qS [qf 6 0 1,ql 7 1 6,qbi 8 .sub 7 3,qf 9 0 1,ql 10 1 9,qbi 11 .sub 10 3,qbi 12 .add 11 1,qq 13 (.fm (uc (.str [43,45,42,47])) (QQ (.tmp 8)) (QQ (.tmp 12))),qm 3 13]<|.seq (qS [qf 14 1 1,ql 15 1 14,qn 16 15,qmc 17 z0]<|.block 0 (.loop (aDz g)))<|qS [qm 27 3,qm 2 27]<|.ret⟩
section
variable {A:af}{g:SN}{tB tP:Nat}
theorem aNi(sep:Str):∀l:List Str,aJ7 sep (l.map aN)=QQ (sb sep l)
 | []=>rfl
 | [s]=>rfl
 |s::t::r=>by
  have ih:aJ7 sep (aN t::r.map aN)=QQ (sb sep (t::r)):=aNi sep (t::r);show aJ7 sep (aN s::aN t::r.map aN)=_;show (match aJ7 sep (aN t::r.map aN)with
   |some u=>QQ (s++sep++u)
   |none=>N2)=_
  rw[ih];rfl
theorem aF7{sep:Str}{M:Nat}:∀{l:List Str},(∀s∈l,s.length<=M)->(sb sep l).length<=l.length*(M+sep.length)
 | [],_=>by simp[sb]
 | [s],h=>by have:=h s siT;simp[sb];omega
 |s::t::r,h=>by
  have ih:=aF7 (l:=t::r) (sep:=sep) (M:=M) fun x hx=>h x (BZ _ hx);have:=h s siT;grind [sb,BA,AW,JS]
theorem aVa(hp:A.bq (g "s")=QQ aKm)(l:List Str)(sep:Str)(H:LO)(hl:l.length<=1000000000)(hj:(sb sep l).length<=1000000000000):aG A (g "s") [.sl QT (l.map aN),.str sep] H=QQ (.str (sb sep l),H,[]):=by refine dT ?_;rw[hp];show aKm [.sl QT (l.map aN),.str sep] H=_;unfold aKm;dsimp only;rw[aNi];grind
theorem qI(hp:A.bq (g "s")=QQ aKm){id:Nat}{l:List Str}{w:AV}{o:ah}(hg:ew id 1 (l.map aN) w o)(sep:Str)(hl:l.length<=1000000000)(hj:(sb sep l).length<=1000000000000):∀H site,H[id]? = QQ o->cX (aG A) H site (.fn (g "s") [] []) [w,.str sep]=QQ (.str (sb sep l),H,[]):=by
 intro H site ho;have hb:=fun H=>aVa hp l sep H hl hj;generalize hr:l.map aN=rows at *;cases hg with
 |nil=>simp only[go_sem,seval,hb]
 |obj ver=>
  have bd:(rows.all fun r=>r.all AV.still)=true:=by rw[<- hr];exact aT (aC bO _)
  simp only[go_sem,seval,ho,bd,hb]
theorem aEy{id:Nat}{L:List Str}{w:AV}{o:ah}(hg:ew id 1 (L.map aN) w o)(hL:L.length<=1000000)(s:Str):∃w' o',ew id 1 ((L++[s]).map aN) w' o'/\∀X f,X[id]? = QQ o->eX X (QQ id) 1 16 w (.sl f [[.str s]])=QQ (w',X.set id o',[id]):=by obtain⟨v',o',eu,db⟩:=hg.app (new:=[aN s]) (bytes:=16) siT rfT (by grind);refine⟨v',o', ?_,db⟩;grind
theorem lH{α β:Type}(f:α->β){l:List α}{i:Nat}(h:i<l.length):(l.take (i+1)).map f=(l.take i).map f++[f l[i]]:=by rw[oG h,DQ];rfl
structure WrtFns(A:af)(g:SN)(tB tP:Nat) extends RepAll A g tB tP where
 join:A.bq (g "s")=QQ aKm
 itoa:A.bq (g "g")=QQ sC
 lines:Has A g "cu" (wE g)
 runs:Has A g "cx" (zR g)
 sum:Has A g "cy" (aAM g)
theorem aH1(F:WrtFns A g tB tP)(l:List Str)(hl:l.length<=64)(hs:∀s∈l,s.length<=1000)(H:LO):aG A (g "cu") [.sl QT (l.map aN)] H=QQ (.str (aPJ l),H,[]):=by
 refine F.lines.call ?_;simp only[wE];simp only[go_sem,↓aB,seval,AF];refine bJ (id:=0) (fun i ρ1 H1 wr=>wr=[]/\ρ1 8=vi (i:Nat)/\∃w o,H1=H++[o]/\ρ1 3=w/\ew H.length 1 (((l.take i).map (esc mL)).map aN) w o) l.length
  (fun ρ1 H1 wr=>wr=[]/\∃w o,H1=H++[o]/\ρ1 3=w/\ew H.length 1 ((l.map (esc mL)).map aN) w o)
  bIv rfl ⟨rfl,rfl,.sl QS [],.gone 0,rfl,rfl,.nil _⟩ ?_ ?_
 ·rintro i ρ1 H1 dc mg ⟨rfl,e8,w,o,rfl,e3,hg⟩ hf;have e7:ρ1 7=vi (l.length:Nat):=hf 7 rfl;have e6:ρ1 6=.sl QT (l.map aN):=hf 6 rfl;simp only[go_sem,↓aB,seval,e8,e7];refine aD (fun hb=>?_) (fun hb=>?_)
  ·have hlt:i<l.length:=by grind
   have cj:=mgE aN hlt;have hq:=hs _ (AS hlt);have pk:=lH (esc mL) hlt;generalize l[i]=s at *;have B5:=fun H=>aAL F.toRepAll s omT H;obtain⟨w',o',eu,db⟩:=aEy hg soT (esc mL s);rw[<- pk]at eu;have dy:=wS (i:=i) omT;have oz:=fun f=>db (H++[o]) f (by grind);simp only[go_sem,↓aB,seval,e8,e6,e3,AU,AT,hlt,cj,aN,B5,oz,dy];grind
  have hi:i=l.length:=by grind
  subst hi;rw[DM]at hg;simp only[go_sem,seval];grind
 rintro ρ2 H2 en ⟨rfl,w,o,rfl,e3,hg⟩ hf;have hj:=qI F.join hg [126,124] soT (by
  have:=aF7 (l:=l.map (esc mL)) (sep:=[126,124]) (M:=2000) (fun s ml=>by
   obtain⟨t,ht,rfl⟩:=DB.1 ml;have:=yS t;grind)
  grind)
 have tt:=fun site=>hj (H++[o]) site (by grind);simp only[go_sem,↓aB,seval,e3,tt];rfl
theorem aQb:∀(k n:Nat),n<10 ^ (k+1)->nC (k+1) n=dec n
 |0,n,h=>by
  have h':n<10:=by simpa using h
  rw[dec,nC,Zy h',Zy h']
 |k+1,n,h=>by
  rw[dec,nC];split
  ·rfl
  rw[aQb k (n / 10) (by grind)]
theorem aD7:∀k m,(nC k m).length<=k:=by
 intro k
 induction k with
 |zero=>intro m;exact AQ _
 |succ k ih=>grind [nC]
theorem aVb(hp:A.bq (g "g")=QQ sC){n:Int}(h0:0<=n)(h1:n<=999999):(dec n.toNat).length<=7/\∀H,aG A (g "g") [vi n] H=QQ (.str (dec n.toNat),H,[]):=by have e7:nC 7 n.toNat=dec n.toNat:=aQb 6 n.toNat (by grind);refine⟨by rw[<- e7];exact aD7 7 _,fun H=>dT ?_⟩;rw[hp];show sC [.int .i64 n] H=_;simp only[sC];grind
theorem aJD(F:WrtFns A g tB tP)(op:Int)(l:List Int)(Qx:3<=op/\op<=6)(hl:l.length<=16)(hs:∀n∈l,0<=n/\n<=999999)(H:LO):aG A (g "cy") [.agg [vi op,.sl QT (l.map bF)]] H=QQ (.str (aWn op l),H,[]):=by
 refine F.sum.call ?_;have dy:AR.wrap (op - 3)=((op - 3).toNat:Nat):=by rw[wrap_i64 omT omT];omega
 have gn:AR.wrap ((((op - 3).toNat:Nat):Int)+1)=((op - 3).toNat+1:Nat):=by rw[wrap_i64 omT omT];omega
 have hb:dU 4 (QQ (vi ((op - 3).toNat:Nat))) (QQ (vi ((op - 3).toNat+1:Nat))) N2=QQ ((op - 3).toNat,(op - 3).toNat+1,4):=aH0 omT omT;have ot:(([43,45,42,47]:Str).take ((op - 3).toNat+1)).drop (op - 3).toNat=[sg op]:=by have:op=3∨op=4∨op=5∨op=6:=omT;rcases this with rfl | rfl | rfl | rfl<;>rfl
 have Gf:(43::([45,42,47]:Str).take (op - 3).toNat).drop (op - 3).toNat=[sg op]:=ot;simp only[aAM];simp only[go_sem,↓aB,seval,dy,gn,hb,Gf,AF,AW,AZ];refine bJ (id:=0) (fun i ρ1 H1 wr=>wr=[]/\ρ1 17=vi (i:Nat)/\H1=H/\∃s:Str,ρ1 3=.str s/\s++aUN (l.drop i)=aWn op l/\s.length<=1+i*8) l.length
  (fun ρ1 H1 wr=>wr=[]/\H1=H/\ρ1 3=.str (aWn op l))
  bIv rfl ⟨rfl,rfl,siT,[sg op],rfl,rfl,siT⟩ ?_ ?_
 ·rintro i ρ1 H1 dc mg ⟨rfl,e17,rfl,s,e3,xc,G6⟩ hf;have e16:ρ1 16=vi (l.length:Nat):=hf 16 rfl;have e15:ρ1 15=.sl QT (l.map bF):=hf 15 rfl;simp only[go_sem,↓aB,seval,e17,e16];refine aD (fun hb=>?_) (fun hb=>?_)
  ·have hlt:i<l.length:=by grind
   have cj:=mgE bF hlt;obtain⟨q1,q2⟩:=hs _ (AS hlt);have Gg:l.drop i=l[i]::l.drop (i+1):=FD hlt;rw[Gg]at xc;generalize l[i]=n at *;obtain⟨d1,d2⟩:=aVb F.itoa q1 q2;have M1:kJ .add .no (.str [32]) (.str (dec n.toNat))=QQ (.str (32::dec n.toNat)):=kE soT;have R7:kJ .add .no (.str s) (.str (32::dec n.toNat))=QQ (.str (s++32::dec n.toNat)):=kE soT;have dy:=wS (i:=i) omT;simp only[go_sem,↓aB,seval,e17,e15,e3,AU,AT,hlt,cj,bF,d2,M1,R7,dy];refine⟨_,rfl,by rw[<- xc,CJ];rfl,soT⟩
  have hi:i=l.length:=by grind
  subst hi;rw[JX]at xc;have xc:s++[]=aWn op l:=xc;rw[AJ]at xc;simp only[go_sem,seval];rw[e3,xc]
 rintro ρ2 H2 en ⟨rfl,rfl,e3⟩ hf;simp only[go_sem,↓aB,seval,e3]
theorem aHK(F:WrtFns A g tB tP)(l:List mr)(hl:l.length<=16)(hs:∀r∈l,r.text.length<=1000)(H:LO):aG A (g "cx") [.sl QT (l.map cZ)] H=QQ (.str (aHA 0 l),H,[]):=by
 refine F.runs.call ?_;simp only[zR];simp only[go_sem,↓aB,seval,AF];refine bJ (id:=0) (fun i ρ1 H1 wr=>wr=[]/\ρ1 9=vi (i:Nat)/\(∃o,H1=H++[o])/\∃(s:Str) (p:Int),ρ1 3=.str s/\ρ1 4=vi p/\s++aHA p (l.drop i)=aHA 0 l/\s.length<=i*2100) l.length
  (fun ρ1 H1 wr=>wr=[]/\(∃o,H1=H++[o])/\ρ1 3=.str (aHA 0 l))
  bIv rfl ⟨rfl,rfl,⟨_,rfl⟩,[],0,rfl,rfl,rfl,siT⟩ ?_ ?_
 ·rintro i ρ1 H1 dc mg ⟨rfl,e9,⟨o,rfl⟩,s,p,e3,e4,xc,G6⟩ hf;have e8:ρ1 8=vi (l.length:Nat):=hf 8 rfl;have e7:ρ1 7=.sl QT (l.map cZ):=hf 7 rfl;simp only[go_sem,↓aB,seval,e9,e8];refine aD (fun hb=>?_) (fun hb=>?_)
  ·have hlt:i<l.length:=by grind
   have cj:=mgE cZ hlt;have q1:=hs _ (AS hlt);have Gg:l.drop i=l[i]::l.drop (i+1):=FD hlt;rw[Gg]at xc;generalize l[i]=r at *;have B5:=fun H=>aAL F.toRepAll r.text omT H;have Iw:=yS r.text;have dy:=wS (i:=i) omT;have M1:kJ .add .no (.str s) (.str [126,124])=QQ (.str (s++[126,124])):=kE (by grind);have R7:kJ .add .no (.str (s++[126,124])) (.str (esc mL r.text))=QQ (.str (s++[126,124]++esc mL r.text)):=kE (by grind);have Ay:kJ .add .no (.str s) (.str (esc mL r.text))=QQ (.str (s++esc mL r.text)):=kE omT;cases z:(r.gg != p)with
   |true=>
    have hz:r.gg≠p:=by simpa using z
    simp only[go_sem,↓aB,seval,e9,e7,e3,e4,AU,AT,hlt,cj,cZ,z,B5,M1,R7,dy];refine⟨⟨_,rfl⟩,_,_,rfl,rfl, ?_,soT⟩;rw[<- xc];simp[aHA,hz]
   |false=>
    have hz:r.gg=p:=by simpa using z
    simp only[go_sem,↓aB,seval,e9,e7,e3,e4,AU,AT,hlt,cj,cZ,z,B5,Ay,dy];refine⟨⟨_,rfl⟩,_,_,rfl,rfl, ?_,soT⟩;rw[<- xc];simp[aHA,hz]
  have hi:i=l.length:=by grind
  subst hi;rw[JX]at xc;have xc:s++[]=aHA 0 l:=xc;rw[AJ]at xc;simp only[go_sem,seval];grind
 rintro ρ2 H2 en ⟨rfl,⟨o,rfl⟩,e3⟩ hf;simp only[go_sem,↓aB,seval,e3]
end
def mU(g:SN):ag:=.block 0 (qS [qbi 20 .eql 18 1,qm 19 20]<|qC 19 (qR [qm 21 3,qq 22 (.bsl 1 [(.int .u8 0)] 1 [(0,(.const (.int .u8 35)))]),qa 23 1 1 21 22,qm 3 23]) (qS [qbi 25 .eql 18 (-1),qm 24 25]<|qC 24 (qR [qm 26 3,qq 27 (.bsl 1 [(.int .u8 0)] 1 [(0,(.const (.int .u8 95)))]),qa 28 1 1 26 27,qm 3 28]) (.skip)))
def zS(g:SN):bw:=⟨48,[9,16,23,28,39,46],[.tmp 2],qS [qx 1 3 0,qmc 2 (.str [])]<|qS [qmc 3 (.sl QS [])]<|.seq (qS [qf 4 0 1,ql 5 1 4,qbi 6 .lss 5 0]<|qC 6 (qR [qm 7 3,qq 8 (.bsl 1 [(.int .u8 0)] 1 [(0,(.const (.int .u8 114)))]),qa 9 1 1 7 8,qm 3 9]) (qR [qm 10 3,qf 11 0 1,ql 12 1 11,qbi 13 .rem 12 7,qq 14 (.ixS (uc (.str [99,100,101,102,103,97,98])) (u 13)),qq 15 (.bsl 1 [(.int .u8 0)] 1 [(0,(.tmp 14))]),qa 16 1 1 10 15,qm 3 16]))<|.seq (qS [qf 17 2 1,ql 18 1 17]<|mU g)<|.seq (qS [qf 29 0 1,ql 30 1 29,qbi 31 .geq 30 0]<|qC 31 (qR [qm 32 3,qf 33 0 1,ql 34 1 33,qbi 35 .quo 34 7,qq 36 (.bin .add .no (ui 48) (u 35)),qq 37 (.conv (.toInt .u8) (u 36)),qq 38 (.bsl 1 [(.int .u8 0)] 1 [(0,(.tmp 37))]),qa 39 1 1 32 38,qm 3 39]) (.skip))<|qS [qm 40 3,qf 41 1 1,ql 42 1 41,qq 43 (.bin .add .no (ui 48) (u 42)),qq 44 (.conv (.toInt .u8) (u 43)),qq 45 (.bsl 1 [(.int .u8 0)] 1 [(0,(.tmp 44))]),qa 46 1 1 40 45,qq 47 (.conv .b2s (u 46)),qm 2 47]<|.ret⟩
abbrev aDA(g:SN):ag:=qS [qb 9 .lss 8 7]<|.seq (qC 9 (.skip) (.exit 0))<|.seq (.block 1 (qS [qi 10 6 8 3,qla 11 3 10,qq 5 (.alloc [z0,z0,z0]),qs 3 5 11]<|.region QT [qm 12 3,qla 13 3 5,qc 14 (g "cw") [u 13],qq 15 (.bsl 1 [(.str [])] 1 [(0,(.tmp 14))]),qa 16 1 16 12 15,qm 3 16]))<|.region QT [qbi 17 .add 8 1,qm 8 17]
def aAN(g:SN):bw:=⟨20,[5,16],[.tmp 2],qS [qmc 2 (.str [])]<|qS [qmc 3 (.sl QS [])]<|.seq (qS [qm 6 0,qn 7 6,qmc 8 z0]<|.block 0 (.loop (aDA g)))<|qS [qm 18 3,qc 19 (g "s") [u 18,uc (.str [32])],qm 2 19]<|.ret⟩
abbrev aAO(g:SN):ag:=qS [qb 19 .lss 18 17]<|.seq (qC 19 (.skip) (.exit 2))<|.seq (.block 3 (qS [qi 20 16 18 1,ql 21 1 20,qm 8 21]<|.region QT [qm 22 6,qm 23 8,qc 24 (g "bF") [u 23],qq 25 (.bsl 1 [(.str [])] 1 [(0,(.tmp 24))]),qa 26 1 16 22 25,qm 6 26]))<|.region QT [qbi 27 .add 18 1,qm 18 27]
abbrev aAP(g:SN):ag:=qS [qb 13 .lss 12 11]<|.seq (qC 13 (.skip) (.exit 0))<|.seq (.block 1 (qS [qi 14 10 12 1,ql 15 1 14,qm 5 15]<|qS [qmc 6 (.sl QS [])]<|.seq (qS [qm 16 5,qn 17 16,qmc 18 z0]<|.block 2 (.loop (aAO g)))<|.region QT [qm 28 3,qm 29 6,qc 30 (g "s") [u 29,uc (.str [124])],qq 31 (.bsl 1 [(.str [])] 1 [(0,(.tmp 30))]),qa 32 1 16 28 31,qm 3 32]))<|.region QT [qbi 33 .add 12 1,qm 12 33]
def tG(g:SN):bw:=⟨36,[26,32],[.tmp 2],qS [qx 1 1 0,qmc 2 (.str [])]<|qS [qmc 3 (.sl QS [])]<|.seq (qS [qf 9 0 1,ql 10 1 9,qn 11 10,qmc 12 z0]<|.block 0 (.loop (aAP g)))<|qS [qm 34 3,qc 35 (g "s") [u 34,uc (.str [47])],qm 2 35]<|.ret⟩
section
variable {A:af}{g:SN}{tB tP:Nat}
theorem aSd{n:Int}(h0:0<=n)(h1:n<256):GA .u8 n=n:=by simp only[GA,LK,KC];simp;omega
structure MelFns(A:af)(g:SN)(tB tP:Nat) extends WrtFns A g tB tP where
 note:Has A g "cw" (zS g)
 bar:Has A g "bF" (aAN g)
 yb:Has A g "cv" (tG g)
theorem aQc{H:LO}{n:Int}(h0:0<=n)(h1:n<256):pT H (.toInt .u8) (vi n)=QQ (.int .u8 n):=by show QQ (AV.int .u8 (GA .u8 n))=_;rw[aSd h0 h1]
theorem wF{H:LO}{x:AV}:pT H .b2s x=match dO H x with
  |some rows=>(cM rows).map .str
  |none=>none:=rfl
theorem aEz:cM []=QQ []:=rfl
theorem aBo{n:Int}{r:List LA}:cM ([.int .u8 n]::r)=(cM r).map (CN n.toNat :: ·):=rfl
theorem aQd:∀k<7,([99,100,101,102,103,97,98]:Str)[k]? = QQ (aPK k):=deT
theorem aHL(F:MelFns A g tB tP)(n:ct)(hn:aGv n=QS)(H:LO):aG A (g "cw") [.agg (bV n)] H=QQ (.str (aBy n),H,[]):=by
 refine F.note.call ?_;unfold aGv at hn;simp only[AI,eG]at hn;obtain⟨⟨⟨s0,s1⟩,l0,l1⟩,a0,a1⟩:=hn;have L9:AR.wrap (48+n.length)=48+n.length:=wrap_i64 omT omT;have kq:=fun H=>aQc (H:=H) (n:=48+n.length) omT omT;have ax:(48+n.length).toNat=48+n.length.toNat:=omT;have r1:bP 1 1=true:=deT;have r2:bP 2 1=true:=deT;have r3:bP 3 1=true:=deT;have r4:bP 4 1=true:=deT;simp only[zS];cases z:decide (n.step<0)with
 |true=>
  have hz:n.step<0:=of_decide_eq_true z;have z2:decide (n.step ≥ 0)=false:=by grind
  simp only[go_sem,↓aB,seval,bV,z,eX,cG,dO,r1,AW,AZ,AB,AD,AA,AE];simp only[mU];by_cases e1:n.alter=1
  ·simp only[go_sem,↓aB,seval,e1,z2,L9,kq,eX,cG,dO,r2,r3,AW,AZ,AB,AD,AA,AE,wF,aEz,aBo,DE];simp[aBy,hz,e1,show ¬0<=n.step by omega,ax]
  by_cases e2:n.alter = -1
  ·simp only[go_sem,↓aB,seval,e2,z2,L9,kq,eX,cG,dO,r2,r3,AW,AZ,AB,AD,AA,AE,wF,aEz,aBo,DE];simp[aBy,hz,e2,show ¬0<=n.step by omega,ax]
  have e1':(n.alter==1)=false:=by simpa using e1
  have e2':(n.alter == -1)=false:=by simpa using e2
  simp only[go_sem,↓aB,seval,e1',e2',z2,L9,kq,eX,cG,dO,r2,AW,AZ,AB,AD,AA,AE,wF,aEz,aBo,DE];simp[aBy,hz,e1,e2,show ¬0<=n.step by omega,ax]
 |false=>
  have hz:¬n.step<0:=of_decide_eq_false z;have z2:decide (n.step ≥ 0)=true:=by grind
  have hk:(n.step % 7).toNat<7:=omT;have zu:∀ek,kJ .rem ek (vi n.step) (vi 7)=QQ (vi ((n.step % 7).toNat:Nat)):=fun ek=>by
   rw[tS deT];grind
  have S2:∀ek,kJ .quo ek (vi n.step) (vi 7)=QQ (vi ((n.step / 7).toNat:Nat)):=fun ek=>by
   rw[aAl deT];have:n.step.tdiv 7=n.step / 7:=Int.tdiv_eq_ediv_of_nonneg omT;rw[this,wrap_i64 omT omT];grind
  have hlt:=aQd _ hk;have z8:(((n.step % 7).toNat:Nat):Int)<7:=omT;have Bh:AR.wrap (48+(((n.step / 7).toNat:Nat):Int))=48+(((n.step / 7).toNat:Nat):Int):=wrap_i64 omT omT;have W3:=fun H=>aQc (H:=H) (n:=48+(((n.step / 7).toNat:Nat):Int)) omT omT;have Gh:(48+(((n.step / 7).toNat:Nat):Int)).toNat=48+(n.step / 7).toNat:=omT;simp only[go_sem,↓aB,seval,zu,hlt,AU,AT,bV,z,eX,cG,dO,r1,AW,AZ,AB,AD,AA,AE,DE];simp only[mU];by_cases e1:n.alter=1
  ·simp only[go_sem,↓aB,seval,e1,S2,Bh,W3,z2,L9,kq,eX,cG,dO,r2,r3,r4,AW,AZ,AB,AD,AA,AE,wF,aEz,aBo,DE];rw[Gh];simp[aBy,hz,e1,show 0<=n.step by omega,ax]
  by_cases e2:n.alter = -1
  ·simp only[go_sem,↓aB,seval,e2,S2,Bh,W3,z2,L9,kq,eX,cG,dO,r2,r3,r4,AW,AZ,AB,AD,AA,AE,wF,aEz,aBo,DE];rw[Gh];simp[aBy,hz,e2,show 0<=n.step by omega,ax]
  have e1':(n.alter==1)=false:=by simpa using e1
  have e2':(n.alter == -1)=false:=by simpa using e2
  simp only[go_sem,↓aB,seval,e1',e2',S2,Bh,W3,z2,L9,kq,eX,cG,dO,r2,r3,AW,AZ,AB,AD,AA,AE,wF,aEz,aBo,DE];rw[Gh];simp[aBy,hz,e1,e2,show 0<=n.step by omega,ax]
theorem aL8(n:ct):(aBy n).length<=4:=by grind [aBy,BA]
theorem aDB(F:MelFns A g tB tP)(l:List ct)(hl:l.length<=16)(hs:∀n∈l,aGv n=QS)(H:LO):aG A (g "bF") [.sl QT (l.map bV)] H=QQ (.str (aO9 l),H,[]):=by
 refine F.bar.call ?_;simp only[aAN];simp only[go_sem,↓aB,seval,AF];refine bJ (id:=0) (fun i ρ1 H1 wr=>wr=[]/\ρ1 8=vi (i:Nat)/\∃w o x,H1=H++[x,o]/\ρ1 3=w/\ew (H.length+1) 1 (((l.take i).map aBy).map aN) w o) l.length
  (fun ρ1 H1 wr=>wr=[]/\∃w o x,H1=H++[x,o]/\ρ1 3=w/\ew (H.length+1) 1 ((l.map aBy).map aN) w o)
  bIv rfl ⟨rfl,rfl,.sl QS [],.gone 0,.gone 0,rfl,rfl,.nil _⟩ ?_ ?_
 ·rintro i ρ1 H1 dc mg ⟨rfl,e8,w,o,x,rfl,e3,hg⟩ hf;have e7:ρ1 7=vi (l.length:Nat):=hf 7 rfl;have e6:ρ1 6=.sl QT (l.map bV):=hf 6 rfl;simp only[go_sem,↓aB,seval,e8,e7];refine aD (fun hb=>?_) (fun hb=>?_)
  ·have hlt:i<l.length:=by grind
   have cj:=mgE bV hlt;have hq:=hs _ (AS hlt);have pk:=lH aBy hlt;generalize l[i]=s at *;have B5:=fun H=>aHL F s hq H;simp only[bV]at B5;obtain⟨w',o',eu,db⟩:=aEy hg soT (aBy s);rw[<- pk]at eu;have dy:=wS (i:=i) omT;have oz:=fun y f=>db (H++[y,o]) f (by grind);simp only[go_sem,↓aB,seval,e8,e6,e3,AU,AT,hlt,cj,bV,B5,oz,dy];grind
  have hi:i=l.length:=by grind
  subst hi;rw[DM]at hg;simp only[go_sem,seval];grind
 rintro ρ2 H2 en ⟨rfl,w,o,x,rfl,e3,hg⟩ hf;have hj:=qI F.join hg [32] soT (by
  have:=aF7 (l:=l.map aBy) (sep:=[32]) (M:=4) (fun s ml=>by
   obtain⟨t,ht,rfl⟩:=DB.1 ml;exact aL8 t)
  grind)
 have tt:=fun site=>hj (H++[x,o]) site (by grind);simp only[go_sem,↓aB,seval,e3,tt];rfl
theorem aSe{l:List ct}(hl:l.length<=16):(aO9 l).length<=80:=by
 have:=aF7 (l:=l.map aBy) (sep:=[32]) (M:=4) (fun s ml=>by
  obtain⟨t,ht,rfl⟩:=DB.1 ml;exact aL8 t)
 simp at this;unfold aO9;omega
end
section
variable {A:af}{g:SN}{tB tP:Nat}
theorem aNj{h:List (List ct)}(h1:h.length<=16)(h2:∀b∈h,b.length<=16):(sb [124] (h.map aO9)).length<=1300:=by
 have:=aF7 (l:=h.map aO9) (sep:=[124]) (M:=80) (fun s ml=>by
  obtain⟨t,ht,rfl⟩:=DB.1 ml;exact aSe (h2 t ht))
 simp at this;omega
theorem aFs(F:MelFns A g tB tP)(l:List (List (List ct)))(hl:l.length<=16)(hs:∀h∈l,h.length<=16/\∀b∈h,b.length<=16/\∀n∈b,aGv n=QS)(H:LO):aG A (g "cv") [.agg [.sl QT (l.map bS)]] H=QQ (.str (aJm l),H,[]):=by
 refine F.yb.call ?_;simp only[tG];simp only[go_sem,↓aB,seval,AF];have hW:aJm l=sb [47] (l.map fun h=>sb [124] (h.map aO9)):=rfl;generalize hE:(fun h:List (List ct)=>sb [124] (h.map aO9))=E at hW;refine bJ (id:=0) (fun i ρ1 H1 wr=>wr=[]/\ρ1 12=vi (i:Nat)/\∃w o x,H1=H++[x,o]/\ρ1 3=w/\ew (H.length+1) 1 (((l.take i).map E).map aN) w o) l.length
  (fun ρ1 H1 wr=>wr=[]/\∃w o x,H1=H++[x,o]/\ρ1 3=w/\ew (H.length+1) 1 ((l.map E).map aN) w o)
  bIv rfl ⟨rfl,rfl,.sl QS [],.gone 0,.gone 0,rfl,rfl,.nil _⟩ ?_ ?_
 ·rintro i ρ1 H1 dc mg ⟨rfl,e12,w,o,x,rfl,e3,hg⟩ hf;have e11:ρ1 11=vi (l.length:Nat):=hf 11 rfl;have e10:ρ1 10=.sl QT (l.map bS):=hf 10 rfl;simp only[go_sem,↓aB,seval,e12,e11];refine aD (fun hb=>?_) (fun hb=>?_)
  ·have hlt:i<l.length:=by simp at hb;omega
   have cj:=mgE bS hlt;obtain⟨q1,q2⟩:=hs _ (AS hlt);have pk:=lH E hlt;generalize l[i]=hd at *;have Gi:(E hd).length<=1300:=by rw[<- hE];exact aNj q1 fun b hb=>(q2 b hb).1
   have W4:sb [124] (hd.map aO9)=E hd:=by rw[<- hE]
   have dy:=wS (i:=i) omT;simp only[go_sem,↓aB,seval,e12,e10,AF,AU,AT,hlt,cj,bS];refine bJ (id:=2) (fun j ρ2 H2 wr=>wr=[]/\ρ2 18=vi (j:Nat)/\∃w2 o2,H2=H++[o2,o]/\ρ2 6=w2/\ew H.length 1 (((hd.take j).map aO9).map aN) w2 o2) hd.length
    (fun ρ2 H2 wr=>wr=[]/\∃w2 o2,H2=H++[o2,o]/\ρ2 6=w2/\ew H.length 1 ((hd.map aO9).map aN) w2 o2)
    bIv rfl ⟨rfl,rfl,.sl QS [],x,rfl,rfl,.nil _⟩ ?_ ?_
   ·rintro j ρ2 H2 en mo ⟨rfl,f18,w2,o2,rfl,f6,qu⟩ cq;have f17:ρ2 17=vi (hd.length:Nat):=cq 17 rfl;have f16:ρ2 16=.sl QT (hd.map gH):=cq 16 rfl;simp only[go_sem,↓aB,seval,f18,f17];refine aD (fun dp=>?_) (fun dp=>?_)
    ·have jlt:j<hd.length:=by simp at dp;omega
     have fh:=mgE gH jlt;obtain⟨r1,r2⟩:=q2 _ (AS jlt);have sh:=lH aO9 jlt;generalize hd[j]=bar at *;have B5:=fun H=>aDB F bar r1 r2 H;obtain⟨w',o',eu,db⟩:=aEy qu soT (aO9 bar);rw[<- sh]at eu;have gn:=wS (i:=j) omT;have oz:=fun f=>db (H++[o2,o]) f (by rw[aBd];rfl);simp only[go_sem,↓aB,seval,f18,f16,f6,AU,AT,jlt,fh,gH,B5,oz,gn];exact⟨w',o',rfl,rfl,eu⟩
    have hj:j=hd.length:=by simp at dp;omega
    subst hj;rw[DM]at qu;simp only[go_sem,seval];exact⟨w2,o2,rfl,f6,qu⟩
   rintro ρ2 H2 en ⟨rfl,w2,o2,rfl,f6,qu⟩ cq;have f3:ρ2 3=w:=(cq 3 rfl).trans e3;have f12:ρ2 12=vi (i:Nat):=(cq 12 rfl).trans e12;have hj:=qI F.join qu [124] soT (by rw[W4];omega);rw[W4]at hj;have tt:=fun site=>hj (H++[o2,o]) site (by rw[aBd];rfl);obtain⟨w',o',eu,db⟩:=aEy hg soT (E hd);rw[<- pk]at eu;have oz:=fun f=>db (H++[o2,o]) f (by rw[bX];rfl);simp only[go_sem,↓aB,seval,f3,f6,f12,tt,oz,dy];exact⟨hlt,w',o',_,rfl,rfl,eu⟩
  have hi:i=l.length:=by simp at hb;omega
  subst hi;rw[DM]at hg;simp only[go_sem,seval];exact⟨w,o,x,rfl,e3,hg⟩
 rintro ρ2 H2 en ⟨rfl,w,o,x,rfl,e3,hg⟩ hf;have hj:=qI F.join hg [47] soT (by
  have:=aF7 (l:=l.map E) (sep:=[47]) (M:=1300) (fun s ml=>by
   obtain⟨t,ht,rfl⟩:=DB.1 ml;rw[<- hE];exact aNj (hs t ht).1 fun b hb=>((hs t ht).2 b hb).1)
  simp at this;omega)
 have tt:=fun site=>hj (H++[x,o]) site (by rw[bX];rfl);simp only[go_sem,↓aB,seval,e3,tt,hW]
end
abbrev aCz(g:SN):ag:=qS [qb 22 .lss 21 20]<|.seq (qC 22 (.skip) (.exit 2))<|.seq (.block 3 (qS [qi 23 19 21 1,ql 24 1 23,qm 9 24]<|.region QT [qm 25 7,qm 26 3,qm 27 9,qc 28 (g "Z") [u 26,u 27],qq 29 (.bsl 1 [(.str [])] 1 [(0,(.tmp 28))]),qa 30 1 16 25 29,qm 7 30]))<|.region QT [qbi 31 .add 21 1,qm 21 31]
abbrev aCA(g:SN):ag:=qS [qb 16 .lss 15 14]<|.seq (qC 16 (.skip) (.exit 0))<|.seq (.block 1 (qS [qi 17 13 15 1,ql 18 1 17,qm 6 18]<|qS [qmc 7 (.sl QS [])]<|.seq (qS [qm 19 6,qn 20 19,qmc 21 z0]<|.block 2 (.loop (aCz g)))<|.region QT [qm 32 4,qm 33 7,qc 34 (g "s") [u 33,uc (.str [124])],qq 35 (.bsl 1 [(.str [])] 1 [(0,(.tmp 34))]),qa 36 1 16 32 35,qm 4 36]))<|.region QT [qbi 37 .add 15 1,qm 15 37]
def zT(g:SN):bw:=⟨40,[30,36],[.tmp 2],qS [qx 1 1 0,qmc 2 (.str [])]<|qS [qq 10 (.bsl 1 [(.str [])] 6 [(0,(.const (.str [126]))),(1,(.const (.str [126,126]))),(2,(.const (.str [124]))),(3,(.const (.str [126,124]))),(4,(.const (.str [59]))),(5,(.const (.str [126,59])))]),qc 11 (g "ar") [u 10],qm 3 11]<|qS [qmc 4 (.sl QS [])]<|.seq (qS [qf 12 0 1,ql 13 1 12,qn 14 13,qmc 15 z0]<|.block 0 (.loop (aCA g)))<|qS [qm 38 4,qc 39 (g "s") [u 38,uc (.str [59])],qm 2 39]<|.ret⟩
def mGp:List (UInt8×Str):=[(126,[126,126]),(124,[126,124]),(59,[126,59])]
theorem aMh:∀s:Str,nS (gI mGp) s=esc mG s
 | []=>rfl
 |c::s=>by
  rw[aAu,aFC,aMh s];congr 1;unfold mG;by_cases e1:c=126
  ·subst e1;rfl
  by_cases e2:c=124
  ·subst e2;rfl
  by_cases e3:c=59
  ·subst e3;rfl
  have:gI mGp c=none:=by simp[gI,mGp,e1,e2,e3]
  rw[aEo this];simp[e1,e2,e3]
theorem aSf(s:Str):(esc mG s).length<=2*s.length:=by
 rw[<- aMh];exact aDf (fun c t e=>by
  have:=aDg e;have h2:∀p∈mGp,p.2.length<=2:=deT;exact h2 _ this) omT s
def aA0(H:LO)(r:Bool)(a b:ah):LO:=H++(if r then [a,b,.vec 1 1 (fP mGp),qZ 1 (H.length+5)]++uD mGp (H.length+4)else [a,b,.vec 1 1 (fP mGp),aIw 1 (H.length+2) 1 6])
section
variable {H:LO}{r:Bool}{a b x:ah}
theorem bC4:(aA0 H r a b)[H.length]? = QQ a:=by unfold aA0;rw[aBd];cases r<;>rfl
theorem bC5:(aA0 H r a b)[H.length+1]? = QQ b:=by unfold aA0;rw[bX];cases r<;>rfl
theorem bBa:(aA0 H r a b).set H.length x=aA0 H r x b:=by unfold aA0;rw[aBe];cases r<;>rfl
theorem bBb:(aA0 H r a b).set (H.length+1) x=aA0 H r a x:=by unfold aA0;rw[eS];cases r<;>rfl
theorem aVc:(aA0 H r a b).take H.length=H:=by unfold aA0;rw[aD8]
end
section
variable {A:af}{g:SN}{tB tP:Nat}
structure rj(A:af)(g:SN)(tB tP:Nat) extends MelFns A g tB tP where
 R5:Has A g "ar" (jA g)
 rpl:mh A g
 bsr:Has A g "aa" (dB g)
 num:g "aa" = 397
 cd:Has A g "ct" (zT g)
theorem aSg(F:rj A g tB tP){H:LO}{r:Bool}{a b:ah}{s:Str}(hs:s.length<=1000):∃wr,aG A (g "Z") [.ptr (H.length+3) 1 0,.str s] (aA0 H r a b)=QQ (.str (esc mG s),aA0 H QS a b,wr)/\∀x∈wr,H.length<=x:=by
 have hB:=aNa F.bsr F.num F.cnt mGp deT deT deT deT;rw[<- aMh];cases r with
 |true=>
  have h1:(aA0 H QS a b)[H.length+3]? = QQ (qZ 1 (H.length+5)):=by unfold aA0;rw[bX];rfl
  have h2:(aA0 H QS a b)[H.length+5]? = QQ (.box 1 (bsr (gI mGp) (.sr (H.length+4) 1 mGp.length))):=by unfold aA0;rw[bX];rfl
  have h3:(aA0 H QS a b)[H.length+4]? = QQ (.vec 1 1 (mGp.reverse.map fun p=>[.str [p.1]])):=by unfold aA0;rw[bX];rfl
  exact⟨[],aJs F.rpl hB hs h1 h2 h3,fun x hx=>by cases hx⟩
 |false=>
  have h1:(aA0 H QT a b)[H.length+3]? = QQ (aIw 1 (H.length+2) 1 (fP mGp).length):=by unfold aA0;rw[bX];rfl
  have h2:(aA0 H QT a b)[H.length+2]? = QQ (.vec 1 1 (fP mGp)):=by unfold aA0;rw[bX];rfl
  have h3:=aDd F.rpl hB deT deT deT deT hs h1 h2;refine⟨[H.length+3], ?_,fun x hx=>by rw[CG.1 hx];omega⟩;rw[h3];have hl:(aA0 H QT a b).length=H.length+4:=by unfold aA0;simp
  rw[hl];unfold aA0;simp only[Bool.false_eq_true,Zu,Zv];rw[eS,CJ];rfl
theorem aHM(F:rj A g tB tP)(l:List (List Str))(hl:l.length<=16)(hs:∀r∈l,r.length<=16/\∀s∈r,s.length<=1000)(H:LO):aG A (g "ct") [.agg [.sl QT (l.map bY)]] H=QQ (.str (aRX l),H,[]):=by
 refine F.cd.call ?_;have h1:=zL F.R5 mGp deT deT (H++[.gone 0,.gone 0]);rw[show (H++[ah.gone 0,.gone 0]).length+1=H.length+3 by simp,show H++[ah.gone 0,.gone 0]++[.vec 1 1 (fP mGp),.box 1 [.int .u32 0,.int .i32 0,.int .u32 0,.bj,.sr (H++[ah.gone 0,.gone 0]).length 1 (fP mGp).length]]=aA0 H QT (.gone 0) (.gone 0)from by
  unfold aA0 aIw;rw[show (H++[ah.gone 0,.gone 0]).length=H.length+2 by simp,CJ];rfl]at h1
 have cn:[[AV.str [126]],[AV.str [126,126]],[AV.str [124]],[AV.str [126,124]],[AV.str [59]],[AV.str [126,59]]]=fP mGp:=rfl;simp only[zT];simp only[go_sem,↓aB,seval,AF,cn,h1];have hW:aRX l=sb [59] (l.map fun r=>sb [124] (r.map (esc mG))):=rfl;have Gi:∀r∈l,(sb [124] (r.map (esc mG))).length<=33000:=fun r hr=>by
  obtain⟨q1,q2⟩:=hs r hr;have:=aF7 (l:=r.map (esc mG)) (sep:=[124]) (M:=2000) (fun s ml=>by
   obtain⟨t,ht,rfl⟩:=DB.1 ml;have:=aSf t;have:=q2 t ht;omega)
  simp at this;omega
 generalize hE:(fun r:List Str=>sb [124] (r.map (esc mG)))=E at hW;refine bJ (id:=0) (fun i ρ1 H1 wr=>wr=[]/\ρ1 15=vi (i:Nat)/\∃w o x r,H1=aA0 H r x o/\ρ1 4=w/\ew (H.length+1) 1 (((l.take i).map E).map aN) w o) l.length
  (fun ρ1 H1 wr=>wr=[]/\∃w o x r,H1=aA0 H r x o/\ρ1 4=w/\ew (H.length+1) 1 ((l.map E).map aN) w o)
  bIv rfl ⟨rfl,rfl,.sl QS [],.gone 0,.gone 0,QT,rfl,rfl,.nil _⟩ ?_ ?_
 ·rintro i ρ1 H1 dc mg ⟨rfl,e15,w,o,x,rb,rfl,e4,hg⟩ hf;have e14:ρ1 14=vi (l.length:Nat):=hf 14 rfl;have e13:ρ1 13=.sl QT (l.map bY):=hf 13 rfl;have e3:ρ1 3=.ptr (H.length+3) 1 0:=hf 3 rfl;simp only[go_sem,↓aB,seval,e15,e14];refine aD (fun hb=>?_) (fun hb=>?_)
  ·have hlt:i<l.length:=by simp at hb;omega
   have cj:=mgE bY hlt;obtain⟨q1,q2⟩:=hs _ (AS hlt);have pk:=lH E hlt;have W4:sb [124] (l[i].map (esc mG))=E l[i]:=by rw[<- hE]
   have Gj:=Gi _ (AS hlt);generalize l[i]=row at *;rw[W4]at Gj;have dy:=wS (i:=i) omT;simp only[go_sem,↓aB,seval,e15,e13,AF,AU,AT,hlt,cj,bY];refine bJ (id:=2) (fun j ρ2 H2 wr=>wr=[]/\ρ2 21=vi (j:Nat)/\∃w2 o2 r2,H2=aA0 H r2 o2 o/\ρ2 7=w2/\ew H.length 1 (((row.take j).map (esc mG)).map aN) w2 o2) row.length
    (fun ρ2 H2 wr=>wr=[]/\∃w2 o2 r2,H2=aA0 H r2 o2 o/\ρ2 7=w2/\ew H.length 1 ((row.map (esc mG)).map aN) w2 o2)
    bIv rfl ⟨rfl,rfl,.sl QS [],x,rb,rfl,rfl,.nil _⟩ ?_ ?_
   ·rintro j ρ2 H2 en mo ⟨rfl,f21,w2,o2,r2,rfl,f7,qu⟩ cq;have f20:ρ2 20=vi (row.length:Nat):=cq 20 rfl;have f19:ρ2 19=.sl QT (row.map aN):=cq 19 rfl;have f3:ρ2 3=.ptr (H.length+3) 1 0:=(cq 3 rfl).trans e3;simp only[go_sem,↓aB,seval,f21,f20];refine aD (fun dp=>?_) (fun dp=>?_)
    ·have jlt:j<row.length:=by simp at dp;omega
     have fh:=mgE aN jlt;have q3:=q2 _ (AS jlt);have sh:=lH (esc mG) jlt;generalize row[j]=s at *;obtain⟨wr3,c1,c2⟩:=aSg F (H:=H) (r:=r2) (a:=o2) (b:=o) q3;obtain⟨w',o',eu,db⟩:=aEy qu soT (esc mG s);rw[<- sh]at eu;have gn:=wS (i:=j) omT;have oz:=fun f=>db (aA0 H QS o2 o) f bC4;rw[bBa]at oz;simp only[go_sem,↓aB,seval,f21,f19,f3,f7,AU,AT,jlt,fh,aN,c1,kH c2,oz,gn];exact⟨w',o',QS,rfl,rfl,eu⟩
    have hj:j=row.length:=by simp at dp;omega
    subst hj;rw[DM]at qu;simp only[go_sem,seval];exact⟨w2,o2,r2,rfl,f7,qu⟩
   rintro ρ2 H2 en ⟨rfl,w2,o2,r2,rfl,f7,qu⟩ cq;have f4:ρ2 4=w:=(cq 4 rfl).trans e4;have f15:ρ2 15=vi (i:Nat):=(cq 15 rfl).trans e15;have hj:=qI F.join qu [124] soT (by rw[W4];omega);rw[W4]at hj;have tt:=fun site=>hj (aA0 H r2 o2 o) site bC4;obtain⟨w',o',eu,db⟩:=aEy hg soT (E row);rw[<- pk]at eu;have oz:=fun f=>db (aA0 H r2 o2 o) f bC5;rw[bBb]at oz;simp only[go_sem,↓aB,seval,f4,f7,f15,tt,oz,dy];exact⟨hlt,w',o',_,_,rfl,rfl,eu⟩
  have hi:i=l.length:=by simp at hb;omega
  subst hi;rw[DM]at hg;simp only[go_sem,seval];exact⟨w,o,x,rb,rfl,e4,hg⟩
 rintro ρ2 H2 en ⟨rfl,w,o,x,rb,rfl,e4,hg⟩ hf;have hj:=qI F.join hg [59] soT (by
  have:=aF7 (l:=l.map E) (sep:=[59]) (M:=33000) (fun s ml=>by
   obtain⟨t,ht,rfl⟩:=DB.1 ml;rw[<- hE];exact Gi t ht)
  simp at this;omega)
 have tt:=fun site=>hj (aA0 H rb x o) site bC5;simp only[go_sem,↓aB,seval,e4,tt,hW,aVc]
end
def aCB(g:SN):bw:=⟨9,[1],[.tmp 0],qS [qmc 0 .undef]<|qS [qq 1 (.jn),qq 2 (.build [.bx,.bx] [(0,1,(.const (.fn (g "cn") [] []))),(1,1,(.const (.fn (g "dc") [] [])))]),qz (.ins (u 1) (ui 0) (u 2)),qq 3 (.build [.bx,.bx] [(0,1,(.const (.fn (g "cp") [] []))),(1,1,(.const (.fn (g "da") [] [])))]),qz (.ins (u 1) (ui 1) (u 3)),qq 4 (.build [.bx,.bx] [(0,1,(.const (.fn (g "cq") [] []))),(1,1,(.const (.fn (g "dd") [] [])))]),qz (.ins (u 1) (ui 2) (u 4)),qq 5 (.build [.bx,.bx] [(0,1,(.const (.fn (g "cr") [] []))),(1,1,(.const (.fn (g "de") [] [])))]),qz (.ins (u 1) (ui 3) (u 5)),qq 6 (.build [.bx,.bx] [(0,1,(.const (.fn (g "cs") [] []))),(1,1,(.const (.fn (g "df") [] [])))]),qz (.ins (u 1) (ui 5) (u 6)),qq 7 (.build [.bx,.bx] [(0,1,(.const (.fn (g "co") [] []))),(1,1,(.const (.fn (g "db") [] [])))]),qz (.ins (u 1) (ui 6) (u 7)),qm 8 1,qm 0 8]<|.ret⟩
def aDC(g:SN):bw:=⟨6,[],[.tmp 2],qS [qx 1 13 0,qmc 2 (.str [])]<|qS [qf 3 1 1,ql 4 1 3,qc 5 (g "cx") [u 4],qm 2 5]<|.ret⟩
def aDD(g:SN):bw:=⟨6,[],[.tmp 2],qS [qx 1 13 0,qmc 2 (.str [])]<|qS [qf 3 2 1,qla 4 3 3,qc 5 (g "cg") [u 4],qm 2 5]<|.ret⟩
def aDE(g:SN):bw:=⟨6,[],[.tmp 2],qS [qx 1 13 0,qmc 2 (.str [])]<|qS [qf 3 5 1,qla 4 2 3,qc 5 (g "cy") [u 4],qm 2 5]<|.ret⟩
def aDF(g:SN):bw:=⟨6,[],[.tmp 2],qS [qx 1 13 0,qmc 2 (.str [])]<|qS [qf 3 7 1,qla 4 1 3,qc 5 (g "ct") [u 4],qm 2 5]<|.ret⟩
def aDG(g:SN):bw:=⟨6,[],[.tmp 2],qS [qx 1 13 0,qmc 2 (.str [])]<|qS [qf 3 11 1,qla 4 1 3,qc 5 (g "cv") [u 4],qm 2 5]<|.ret⟩
def aBY(g:SN):bw:=⟨6,[],[.tmp 2],qS [qx 1 13 0,qmc 2 (.str [])]<|qS [qf 3 12 1,ql 4 1 3,qc 5 (g "cu") [u 4],qm 2 5]<|.ret⟩
abbrev aHN(g:SN):List ae:=[qc 13 (g "bE") [],qf 14 0 1,⟨QQ 15,ol 1 14,N2,[1]⟩,⟨QQ 16,.look (.agg [.bx,.bx]) (u 13) (u 15) QS,N2,[0,2,1]⟩,⟨QQ 12,om 16,N2,[3,0,2,1]⟩,⟨QQ 17,.ext 0 (u 12),N2,[4,3,0,2,1]⟩,⟨QQ 18,.ext 1 (u 12),N2,[4,3,0,2,1]⟩,qq 5 (.alloc [.bx,.bx]),⟨N2,os 2 5 17,N2,[5,4,3,0,2,1,7]⟩,⟨QQ 6,om 18,N2,[6,8,5,4,3,0,2,1,7]⟩]
abbrev aBZ:LN:=[0,2,7]
def aH2(g:SN):bw:=⟨25,[5],[.tmp 2,.tmp 3],qS [qx 1 13 0,qmc 2 (.str []),qmc 3 z0]<|.seq (qS [qla 7 13 1,qc 8 (g "K") [u 7],qm 4 8]<|qS [qm 9 4,qbi 10 .neq 9 0]<|qC 10 (qS [qm 11 4,qmc 2 (.str []),qm 3 11]<|.ret) (.skip))<|.seq (.region QS (aHN g))<|.seq (qS [qm 19 6,qq 20 (.un .not (u 19))]<|qC 20 (qS [qmc 2 (.str []),qmc 3 (vi 13)]<|.ret) (.skip))<|qS [qf 21 0 5,ql 22 1 21,qla 23 13 1,qq 24 (.dm (u 22) [(.tmp 23)]),qm 2 24,qmc 3 z0]<|.ret⟩
section
variable {A:af}{g:SN}{tB tP:Nat}
def aH3:LA:=[vi 0,vi 1,vi 2,vi 3,vi 5,vi 6]
def aH4(g:SN):LA:=[("cn","dc"),("cp","da"),("cq","dd"),("cr","de"),("cs","df"),("co","db")].map fun p=>.agg [.fn (g p.1) [] [],.fn (g p.2) [] []]
theorem aVd{base o v:Nat}{H:LO}:aDR base H (.mp o v)=match H[o]? with
  |some (.map v' es)=>if v'=v/\base<=o then QQ (.fmp (es.map EM) (es.map GQ),H.set o (.gone v),[o])else QQ (.mp o v,H,[])
  |_=>QQ (.mp o v,H,[]):=rfl
theorem aQe(h:Has A g "bE" (aCB g))(H:LO):aG A (g "bE") [] H=QQ (.fmp aH3 (aH4 g),H,[]):=by refine h.call ?_;simp only[aCB];simp only[go_sem,↓aB,seval,aVd,AQ];rw[qQ rfT,aD8];exact⟨rfl,rfl,rfl⟩
structure og(A:af)(g:SN)(tB tP:Nat):Prop where
 form:lu A g
 wrt:rj A g tB tP
 B9:aBk A g
 ways:Has A g "bE" (aCB g)
 w1:Has A g "cn" (aDC g)
 w3:Has A g "cp" (aDD g)
 w4:Has A g "cq" (aDE g)
 w6:Has A g "cr" (aDF g)
 w8:Has A g "cs" (aDG g)
 w10:Has A g "co" (aBY g)
 text:Has A g "cl" (aH2 g)
theorem aYc(F:og A g tB tP)(b:Block)(hb:b.Ok)(h:dQ b=QS)(h1:b.kind=1->aBV b.expr=0):b.kind≠4 ->∃j,j<6/\aH3[j]? = QQ (vi b.kind)/\∃f1 f2,(aH4 g)[j]? = QQ (.agg [.fn f1 [] [],.fn f2 [] []])/\∀H,aG A f1 [.agg (aE b)] H=QQ (.str (wB b),H,[]):=by
 intro h4;have hk:xU b=true:=by unfold dQ at h;simp only[AI]at h;exact h.2
 obtain⟨op,n,ks,mn⟩:∃op n ks,b.expr=Expr.mk op n ks:=by cases b.expr;exact⟨_,_,_,rfl⟩
 have Ra:aF b.expr=[vi op,vi n,.sl QT (ks.map aF)]:=by rw[mn,aF,aZ]
 have ig:aE b=[vi b.kind,.sl QT (b.runs.map cZ),vi op,vi n,.sl QT (ks.map aF),vi b.dn,.sl QT (b.eg.map bF),.sl QT (b.cd.map bY),vi b.w,vi b.h,.sl QT (b.aw.map aH),.sl QT (b.bo.map bS),.sl QT (b.lines.map aN)]:=by unfold aE;rw[Ra];rfl
 unfold xU at hk;by_cases k0:b.kind=0
 ·refine⟨0,deT,by rw[k0];rfl,_,_,rfl,fun H=>?_⟩;have hw:wB b=aHA 0 b.runs:=by unfold wB;rw[Zy k0]
  have hr:=aHK F.wrt.toWrtFns b.runs hb.vw (fun r hr=>(hb.runs r hr).text) H;rw[hw,ig];refine F.w1.call ?_;simp only[aDC];simp only[go_sem,↓aB,seval,hr,AB,AD,AA,AE,AJ]
 by_cases k1:b.kind=1
 ·refine⟨1,deT,by rw[k1];rfl,_,_,rfl,fun H=>?_⟩;have hw:wB b=wX b.expr:=by unfold wB;rw[Zx k0,Zy k1]
  have hr:=aJt F.form F.B9 b.expr hb.expr hb.size (h1 k1) H;rw[Ra]at hr;rw[hw,ig];refine F.w3.call ?_;simp only[aDD];simp only[go_sem,↓aB,seval,hr,AB,AD,AA,AE,AJ]
 by_cases k2:b.kind=2
 ·refine⟨2,deT,by rw[k2];rfl,_,_,rfl,fun H=>?_⟩;rw[Zx k0,Zx k1,Zy k2]at hk;simp only[AI,eG]at hk;obtain⟨Qx,_,Az⟩:=hk;have hw:wB b=aWn b.dn b.eg:=by unfold wB;rw[Zx k0,Zx k1,Zy k2]
  have hr:=aJD F.wrt.toWrtFns b.dn b.eg (by simp at Qx;omega) hb.tj (fun n hn=>by
   have:=AO.1 Az n hn;simp only[aUP,eG]at this;exact this) H
  rw[hw,ig];refine F.w4.call ?_;simp only[aDE];simp only[go_sem,↓aB,seval,hr,AB,AD,AA,AE,AJ]
 by_cases k3:b.kind=3
 ·refine⟨3,deT,by rw[k3];rfl,_,_,rfl,fun H=>?_⟩;have hw:wB b=aRX b.cd:=by unfold wB;rw[Zx k0,Zx k1,Zx k2,Zy k3]
  have hr:=aHM F.wrt b.cd hb.uu hb.cd H;rw[hw,ig];refine F.w6.call ?_;simp only[aDF];simp only[go_sem,↓aB,seval,hr,AB,AD,AA,AE,AJ]
 by_cases k5:b.kind=5
 ·refine⟨4,deT,by rw[k5];rfl,_,_,rfl,fun H=>?_⟩;rw[Zx k0,Zx k1,Zx k2,Zx k3,Zx h4,Zy k5]at hk;simp only[aUO,AI,eG]at hk;obtain⟨_,hH⟩:=hk;have hw:wB b=aJm b.bo:=by unfold wB;rw[Zx k0,Zx k1,Zx k2,Zx k3,Zy k5]
  have hr:=aFs F.wrt.toMelFns b.bo hb.uv (fun x hx=>⟨(hb.bo x hx).1,fun bar sk=>⟨((hb.bo x hx).2 bar sk).1,fun nt Fw=>by
   have h1:=AO.1 hH x hx;simp only[aKL,AI]at h1;have h2:=AO.1 h1.2.2 bar sk;simp only[aT9,AI]at h2;exact AO.1 h2.2 nt Fw⟩⟩) H
  rw[hw,ig];refine F.w8.call ?_;simp only[aDG];simp only[go_sem,↓aB,seval,hr,AB,AD,AA,AE,AJ]
 by_cases k6:b.kind=6
 ·refine⟨5,deT,by rw[k6];rfl,_,_,rfl,fun H=>?_⟩;have hw:wB b=aPJ b.lines:=by unfold wB;rw[Zx k0,Zx k1,Zx k2,Zx k3,Zx k5]
  have hr:=aH1 F.wrt.toWrtFns b.lines (by have:=hb.vz;omega) hb.lines H;rw[hw,ig];refine F.w10.call ?_;simp only[aBY];simp only[go_sem,↓aB,seval,hr,AB,AD,AA,AE,AJ]
 rw[Zx k0,Zx k1,Zx k2,Zx k3,Zx h4,Zx k5,Zx k6]at hk;cases hk
theorem aSi{k:Int}{v:AV}:∀j<6,aH3[j]? = QQ (vi k)->(aH4 g)[j]? = QQ v->iB (vi k) (aH3.zip (aH4 g)) 0=QQ (QQ (j,v)):=by
 intro j hj h1 h2;rcases j with _ | _ | _ | _ | _ | _ | j
 all_goals first
  |omega
  | (simp only[aH3,BG,CT,AG,AV.int.injEq,true_and]at h1;subst h1;simp only[aH4,BI,BG,CT,AG]at h2;subst h2;rfl)
end
def tH(g:SN)(b:Int)(n:String):AV:=.agg [vi b,.fn (g n) [] []]
def aMi(g:SN):LA:=[tH g (-1) "cL",tH g 3 "cM",tH g 4 "cN",tH g 4 "cO",tH g 4 "cP",
 tH g 5 "cQ",tH g 6 "cR"]
def aSj(g:SN):LA:=[.fmp [vi 0,vi 1,vi 2,vi 3,vi 4,vi 5,vi 6] (aMi g)]
def wG(g:SN):bw:=⟨18,[],[.tmp 4],qS [qx 2 2 0,qmc 4 (.bool QT)]<|qS [qf 5 0 2,ql 6 1 5,qm 7 1,qb 8 .eql 6 7,qm 9 8,qF 10 9 (of 0 2),qF 11 9 (ol 1 10),qF 12 9 (obi .lss 11 0),qF 13 9 (om 12),qT 14 13 (om 1),qT 15 13 (obi .neq 14 4),qF 16 9 (op 13 15),qq 17 (.pick (u 9) uT (u 16)),qm 4 17]<|.ret⟩
def aC0(g:SN):bw:=⟨14,[],[.tmp 2],qS [qx 1 13 0,qmc 2 z0]<|.seq (qS [qf 3 7 1,qf 4 0 3,ql 5 1 4,qn 6 5,qbi 7 .eql 6 0]<|qC 7 (qS [qmc 2 z0]<|.ret) (.skip))<|qS [qf 8 7 1,qf 9 0 8,ql 10 1 9,qq 11 (.iaV (u 10) (ui 0) 1),ql 12 1 11,qn 13 12,qm 2 13]<|.ret⟩
def aH5(g:SN):bw:=⟨14,[],[.tmp 2],qS [qx 1 13 0,qmc 2 z0]<|.seq (qS [qf 3 11 1,qf 4 0 3,ql 5 1 4,qn 6 5,qbi 7 .eql 6 0]<|qC 7 (qS [qmc 2 z0]<|.ret) (.skip))<|qS [qf 8 11 1,qf 9 0 8,ql 10 1 9,qq 11 (.iaV (u 10) (ui 0) 1),ql 12 1 11,qn 13 12,qm 2 13]<|.ret⟩
def wH(g:SN):bw:=⟨4,[],[.tmp 2],qS [qx 1 13 0,qmc 2 .bx]<|qS [qc 3 (g "x") [ui 1,ui 1],qm 2 3]<|.ret⟩
abbrev aBB(g:SN):List ae:=[qf 3 7 1,⟨QQ 4,of 0 3,N2,[0]⟩,⟨QQ 5,ol 1 4,N2,[1,0]⟩,⟨QQ 6,on 5,N2,[2,1,0]⟩,qla 7 13 1,⟨QQ 8,oc (g "cK") [u 7],N2,[4]⟩,⟨QQ 9,oc (g "x") [u 6,u 8],N2,[3,2,1,0,5,4]⟩,⟨QQ 2,om 9,N2,[6,3,2,1,0,5,4]⟩]
abbrev pQ:LN:=[2,5]
def wI(g:SN):bw:=⟨10,[],[.tmp 2],qS [qx 1 13 0,qmc 2 .bx]<|.seq (.region QS (aBB g))<|.ret⟩
def wJ(g:SN):bw:=⟨5,[],[.tmp 2],qS [qx 1 13 0,qmc 2 .bx]<|qS [qla 3 13 1,qc 4 (g "bh") [u 3,ui 2],qm 2 4]<|.ret⟩
def wK(g:SN):bw:=⟨5,[],[.tmp 2],qS [qx 1 13 0,qmc 2 .bx]<|qS [qla 3 13 1,qc 4 (g "bh") [u 3,ui 3],qm 2 4]<|.ret⟩
def wL(g:SN):bw:=⟨5,[],[.tmp 2],qS [qx 1 13 0,qmc 2 .bx]<|qS [qla 3 13 1,qc 4 (g "bh") [u 3,ui 4],qm 2 4]<|.ret⟩
abbrev aBC(g:SN):List ae:=[qla 3 13 1,⟨QQ 4,oc (g "cJ") [u 3],N2,[0]⟩,qf 5 11 1,⟨QQ 6,of 0 5,N2,[2]⟩,⟨QQ 7,ol 1 6,N2,[3,2]⟩,⟨QQ 8,on 7,N2,[4,3,2]⟩,⟨QQ 9,oc (g "x") [u 4,u 8],N2,yq5⟩,⟨QQ 2,om 9,N2,yq6⟩]
abbrev pR:LN:=[1,4]
def wM(g:SN):bw:=⟨10,[],[.tmp 2],qS [qx 1 13 0,qmc 2 .bx]<|.seq (.region QS (aBC g))<|.ret⟩
def wN(g:SN):bw:=⟨7,[],[.tmp 2],qS [qx 1 13 0,qmc 2 .bx]<|qS [qf 3 12 1,ql 4 1 3,qn 5 4,qc 6 (g "x") [u 5,ui 1],qm 2 6]<|.ret⟩
structure ln(A:af)(g:SN):Prop where
 noY:sn A
 has:Has A g "bt" (wG g)
 cd:Has A g "x" (aGW g)
 za:Has A g "G" (yR g)
 aw:Has A g "bh" (aDr g)
 uy:Has A g "bi" (rG g)
 I8:Has A g "cK" (aC0 g)
 bars:Has A g "cJ" (aH5 g)
 f1:Has A g "cL" (wH g)
 f2:Has A g "cM" (wI g)
 f3:Has A g "cN" (wJ g)
 f4:Has A g "cO" (wK g)
 f5:Has A g "cP" (wL g)
 f6:Has A g "cQ" (wM g)
 f7:Has A g "cR" (wN g)
def lJ(b kind:Int):Bool:=(b==kind) || (decide (b<0)&&(kind != 4))
section
variable {A:af}{g:SN}
theorem eW(b:Block):∃(op n:Int) (ks:List Expr),aE b=[vi b.kind,.sl QT (b.runs.map cZ),vi op,vi n,.sl QT (ks.map aF),vi b.dn,.sl QT (b.eg.map bF),.sl QT (b.cd.map bY),vi b.w,vi b.h,.sl QT (b.aw.map aH),.sl QT (b.bo.map bS),.sl QT (b.lines.map aN)]:=by
 obtain⟨op,n,ks,mn⟩:∃op n ks,b.expr=Expr.mk op n ks:=by cases b.expr;grind
 refine⟨op,n,ks, ?_⟩;unfold aE;rw[mn,aF,aZ];rfl
theorem aL9(F:ln A g)(b kind:Int)(n:String)(H:LO):aG A (g "bt") [tH g b n,vi kind] H=QQ (.bool (lJ b kind),H,[]):=by
 refine F.has.call ?_;simp only[wG,lJ,tH];cases e1:(b==kind)with
 |true=>simp only[go_sem,↓aB,seval,e1,CE,EP]
 |false=>cases e2:decide (b<0)with
  |false=>simp only[go_sem,↓aB,seval,e1,e2,Zz,BB,II,BQ]
  |true=>simp only[go_sem,↓aB,seval,e1,e2,Zz,II,BR]
theorem aDH(F:ln A g)(n m:Nat)(H:LO):aG A (g "x") [vi n,vi m] H=QQ (.fn (g "G") [] [.ep [vi n] 0,.ep [vi m] 0],H,[]):=by refine F.cd.call ?_;simp only[aGW];simp only[go_sem,↓aB,seval,AJ]
theorem aCC(F:ln A g)(b:Block)(kind:Int)(H:LO):aG A (g "bh") [.agg (aE b),vi kind] H=QQ (.fn (g "bi") [] [.ep (aE b) 0,.ep [vi kind] 0],H,[]):=by refine F.aw.call ?_;simp only[aDr];obtain⟨c2,c3,c4,ig⟩:=eW b;rw[ig];simp only[go_sem,↓aB,seval,AJ];rw[jG (AQ _)];exact⟨rfl,rfl,rfl⟩
def aFt(b:Block):Nat:=(b.cd.headD []).length
def aFu(b:Block):Nat:=(b.bo.headD []).length
theorem aLa(F:ln A g)(b:Block)(H:LO):aG A (g "cK") [.agg (aE b)] H=QQ (vi (aFt b),H,[]):=by
 refine F.I8.call ?_;simp only[aC0];obtain⟨c2,c3,c4,ig⟩:=eW b;rw[ig];cases hg:b.cd with
 |nil=>simp only[go_sem,↓aB,seval,aFt,hg,AJ,AB,AD,AA,AE,BY,AZ,OW]
 |cons r rs=>have hz:(((rs.length+1:Nat):Int)==0)=false:=soT;simp only[go_sem,↓aB,seval,aFt,hg,hz,AJ,AB,AD,AA,AE,AF,ON,BI,BG,bY]
theorem aQf(F:ln A g)(b:Block)(H:LO):aG A (g "cJ") [.agg (aE b)] H=QQ (vi (aFu b),H,[]):=by
 refine F.bars.call ?_;simp only[aH5];obtain⟨c2,c3,c4,ig⟩:=eW b;rw[ig];cases hg:b.bo with
 |nil=>simp only[go_sem,↓aB,seval,aFu,hg,AJ,AB,AD,AA,AE,BY,AZ,OW]
 |cons r rs=>have hz:(((rs.length+1:Nat):Int)==0)=false:=soT;simp only[go_sem,↓aB,seval,aFu,hg,hz,AJ,AB,AD,AA,AE,AF,ON,BI,BG,bS]
def aWq(b:Block):Nat->aEw
 |0=>qA 1 1
 |1=>qA b.cd.length (aFt b)
 |2=>iI b.aw 2 b.aw.length b.aw.length
 |3=>iI b.aw 3 b.aw.length b.aw.length
 |4=>iI b.aw 4 b.aw.length b.aw.length
 |5=>qA (aFu b) b.bo.length
 |_=>qA b.lines.length 1
def aBp:Nat->Int
 |0 => -1
 |1=>3
 |2=>4
 |3=>4
 |4=>4
 |5=>5
 |_=>6
def aVe:Nat->String
 |0=> "cL"
 |1=> "cM"
 |2=> "cN"
 |3=> "cO"
 |4=> "cP"
 |5=> "cQ"
 |_=> "cR"
theorem aJE{α:Type}{l:List (List α)}{n:Nat}(h:∀r∈l,r.length<=n):(l.headD []).length<=n:=by
 cases l with
 |nil=>grind
 |cons r rs=>grind
theorem aSk(F:ln A g)(b:Block)(hb:b.Ok)(k:Nat)(hk:k<7):∃f ay,jc ay/\aV7 A f ay (aWq b k)/\∀H:LO,aG A (g (aVe k)) [.agg (aE b)] H=QQ (.fn f [] ay,H,[]):=by
 have hc:aFt b<=16:=aJE fun r hr=>(hb.cd r hr).1;have Ix:aFu b<=16:=aJE fun r hr=>(hb.bo r hr).1;have hg:=hb.uu;have hs:=hb.fg;have hh:=hb.uv;have hl:=hb.vz;have cg:∀n m:Nat,jc [.ep [vi n] 0,.ep [vi m] 0]:=fun n m=>(cQ.ep _ _).ep _ _;have cs:∀k:Int,jc [.ep (aE b) 0,.ep [vi k] 0]:=fun k=>(cQ.ep _ _).ep _ _;obtain⟨c2,c3,c4,ig⟩:=eW b
 match k,hk with
 |0,_=>refine⟨_,_,cg 1 1,aDt F.za omT omT,fun H=>?_⟩;have h1:aG A (g "x") [vi 1,vi 1] H=QQ (.fn (g "G") [] [.ep [vi 1] 0,.ep [vi 1] 0],H,[]):=aDH F 1 1 H;refine F.f1.call ?_;simp only[wH];rw[ig];simp only[go_sem,↓aB,seval,h1,AJ,BC]
 |1,_=>refine⟨_,_,cg b.cd.length (aFt b),aDt F.za omT omT,fun H=>?_⟩;have h1:aG A (g "x") [vi b.cd.length,vi (aFt b)] H=QQ (.fn (g "G") [] [.ep [vi b.cd.length] 0,.ep [vi (aFt b)] 0],H,[]):=aDH F b.cd.length (aFt b) H;have h2:=aLa F b H;rw[ig]at h2;refine F.f2.call ?_;simp only[wI];rw[ig];simp only[go_sem,↓aB,seval];refine aY (aq:=pQ) rfT rfT ?_;simp only[go_sem,↓aB,seval,pQ,h1,h2,AJ,AB,AD,AA,AE,AF,BC,Zz,eH,dG,aL]
 |2,_=>refine⟨_,_,cs 2,aCw F.uy b 2 omT,fun H=>?_⟩;have h1:=aCC F b 2 H;rw[ig]at h1;refine F.f3.call ?_;simp only[wJ];rw[ig];simp only[go_sem,↓aB,seval,h1,AJ,AD,AA,AE,BC];rw[jG (AQ _)];exact⟨rfl,rfl,rfl⟩
 |3,_=>refine⟨_,_,cs 3,aCw F.uy b 3 omT,fun H=>?_⟩;have h1:=aCC F b 3 H;rw[ig]at h1;refine F.f4.call ?_;simp only[wK];rw[ig];simp only[go_sem,↓aB,seval,h1,AJ,AD,AA,AE,BC];rw[jG (AQ _)];exact⟨rfl,rfl,rfl⟩
 |4,_=>refine⟨_,_,cs 4,aCw F.uy b 4 omT,fun H=>?_⟩;have h1:=aCC F b 4 H;rw[ig]at h1;refine F.f5.call ?_;simp only[wL];rw[ig];simp only[go_sem,↓aB,seval,h1,AJ,AD,AA,AE,BC];rw[jG (AQ _)];exact⟨rfl,rfl,rfl⟩
 |5,_=>refine⟨_,_,cg (aFu b) b.bo.length,aDt F.za omT omT,fun H=>?_⟩;have h1:aG A (g "x") [vi (aFu b),vi b.bo.length] H=QQ (.fn (g "G") [] [.ep [vi (aFu b)] 0,.ep [vi b.bo.length] 0],H,[]):=aDH F (aFu b) b.bo.length H;have h2:=aQf F b H;rw[ig]at h2;refine F.f6.call ?_;simp only[wM];rw[ig];simp only[go_sem,↓aB,seval];refine aY (aq:=pR) rfT rfT ?_;simp only[go_sem,↓aB,seval,pR,h1,h2,AJ,AB,AD,AA,AE,AF,BC,Zz,eH,dG,aL]
 |6,_=>refine⟨_,_,cg b.lines.length 1,aDt F.za omT omT,fun H=>?_⟩;have h1:aG A (g "x") [vi b.lines.length,vi 1] H=QQ (.fn (g "G") [] [.ep [vi b.lines.length] 0,.ep [vi 1] 0],H,[]):=aDH F b.lines.length 1 H;refine F.f7.call ?_;simp only[wN];rw[ig];simp only[go_sem,↓aB,seval,h1,AJ,AB,AD,AA,AE,AF,BC]
end
def aAQ(g:SN):ag:=.block 2 (.dz (.tmp 24) [25,26] (.seq (qS [qm 8 25]<|.region QT [qm 9 26])<|.block 3 (qR [ql 27 1 5,ql 28 1 6,ql 29 1 3,qm 30 8,qm 31 9,qq 32 (.build [z0,z0,z0,z0] [(0,1,(.tmp 28)),(1,1,(.tmp 29)),(2,1,(.tmp 30)),(3,1,(.tmp 31))]),qq 33 (.bsl 4 [z0,z0,z0,z0] 1 [(0,(.tmp 32))]),qa 34 4 32 27 33,qs 1 5 34])))
abbrev aH6(g:SN):ag:=qS [qbi 11 .lss 10 7]<|.seq (qC 11 (.skip) (.exit 0))<|.seq (.block 1 (qS [qm 12 10,qq 6 (.alloc [z0]),qs 1 6 12]<|qS [qq 13 (.load 1 QT (uc (.ep (aSj g) 0))),ql 14 1 6,qq 15 (.look (.agg [z0,.bx]) (u 13) (u 14) QT),qq 7 (.alloc [z0,.bx]),qs 2 7 15]<|.seq (qS [qla 16 2 7,qf 17 0 2,ql 18 1 17,qc 19 (g "bt") [u 16,u 18],qq 20 (.un .not (u 19))]<|qC 20 (.exit 1) (.skip))<|qS [qf 21 1 7,ql 22 1 21,qla 23 13 2,qq 24 (.dm (u 22) [(.tmp 23)])]<|aAQ g))<|.region QT [qbi 35 .add 10 1,qm 10 35]
def oZ(g:SN):bw:=⟨37,[5,6,7,25,34],[.tmp 4],qS [qx 2 13 0,qx 3 1 1,qmc 4 (.sl QS [])]<|qS [qq 5 (.alloc [(.sl QS [])])]<|.seq (qS [qmc 10 z0]<|.block 0 (.loop (aH6 g)))<|qS [ql 36 1 5,qm 4 36]<|.ret⟩
def aF8(b:Block)(at':Int)(k:Nat):List Fact:=if lJ (aBp k) b.kind then (aWq b k).map fun p=>⟨k,at',p.1,p.2⟩ else []
def nO(b:Block)(at':Int)(n:Nat):List Fact:=(GZ n).flatMap (aF8 b at')
def eM(b:Block)(at':Int):List Fact:=nO b at' 7
theorem aAR{b:Block}{at':Int}{n:Nat}:nO b at' (n+1)=nO b at' n++aF8 b at' n:=by unfold nO;rw[LQ,JK];simp
theorem aNk{b:Block}(hb:b.Ok)(k:Nat):(aWq b k).length<=256:=by
 have hc:aFt b<=16:=aJE fun r hr=>(hb.cd r hr).1;have Ix:aFu b<=16:=aJE fun r hr=>(hb.bo r hr).1;have hs:∀kind,(iI b.aw kind b.aw.length b.aw.length).length<=256:=fun kind=>by
  have h1:=MJ (fun p:Nat×Nat=>aGY b.aw kind p.1 p.2) (qA b.aw.length b.aw.length);rw[rH]at h1;have h2:b.aw.length*b.aw.length<=16*16:=JL hb.fg hb.fg;unfold iI;omega
 unfold aWq;split
 ·rw[rH];decide
 ·rw[rH];exact JL hb.uu hc
 ·exact hs _
 ·exact hs _
 ·exact hs _
 ·rw[rH];exact JL Ix hb.uv
 rw[rH];have:=hb.vz;omega
theorem yT{b:Block}(hb:b.Ok){at':Int}(n:Nat):(nO b at' n).length<=n*256:=by
 induction n with
 |zero=>exact AQ _
 |succ n ih=>
  rw[aAR,BA,JS];have:(aF8 b at' n).length<=256:=by
   unfold aF8;split
   ·rw[AF];exact aNk hb n
   grind
  omega
def bBc(base:Nat)(w:AV)(x4:ah)(rows:List Fact):Prop:=(rows=[]/\w=.sl QS [])∨(rows≠[]/\∃ver,w=.sr (base+4) ver rows.length/\x4=.vec ver 4 (rows.map aI))
abbrev bBd:ag:=.seq (qS [qm 8 25]<|.region QT [qm 9 26])<|.block 3 (qR [ql 27 1 5,ql 28 1 6,ql 29 1 3,qm 30 8,qm 31 9,qq 32 (.build [z0,z0,z0,z0] [(0,1,(.tmp 28)),(1,1,(.tmp 29)),(2,1,(.tmp 30)),(3,1,(.tmp 31))]),qq 33 (.bsl 4 [z0,z0,z0,z0] 1 [(0,(.tmp 32))]),qa 34 4 32 27 33,qs 1 5 34])
abbrev bBe(base v:Nat)(l:LA):ah:=.rnd v base [5,6,7,25,34] [25,26] bBd l QT N2
def FI(H:LO)(k:Nat)(at':Int)(v v6:Nat)(x2:ah)(tail:LO)(pre:List Fact)(p:aEw)(X:LO):Prop:=∃w x4 l,X=H++(.box 1 [w]::.box v6 [vi k]::x2::bBe H.length v l::x4::tail)/\l.length=37 /\
 ck l 5=.ptr H.length 1 0/\ck l 6=.ptr (H.length+1) v6 0/\ck l 3=.ep [vi at'] 0/\bBc H.length w x4 (pre++p.map fun q=>⟨k,at',q.1,q.2⟩)
theorem aOo{b a1 a2 a3 a4 a5 o v t:Nat}(h:([a1,a2,a3,a4,a5].contains t)=QT)(ht:t<YF):(⟨b,[a1,a2,a3,a4,a5,YF+o,YF+v]⟩:Ctx).site (QQ t)=none:=by unfold Ctx.site;grind
section
variable {A:af}{g:SN}
theorem aYd(hY:sn A)(H:LO)(k:Nat)(at':Int)(v v6:Nat)(x2:ah)(tail:LO)(pre:List Fact)(sd:pre.length<=10000):ux A (H.length+3) v H.length (H.length+5+tail.length) (FI H k at' v v6 x2 tail pre):=by
 refine⟨fun p X hX=>?_,fun p X Y a b hp ha hb hX=>?_⟩
 ·obtain⟨w,x4,l,rfl,_⟩:=hX;simp;omega
 obtain⟨w,x4,l,rfl,hl,h5,h6,h3,hw⟩:=hX;rw[CJ];simp only[DO];obtain⟨e,H',wr,h1,he,h2,h4⟩:=mT hY (K:=fun e H' wr=>e=.normal/\(∃H0,H'=H0++Y/\FI H k at' v v6 x2 tail pre (p++[(a,b)]) H0)/\∀x∈wr,H.length<=x) (N:=37) (l:=l) (xs:=[vi a,vi b]) (o:=H.length+3) (v:=v)
  (H:=H++(.box 1 [w]::.box v6 [vi k]::x2::bBe H.length v l::x4::(tail++Y))) (by rw[bX];rfl) rfl bIv bIv hl (by
   have hs:ck (dH l [25,26] [vi a,vi b])=upd (upd (ck l) 25 (vi a)) 26 (vi b):=by show ck ((l.set 25 (vi a)).set 26 (vi b))=_;rw[nG (by grind),nG omT]
   rw[hs];generalize hρ:ck l=ρ at *;simp only[DO,CW];simp only[go_sem,↓aB,seval];have Iy:(⟨H.length,[5,6,7,25,34,YF+(H.length+3),YF+v]⟩:Ctx).site (QQ 33)=none:=aOo rfT deT;have fq:∀{w2:LN} {n:Nat},(∀x∈w2,H.length<=x)->∀x∈FM H.length n++(H.length+3)::w2,H.length<=x:=fun {w2 n} h x hx=>by
    grind
   refine⟨_,_,_,_,_,rfl, ?_⟩;have Qk:(pre++p.map fun q=>(⟨k,at',q.1,q.2⟩:Fact)).length<=20000:=by grind
   have lv:(pre++(p++[(a,b)]).map fun q=>(⟨k,at',q.1,q.2⟩:Fact))=(pre++p.map fun q=>(⟨k,at',q.1,q.2⟩:Fact))++[⟨k,at',a,b⟩]:=by grind
   generalize hR:(pre++p.map fun q=>(⟨k,at',q.1,q.2⟩:Fact))=R at *;have Gk:4<tail.length+Y.length+1+1+1+1+1:=omT;rcases hw with⟨rfl,rfl⟩ | ⟨bl,ver,rfl,rfl⟩
   ·have hr:bP 1 32=true:=deT;simp only[go_sem,↓aB,seval,h5,h6,h3,Iy,AD,AB,AA,AE,eX,cG,dO,hr,AW,AZ,CW,AJ,Gk];exact⟨_,_,_,_,_,rfl,⟨_,(CJ H (_::_::_::_::_::tail) Y).symm,⟨_,_,l,rfl,hl,by simp_all,by simp_all,by simp_all,by rw[lv];exact .inr ⟨siT,_,rfl,rfl⟩⟩⟩,fq siT⟩
   have hr:bP (R.length+1) 32=true:=by unfold bP;simp;omega
   simp only[go_sem,↓aB,seval,h5,h6,h3,Iy,AD,AB,AA,AE,eX,cG,dO,hr,AW,AZ,AF];exact⟨_,_,_,_,_,rfl,⟨_,(CJ H (_::_::_::_::_::tail) Y).symm,⟨_,_,l,rfl,hl,by simp_all,by simp_all,by simp_all,by rw[lv];exact .inr ⟨siT,ver,by grind,by rw[DQ];rfl⟩⟩⟩,fq siT⟩)
 grind
theorem aNl{k:Nat}(hk:k<7):iB (vi k) ([vi 0,vi 1,vi 2,vi 3,vi 4,vi 5,vi 6].zip (aMi g)) 0=QQ (QQ (k,tH g (aBp k) (aVe k))):=by
 match k,hk with
 |0,_=>rfl
 |1,_=>rfl
 |2,_=>rfl
 |3,_=>rfl
 |4,_=>rfl
 |5,_=>rfl
 |6,_=>rfl
theorem aOp(F:ln A g)(h:Has A g "H" (oZ g))(b:Block)(hb:b.Ok)(at':Int)(H:LO):∃r,((eM b at'=[]/\r=.sl QT [])∨(eM b at'≠[]/\r=.own 4 ((eM b at').map aI)))/\aG A (g "H") [.agg (aE b),vi at'] H=QQ (r,H,[]):=by
 obtain⟨r,H',ba,e1,rfl,rfl,e2⟩:=h.bp (args:=[.agg (aE b),vi at']) (H:=H) (K:=fun r H' wr=>wr=[]/\H'=H/\((eM b at'=[]/\r=.sl QT [])∨(eM b at'≠[]/\r=.own 4 ((eM b at').map aI)))) (by
  obtain⟨op,n,ks,ig⟩:=eW b;have Bi:=fun k hk=>aSk F b hb k hk;simp only[oZ];rw[ig];rw[ig]at Bi;simp only[go_sem,↓aB,seval];refine bJ (id:=0) (fun k ρ1 H1 wr=>wr=[]/\ρ1 10=vi (k:Nat)/\∃w x1 x2 x3 x4 tail,H1=H++(.box 1 [w]::x1::x2::x3::x4::tail)/\bBc H.length w x4 (nO b at' k)) 7
   (fun ρ1 H1 wr=>wr=[]/\∃w x1 x2 x3 x4 tail,H1=H++(.box 1 [w]::x1::x2::x3::x4::tail)/\bBc H.length w x4 (eM b at')) bIv rfl ⟨rfl,rfl,_,_,_,_,_,_,rfl,.inl ⟨rfl,rfl⟩⟩ ?_ ?_
  ·rintro k ρ1 H1 dc zp ⟨rfl,e10,w,x1,x2,x3,x4,tail,rfl,hw⟩ hf;have f2:ρ1 2=.ep [vi b.kind,.sl QT (b.runs.map cZ),vi op,vi n,.sl QT (ks.map aF),vi b.dn,.sl QT (b.eg.map bF),.sl QT (b.cd.map bY),vi b.w,vi b.h,.sl QT (b.aw.map aH),.sl QT (b.bo.map bS),.sl QT (b.lines.map aN)] 0:=hf 2 rfl;have f3:ρ1 3=.ep [vi at'] 0:=hf 3 rfl;have f5:ρ1 5=.ptr H.length 1 0:=hf 5 rfl;simp only[go_sem,↓aB,seval,e10];refine aD (fun e3=>?_) (fun e3=>?_)
   ·have hlt:k<7:=by grind
    have dy:=wS (i:=k) omT;have wj:=aNl (g:=g) hlt;obtain⟨f,ay,cm,M5,az⟩:=Bi k hlt;have C0:=fun H=>aL9 F (aBp k) b.kind (aVe k) H;simp only[tH]at wj C0;have qe:1<tail.length+1+1+1+1+1:=omT;have iq:2<tail.length+1+1+1+1+1:=omT;simp only[go_sem,↓aB,seval,e10,f2,aSj,wj,qe,iq,AW,AJ,AB,AD,AA,AE,C0];cases hh:lJ (aBp k) b.kind with
    |false=>
     have hk:nO b at' (k+1)=nO b at' k:=by rw[aAR];unfold aF8;rw[hh];simp
     simp only[go_sem,↓aB,seval,e10,dy];grind
    |true=>
     have hk:nO b at' (k+1)=nO b at' k++(aWq b k).map fun q=>⟨k,at',q.1,q.2⟩:=by rw[aAR];unfold aF8;rw[hh];rfl
     simp only[go_sem,↓aB,seval,f2,az,AJ,AB,AD,AA,AE];simp only[aAQ];simp only[go_sem,seval];have I9:=aNk hb k;have sd:(nO b at' k).length<=10000:=by have:=yT hb (at':=at') k;omega
     refine wC (id:=H.length+3) (v:=x3.ver+1) (X:=fun l=>H++(.box 1 [w]::.box (x1.ver+1) [vi k]::.box (x2.ver+1) [vi (aBp k),.fn (g (aVe k)) [] []]::bBe H.length (x3.ver+1) l::x4::tail)) rfT rfT siT (fun _=>rfT) (by unfold bH;grind) (fun l=>by rw[sV];rfl) ?_;intro l hl he;obtain⟨H',X,en,j1,⟨w',x4',l',rfl,jl,j5,j6,j3,jw⟩,j4⟩:=M5 (H.length+3) (x3.ver+1) H.length (H.length+5+tail.length) (FI H k at' (x3.ver+1) (x1.ver+1) (.box (x2.ver+1) [vi (aBp k),.fn (g (aVe k)) [] []]) tail (nO b at' k)) _ (aYd F.noY H k at' _ _ _ tail _ sd) ⟨w,x4,l,rfl,hl,by rw[he];exact f5,by rw[he];rfl,by rw[he];exact f3,by grind⟩;rw[<- hk]at jw;refine⟨_,_,_,_,_,_,_,_,N2,j1,by rw[CJ];simp only[DO];rw[bX];rfl, ?_⟩;rw[kH (fun x hx=>by grind),CJ];simp only[DO];rw[eS];show pP 2 _ _ .normal _ _ _;simp only[go_sem,↓aB,seval,e10,dy];grind
   have:k=7:=by grind
   subst this;simp only[go_sem,seval];exact⟨w,x1,x2,x3,x4,tail,rfl,hw⟩
  rintro ρ' H' ba ⟨rfl,w,x1,x2,x3,x4,tail,rfl,hw⟩ hf;have f5:ρ' 5=.ptr H.length 1 0:=hf 5 rfl;rcases hw with⟨e0,rfl⟩ | ⟨bl,ver,rfl,rfl⟩
  ·simp only[go_sem,↓aB,seval,f5,AD,AA,AE];exact .inl e0
  have hd:gG ((eM b at').map aI)=true:=aC eL _;simp only[go_sem,↓aB,seval,f5,AD,AA,AE,aT hd,aA hd,AF];exact .inr bl)
 grind
end
def aQg:LA:=[[99,104,111,105,99,101],[99,111,117,110,116],[111,112,101,110]].map AV.str
abbrev sD(g:SN):ag:=qS [qb 29 .lss 28 27]<|.seq (qC 29 (.skip) (.exit 0))<|.seq (.block 1 (qS [qi 30 26 28 1,ql 31 1 30,qm 5 31]<|qS [qm 32 0,qc 33 (g "e") [u 32,uc (.str [110,101,101,100])]]<|.region QT [qm 34 0,qm 35 5,qq 36 (.bsl 1 [z0] 1 [(0,(.tmp 35))]),qc 37 (g "o") [u 34,u 36]]))<|.region QT [qbi 38 .add 28 1,qm 28 38]
abbrev sE:LN:=[29,30,31,5,32,33,34,35,36,37,38,28]
abbrev sF(g:SN):ag:=qS [qb 47 .lss 46 45]<|.seq (qC 47 (.skip) (.exit 2))<|.seq (.block 3 (qS [qm 48 46,qi 49 44 46 1,ql 50 1 49,qm 6 48,qm 7 50]<|qS [qm 51 0,qc 52 (g "e") [u 51,uc (.str [111,112,116,105,111,110])]]<|qS [qm 53 0,qm 54 7,qc 55 (g "A") [u 53,u 54]]<|.region QT [qm 56 0,qf 57 6 3,ql 58 1 57,qm 59 6,qi 60 58 59 1,ql 61 1 60,qc 62 (g "A") [u 56,u 61]]))<|.region QT [qbi 63 .add 46 1,qm 46 63]
abbrev sG:LN:=[47,48,49,50,6,7,51,52,53,54,55,56,57,58,59,60,61,62,63,46]
def eN(g:SN):bw:=⟨64,[3],[],qS [qx 3 7 1]<|qS [qm 8 0,qc 9 (g "e") [u 8,uc (.str [97,115,107])]]<|qS [qm 10 0,qf 11 0 3,ql 12 1 11,qq 13 (.iaA 3 1 (uc (.ep aQg 0)) (u 12)),ql 14 1 13,qc 15 (g "t") [u 10,u 14]]<|qS [qm 16 0,qf 17 5 3,ql 18 1 17,qq 19 (.bsl 1 [z0] 1 [(0,(.tmp 18))]),qc 20 (g "o") [u 16,u 19]]<|qS [qm 21 0,qf 22 4 3,ql 23 1 22,qc 24 (g "A") [u 21,u 23]]<|.seq (qS [qf 25 3 3,ql 26 1 25,qn 27 26,qmc 28 z0]<|.block 0 (.loop (sD g)))<|qS [qm 39 0,qf 40 1 3,ql 41 1 40,qc 42 (g "aA") [u 39,u 41]]<|qS [qf 43 2 3,ql 44 1 43,qn 45 44,qmc 46 z0]<|.block 2 (.loop (sF g))⟩
theorem aSl{k:Int}(h0:0<=k)(h1:k<=2):∃w:Str,w.length<=6/\(aQg.drop k.toNat).take 1=[.str w]/\k.toNat+1<=aQg.length:=by
 have:∀i<3,∃w:Str,w.length<=6/\(aQg.drop i).take 1=[.str w]/\i+1<=aQg.length:=by
  intro i hi
  match i,hi with
  |0,_=>exact⟨_,deT,rfl,deT⟩
  |1,_=>exact⟨_,deT,rfl,deT⟩
  |2,_=>exact⟨_,deT,rfl,deT⟩
 exact this _ omT
section
variable {A:af}{g:SN}{tB tP:Nat}
def bI6(q:Question)(M:Nat):Prop:=∃m k,(∀r∈q.lk,2*r.text.length+20<=m)/\(∀s∈q.options,∀t∈q.dv,2*s.length+2*t.length+13<=k)/\23+2*q.key.length+q.cy.length*20+q.lk.length*m+q.options.length*k<=M
theorem bHp{q:Question}(hq:q.Ok)(hb:aWp q=QS):bI6 q 150000:=by unfold aWp aGx at hb;simp only[AI,eG,aUL,vP,AO]at hb;obtain⟨⟨⟨⟨⟨⟨⟨b1,b2⟩,b3⟩,b4⟩,b5⟩,b6⟩,b7⟩,b8⟩:=hb;exact⟨420,213,fun r hr=>by have:=b2.2.2 r hr;omega,fun s hs t ht=>by have:=b4.2 s hs;have:=b5.2 t ht;omega,by have:=hq.fg;omega⟩
theorem aLb(F:BlockPrt A g tB tP)(h:Has A g "az" (eN g))(q:Question)(hq:q.Ok)(hb:aWp q=QS){M:Nat}(hM:bI6 q M):aNb A (g "az") [.agg (gR q)] M:=by
 obtain⟨m,k,V9,Ep,Dc⟩:=hM;refine h.prt rfl (by simp[eN]) (fun n=>bIv) ?_;intro H ty o v o2 v2 T c hT Aw;unfold aWp aGx at hb;simp only[AI,eG]at hb;obtain⟨⟨⟨⟨⟨⟨⟨⟨b1,b2⟩,b3⟩,b4⟩,⟨b5,b6⟩⟩,⟨b7,b8⟩⟩,⟨b9,b10⟩⟩,b11⟩,b12,b13⟩:=hb;rw[AO]at b10;have b2':q.kind<3:=omT;have b4':q.options.length=q.dv.length:=by simp at b4;omega
 obtain⟨w,dy,gn,pr⟩:=aSl b1 b2;have c':∀y:ah,gf (H++[y]).length o o2:=fun y=>c.mono siT;have tx:∀{s:Str},lI s->s.length<=1000:=fun h=>h;have hr:∀r∈q.lk,(r.text.length<=200 /\ -1000000<r.gg/\r.gg<1000000)/\2*r.text.length+20<=m:=fun r hr=>by
  have h1:=b3.2.2;rw[AO]at h1;have:=h1 r hr;unfold aUL vP at this;simp only[AI,eG]at this;exact⟨⟨omT,omT,omT⟩,V9 r hr⟩
 have Mb:=mS F.toOutFns [q.points] QT siT soT;simp only[eN];simp only[go_sem,↓aB,seval,gR,mO c,aFE c,iZ];refine bI (fQ F.toOutFns [97,115,107] deT) (c' _) hT (by show T.length+4<=_;omega) ?_;rintro T1 dc k1 k2 k3;have k2:T1.length<=T.length+4:=k2;simp only[go_sem,↓aB,seval,mO c,AD,AA,AE,b1,b2',gn,pr,BC,FK];refine bI (pY F.toOutFns w omT) (c' _) k1 omT ?_;rintro T2 en m1 m2 m3;simp only[go_sem,↓aB,seval,mO c,AB,AD,AA,AE];refine bI Mb (c' _) m1 soT ?_;rintro T3 wr3 n1 n2 n3;have n2:T3.length<=T2.length+9:=n2;simp only[go_sem,↓aB,seval,mO c,AB,AD,AA,AE];have Y2:q.key.length<=1000:=hq.key;refine bI (sZ F.toTextFns q.key Y2) (c' _) n1 omT ?_;rintro T4 wr4 p1 p2 p3;simp only[go_sem,↓aB,seval,mO c,AB,AD,AA,AE,AF];generalize hx:ah.box _ [vi q.kind,AV.sl QT (q.lk.map cZ),.sl QT (q.options.map aN),.sl QT (q.cy.map bF),.str q.key,vi q.points,.sl QT (q.dv.map aN)]=x;refine kU (fun L wr=>L=[x]/\Wr2 o o2 wr) 0 1 28 27 29 38 q.cy.length 20 (W:=sE) rfT bIv rfl rfl rfl omT p1 ⟨rfl,bZ (bZ (bZ (bZ kT k3) m3) n3) p3⟩ ?_ ?_
 ·rintro i ρ1 L1 T5 wr5 hlt e8 hf ⟨rfl,g3⟩ g1 g2;have e6:ρ1 26=.sl QT (q.cy.map bF):=hf 26 rfl;have e0:ρ1 0=.ptr o v 0:=hf 0 rfl;have cj:=mgE bF hlt;have a1:=b10 _ (AS hlt);generalize q.cy[i]=nd at *;unfold aOl at a1;rw[eG]at a1;have I0:=mS F.toOutFns [nd] QT siT soT;have dp:i*20+20<=q.cy.length*20:=omT;simp only[go_sem,↓aB,seval,e8,e6,e0,AU,AT,cj,bF];refine bI (fQ F.toOutFns [110,101,101,100] deT) (c' _) g1 (by show T5.length+5<=_;omega) ?_;rintro T6 wr6 r1 r2 r3;have r2:T6.length<=T5.length+5:=r2;simp only[go_sem,↓aB,seval,e0];refine bI I0 (c' _) r1 soT ?_;rintro T7 wr7 s1 s2 s3;have s2:T7.length<=T6.length+9:=s2;simp only[go_sem,↓aB,seval];exact⟨rfl,_,T7,⟨rfl,bZ (bZ g3 r3) s3⟩,s1,omT,rfl⟩
 rintro ρ2 L2 T5 wr5 ⟨rfl,g3⟩ g1 g2 hf;have e0:ρ2 0=.ptr o v 0:=hf 0 rfl;have e3:ρ2 3=.ptr H.length 1 0:=hf 3 rfl;subst hx;simp only[go_sem,↓aB,seval,e0,e3,mO c,AB,AD,AA,AE];refine bI (aNc F.toTextFns F.runs q.lk m hq.fg hr) (c' _) g1 omT ?_;rintro T6 wr6 r1 r2 r3;simp only[go_sem,↓aB,seval,e3,mO c,AB,AD,AA,AE,AF];generalize hx:ah.box _ [vi q.kind,AV.sl QT (q.lk.map cZ),.sl QT (q.options.map aN),.sl QT (q.cy.map bF),.str q.key,vi q.points,.sl QT (q.dv.map aN)]=x;refine kU (fun L wr=>L=[x]/\Wr2 o o2 wr) 2 3 46 45 47 63 q.options.length k (W:=sG) rfT bIv rfl rfl rfl omT r1 ⟨rfl,bZ g3 r3⟩ ?_ ?_
 ·rintro i ρ1 L1 T7 wr7 hlt e8 cq ⟨rfl,j3⟩ j1 j2;have f44:ρ1 44=.sl QT (q.options.map aN):=cq 44 rfl;have f0:ρ1 0=.ptr o v 0:=(cq 0 rfl).trans e0;have f3:ρ1 3=.ptr H.length 1 0:=(cq 3 rfl).trans e3;have cj:=mgE aN hlt;have Bj:i<q.dv.length:=omT;have Bk:=mgE aN Bj;have a3:=Ep _ (AS hlt) _ (AS Bj);have a1:=hq.options _ (AS hlt);have a2:=hq.dv _ (AS Bj);generalize q.options[i]=s1 at *;generalize q.dv[i]=s2 at *;have a1:s1.length<=1000:=a1;have a2:s2.length<=1000:=a2;have dp:=aSn (m:=k) hlt;simp only[go_sem,↓aB,seval,e8,f44,f0,AU,AT,cj,aN];refine bI (fQ F.toOutFns [111,112,116,105,111,110] deT) (c' _) j1 (by show T7.length+7<=_;omega) ?_;rintro T8 wr8 l1 l2 l3;have l2:T8.length<=T7.length+7:=l2;simp only[go_sem,↓aB,seval,f0];refine bI (sZ F.toTextFns s1 a1) (c' _) l1 omT ?_;rintro T9 wr9 t1 t2 t3;subst hx;simp only[go_sem,↓aB,seval,f0,f3,mO c,AU,AT,Bk,aN,AB,AD,AA,AE];refine bI (sZ F.toTextFns s2 a2) (c' _) t1 omT ?_;rintro T10 wr10 u1 u2 u3;simp only[go_sem,↓aB,seval];exact⟨rfl,_,T10,⟨rfl,bZ (bZ (bZ j3 l3) t3) u3⟩,u1,omT,rfl⟩
 rintro ρ3 L3 T7 wr7 ⟨rfl,j3⟩ j1 j2 cq;simp only[go_sem,seval];exact⟨rfl,[x],T7,j1,omT,rfl,j3⟩
end
structure oh(A:af)(g:SN)(tB:Nat):Prop where
 val:kc A g tB
 fact:Has A g "aW" (yQ g)
 ask:Has A g "aY" (oH g)
 Gl:Has A g "ai" (jI g)
 Bl:Has A g "az" (eN g)
theorem aSm{k:Int}(h0:0<=k)(h1:k<=6):∃w:Str,w.length<=6/\(aQ0.drop k.toNat).take 1=[.str w]/\k.toNat+1<=aQ0.length:=by
 have:∀i<7,∃w:Str,w.length<=6/\(aQ0.drop i).take 1=[.str w]/\i+1<=aQ0.length:=by
  intro i hi
  match i,hi with
  |0,_=>exact⟨_,deT,rfl,deT⟩
  |1,_=>exact⟨_,deT,rfl,deT⟩
  |2,_=>exact⟨_,deT,rfl,deT⟩
  |3,_=>exact⟨_,deT,rfl,deT⟩
  |4,_=>exact⟨_,deT,rfl,deT⟩
  |5,_=>exact⟨_,deT,rfl,deT⟩
  |6,_=>exact⟨_,deT,rfl,deT⟩
 exact this _ omT
section
variable {A:af}{g:SN}{tB:Nat}
theorem aVf(h:oh A g tB)(x:Item)(hx:x.Ok)(H:LO):aG A (g "bK") [.agg (aO x)] H=QQ (.bool (aGU x),H,[]):=by
 refine h.val.item.call ?_;have hw:=kO h.val.blk.within;have hl:∀{n:Nat},n<=16->n<4611686018427387904:=fun h=>by omega
 have h0:=fun H=>aGw h.val.name h.val.M3 h.val.M4 h.val.blk.sj hw x.name H (by have:x.name.length<=1000:=hx.name;omega);have h1:=fun H=>h.val.R9.spec hw bT cQ (l:=x.blocks) (H:=H) (f1:=g "bH") (q:=dQ) (lo:=0) (hi:=8) (hl hx.zq) fun _ b hb=>aEX h.val.blk b (hx.blocks b hb) H;have h2:=fun H=>h.val.B6.spec hw lF cQ (l:=x.facts) (H:=H) (f1:=g "aW") (q:=aHJ) (lo:=0) (hi:=8) (hl hx.B1) fun _ b _=>aMe h.fact hw b H;have h3:=fun H=>h.val.S0.spec hw aY1 cQ (l:=x.ask) (H:=H) (f1:=g "aY") (q:=aWp) (lo:=0) (hi:=4) (hl hx.tj) fun _ b hb=>aGV h.ask h.Gl h.val.blk b (hx.ask b hb) H;simp only[yO,aGU];cases e0:aO7 x.name with
 |false=>simp only[go_sem,↓aB,seval,aO,h0,e0,BQ,BB]
 |true=>cases e1:(wi x.blocks.length 0 8&&x.blocks.all dQ)with
  |false=>simp only[go_sem,↓aB,seval,aO,h0,h1,e0,e1,BQ,BR,Zz,BB]
  |true=>cases e2:(wi x.facts.length 0 8&&x.facts.all aHJ)with
   |false=>simp only[go_sem,↓aB,seval,aO,h0,h1,h2,e0,e1,e2,BQ,BR,Zz,BB]
   |true=>simp only[go_sem,↓aB,seval,aO,h0,h1,h2,h3,e0,e1,e2,BR,Zz]
theorem yU{b:Block}(h:dQ b=QS):xU b=true:=by unfold dQ at h;grind
def bI7(x:Item)(M:Nat):Prop:=∃m k,(∀b∈x.blocks,Sc b m)/\(∀q∈x.ask,bI6 q k)/\6+x.name.length+x.blocks.length*m+x.facts.length*60+x.ask.length*k<=M
theorem bHq{x:Item}(hx:x.Ok)(hi:aGU x=QS):bI7 x 5600000:=by unfold aGU at hi;simp only[AI,eG,AO]at hi;obtain⟨⟨⟨b1,⟨b2,b3⟩,b4⟩,⟨b5,b6⟩,b7⟩,⟨b8,b9⟩,b10⟩:=hi;exact⟨6500,150000,fun b hb=>bHb (yU (b4 b hb)) (hx.blocks b hb),fun q hq=>bHp (hx.ask q hq) (b10 q hq),by have:x.name.length<=1000:=hx.name;omega⟩
theorem aVg(F:uw A g tB)(Mc:Has A g "az" (eN g))(x:jm)(hx:x.Ok)(hn:x.items.length<=12)(hi:∀i∈x.items,aGU i=QS)(M:Nat)(hM:∀i∈x.items,bI7 i M)(Vu:x.items.length*M<=70000000)(H:LO):∃s:Str,s.length<=8+2*x.title.length+x.items.length*M/\aG A (g "bQ") [dE x] H=QQ (.str s,H,[]):=by
 obtain⟨v',H',ba,h1,rfl,rfl,s,rfl,hs⟩:=F.source.bp (args:=[dE x]) (H:=H) (K:=fun v H' wr=>wr=[]/\H'=H/\∃s:Str,v=.str s/\s.length<=8+2*x.title.length+x.items.length*M) (by
  have hf:=aIA F.toOutFns (H:=H++[.cw 1 189 [.nilPtr,.ar],.gone 0,.gone 0,.gone 0,.gone 0]) (o:=H.length) (v:=1) (s:=[101,120,97,109]) siT siT deT;rw[show (H++[ah.cw 1 189 [.nilPtr,.ar],.gone 0,.gone 0,.gone 0,.gone 0]).length=H.length+5 by simp,aBe,List.set_cons_zero,CJ]at hf;have c':∀{L:LO},L.length=6->gf (H++L).length H.length (H.length+5):=fun h=>⟨soT,soT,omT⟩;have gy:=fun(T:Str) (b c d e:ah)=>aNe (H:=H) (ty:=189) (v:=1) (v2:=1) (T:=T) (a:=.gone 0) (b:=b) (c:=c) (d:=d) (e:=e) (f:=.gone 0);rw[show [ah.cw 1 189 [.ptr H.length 1 0,.sr (H.length+5) 1 ([101,120,97,109]:Str).length],ah.gone 0,.gone 0,.gone 0,.gone 0]++[.gl 1 5 1 (rb [101,120,97,109])]=[.cw 1 189 [.ptr H.length 1 0,.sr (H.length+5) 1 ([101,120,97,109]:Str).length],.gone 0,.gone 0,.gone 0,.gone 0,.gl 1 5 1 (rb [101,120,97,109])] from rfl,gy]at hf;have od:∀{w:LN},Wr2 H.length (H.length+5) w->bE H.length [] w=[]:=fun {w} h=>by
   induction w with
   |nil=>rfl
   |cons x r ih=>
    have hx:H.length<=x:=by rcases h x siT with e | e<;>omega
    unfold bE;grind
  have m1:∀{i:Nat} {X:LO} {T:Str},i≠0->i≠5->(PSt X 189 H.length 1 (H.length+5) 1 T)[H.length+i]? = X[H.length+i]? := fun h h'=>aKX h h';have n1:∀{X:LO} {T:Str},(PSt X 189 H.length 1 (H.length+5) 1 T)[H.length+1]? = X[H.length+1]? := m1 deT deT;have S3:x.title.length<=1000:=hx.title;simp only[yM];simp only[go_sem,↓aB,seval,dE,hf];refine bI (sZ F.toTextFns x.title S3) (c' rfl) siT (by grind) ?_;rintro T1 dc a1 a2 a3;have a2:T1.length<=4+(2*x.title.length+3):=a2;simp only[go_sem,↓aB,seval,od a3,AB,AD,AA,AE,AF];refine kU (fun L wr=>L.length=6/\wr=[]) 0 1 23 22 24 80 x.items.length M (W:=zQ) rfT bIv rfl rfT rfT omT a1 ⟨rfl,rfl⟩ ?_ ?_
  ·rintro i ρ1 L1 T2 en hlt e23 cq ⟨hL,rfl⟩ g1 g2;obtain⟨x0,x1,x2,x3,x4,x5,rfl⟩:=uI hL;have e3:ρ1 3=.ptr H.length 1 0:=cq 3 rfl;have e21:ρ1 21=.sl QT (x.items.map aO):=cq 21 rfl;have cj:=mgE aO hlt;have W5:=hi _ (AS hlt);have kh:=hx.items _ (AS hlt);have Y0:=aSn (m:=M) hlt;obtain⟨m,k,V9,Ep,Dc⟩:=hM _ (AS hlt);generalize x.items[i]=it at *;unfold aGU at W5;simp only[AI,eG,AO]at W5;obtain⟨⟨⟨b1,⟨b2,b3⟩,b4⟩,⟨b5,b6⟩,b7⟩,⟨b8,b9⟩,b10⟩:=W5;have W6:it.name.length<=1000:=kh.name;have Iz:it.blocks.length<=8:=omT;have Ja:it.facts.length<=8:=omT;have Jb:it.ask.length<=4:=omT;have n2:∀{X:LO} {T:Str} {x:ah},(PSt X 189 H.length 1 (H.length+5) 1 T).set (H.length+1) x=PSt (X.set (H.length+1) x) 189 H.length 1 (H.length+5) 1 T:=aCr deT deT;have n3:∀{X:LO} {T:Str},bH (PSt X 189 H.length 1 (H.length+5) 1 T) (H.length+1)=bH X (H.length+1):=aEr deT deT;have n4:∀{X:LO} {T:Str} {mk:Nat->ah},make (PSt X 189 H.length 1 (H.length+5) 1 T) (H.length+1) mk=PSt (make X (H.length+1) mk) 189 H.length 1 (H.length+5) 1 T:=aBl deT deT;simp only[go_sem,↓aB,seval,e23,e21,e3,iZ,n1,n2,AU,AT,cj,aO];refine bI (fQ F.toOutFns [105,116,101,109] deT) (c' rfl) g1 (by grind) ?_;rintro T3 wr3 b1 b2 b3;have b2:T3.length<=T2.length+5:=b2;simp only[go_sem,↓aB,seval,od b3,e3,n1,AD,AA,AE];refine bI (pY F.toOutFns it.name omT) (c' rfl) b1 omT ?_;rintro T4 wr4 d1 d2 d3;simp only[go_sem,↓aB,seval,od d3,n1,AB,AD,AA,AE,AF];refine kU (fun L wr=>L.length=6/\wr=[]/\L[1]? = QQ (.box (x1.ver+1) [.str it.name,.sl QT (it.blocks.map aE),.sl QT (it.facts.map aI),.sl QT (it.ask.map gR)])) 2 3 36 35 37 43 it.blocks.length m (W:=zN) rfT bIv rfl rfT rfT omT d1 ⟨rfl,rfl,rfl⟩ ?_ ?_
   ·rintro j ρ2 L2 T5 wr5 jlt f36 im ⟨yx,rfl,I1⟩ p1 p2;obtain⟨y0,y1,y2,y3,y4,y5,rfl⟩:=uI yx;have f3:ρ2 3=.ptr H.length 1 0:=(im 3 rfl).trans e3;have f34:ρ2 34=.sl QT (it.blocks.map aE):=im 34 rfl;have fh:=mgE aE jlt;have td:=kh.blocks _ (AS jlt);have dx:=yU (b4 _ (AS jlt));have u6:=aSn (m:=m) jlt;have P6:=V9 _ (AS jlt);generalize it.blocks[j]=b at *;have m2:∀{X:LO} {T:Str} {x:ah},(PSt X 189 H.length 1 (H.length+5) 1 T).set (H.length+2) x=PSt (X.set (H.length+2) x) 189 H.length 1 (H.length+5) 1 T:=aCr deT deT;have m1':∀{X:LO} {T:Str},(PSt X 189 H.length 1 (H.length+5) 1 T)[H.length+2]? = X[H.length+2]? := m1 deT deT;have m3:∀{X:LO} {T:Str},bH (PSt X 189 H.length 1 (H.length+5) 1 T) (H.length+2)=bH X (H.length+2):=aEr deT deT;have m4:∀{X:LO} {T:Str} {mk:Nat->ah},make (PSt X 189 H.length 1 (H.length+5) 1 T) (H.length+2) mk=PSt (make X (H.length+2) mk) 189 H.length 1 (H.length+5) 1 T:=aBl deT deT;have iz:(aE b).all AV.ak=true:=bQ (bG b);simp only[go_sem,↓aB,seval,f36,f34,f3,iZ,m1',m2,AU,AT,fh,cF,bT.take,aS (bG b),aK (bG b),iz,AD,AW,AZ];refine bI (aKV F.toBlockPrt b dx td P6) (c' rfl) p1 omT ?_;rintro T6 wr6 q1 q2 q3;simp only[go_sem,↓aB,seval,od q3];exact⟨rfl,[y0,y1,.box (y2.ver+1) (aE b),y3,y4,y5],T6,⟨rfl,rfl,I1⟩,q1,omT,rfl⟩
   rintro ρ' L' T' ba ⟨k0,rfl,k3⟩ k1 k2 I3;obtain⟨y0,y1,y2,y3,y4,y5,rfl⟩:=uI k0;have h5:ρ' 5=.ptr (H.length+1) (x1.ver+1) 0:=I3 5 rfl;have h3:ρ' 3=.ptr H.length 1 0:=(I3 3 rfl).trans e3;simp only[CT,BG,AG]at k3;subst k3;simp only[go_sem,↓aB,seval,h5,n1,AB,AD,AA,AE,AF];refine kU (fun L wr=>L.length=6/\wr=[]/\L[1]? = QQ (.box (x1.ver+1) [.str it.name,.sl QT (it.blocks.map aE),.sl QT (it.facts.map aI),.sl QT (it.ask.map gR)])) 4 5 47 46 48 68 it.facts.length 60 (W:=zO) rfT bIv rfl rfT rfT omT k1 ⟨rfl,rfl,rfl⟩ ?_ ?_
   ·rintro j ρ2 L2 T5 wr5 jlt f47 im ⟨yx,rfl,I1⟩ p1 p2;obtain⟨y0,y1,y2,y3,y4,y5,rfl⟩:=uI yx;have f3:ρ2 3=.ptr H.length 1 0:=(im 3 rfl).trans h3;have f45:ρ2 45=.sl QT (it.facts.map aI):=im 45 rfl;have fh:=mgE aI jlt;have W7:=b7 _ (AS jlt);have u6:=aSn (m:=60) jlt;generalize it.facts[j]=f at *;unfold aHJ at W7;simp only[AI,eG]at W7;obtain⟨⟨⟨⟨v1,v2⟩,v3,v4⟩,v5,v6⟩,v7,v8⟩:=W7;obtain⟨w,dy,gn,pr⟩:=aSm v1 v2;have v2':f.kind<7:=omT;have Gm:=mS F.toOutFns [f.block,f.a,f.b] QT siT soT;have r1:∀{X:LO} {T:Str},(PSt X 189 H.length 1 (H.length+5) 1 T)[H.length+3]? = X[H.length+3]? := m1 deT deT;have r2:∀{X:LO} {T:Str} {x:ah},(PSt X 189 H.length 1 (H.length+5) 1 T).set (H.length+3) x=PSt (X.set (H.length+3) x) 189 H.length 1 (H.length+5) 1 T:=aCr deT deT;have r3:∀{X:LO} {T:Str},bH (PSt X 189 H.length 1 (H.length+5) 1 T) (H.length+3)=bH X (H.length+3):=aEr deT deT;have r4:∀{X:LO} {T:Str} {mk:Nat->ah},make (PSt X 189 H.length 1 (H.length+5) 1 T) (H.length+3) mk=PSt (make X (H.length+3) mk) 189 H.length 1 (H.length+5) 1 T:=aBl deT deT;simp only[go_sem,↓aB,seval,f47,f45,f3,iZ,r1,r2,AU,AT,fh,aI];refine bI (fQ F.toOutFns [102,97,99,116] deT) (c' rfl) p1 (by grind) ?_;rintro T6 wr6 q1 q2 q3;have q2:T6.length<=T5.length+5:=q2;simp only[go_sem,↓aB,seval,od q3,f3,r1,AD,AA,AE,v1,v2',gn,pr,BC,FK];refine bI (pY F.toOutFns w omT) (c' rfl) q1 omT ?_;rintro T7 wr7 s1 s2 s3;simp only[go_sem,↓aB,seval,od s3,f3,r1,AB,AD,AA,AE];refine bI Gm (c' rfl) s1 soT ?_;rintro T8 wr8 t1 t2 t3;have t2:T8.length<=T7.length+27:=t2;simp only[go_sem,↓aB,seval,od t3];exact⟨rfl,[y0,y1,y2,.box (y3.ver+1) (aI f),y4,y5],T8,⟨rfl,rfl,I1⟩,t1,omT,rfl⟩
   rintro ρ'' L'' T'' wr'' ⟨q0,rfl,q3⟩ q1 q2 Cv;obtain⟨z0,z1,z2,z3,z4,z5,rfl⟩:=uI q0;have Fy:ρ'' 5=.ptr (H.length+1) (x1.ver+1) 0:=(Cv 5 rfl).trans h5;have D9:ρ'' 3=.ptr H.length 1 0:=(Cv 3 rfl).trans h3;simp only[CT,BG,AG]at q3;subst q3;simp only[go_sem,↓aB,seval,Fy,n1,AB,AD,AA,AE,AF];refine kU (fun L wr=>L.length=6/\wr=[]) 6 7 72 71 73 79 it.ask.length k (W:=zP) rfT bIv rfl rfT rfT omT q1 ⟨rfl,rfl⟩ ?_ ?_
   ·rintro j ρ2 L2 T5 wr5 jlt f72 im ⟨yx,rfl⟩ p1 p2;obtain⟨y0,y1,y2,y3,y4,y5,rfl⟩:=uI yx;have f3:ρ2 3=.ptr H.length 1 0:=by rw[im 3 rfT];exact D9
    have f70:ρ2 70=.sl QT (it.ask.map gR):=im 70 rfl;have fh:=mgE gR jlt;have J0:=kh.ask _ (AS jlt);have Mf:=b10 _ (AS jlt);have u6:=aSn (m:=k) jlt;have P6:=Ep _ (AS jlt);generalize it.ask[j]=q at *;have r1:∀{X:LO} {T:Str},(PSt X 189 H.length 1 (H.length+5) 1 T)[H.length+4]? = X[H.length+4]? := m1 deT deT;have r2:∀{X:LO} {T:Str} {x:ah},(PSt X 189 H.length 1 (H.length+5) 1 T).set (H.length+4) x=PSt (X.set (H.length+4) x) 189 H.length 1 (H.length+5) 1 T:=aCr deT deT;have r3:∀{X:LO} {T:Str},bH (PSt X 189 H.length 1 (H.length+5) 1 T) (H.length+4)=bH X (H.length+4):=aEr deT deT;have r4:∀{X:LO} {T:Str} {mk:Nat->ah},make (PSt X 189 H.length 1 (H.length+5) 1 T) (H.length+4) mk=PSt (make X (H.length+4) mk) 189 H.length 1 (H.length+5) 1 T:=aBl deT deT;have p0:=aLb F.toBlockPrt Mc q J0 Mf P6;simp only[gR]at p0;simp only[go_sem,↓aB,seval,f72,f70,f3,iZ,r1,r2,AU,AT,fh,gR];refine bI p0 (c' rfl) p1 omT ?_;rintro T6 wr6 s1 s2 s3;simp only[go_sem,↓aB,seval,od s3];exact⟨rfl,[y0,y1,y2,y3,.box (y4.ver+1) (gR q),y5],T6,⟨rfl,rfl⟩,s1,omT,rfl⟩
   rintro ρ3 L3 T3' wr3' ⟨r0,rfl⟩ r1 r2 Lv;simp only[go_sem,seval];exact⟨rfl,L3,T3',⟨r0,rfl⟩,r1,omT,rfl⟩
  rintro ρ' L' T' ba ⟨k0,rfl⟩ k1 k2 hf;have h3:ρ' 3=.ptr H.length 1 0:=hf 3 rfl;obtain⟨wr8,w1,w2⟩:=tX F.wb F.cc (ty:=189) (v:=1) (v2:=1) (T:=T') (b:=10) (c' k0) omT;have w1:aG A (g "N") [.ptr H.length 1 0,.int .u8 10] (PSt (H++L') 189 H.length 1 (H.length+5) 1 T')=QQ (.bj,PSt (H++L') 189 H.length 1 (H.length+5) 1 (T'++[10]),wr8):=w1;have bd:=aCs F.str (ty:=189) (v:=1) (v2:=1) (T:=T'++[10]) (c' k0) siT soT;have pk:((PSt (H++L') 189 H.length 1 (H.length+5) 1 (T'++[10])).set (H.length+5) (.gone 1)).take H.length=H:=by rw[List.take_set_of_le omT,aNf]
  simp only[go_sem,↓aB,seval,h3,w1,bd,od w2,qQ,pk];grind)
 grind
end
section
variable {A:af}{g:SN}{tB:Nat}
noncomputable def bDt(x:jm):Bool:=vP 0 100 x.title&&(wi x.items.length 0 12&&x.items.all aGU)
theorem aTh(h:oh A g tB)(x:jm)(hx:x.Ok)(H:LO):∃e:Int,aG A (g "z") [dE x] H=QQ (vi e,H,[])/\(bDt x=QT->e=1)/\(bDt x=QS->e=0∨e=4)/\(bDt x=QS->∀M,(∀i∈x.items,bI7 i M)->8+2*x.title.length+x.items.length*M<=8192->e=0):=by
 have hw:=kO h.val.blk.within;have h0:=fun H=>qW h.val.blk.text h.val.blk.wg h.val.blk.sj hw x.title 0 100 H (by have:x.title.length<=1000:=hx.title;omega);have h1:=fun H=>h.val.allI.spec hw aJl cQ (l:=x.items) (H:=H) (f1:=g "bK") (q:=aGU) (lo:=0) (hi:=12) (by have:=hx.G8;show x.items.length<_;omega) fun _ i hi=>aVf h i (hx.items i hi) H;cases e0:vP 0 100 x.title with
 |false=>refine⟨1, ?_,fun _=>rfl,fun h=>by simp[bDt,e0]at h,fun h=>by simp[bDt,e0]at h⟩;refine h.val.valid.call ?_;simp only[mZ];simp only[go_sem,↓aB,seval,dE,h0,e0,AD,AA,AE,CE,AJ]
 |true=>
  cases e1:(wi x.items.length 0 12&&x.items.all aGU)with
  |false=>refine⟨1, ?_,fun _=>rfl,fun h=>by simp[bDt,e0,e1]at h,fun h=>by simp[bDt,e0,e1]at h⟩;refine h.val.valid.call ?_;simp only[mZ];simp only[go_sem,↓aB,seval,dE,h0,h1,e0,e1,AB,AD,AA,AE,Zz,AJ]
  |true=>
   have e1':=e1;simp only[AI,eG,AO]at e1';have hB:bDt x=true:=by unfold bDt;rw[e0,e1];rfl
   have go:∀s:Str,aG A (g "bQ") [dE x] H=QQ (.str s,H,[])->aG A (g "z") [dE x] H=QQ (vi (if decide ((s.length:Int)>8192)then 4 else 0),H,[]):=fun s nu=>by
    refine h.val.valid.call ?_;simp only[mZ];simp only[dE]at nu ⊢;simp only[go_sem,↓aB,seval,h0,h1,e0,e1,nu,AB,AD,AA,AE,Zz,AJ];refine aD (fun dp=>?_) (fun dp=>?_)
    ·simp only[go_sem,↓aB,seval,dp]
    rw[dp];simp only[go_sem,↓aB,seval]
   have src:=fun M h1 h2=>aVg h.val.src h.Bl x hx omT e1'.2 M h1 h2 H;obtain⟨s,lq,nu⟩:=src 5600000 (fun i hi=>bHq (hx.items i hi) (e1'.2 i hi)) omT;refine⟨_,go s nu,fun h=>(by rw[hB]at h;cases h),fun _=>(by split;exact .inr rfl;exact .inl rfl),fun _ M k1 k2=>?_⟩;obtain⟨s',F1,Uf⟩:=src M k1 omT;rw[nu]at Uf;cases Uf;rw[Zx soT]
abbrev aCD(A:af)(g:SN)(E:Int->Int->List Shape->Int):Prop:=∀(w hh:Int) (l:List Shape),1<=w/\w<=1000->1<=hh/\hh<=1000->l.length<=8->(∀s∈l,vQ s=QS)->∀H:LO,aG A (g "k") [.agg (aDn w hh l)] H=QQ (vi (E w hh l),H,[])
noncomputable def nU(E:Int->Int->List Shape->Int)(b:Block):Int:=if dQ b then (if b.kind=1 then aBV b.expr else if b.kind=4 then E b.w b.h b.aw else 0)else 1
theorem aTi(h:oh A g tB)(b:Block)(hb:b.Ok)(H:LO):aG A (g "z") [dE (aKW b)] H=QQ (vi (if dQ b then 0 else 1),H,[]):=by
 have hx:(aKW b).Ok:=⟨by show 1<=1000;decide,by show 1<=16;decide,fun i hi=>by
  rw[CG.1 hi];exact⟨by show 1<=1000;decide,by show 1<=16;decide,fun x hx=>by rw[CG.1 hx];exact hb,FF _,fun f hf=>(by cases hf),FF _,fun q hq=>(by cases hq)⟩⟩
 obtain⟨e,h1,h2,h3,h4⟩:=aTh h (aKW b) hx H;have hB:bDt (aKW b)=dQ b:=by have e1:vP 0 100 [120]=true:=deT;have e2:aO7 [97]=true:=deT;simp[bDt,aKW,aGU,e1,e2,wi]
 rw[hB]at h2 h3 h4;rw[h1];cases dp:dQ b with
 |false=>rw[h2 dp];rfl
 |true=>
  have:=h4 dp 6700 (fun i hi=>by
   rw[CG.1 hi];exact⟨6500,0,fun x hx=>by rw[CG.1 hx];exact bHb (yU dp) hb,(fun q hq=>by cases hq),by show 6+1+1*6500+0*60+0*0<=6700;decide⟩) (by show 8+2*1+1*6700<=8192;decide)
  rw[this];rfl
theorem aMj{E:Int->Int->List Shape->Int}(hE:aCD A g E)(hv:oh A g tB)(hf:lu A g)(hc:Has A g "K" (tE g))(b:Block)(hb:b.Ok)(H:LO):aG A (g "K") [.agg (aE b)] H=QQ (vi (nU E b),H,[]):=by
 have h0:=aTi hv b hb H;obtain⟨op,n,ks,mn⟩:∃op n ks,b.expr=Expr.mk op n ks:=by cases b.expr;exact⟨_,_,_,rfl⟩
 have Ra:aF b.expr=[vi op,vi n,.sl QT (ks.map aF)]:=by rw[mn,aF,aZ]
 have ig:aE b=[vi b.kind,.sl QT (b.runs.map cZ),vi op,vi n,.sl QT (ks.map aF),vi b.dn,.sl QT (b.eg.map bF),.sl QT (b.cd.map bY),vi b.w,vi b.h,.sl QT (b.aw.map aH),.sl QT (b.bo.map bS),.sl QT (b.lines.map aN)]:=by unfold aE;rw[Ra];rfl
 have yp:=aCp hf b.expr hb.expr hb.size H;rw[Ra]at yp;simp only[dE,aKW,BI,BY,aO,ig]at h0;refine hc.call ?_;rw[ig];simp only[tE,nU];cases hB:dQ b with
 |false=>rw[hB]at h0;simp only[go_sem,↓aB,seval,h0,AJ]
 |true=>
  rw[hB]at h0;simp only[go_sem,↓aB,seval,h0];simp only[aAJ];by_cases k1:b.kind=1
  ·simp only[go_sem,↓aB,seval,k1,AB,AD,AA,AE,yp,AJ]
  have b1:(b.kind==1)=false:=by simpa using k1
  by_cases k4:b.kind=4
  ·have hk:xU b=true:=by unfold dQ at hB;simp only[AI]at hB;exact hB.2
   unfold xU at hk;rw[Zx omT,Zx omT,Zx omT,Zx omT,Zy k4]at hk;simp only[AI,eG]at hk;obtain⟨⟨hw,hh⟩,⟨_,Iv⟩,hS⟩:=hk;have Gn:=hE b.w b.h b.aw hw hh omT (AO.1 hS) H;simp only[go_sem,↓aB,seval,k4,AB,AD,AA,AE,Gn,AJ]
  have b4:(b.kind==4)=false:=by simpa using k4
  simp only[go_sem,↓aB,seval,b1,b4,k1,k4]
end
abbrev aFv(g:SN):ag:=qS [qb 15 .lss 14 13]<|.seq (qC 15 (.skip) (.exit 0))<|.seq (.block 1 (qS [qm 16 14,qi 17 12 14 13,qla 18 13 17,qq 5 (.alloc [z0,(.sl QS []),z0,z0,(.sl QS []),z0,(.sl QS []),(.sl QS []),z0,z0,(.sl QS []),(.sl QS []),(.sl QS [])]),qm 4 16,qs 13 5 18]<|.region QT [qm 19 3,qla 20 13 5,qm 21 4,qc 22 (g "H") [u 20,u 21],qa 23 4 32 19 22,qm 3 23]))<|.region QT [qbi 24 .add 14 1,qm 14 24]
def yV(g:SN):bw:=⟨26,[5,23],[.tmp 2],qS [qx 1 4 0,qmc 2 (.sl QS [])]<|.seq (qS [qla 6 4 1,qq 7 (.bsl 4 [(.str []),(.sl QT []),(.sl QT []),(.sl QT [])] 1 [(0,(.tmp 6))]),qq 8 (.build [(.str []),(.sl QS [])] [(0,1,(.const (.str [120]))),(1,1,(.tmp 7))]),qc 9 (g "z") [u 8],qbi 10 .neq 9 0]<|qC 10 (qS [qmc 2 (.sl QS [])]<|.ret) (.skip))<|qS [qmc 3 (.sl QS [])]<|.seq (qS [qf 11 1 1,ql 12 1 11,qn 13 12,qmc 14 z0]<|.block 0 (.loop (aFv g)))<|qS [qm 25 3,qm 2 25]<|.ret⟩
def aSo(R:List Fact):AV:=if R.isEmpty then .sl QT [] else .own 4 (R.map aI)
theorem aLc{A:af}{g:SN}(F:ln A g)(h:Has A g "H" (oZ g))(b:Block)(hb:b.Ok)(at':Int)(H:LO):aG A (g "H") [.agg (aE b),vi at'] H=QQ (aSo (eM b at'),H,[]):=by
 obtain⟨r,h1,h2⟩:=aOp F h b hb at' H;rw[h2];unfold aSo;rcases h1 with⟨e,rfl⟩ | ⟨bl,rfl⟩
 ·rw[e];rfl
 cases he:eM b at' with
 |nil=>exact Zw he bl
 |cons a r=>rfl
theorem aFF:aSo []=.sl QT []:=rfl
theorem aDI{f:Fact}{r:List Fact}:aSo (f::r)=.own 4 ((f::r).map aI):=rfl
theorem aVh{R:List Fact}(h:R≠[]):aSo R=.own 4 (R.map aI):=by
 cases R with
 |nil=>exact Zw rfl h
 |cons f r=>rfl
def mI(l:List Block)(n:Nat):List Fact:=(GZ n).flatMap fun(k:Nat)=>match l[k]? with
 |some b=>eM b (k:Int)
 |none=>[]
def tI(x:Item):List Fact:=mI x.blocks x.blocks.length
theorem yW{l:List Block}{n:Nat}(h:n<l.length):mI l (n+1)=mI l n++eM l[n] n:=by unfold mI;rw[LQ,JK];simp[AP h]
theorem aEA{l:List Block}(hl:∀b∈l,b.Ok):∀n,n<=l.length->(mI l n).length<=n*1792
 |0,_=>FF _
 |n+1,h=>by
  have h1:=aEA hl n omT;have h2:=yT (hl _ (AS (by omega:n<l.length))) (at':=(n:Int)) 7;rw[yW omT,BA];have:(eM l[n] (n:Int)).length<=7*256:=h2;omega
def bC6(o:Nat)(w:AV)(x:ah)(rows:List Fact):Prop:=(rows=[]/\w=.sl QS [])∨(rows≠[]/\∃ver,w=.sr o ver rows.length/\x=.vec ver 4 (rows.map aI))
section
variable {A:af}{g:SN}{tB:Nat}
theorem aH7(F:ln A g)(hf:Has A g "H" (oZ g))(h:Has A g "bc" (yV g))(x:Item)(hx:x.Ok){P P':Prop} (hV:∀H,∃e:Int,aG A (g "z") [dE ⟨[120],[x]⟩] H=QQ (vi e,H,[])/\(e=0->P)/\(P'->e=0)) (H:LO):∃R,aG A (g "bc") [.agg (aO x)] H=QQ (aSo R,H,[])/\((R=[]/\¬P')∨(P/\R=tI x)):=by
 obtain⟨r,H',ba,e1,rfl,rfl,R,rfl,e2⟩:=h.bp (args:=[.agg (aO x)]) (H:=H) (K:=fun r H' wr=>wr=[]/\H'=H/\∃R,r=aSo R/\((R=[]/\¬P')∨(P/\R=tI x))) (by
  simp only[yV];obtain⟨e,h1,h2,h3⟩:=hV (H++[.gone 0,.gone 0]);simp only[dE,aO,BI,BY]at h1;cases z:(e != 0)with
  |true=>
   have hz:e≠0:=by simpa using z
   simp only[go_sem,↓aB,seval,aO,h1,z,AJ,AB,AD,AA,AE];exact⟨[],rfl,.inl ⟨rfl,fun hp=>hz (h3 hp)⟩⟩
  |false=>
  have hz:e=0:=by simpa using z
  have hP:=h2 hz;simp only[go_sem,↓aB,seval,aO,h1,z,AJ,AB,AD,AA,AE,AF];refine bJ (id:=0) (fun k ρ1 H1 wr=>wr=[]/\ρ1 14=vi (k:Nat)/\∃x0 x1,H1=H++[x0,x1]/\bC6 (H.length+1) (ρ1 3) x1 (mI x.blocks k)) x.blocks.length
   (fun ρ1 H1 wr=>wr=[]/\∃x0 x1,H1=H++[x0,x1]/\bC6 (H.length+1) (ρ1 3) x1 (tI x)) bIv rfl ⟨rfl,rfl,_,_,rfl,.inl ⟨rfl,rfl⟩⟩ ?_ ?_
  ·rintro k ρ1 H1 dc zp ⟨rfl,e14,x0,x1,rfl,hw⟩ cq;have f12:ρ1 12=.sl QT (x.blocks.map aE):=cq 12 rfl;have f13:ρ1 13=vi (x.blocks.length:Nat):=cq 13 rfl;simp only[go_sem,↓aB,seval,e14,f13];refine aD (fun e3=>?_) (fun e3=>?_)
   ·have hlt:k<x.blocks.length:=by simp at e3;omega
    have dy:AR.wrap ((k:Int)+1)=((k+1:Nat):Int):=by rw[wrap_i64 omT (by have:=hx.zq;omega)];omega
    have cj:=mgE aE hlt;have td:=hx.blocks _ (AS hlt);have C7:=yW hlt;have R6:=aEA hx.blocks (k+1) hlt;have Bm:=hx.zq;generalize x.blocks[k]=b at *;have az:=fun H=>aLc F hf b td k H;have iz:(aE b).all AV.ak=true:=bQ (bG b);rw[C7,BA]at R6;cases hR:eM b k with
    |nil=>
     rw[hR,AJ]at C7;simp only[hR]at az;rcases hw with⟨e0,e3'⟩ | ⟨bl,ver,e3',rfl⟩
     ·simp only[go_sem,↓aB,seval,e14,dy,f12,AU,AT,hlt,cj,cF,bT.take,aS (bG b),aK (bG b),iz,AD,AW,AZ,az,aFF,e3',eX,cG,dO];exact⟨_,_,rfl,by rw[C7];exact .inl ⟨e0,rfl⟩⟩
     have hr:bP (mI x.blocks k).length 32=true:=by unfold bP;simp;omega
     simp only[go_sem,↓aB,seval,e14,dy,f12,AF,AU,AT,hlt,cj,cF,bT.take,aS (bG b),aK (bG b),iz,AD,AW,AZ,az,aFF,e3',eX,cG,dO,hr];exact⟨_,_,rfl,by rw[C7];exact .inr ⟨bl,ver,rfl,rfl⟩⟩
    |cons f r=>
     rw[hR]at C7 R6;simp only[hR]at az;have hd:gG ((f::r).map aI)=true:=aC eL _;rcases hw with⟨e0,e3'⟩ | ⟨bl,ver,e3',rfl⟩
     ·have hr:bP (r.length+1) 32=true:=by unfold bP;simp at R6 ⊢;omega
      simp only[go_sem,↓aB,seval,e14,dy,f12,AF,AU,AT,hlt,cj,cF,bT.take,aS (bG b),aK (bG b),iz,AD,AW,AZ,az,aDI,e3',eX,cG,dO,hr,BI,aI];exact⟨_,_,rfl,by rw[C7,e0,CW];exact .inr ⟨siT,_,rfl,rfl⟩⟩
     have hr:bP ((mI x.blocks k).length+(r.length+1)) 32=true:=by unfold bP;simp at R6 ⊢;omega
     simp only[go_sem,↓aB,seval,e14,dy,f12,AF,AU,AT,hlt,cj,cF,bT.take,aS (bG b),aK (bG b),iz,AD,AW,AZ,az,aDI,e3',eX,cG,dO,hr,BI,aI];exact⟨_,_,rfl,by rw[C7];exact .inr ⟨siT,ver,by rw[BA];rfl,by rw[DQ];rfl⟩⟩
   have:k=x.blocks.length:=by simp at e3;omega
   subst this;simp only[go_sem,seval];exact⟨x0,x1,rfl,hw⟩
  rintro ρ' H' ba ⟨rfl,x0,x1,rfl,hw⟩ cq;rcases hw with⟨e0,e3⟩ | ⟨bl,ver,e3,rfl⟩
  ·simp only[go_sem,↓aB,seval,e3];exact⟨[],rfl,.inr ⟨hP,e0.symm⟩⟩
  have hd:gG ((tI x).map aI)=true:=aC eL _;simp only[go_sem,↓aB,seval,e3,aT hd,aA hd,AF];exact⟨_,(aVh bl).symm,.inr ⟨hP,rfl⟩⟩)
 exact⟨R,e1,e2⟩
end
end Go.AM
end
section

end
section
namespace Go.AM
open Go
abbrev aH8(A:af)(g:SN):Prop:=∀(n:Nat) (H:LO),n<1000000->aG A (g "I") [vi n] H=QQ (.str (dec n),H,[])
abbrev bEl(g:SN):List ae:=[qm 34 5,qm 35 6,qm 36 5,qm 37 6,qm 38 5,qm 39 6,qm 40 3,qf 41 0 7,⟨QQ 42,ol 1 41,N2,[7]⟩,⟨QQ 43,.look (.str []) (u 40) (u 42) QT,N2,[6,8,7]⟩,qf 44 6 7,⟨QQ 45,ol 1 44,N2,[10]⟩,⟨QQ 46,on 45,N2,[11,10]⟩,⟨QQ 47,.mks 1 16 [(.str [])] (u 46) (u 46),N2,[12,11,10]⟩,⟨QQ 48,oi 34 35 7,N2,[0,1,9,6,8,7]⟩,⟨QQ 49,of 5 48,N2,[14,0,1,9,6,8,7]⟩,⟨N2,.store 1 (u 49) (ui 0),N2,[15,14,0,1,9,6,8,7]⟩,⟨QQ 50,oi 36 37 7,N2,[2,3,16,15,14,0,1,9,6,8,7]⟩,⟨QQ 51,of 4 50,N2,[17,2,3,16,15,14,0,1,9,6,8,7]⟩,⟨N2,os 1 51 43,N2,[18,17,2,3,16,15,14,0,1,9,6,8,7]⟩,⟨QQ 52,oi 38 39 7,N2,[4,5,13,12,11,10,19,18,17,2,3,16,15,14,0,1,9,6,8,7]⟩,⟨QQ 53,of 6 52,N2,[20,4,5,13,12,11,10,19,18,17,2,3,16,15,14,0,1,9,6,8,7]⟩,⟨N2,os 1 53 47,N2,[21,20,4,5,13,12,11,10,19,18,17,2,3,16,15,14,0,1,9,6,8,7]⟩]
abbrev bDu(g:SN):ag:=qS [qb 30 .lss 29 28]<|.seq (qC 30 (.skip) (.exit 2))<|.seq (.block 3 (qS [qm 31 29,qi 32 27 29 7,qla 33 7 32,qq 7 (.alloc [z0,(.sl QS []),(.sl QS []),(.sl QS []),(.str []),z0,(.sl QS [])]),qm 6 31,qs 7 7 33]<|.region QS (bEl g)))<|.region QT [qbi 54 .add 29 1,qm 29 54]
abbrev bEm:LN:=[30,31,32,33,7,6,34,35,36,37,38,39,40,41,42,43,44,45,46,47,48,49,50,51,52,53,54,29]
abbrev bDv(g:SN):ag:=qS [qb 18 .lss 17 16]<|.seq (qC 18 (.skip) (.exit 0))<|.seq (.block 1 (qS [qm 19 17,qm 4 19]<|qS [qf 20 1 1,ql 21 1 20,qm 22 4,qi 23 21 22 4,qf 24 3 23,ql 25 1 24,qc 26 (g "bq") [u 25],qm 5 26]<|.seq (qS [qm 27 5,qn 28 27,qmc 29 z0]<|.block 2 (.loop (bDu g)))<|.seq (.frz [(0,5)])<|.region QT [qf 55 1 1,ql 56 1 55,qm 57 4,qm 58 5,qi 59 56 57 4,qf 60 3 59,qs 1 60 58]))<|.region QT [qbi 61 .add 17 1,qm 17 61]
abbrev bEn:LN:=[18,19,4,20,21,22,23,24,25,26,5,27,28,29,30,31,32,33,7,6,34,35,36,37,38,39,40,41,42,43,44,45,46,47,48,49,50,51,52,53,54,29,5,55,56,57,58,59,60,61,17]
def bDw(g:SN):bw:=⟨63,[1,2,8,12,26,7],[.cell 2 2 QS],qS [qx 1 2 0,qq 2 (.alloc [(.str []),(.sl QS [])])]<|qS [qq 8 (.jn),qz (.ins (u 8) (ui 0) (uc (.str [48]))),qz (.ins (u 8) (ui 1) (uc (.str [48]))),qz (.ins (u 8) (ui 2) (uc (.str [45]))),qm 9 8,qm 3 9]<|qS [qf 10 1 1,ql 11 1 10,qc 12 (g "cb") [u 11],qf 13 1 1,qs 1 13 12]<|.seq (qS [qf 14 1 1,ql 15 1 14,qn 16 15,qmc 17 z0]<|.block 0 (.loop (bDv g)))<|qS [qla 62 2 1,qs 2 2 62]<|.ret⟩
abbrev bII(g:SN):ag:=.seq (qS [qm 24 7,qf 25 3 5,ql 26 1 25,qn 27 26,qb 28 .lss 24 27]<|qC 28 (.skip) (.exit 2))<|.seq (.block 3 (qS [qf 31 3 5,ql 32 1 31,qm 33 7,qi 34 32 33 7,qla 35 7 34,qq 8 (.alloc [z0,(.sl QS []),(.sl QS []),(.sl QS []),(.str []),z0,(.sl QS [])]),qs 7 8 35]<|qS [qf 36 5 8,qz (.store 1 (u 36) (ui 0))]<|qS [qf 37 4 8,qz (.store 1 (u 37) (uc (.str [])))]<|.seq (qS [qf 38 0 8,ql 39 1 38,qbi 40 .eql 39 0,qm 41 40,qF 42 41 (of 0 8),qF 43 41 (ol 1 42),qF 44 41 (obi .eql 43 1),qq 45 (.pick (u 41) uT (u 44))]<|qC 45 (qR [qf 46 4 8,qz (.store 1 (u 46) (uc (.str [48])))]) (.skip))<|.seq (qS [qf 47 0 8,ql 48 1 47,qbi 49 .eql 48 2]<|qC 49 (qR [qf 50 4 8,qz (.store 1 (u 50) (uc (.str [45])))]) (.skip))<|qS [qf 51 6 8,ql 52 1 51,qn 53 52,qq 54 (.mks 1 16 [(.str [])] (u 53) (u 53)),qf 55 6 8,qs 1 55 54]<|.region QT [qm 56 6,qla 57 7 8,qq 58 (.bsl 7 [z0,(.sl QT []),(.sl QT []),(.sl QT []),(.str []),z0,(.sl QT [])] 1 [(0,(.tmp 57))]),qa 59 7 128 56 58,qm 6 59]))<|.region QT [qm 29 7,qbi 30 .add 29 1,qm 7 30]
abbrev bIW:LN:=[24,25,26,27,28,31,32,33,34,35,8,36,37,38,39,40,41,42,43,44,45,46,47,48,49,50,51,52,53,54,55,56,57,58,59,6,29,30,7]
abbrev bIJ(g:SN):ag:=.seq (qS [qm 12 4,qf 13 1 1,ql 14 1 13,qn 15 14,qb 16 .lss 12 15]<|qC 16 (.skip) (.exit 0))<|.seq (.block 1 (qS [qf 19 1 1,ql 20 1 19,qm 21 4,qi 22 20 21 4,qla 23 4 22,qq 5 (.alloc [(.str []),(.sl QS []),(.sl QS []),(.sl QS [])]),qs 4 5 23]<|qS [qmc 6 (.sl QS [])]<|.seq (qS [qmc 7 z0]<|.block 2 (.loop (bII g)))<|qS [qm 60 6,qf 61 3 5,qs 1 61 60]<|.region QT [qf 62 1 3,ql 63 1 62,qla 64 4 5,qq 65 (.bsl 4 [(.str []),(.sl QT []),(.sl QT []),(.sl QT [])] 1 [(0,(.tmp 64))]),qa 66 4 88 63 65,qf 67 1 3,qs 1 67 66]))<|.region QT [qm 17 4,qbi 18 .add 17 1,qm 4 18]
abbrev bIX:LN:=[12,13,14,15,16,19,20,21,22,23,5,6,7,24,25,26,27,28,31,32,33,34,35,8,36,37,38,39,40,41,42,43,44,45,46,47,48,49,50,51,52,53,54,55,56,57,58,59,6,29,30,7,60,61,62,63,64,65,66,67,17,18,4]
def bIH(g:SN):bw:=⟨69,[1,2,3,5,8,59,66],[.cell 2 2 QS],qS [qx 1 2 0,qq 2 (.alloc [(.str []),(.sl QS [])])]<|qS [qf 9 0 1,ql 10 1 9,qq 11 (.build [(.str []),(.sl QS [])] [(0,1,(.tmp 10))]),qq 3 (.alloc [(.str []),(.sl QS [])]),qs 2 3 11]<|.seq (qS [qmc 4 z0]<|.block 0 (.loop (bIJ g)))<|qS [qla 68 2 3,qs 2 2 68]<|.ret⟩
def bDC(k:Int):Str:=if k=0 then [48] else if k=1 then [48] else if k=2 then [45] else []
def bEe(q:Question):Question:={ q with points:=0,key:=bDC q.kind,dv:=AX q.dv.length [] }
def bDh(x:Item):Item:={ x with ask:=x.ask.map bEe }
def bD5(x:jm):jm:={ x with items:=x.items.map bDh }
theorem bKh(k:Int):k=0∨k=1∨k=2∨(k≠0/\k≠1/\k≠2):=omT
theorem aF9{a b:Int}(h:a≠b):(a==b)=false:=by simpa using h
theorem bJg{A:af}{g:SN}{H0:LO}{Q:bf->bN->LO->LN->Prop}{tg} {vt:Nat} {o0 o1 o2 o4 o5 o6:ah} {c0 c1 c2:AV} {l:List Question} (hl:l.length<=16) (hq:∀q∈l,q.Ok) {ρ:bN} (h5:ρ 5=.ptr (H0.length+3) vt 0) (h6:ρ 6=.sl QS []) (h7:ρ 7=vi 0) (hQ:∀ρ' o4 o5,(∀t,bIW.contains t=QT->ρ' t=ρ t)->ew (H0.length+5) 7 ((l.map bEe).map gR) (ρ' 6) o5 ->Q (.exit 2) ρ' (H0++[o0,o1,o2,.box vt [c0,c1,c2,.sl QT (l.map gR)],o4,o5,o6]) []):wl A 69 ⟨H0.length,[1,2,3,5,8,59,66]⟩ (bII g) ρ (H0++[o0,o1,o2,.box vt [c0,c1,c2,.sl QT (l.map gR)],o4,o5,o6]) [] Q tg:=by
 refine bJ (fun i ρ1 H wr=>wr=[]/\ρ1 7=vi i/\∃o4 o5,H=H0++[o0,o1,o2,.box vt [c0,c1,c2,.sl QT (l.map gR)],o4,o5,o6] /\
  ew (H0.length+5) 7 ((bIM (fun _=>bEe) l i).map gR) (ρ1 6) o5) l.length
  (fun ρ1 H wr=>wr=[]/\∃o4 o5,H=H0++[o0,o1,o2,.box vt [c0,c1,c2,.sl QT (l.map gR)],o4,o5,o6]/\ew (H0.length+5) 7 ((l.map bEe).map gR) (ρ1 6) o5)
  bIv rfl ⟨rfl,h7,o4,o5,rfl,by rw[h6];exact .nil _⟩ ?_ (by
   rintro ρ' H' ba ⟨rfl,o4,o5,rfl,hg⟩ hf;exact hQ ρ' o4 o5 hf hg)
 rintro i ρ1 H1 dc mg ⟨rfl,Fs,o4,o5,rfl,hg⟩ hf;have f5:ρ1 5=.ptr (H0.length+3) vt 0:=(hf 5 rfl).trans h5;simp only[go_sem,seval,f5,Fs];refine aD (fun hb=>?_) (fun hb=>?_)
 ·have hlt:i<l.length:=by simpa using hb
  have Rn:=hq l[i] (AS hlt);have U8:=Rn.vw;have ed:bP l[i].dv.length 16=true:=by unfold bP;simp;omega
  obtain⟨v',o',eu,db⟩:=hg.app (new:=[gR (bEe l[i])]) (bytes:=128) siT rfT (by rw[AF,bJ0 mg];simp;omega);have N0:(bIM (fun _=>bEe) l i).map gR++[gR (bEe l[i])]=(bIM (fun _=>bEe) l (i+1)).map gR:=bIU (f:=fun _=>bEe) hlt rfl;rw[N0]at eu;simp only[gR,bEe,PQ,aN]at db;rcases bKh l[i].kind with hk | hk | hk | ⟨Rj,Ch,z8⟩
  ·rw[show bDC l[i].kind=[48] by rw[hk];rfl,hk]at db;simp only[go_sem,seval,f5,Fs,getElem?_map_of hlt,gR,hk,ed,db];rw[dW omT];grind
  ·rw[show bDC l[i].kind=[48] by rw[hk];rfl,hk]at db;simp only[go_sem,seval,f5,Fs,getElem?_map_of hlt,gR,hk,ed,db];rw[dW omT];grind
  ·rw[show bDC l[i].kind=[45] by rw[hk];rfl,hk]at db;simp only[go_sem,seval,f5,Fs,getElem?_map_of hlt,gR,hk,ed,db];rw[dW omT];grind
  rw[show bDC l[i].kind=[] by simp[bDC,Rj,Ch,z8]]at db;simp only[go_sem,seval,f5,Fs,getElem?_map_of hlt,gR,aF9 Rj,aF9 Ch,aF9 z8,ed,db];rw[dW omT];grind
 have hlt:i=l.length:=by grind
 subst hlt;rw[bJb,bEd]at hg;simp only[go_sem,seval];grind
theorem bJd{A:af}{g:SN}{H0:LO}{Q:bf->bN->LO->LN->Prop}{tg} {vx vo:Nat} {t0 t1:AV} {o1 o3 o4 o5 o6:ah} {l:List Item} (hl:l.length<=16) (hq:∀x∈l,x.Ok) {ρ:bN} (h1:ρ 1=.ptr H0.length vx 0) (h3:ρ 3=.ptr (H0.length+2) vo 0) (h4:ρ 4=vi 0) (hQ:∀ρ' v o3 o4 o5 o6,(∀t,bIX.contains t=QT->ρ' t=ρ t)->ew (H0.length+6) 4 ((l.map bDh).map aO) v o6 ->Q (.exit 0) ρ' (H0++[.box vx [t0,.sl QT (l.map aO)],o1,.box vo [t1,v],o3,o4,o5,o6]) []):wl A 69 ⟨H0.length,[1,2,3,5,8,59,66]⟩ (bIJ g) ρ (H0++[.box vx [t0,.sl QT (l.map aO)],o1,.box vo [t1,.sl QS []],o3,o4,o5,o6]) [] Q tg:=by
 refine bJ (fun i ρ1 H wr=>wr=[]/\ρ1 4=vi i/\∃v o3 o4 o5 o6,H=H0++[.box vx [t0,.sl QT (l.map aO)],o1,.box vo [t1,v],o3,o4,o5,o6] /\
  ew (H0.length+6) 4 ((bIM (fun _=>bDh) l i).map aO) v o6) l.length
  (fun ρ1 H wr=>wr=[]/\∃v o3 o4 o5 o6,H=H0++[.box vx [t0,.sl QT (l.map aO)],o1,.box vo [t1,v],o3,o4,o5,o6]/\ew (H0.length+6) 4 ((l.map bDh).map aO) v o6)
  bIv rfl ⟨rfl,h4,.sl QS [],o3,o4,o5,o6,rfl,.nil _⟩ ?_ (by
   rintro ρ' H' ba ⟨rfl,v,o3,o4,o5,o6,rfl,hg⟩ hf;exact hQ ρ' v o3 o4 o5 o6 hf hg)
 rintro i ρ1 H1 dc mg ⟨rfl,Gw,v,o3,o4,o5,o6,rfl,hg⟩ hf;have f1:ρ1 1=.ptr H0.length vx 0:=(hf 1 rfl).trans h1;have f3:ρ1 3=.ptr (H0.length+2) vo 0:=(hf 3 rfl).trans h3;simp only[go_sem,seval,f1,Gw];refine aD (fun hb=>?_) (fun hb=>?_)
 ·have hlt:i<l.length:=by simpa using hb
  have Rn:=hq l[i] (AS hlt);simp only[go_sem,seval,f1,Gw,getElem?_map_of hlt,aO];refine bJg (l:=l[i].ask) Rn.tj Rn.ask (by simp only[go_sem,seval]) (by simp only[go_sem,seval]) (by simp only[go_sem,seval]) ?_;intro ρ3 o4' o5' im Wf;have g1:ρ3 1=.ptr H0.length vx 0:=by rw[im 1 rfl];simp only[go_sem,seval,f1]
  have g3:ρ3 3=.ptr (H0.length+2) vo 0:=by rw[im 3 rfl];simp only[go_sem,seval,f3]
  have g4:ρ3 4=vi i:=by rw[im 4 rfl];simp only[go_sem,seval,Gw]
  have g5:ρ3 5=.ptr (H0.length+3) (o3.ver+1) 0:=by rw[im 5 rfl];simp only[go_sem,seval]
  obtain⟨f',lf,o6'',qe,iq,yz⟩:=Wf.dw (aC aBI _);obtain⟨v',o',eu,db⟩:=hg.app (new:=[aO (bDh l[i])]) (bytes:=88) siT rfT (by rw[AF,bJ0 mg];simp;omega);have N0:(bIM (fun _=>bDh) l i).map aO++[aO (bDh l[i])]=(bIM (fun _=>bDh) l (i+1)).map aO:=bIU (f:=fun _=>bDh) hlt rfl;rw[N0]at eu;simp only[aO,bDh]at db;simp only[go_sem,seval,g3,g4,g5,Wf.ak,Wf.aj,qe,iq,yz,db,eu.ak,eu.aj];rw[dW omT];grind
 have hlt:i=l.length:=by grind
 subst hlt;rw[bJb,bEd]at hg;simp only[go_sem,seval];grind
theorem bJh{A:af}{g:SN}(h:Has A g "aL" (bIH g))(x:jm)(hx:x.Ok)(H:LO):aG A (g "aL") [dE x] H=QQ (dE (bD5 x),H,[]):=by
 refine h.call ?_;simp only[bIH];simp only[go_sem,seval,dE];refine bJd (l:=x.items) hx.G8 hx.items (by simp only[go_sem,seval]) (by simp only[go_sem,seval]) (by simp only[go_sem,seval]) ?_;intro ρ2 v o3 o4 o5 o6 cq hg;have g2:ρ2 2=.ptr (H.length+1) 1 0:=by rw[cq 2 rfl];simp only[go_sem,seval]
 have g3:ρ2 3=.ptr (H.length+2) 1 0:=by rw[cq 3 rfl];simp only[go_sem,seval]
 obtain⟨f',lf,o7',qe,iq,yz⟩:=hg.dw (aC dV _);simp only[go_sem,seval,g2,g3,hg.ak,qe,iq,yz,aA (aC dV _),bD5]
def bD6:List (AV×AV):=[(.int .i64 0,.str [48]),(.int .i64 1,.str [48]),(.int .i64 2,.str [45])]
theorem bF0(k:Int):(∃j,iB (vi k) bD6 0=QQ (QQ (j,.str (bDC k))))∨(iB (vi k) bD6 0=QQ N2/\bDC k=[]):=by
 rcases bKh k with rfl | rfl | rfl | ⟨h0,h1,h2⟩
 ·exact .inl ⟨0,rfl⟩
 ·exact .inl ⟨1,rfl⟩
 ·exact .inl ⟨2,rfl⟩
 simp_all [bDC,iB,bD6,aJK,Zv,aF9]
theorem bFS{A:af}{g:SN}{H0:LO}{Q:bf->bN->LO->LN->Prop}{tg} {va vm:Nat} {o0 o1 o3 o5:ah} {l:List Question} (hl:l.length<=16) (hq:∀q∈l,q.Ok) {ρ:bN} (h3:ρ 3=.mp (H0.length+2) vm) (h5:ρ 5=.sr (H0.length+4) va l.length) (Up:ρ 27=.sr (H0.length+4) va l.length) (Uq:ρ 28=vi l.length) (Ur:ρ 29=vi 0) (hQ:∀ρ' o5,(∀t,bEm.contains t=QT->ρ' t=ρ t)->Q (.exit 2) ρ' (H0++[o0,o1,.map vm bD6,o3,.vec va 7 ((l.map bEe).map gR),o5]) []):wl A 63 ⟨H0.length,[1,2,8,12,26,7]⟩ (bDu g) ρ (H0++[o0,o1,.map vm bD6,o3,.vec va 7 (l.map gR),o5]) [] Q tg:=by
 refine bJ (fun i ρ1 H wr=>wr=[]/\ρ1 29=vi i/\∃o5,H=H0++[o0,o1,.map vm bD6,o3,.vec va 7 ((bEW (fun _=>bEe) l i).map gR),o5]) l.length
  (fun ρ1 H wr=>wr=[]/\∃o5,H=H0++[o0,o1,.map vm bD6,o3,.vec va 7 ((l.map bEe).map gR),o5])
  bIv rfl ⟨rfl,Ur,o5,by rw[bEY]⟩ ?_ (by
   rintro ρ' H' ba ⟨rfl,o5,rfl⟩ hf;exact hQ ρ' o5 hf)
 rintro i ρ1 H1 dc mg ⟨rfl,Sd,o5,rfl⟩ hf;have f3:ρ1 3=.mp (H0.length+2) vm:=(hf 3 rfl).trans h3;have f5:ρ1 5=.sr (H0.length+4) va l.length:=(hf 5 rfl).trans h5;have f27:ρ1 27=.sr (H0.length+4) va l.length:=(hf 27 rfl).trans Up;have f28:ρ1 28=vi l.length:=(hf 28 rfl).trans Uq;simp only[go_sem,seval,f28,Sd];refine aD (fun hb=>?_) (fun hb=>?_)
 ·have hlt:i<l.length:=by simpa using hb
  have Rn:=hq l[i] (AS hlt);have U8:=Rn.vw;have ed:bP l[i].dv.length 16=true:=by unfold bP;simp;omega
  have lg:((bEW (fun _=>bEe) l i).map gR).set i [vi l[i].kind,.sl QT (l[i].lk.map cZ),.sl QT (l[i].options.map aN),.sl QT (l[i].cy.map bF),.str (bDC l[i].kind),vi 0,.sl QT (AX l[i].dv.length [.str []])] =
    (bEW (fun _=>bEe) l (i+1)).map gR:=bDs hlt (by simp only[gR,bEe,PQ,aN])
  simp only[go_sem,seval,f27,Sd,hlt,bCN hlt,gR];refine aY (aq:=[11,16,19]) rfT rfT ?_;rcases bF0 l[i].kind with⟨j,hk⟩ | ⟨hk,he⟩
  ·simp only[go_sem,seval,f3,f5,Sd,hlt,bCN hlt,gR,hk,ed,lg,eH,dG,aL];rw[dW omT];grind
  rw[he]at lg;simp only[go_sem,seval,f3,f5,Sd,hlt,bCN hlt,gR,hk,ed,lg,eH,dG,aL];rw[dW omT];grind
 have hlt:i=l.length:=by grind
 subst hlt;rw[bFE,bEd];simp only[go_sem,seval];grind
theorem bFl{A:af}{g:SN}(nc:ke A (g "bq") 7 128){H0:LO}{Q:bf->bN->LO->LN->Prop}{tg} {vx vl vm:Nat} {t0:AV} {o1 o4 o5:ah} {l:List Item} (hl:l.length<=16) (hq:∀x∈l,x.Ok) {ρ:bN} (h1:ρ 1=.ptr H0.length vx 0) (h3:ρ 3=.mp (H0.length+2) vm) (Us:ρ 16=vi l.length) (Q5:ρ 17=vi 0) (hQ:∀ρ' o4 o5,(∀t,bEn.contains t=QT->ρ' t=ρ t)->Q (.exit 0) ρ' (H0++[.box vx [t0,.sr (H0.length+3) vl l.length],o1,.map vm bD6,.vec vl 4 ((l.map bDh).map aO),o4,o5]) []):wl A 63 ⟨H0.length,[1,2,8,12,26,7]⟩ (bDv g) ρ (H0++[.box vx [t0,.sr (H0.length+3) vl l.length],o1,.map vm bD6,.vec vl 4 (l.map aO),o4,o5]) [] Q tg:=by
 refine bJ (fun i ρ1 H wr=>wr=[]/\ρ1 17=vi i/\∃o4 o5,H=H0++[.box vx [t0,.sr (H0.length+3) vl l.length],o1,.map vm bD6,.vec vl 4 ((bEW (fun _=>bDh) l i).map aO),o4,o5]) l.length
  (fun ρ1 H wr=>wr=[]/\∃o4 o5,H=H0++[.box vx [t0,.sr (H0.length+3) vl l.length],o1,.map vm bD6,.vec vl 4 ((l.map bDh).map aO),o4,o5])
  bIv rfl ⟨rfl,Q5,o4,o5,by rw[bEY]⟩ ?_ (by
   rintro ρ' H' ba ⟨rfl,o4,o5,rfl⟩ hf;exact hQ ρ' o4 o5 hf)
 rintro i ρ1 H1 dc mg ⟨rfl,Ro,o4,o5,rfl⟩ hf;have f1:ρ1 1=.ptr H0.length vx 0:=(hf 1 rfl).trans h1;have f3:ρ1 3=.mp (H0.length+2) vm:=(hf 3 rfl).trans h3;have f16:ρ1 16=vi l.length:=(hf 16 rfl).trans Us;simp only[go_sem,seval,f16,Ro];refine aD (fun hb=>?_) (fun hb=>?_)
 ·have hlt:i<l.length:=by simpa using hb
  have Rn:=hq l[i] (AS hlt);cases has:l[i].ask with
  |nil=>simp only[go_sem,seval,f1,Ro,hlt,bCN hlt,aO,has,nc.nil];refine bG9 bIv ?_;simp only[go_sem,seval,f1,Ro,hlt,bCN hlt,aO,has];rw[dW omT];refine⟨rfl,o4,o5, ?_⟩;grind [bDs,aO,bDh]
  |cons q r=>
   have Tj:=Rn.tj;have Ug:=Rn.ask;rw[has]at Tj Ug;have kq:=fun H=>nc.cons (gR q) (r.map gR) H rfl (aC aBI (q::r)) (by grind);simp only[go_sem,seval,f1,Ro,hlt,bCN hlt,aO,has,kq];refine bFS (l:=q::r) (vm:=vm) (va:=o4.ver+1) Tj Ug (by simp only[go_sem,seval,f3]) (by simp only[go_sem,seval]) (by simp only[go_sem,seval]) (by simp only[go_sem,seval]) (by simp only[go_sem,seval]) ?_;intro ρ2 o6 cq;have g1:ρ2 1=.ptr H0.length vx 0:=by rw[cq 1 rfl];simp only[go_sem,seval,f1]
   have g4:ρ2 4=vi i:=by rw[cq 4 rfl];simp only[go_sem,seval]
   have g5:ρ2 5=.sr (H0.length+4) (o4.ver+1) (r.length+1):=by rw[cq 5 rfl];simp only[go_sem,seval]
   have g17:ρ2 17=vi i:=by rw[cq 17 rfl];simp only[go_sem,seval,Ro]
   simp only[go_sem,seval,g1,g4,g5,g17,hlt,bCN hlt,bR (aBI _),aT (aC aBI _),aO];rw[dW omT];refine⟨rfl,.gone (o4.ver+1),o6, ?_⟩;grind [bDs,aO,bDh]
 have hlt:i=l.length:=by grind
 subst hlt;rw[bFE,bEd];simp only[go_sem,seval];grind
theorem bFT{A:af}{g:SN}(h:Has A g "V" (bDw g)) (nc:ke A (g "bq") 7 128) (Z4:ke A (g "cb") 4 88) (x:jm) (hx:x.Ok) (H:LO):aG A (g "V") [dE x] H=QQ (dE (bD5 x),H,[]):=by
 refine h.call ?_;simp only[bDw];have Pc:[(AV.int .i64 0,AV.str [48]),(.int .i64 1,.str [48]),(.int .i64 2,.str [45])]=bD6:=rfl;cases has:x.items with
 |nil=>simp only[go_sem,seval,dE,has,Z4.nil];refine bG9 bIv ?_;simp only[go_sem,seval,bD5,has]
 |cons y r=>
  have To:=hx.G8;have Rn:=hx.items;rw[has]at To Rn;have kq:=fun H=>Z4.cons (aO y) (r.map aO) H rfl (aC dV (y::r)) (by grind);simp only[go_sem,seval,dE,has,kq,Pc];refine bFl nc (l:=y::r) To Rn (by simp only[go_sem,seval]) (by simp only[go_sem,seval]) (by simp only[go_sem,seval]) (by simp only[go_sem,seval]) ?_;intro ρ2 o4 o5 cq;have g1:ρ2 1=.ptr H.length 1 0:=by rw[cq 1 rfl];simp only[go_sem,seval]
  have g2:ρ2 2=.ptr (H.length+1) 1 0:=by rw[cq 2 rfl];simp only[go_sem,seval]
  simp only[go_sem,seval,g1,g2,bR (dV _),aT (aC dV _),dC (dV _),aA (aC dV _),bD5,has]
abbrev aA1(g:SN):List ae:=[qm 10 0,⟨QQ 11,obi .quo 10 10,N2,[0]⟩,⟨QQ 12,oc (g "I") [u 11],N2,[1,0]⟩,qm 13 0,⟨QQ 14,obi .rem 13 10,N2,[3]⟩,⟨QQ 15,.bin .add .no (ui 48) (u 14),N2,[4,3]⟩,⟨QQ 16,.conv (.toInt .u8) (u 15),N2,[5,4,3]⟩,⟨QQ 17,.bsl 1 [(.int .u8 0)] 1 [(0,(.tmp 16))],N2,[6,5,4,3]⟩,⟨QQ 18,.conv .b2s (u 17),N2,[7,6,5,4,3]⟩,⟨QQ 19,ob .add 12 18,N2,[2,1,0,8,7,6,5,4,3]⟩,⟨QQ 2,om 19,N2,[9,2,1,0,8,7,6,5,4,3]⟩]
def mV(g:SN):bw:=⟨20,[],[.tmp 2],qS [qmc 2 (.str [])]<|.seq (qS [qm 3 0,qbi 4 .lss 3 10]<|qC 4 (qS [qm 5 0,qq 6 (.bin .add .no (ui 48) (u 5)),qq 7 (.conv (.toInt .u8) (u 6)),qq 8 (.bsl 1 [(.int .u8 0)] 1 [(0,(.tmp 7))]),qq 9 (.conv .b2s (u 8)),qm 2 9]<|.ret) (.skip))<|.seq (.region QS (aA1 g))<|.ret⟩
def nP(g:SN):bw:=⟨15,[],[.tmp 4],qS [qmc 4 z0]<|.seq (qS [qm 5 0,qbi 6 .lss 5 0]<|qC 6 (qR [qm 7 0,qbi 8 .add 7 1,qq 9 (.un .neg (u 8)),qm 0 9]) (.skip))<|.seq (qS [qm 10 1,qbi 11 .lss 10 1]<|qC 11 (qS [qmc 4 z0]<|.ret) (.skip))<|qS [qm 12 0,qm 13 1,qb 14 .rem 12 13,qm 4 14]<|.ret⟩
def oQ(g:SN):bw:=⟨21,[],[.tmp 6],qS [qmc 6 z0]<|.seq (qS [qm 7 1,qbi 8 .lss 7 0,qm 9 8,qF 10 9 (om 1),qF 11 9 (om 0),qF 12 9 (on 11),qF 13 9 (ob .geq 10 12),qq 14 (.pick (u 9) uT (u 13))]<|qC 14 (qS [qmc 6 z0]<|.ret) (.skip))<|qS [qm 15 0,qm 16 1,qi 17 15 16 1,ql 18 1 17,qm 19 2,qc 20 (g "c") [u 18,u 19],qm 6 20]<|.ret⟩
abbrev uK(g:SN):List ae:=[qm 12 0,⟨QQ 13,.cz (u 12),N2,[0]⟩,⟨QQ 14,of 0 13,N2,[1,0]⟩,⟨QQ 15,ol 1 14,N2,[2,1,0]⟩,qm 16 0,⟨QQ 17,.cz (u 16),N2,[4]⟩,⟨QQ 18,of 1 17,N2,[5,4]⟩,⟨QQ 19,ol 1 18,N2,[6,5,4]⟩,⟨QQ 20,obi .sub 19 1,N2,[7,6,5,4]⟩,qm 21 1,⟨QQ 22,oc (g "aF") [u 15,u 20,u 21],N2,[3,2,1,0,8,7,6,5,4,9]⟩,⟨QQ 4,om 22,N2,[10,3,2,1,0,8,7,6,5,4,9]⟩]
def kC(g:SN):bw:=⟨23,[],[.tmp 4],qS [qmc 4 z0]<|qS [qm 5 0,qq 6 (.cz (u 5)),qf 7 1 6,ql 8 1 7,qbi 9 .add 8 1,qq 10 (.cz (u 5)),qf 11 1 10,qs 1 11 9]<|.seq (.region QS (uK g))<|.ret⟩
def oI(g:SN):bw:=⟨15,[],[.tmp 2],qS [qmc 2 z0]<|.seq (qS [qm 3 0,qbi 4 .eql 3 0,qm 5 4,qF 6 5 (om 0),qF 7 5 (obi .eql 6 1),qq 8 (.pick (u 5) uT (u 7))]<|qC 8 (qS [qmc 2 z0]<|.ret) (.skip))<|.seq (qS [qm 9 0,qbi 10 .eql 9 2,qm 11 10,qF 12 11 (om 0),qF 13 11 (obi .eql 12 8),qq 14 (.pick (u 11) uT (u 13))]<|qC 14 (qS [qmc 2 (vi 1)]<|.ret) (.skip))<|qS [qmc 2 (vi 2)]<|.ret⟩
theorem aQh{n:Int}(h1:0<=n)(h2:n<=255):GA .u8 n=n:=by unfold GA LK KC;simp;omega
theorem aLd{A:af}{g:SN}(h:Has A g "I" (mV g)):aH8 A g:=by
 have key:∀(k n:Nat) (H:LO),n<k->n<1000000->aG A (g "I") [vi n] H=QQ (.str (dec n),H,[]):=by
  intro k
  induction k with
  |zero=>intro n H hk;omega
  |succ k ih=>
   intro n H hk hn;refine h.call ?_;simp only[mV];simp only[go_sem,seval];refine aD (fun hb=>?_) (fun hb=>?_)
   ·have hlt:n<10:=by simp at hb;omega
    have hw:AR.wrap (48+(n:Int))=((48+n:Nat):Int):=by rw[wrap_i64 omT omT];omega
    have hu:KD.wrap ((48+n:Nat):Int)=((48+n:Nat):Int):=aQh omT omT;have hd:dec n=[CN (48+n)]:=by rw[dec,Zy hlt]
    simp only[go_sem,seval,hw,hu,pT,cM,hd]
   have nj:¬n<10:=by simp at hb;omega
   have hq:(n:Int).tdiv 10=((n / 10:Nat):Int):=rfl;have hr:(n:Int).tmod 10=((n % 10:Nat):Int):=rfl;have Bh:AR.wrap ((n / 10:Nat):Int)=((n / 10:Nat):Int):=wrap_i64 omT omT;have hw:AR.wrap (48+((n % 10:Nat):Int))=((48+n % 10:Nat):Int):=by rw[wrap_i64 omT omT];omega
   have hu:KD.wrap ((48+n % 10:Nat):Int)=((48+n % 10:Nat):Int):=aQh omT omT;have Mh:=fun H=>ih (n / 10) H omT omT;have hd:dec n=dec (n / 10)++[CN (48+n % 10)]:=by rw[dec,Zx nj]
   have hl:(dec (n / 10)).length+1<=4611686018427387904:=by have:=aGn 5 (n / 10) omT;omega
   simp only[go_sem,seval];refine aY (aq:=[2,6,8]) rfT rfT ?_;simp only[go_sem,seval,aAl (b:=10) deT,tS (b:=10) deT,hq,hr,Bh,hw,hu,Mh,pT,cM,kE,hl,eH,dG,aL,hd]
 intro n H hn;exact key (n+1) n H omT hn
def bu(n most:Int):Int:=if most<1 then 0 else (if n<0 then AR.wrap (0 - AR.wrap (n+1))else n).tmod most
abbrev qK(A:af)(g:SN):Prop:=∀(n m:Int) (H:LO),aG A (g "c") [vi n,vi m] H=QQ (vi (bu n m),H,[])
theorem yX{A:af}{g:SN}(h:Has A g "c" (nP g)):qK A g:=by
 intro n m H;refine h.call ?_;simp only[nP];simp only[go_sem,seval];refine aD (fun hb=>?_) (fun hb=>?_)
 ·have hn:n<0:=by simpa using hb
  simp only[go_sem,seval];refine aD (fun hb=>?_) (fun hb=>?_)
  ·have hm:m<1:=by simpa using hb
   simp only[go_sem,seval,bu,hm]
  have hm:¬m<1:=by simpa using hb
  simp only[go_sem,seval,bu,hm,hn,tS (show m≠0 by omega)]
 have hn:¬n<0:=by simpa using hb
 simp only[go_sem,seval];refine aD (fun hb=>?_) (fun hb=>?_)
 ·have hm:m<1:=by simpa using hb
  simp only[go_sem,seval,bu,hm]
 have hm:¬m<1:=by simpa using hb
 simp only[go_sem,seval,bu,hm,hn,tS (show m≠0 by omega)]
def atZ(l:List Int)(i most:Int):Int:=if i<0∨i ≥ l.length then 0 else bu (l.getD i.toNat 0) most
theorem aVi{A:af}{g:SN}(h:Has A g "aF" (oQ g))(ha:qK A g)(l:List Int)(i m:Int)(H:LO):aG A (g "aF") [.sl QT (l.map bF),vi i,vi m] H=QQ (vi (atZ l i m),H,[]):=by
 refine h.call ?_;simp only[oQ];by_cases h0:i<0
 ·simp only[go_sem,seval,h0,atZ,true_or]
 by_cases h1:i ≥ l.length
 ·simp only[go_sem,seval,h0,h1,atZ,or_true]
 have hi:i.toNat<l.length:=omT;have h2:0<=i:=omT;have hg:(l.map bF)[i.toNat]? = QQ [vi (l.getD i.toNat 0)]:=by rw[BN,List.getD_eq_getElem?_getD,AP hi];rfl
 simp only[go_sem,seval,h0,h1,h2,hg,ha,atZ,or_false]
abbrev aM(l:List Int)(i:Int):LA:=[.sl QT (l.map bF),vi i]
abbrev fR(A:af)(g:SN):Prop:=∀(l:List Int) (i m:Int) (o v:Nat) (H:LO),H[o]? = QQ (.box v (aM l i)) ->
 aG A (g "a") [.ptr o v 0,vi m] H=QQ (vi (atZ l (AR.wrap (AR.wrap (i+1) - 1)) m),H.set o (.box v (aM l (AR.wrap (i+1)))),[o])
theorem aQi{A:af}{g:SN}(h:Has A g "a" (kC g))(ha:Has A g "aF" (oQ g))(hr:qK A g):fR A g:=by intro l i m o v H ho;have hlt:=getElem?_lt ho;refine h.call ?_;simp only[kC];simp only[go_sem,seval,ho,hlt];refine aY (aq:=[]) rfT rfT ?_;have jk:=fun H=>aVi ha hr l (AR.wrap (AR.wrap (i+1) - 1)) m H;simp only[go_sem,seval,hlt,jk,aF6,aA (aC aU _)]
end Go.AM
end
section

end
section
namespace Go.AM
open Go
theorem bCD{a b:Nat}(h:a+b<=1000000000):bP (a+b) 1=true:=by unfold bP;simp;omega
theorem pA(e:Expr):(aF e).length=3:=by cases e;rfl
theorem bD:∀l:List Expr,gO l=l.map aF
 | []=>rfl
 |e::r=>by rw[gO,bD r];rfl
end Go.AM
end
section

end
section
namespace Go.AM
open Go
def fC(g:SN):bw:=⟨10,[],[.tmp 2],qS [qmc 2 (.str [])]<|qS [qq 4 (.bsl 1 [(.str [])] 12 [(0,(.const (.str [116,104,101,32,104,97,110,100]))),(1,(.const (.str [97]))),(2,(.const (.str [73,32,97,110,100,32,121,111,117]))),(3,(.const (.str [84,101,110,32,49,48]))),(4,(.const (.str [97,110,100]))),(5,(.const (.str [110,111,44,32,52,50,46]))),(6,(.const (.str [108,97,110,100]))),(7,(.const (.str [67,104,105,108,100]))),(8,(.const (.str [120]))),(9,(.const (.str [99,97,110,32,105,116]))),(10,(.const (.str [55,32,104,97,110,100,115]))),(11,(.const (.str [111,102,32,116,104,101])))]),qm 3 4]<|qS [qm 5 3,qm 6 0,qc 7 (g "a") [u 6,ui 12],qi 8 5 7 1,ql 9 1 8,qm 2 9]<|.ret⟩
abbrev uL(g:SN):ag:=.seq (qS [qm 14 6,qm 15 5,qb 16 .lss 14 15]<|qC 16 (.skip) (.exit 0))<|.seq (.block 1 (qR [qm 19 4,qm 20 3,qm 21 6,qb 22 .add 20 21,qbi 23 .rem 22 2,qm 24 0,qc 25 (g "i") [u 24],qq 26 (.build [z0,(.str [])] [(0,1,(.tmp 23)),(1,1,(.tmp 25))]),qq 27 (.bsl 2 [z0,(.str [])] 1 [(0,(.tmp 26))]),qa 28 2 24 19 27,qm 4 28]))<|.region QT [qm 17 6,qbi 18 .add 17 1,qm 6 18]
def gB(g:SN):bw:=⟨30,[28],[.tmp 2],qS [qmc 2 (.sl QS [])]<|qS [qm 7 0,qc 8 (g "a") [u 7,ui 2],qm 3 8]<|qS [qmc 4 (.sl QS [])]<|qS [qq 9 (.bsl 1 [z0] 5 [(0,(.const (vi 1))),(1,(.const (vi 1))),(2,(.const (vi 1))),(3,(.const (vi 2))),(4,(.const (vi 3)))]),qm 10 0,qc 11 (g "a") [u 10,ui 5],qi 12 9 11 1,ql 13 1 12,qm 5 13]<|.seq (qS [qmc 6 z0]<|.block 0 (.loop (uL g)))<|qS [qm 29 4,qm 2 29]<|.ret⟩
abbrev sH(g:SN):ag:=.seq (qS [qm 11 6,qm 12 5,qb 13 .lss 11 12]<|qC 13 (.skip) (.exit 0))<|.seq (.block 1 (qR [qm 16 4,qm 17 3,qm 18 0,qc 19 (g "a") [u 18,ui 7],qi 20 17 19 1,ql 21 1 20,qq 22 (.bsl 1 [(.str [])] 1 [(0,(.tmp 21))]),qa 23 1 16 16 22,qm 4 23]))<|.region QT [qm 14 6,qbi 15 .add 14 1,qm 6 15]
def fS(g:SN):bw:=⟨25,[23],[.tmp 2],qS [qmc 2 (.sl QS [])]<|qS [qq 7 (.bsl 1 [(.str [])] 7 [(0,(.const (.str [105,102,32,120,32,60,32,51,32,123]))),(1,(.const (.str [32,32,121,32,61,32,123,49,44,32,50,125]))),(2,(.const (.str [125]))),(3,(.const (.str []))),(4,(.const (.str [32,32,32,32,114,101,116,117,114,110,32,65,91,105,93,32,43,32,34,115,34]))),(5,(.const (.str [102,111,114,32,105,32,58,61,32,48,59,32,105,32,60,32,49,48,59,32,105,43,43,32,123,32,116,111,116,97,108,32,61,32,116,111,116,97,108,32,43,32,118,97,108,117,101,115,91,105,93,32,42,32,50,32,125]))),(6,(.const (.str [32,97,92,98,32,126,32,99])))]),qm 3 7]<|qS [qmc 4 (.sl QS [])]<|qS [qm 8 0,qc 9 (g "a") [u 8,ui 3],qq 10 (.bin .add .no (ui 1) (u 9)),qm 5 10]<|.seq (qS [qmc 6 z0]<|.block 0 (.loop (sH g)))<|qS [qm 24 4,qm 2 24]<|.ret⟩
theorem pS{α:Type}{P:α->Prop}{l:List α}{a:α}(h:∀x∈l,P x)(ha:P a):∀x∈l++[a],P x:=by grind
abbrev jP(l:List Int):Prop:=∀a∈l,eA a
theorem kV{n m:Int}(hn:eA n)(hm:1<=m):0<=bu n m/\bu n m<m:=by
 obtain⟨h1,h2⟩:=hn;unfold bu;rw[Zx omT];split
 ·rw[wrap_i64 (n:=n+1) omT omT,wrap_i64 omT omT];exact⟨HV _ omT,GX _ omT⟩
 exact⟨HV _ omT,GX _ omT⟩
theorem aTj{l:List Int}(hl:jP l)(i:Int){m:Int}(hm:1<=m):0<=atZ l i m/\atZ l i m<m:=by
 unfold atZ;split
 ·omega
 rename_i h;refine kV ?_ hm;have hlt:i.toNat<l.length:=omT;grind [AP,AS]
abbrev dI(A:af)(f:Nat)(args:LA)(P:AV->Prop):Prop:=∀(l:List Int) (i:Int) (o v:Nat) (H:LO),jP l->H[o]? = QQ (.box v (aM l i)) ->
 ∃val i',aG A f (.ptr o v 0::args) H=QQ (val,H.set o (.box v (aM l i')),[o])/\P val
theorem bB{A:af}{f:Nat}{args:LA}{P:AV->Prop}(hs:dI A f args P){l:List Int}{i:Int}{o v:Nat}{H H2:LO}(hl:jP l)(ho:H[o]? = QQ (.box v (aM l i))){site:Option Nat}{q:Bool} {k:AV×LO×LN->Prop} {tg} (hk:∀val i',P val->bnd (dY site q H2 (QQ (val,H.set o (.box v (aM l i')),[o]))) k):aCi (dY site q H2 (aG A f (.ptr o v 0::args) H)) k tg:=by obtain⟨val,i',h1,h2⟩:=hs l i o v H hl ho;rw[h1];exact hk val i' h2
theorem eB{A:af}{f:Nat}{args:LA}{P:AV->Prop}(hs:dI A f args P){l:List Int}{i:Int}{o v:Nat}{H H2 H3:LO}(hl:jP l)(ho:H[o]? = QQ (.box v (aM l i))){site:Option Nat}{q:Bool} {k:AV×LO×LN×Option LN->Prop} {tg} (hk:∀val i',P val->bnd (oD H3 (dY site q H2 (QQ (val,H.set o (.box v (aM l i')),[o])))) k):aCi (oD H3 (dY site q H2 (aG A f (.ptr o v 0::args) H))) k tg:=by obtain⟨val,i',h1,h2⟩:=hs l i o v H hl ho;rw[h1];exact hk val i' h2
theorem Has.gen{A:af}{g:SN}{name:String}{fn:bw}(h:Has A g name fn){args:LA}{P:AV->Prop}(hN:args.length+1<=fn.ntmps)(hok:∀n,dK fn.ntmps ⟨n,fn.sites⟩ fn.body=QS) (hw:∀(l:List Int) (i:Int) (o v:Nat) (H:LO),jP l->o<H.length->H[o]? = QQ (.box v (aM l i)) ->wc A fn.ntmps ⟨H.length,fn.sites⟩ fn.body (pO (.ptr o v 0::args)) (H++AX fn.sites.length (.gone 0)) [] (aRz H.length fn.results (fun val H' wr=>(∃i',H'=H.set o (.box v (aM l i')))/\wr=[o]/\P val) ⟨⟩) ⟨⟩):dI A (g name) args P:=by intro l i o v H hl ho;obtain⟨val,H',wr,h1,⟨i',rfl⟩,rfl,h2⟩:=h.bp (args:=.ptr o v 0::args) (hw l i o v H hl (getElem?_lt ho) ho) (Nat.ble_eq_true_of_le (by simpa using hN)) (hok _);grind
abbrev Below(m:Int)(v:AV):Prop:=∃x:Int,v=vi x/\0<=x/\x<m
theorem bA{A:af}{g:SN}(h:fR A g){m:Int}(hm:1<=m):dI A (g "a") [vi m] (Below m):=by intro l i o v H hl ho;exact⟨_,_,h l i m o v H ho,_,rfl,(aTj hl _ hm).1,(aTj hl _ hm).2⟩
theorem aQk(ns:List Int){x:Int}(h0:0<=x)(hx:x<ns.length):∃n∈ns,(ns.map bF)[x.toNat]? = QQ [vi n]:=by have hlt:x.toNat<ns.length:=omT;exact⟨ns[x.toNat],AS hlt,getElem?_map_of hlt⟩
theorem aQl(ns:List Str){x:Int}(h0:0<=x)(hx:x<ns.length):∃n∈ns,(ns.map aN)[x.toNat]? = QQ [.str n]:=by have hlt:x.toNat<ns.length:=omT;exact⟨ns[x.toNat],AS hlt,getElem?_map_of hlt⟩
abbrev aQm:List Str:=[[116,104,101,32,104,97,110,100],[97],[73,32,97,110,100,32,121,111,117],[84,101,110,32,49,48],[97,110,100],[110,111,44,32,52,50,46],[108,97,110,100],[67,104,105,108,100],[120],[99,97,110,32,105,116],[55,32,104,97,110,100,115],[111,102,32,116,104,101]]
abbrev aIG(v:AV):Prop:=∃s:Str,v=.str s/\s∈aQm
theorem bDR{s:Str}(h:s∈aQm):s.length<=9:=(by decide:∀s∈aQm,s.length<=9) s h
theorem aOq{A:af}{g:SN}(h:Has A g "i" (fC g))(ht:fR A g):dI A (g "i") [] aIG:=by refine h.gen (by simp[fC]) (fun n=>bIv) ?_;intro l i o v H hl hlt ho;simp only[fC];simp only[go_sem,seval];refine bB (bA ht (m:=12) deT) hl ho ?_;rintro val i' ⟨x,rfl,h0,hx⟩;obtain⟨s,hs,cx⟩:=aQl aQm h0 hx;simp only[DR,aN]at cx;simp only[go_sem,seval,hlt,h0,cx,aF6,aA (aC aU _)];grind
abbrev ROk(a:mr):Prop:=a.Ok/\a.text∈aQm
abbrev bHV(x:Int)(r:List mr):Prop:=∀(j:Nat) (a:mr),r[j]? = QQ a->a.gg=(x+j).tmod 2
theorem bGC{x:Int}{r:List mr}(h:bHV x r)(s:Str):bHV x (r++[⟨(x+r.length).tmod 2,s⟩]):=by grind
abbrev bGD(r:List mr):Prop:=1<=r.length/\r.length<=3/\(∀a∈r,ROk a)/\∃x:Int,0<=x/\bHV x r
abbrev aQn(v:AV):Prop:=∃r:List mr,v=.own 2 (r.map cZ)/\bGD r
theorem aSp{A:af}{g:SN}(h:Has A g "M" (gB g))(ht:fR A g)(hp:dI A (g "i") [] aIG):dI A (g "M") [] aQn:=by
 refine h.gen (by simp[gB]) (fun n=>bIv) ?_;intro l i o v H hl hlt ho;simp only[gB];simp only[go_sem,seval];refine bB (bA ht (m:=2) deT) hl (i:=i) (by grind) ?_;rintro val i1 ⟨x,rfl,jr,lz⟩;simp only[go_sem,seval,hlt,fN];refine bB (bA ht (m:=5) deT) hl (i:=i1) (by grind) ?_;rintro val i2 ⟨y,rfl,oj,tc⟩;obtain⟨n,hn,cx⟩:=aQk [1,1,1,2,3] oj tc;simp only[DR,bF]at cx;have Ck:1<=n/\n<=3:=by have:∀n∈([1,1,1,2,3]:List Int),1<=n/\n<=3:=deT;grind
 simp only[go_sem,seval,hlt,aR,oj,cx];refine bJ (id:=0) (fun j ρ1 H1 wr=>wr=[o]/\ρ1 6=vi j/\∃i' o1,∃r:List mr,H1=H.set o (.box v (aM l i'))++[o1]/\ew H.length 2 (r.map cZ) (ρ1 4) o1/\r.length=j/\(∀a∈r,ROk a)/\bHV x r) n.toNat
  (fun ρ1 H1 wr=>wr=[o]/\∃i' o1,∃r:List mr,H1=H.set o (.box v (aM l i'))++[o1]/\ew H.length 2 (r.map cZ) (ρ1 4) o1/\r.length=n.toNat/\(∀a∈r,ROk a)/\bHV x r)
  bIv rfl ⟨by grind,by simp only[go_sem,seval],i2,_,[],rfl,by simp only[go_sem,seval];exact .nil _,rfl,siT,fun j a e=>by cases e⟩ ?_ ?_
 ·rintro j ρ1 H1 dc mo ⟨rfl,e6,i',o1,r,rfl,hg,gu,il,B5⟩ hf;have e0:ρ1 0=.ptr o v 0:=by rw[hf 0 rfl];simp only[go_sem,seval]
  have e3:ρ1 3=vi x:=by rw[hf 3 rfl];simp only[go_sem,seval]
  have e5:ρ1 5=vi n:=by rw[hf 5 rfl];simp only[go_sem,seval]
  simp only[go_sem,seval,e5,e6];refine aD (fun hb=>?_) (fun hb=>?_)
  ·have cr:j<n.toNat:=by grind
   have hw:AR.wrap (x+j)=x+j:=wrap_i64 omT omT;simp only[go_sem,seval,e0,e3,e6,tS (b:=2) deT,hw];refine bB hp hl (i:=i') (by simp only[go_sem,seval,aP,hlt]) ?_;rintro val i3 ⟨s,rfl,hs⟩;obtain⟨v',o',eu,db⟩:=hg.app (new:=[[vi ((x+j).tmod 2),.str s]]) (bytes:=24) siT rfT (by grind);rw[show r.map cZ++[[vi ((x+j).tmod 2),.str s]]=(r++[mr.mk ((x+j).tmod 2) s]).map cZ by simp[cZ]]at eu;have V9:=GX (x+j) (b:=2) deT;have Il:=HV 2 (a:=x+j) omT;simp only[go_sem,seval,hlt,aR,db];rw[dW omT];refine⟨cr,rfl,i3,o',r++[mr.mk ((x+j).tmod 2) s],rfl,eu,by simp[gu], ?_,by have:=bGC B5 s;rw[gu]at this;exact this⟩;exact pS il (⟨⟨⟨by grind,by grind⟩,by have:=bDR hs;grind⟩,hs⟩)
  have cr:j=n.toNat:=by grind
  subst cr;simp only[go_sem,seval];exact⟨i',o1,r,rfl,hg,gu,il,B5⟩
 rintro ρ2 H2 en ⟨rfl,i',o1,r,rfl,hg,gu,il,B5⟩ hf;have bl:r.map cZ≠[]:=by intro h;have:=congrArg FN h;grind
 obtain⟨ver,e4,rfl⟩:=hg.inv bl;simp only[go_sem,seval,e4,hlt,aT (aC cA _),aA (aC cA _),aA (aC aU _),aW];exact⟨⟨i',rfl⟩,r,rfl,omT,omT,il,x,jr,B5⟩
abbrev mq:List Str:=[[105,102,32,120,32,60,32,51,32,123],[32,32,121,32,61,32,123,49,44,32,50,125],[125],[],[32,32,32,32,114,101,116,117,114,110,32,65,91,105,93,32,43,32,34,115,34],[102,111,114,32,105,32,58,61,32,48,59,32,105,32,60,32,49,48,59,32,105,43,43,32,123,32,116,111,116,97,108,32,61,32,116,111,116,97,108,32,43,32,118,97,108,117,101,115,91,105,93,32,42,32,50,32,125],[32,97,92,98,32,126,32,99]]
abbrev bHc(r:List Str):Prop:=1<=r.length/\r.length<=3/\∀s∈r,s∈mq
abbrev aQo(v:AV):Prop:=∃r:List Str,v=.own 1 (r.map aN)/\bHc r
theorem aQp{A:af}{g:SN}(h:Has A g "aw" (fS g))(ht:fR A g):dI A (g "aw") [] aQo:=by
 refine h.gen (by simp[fS]) (fun n=>bIv) ?_;intro l i o v H hl hlt ho;simp only[fS];simp only[go_sem,seval];refine bB (bA ht (m:=3) deT) hl (i:=i) (by grind) ?_;rintro val i1 ⟨x,rfl,jr,lz⟩;have wk:AR.wrap (1+x)=1+x:=wrap_i64 omT omT;simp only[go_sem,seval,hlt,fN,wk];refine bJ (id:=0) (fun j ρ1 H1 wr=>wr=[o]/\ρ1 6=vi j/\∃i' o1,∃r:List Str,H1=H.set o (.box v (aM l i'))++[o1]/\ew H.length 1 (r.map aN) (ρ1 4) o1/\r.length=j/\∀a∈r,a∈mq) (1+x).toNat
  (fun ρ1 H1 wr=>wr=[o]/\∃i' o1,∃r:List Str,H1=H.set o (.box v (aM l i'))++[o1]/\ew H.length 1 (r.map aN) (ρ1 4) o1/\r.length=(1+x).toNat/\∀a∈r,a∈mq)
  bIv rfl ⟨by grind,by simp only[go_sem,seval],i1,_,[],rfl,by simp only[go_sem,seval];exact .nil _,rfl,siT⟩ ?_ ?_
 ·rintro j ρ1 H1 dc mo ⟨rfl,e6,i',o1,r,rfl,hg,gu,il⟩ hf;have e0:ρ1 0=.ptr o v 0:=by rw[hf 0 rfl];simp only[go_sem,seval]
  have e3:ρ1 3=.sl QS (mq.map aN):=by rw[hf 3 rfl];simp only[go_sem,seval,mq,aN]
  have e5:ρ1 5=vi (1+x):=by rw[hf 5 rfl];simp only[go_sem,seval]
  simp only[go_sem,seval,e5,e6];refine aD (fun hb=>?_) (fun hb=>?_)
  ·have cr:j<(1+x).toNat:=by grind
   simp only[go_sem,seval,e0,e3,e6];refine bB (bA ht (m:=7) deT) hl (i:=i') (by simp only[go_sem,seval,aP,hlt]) ?_;rintro val i3 ⟨y,rfl,oj,tc⟩;obtain⟨s,hs,cx⟩:=aQl mq oj tc;obtain⟨v',o',eu,db⟩:=hg.app (new:=[[.str s]]) (bytes:=16) siT rfT (by grind);rw[show r.map aN++[[.str s]]=(r++[s]).map aN by simp[aN]]at eu;simp only[DR,aN]at cx;simp only[go_sem,seval,hlt,aR,aN,db,oj,cx];rw[dW omT];refine⟨cr,rfl,i3,o',r++[s],rfl,eu,by simp[gu], ?_⟩;grind
  have cr:j=(1+x).toNat:=by grind
  subst cr;simp only[go_sem,seval];grind
 rintro ρ2 H2 en ⟨rfl,i',o1,r,rfl,hg,gu,il⟩ hf;have bl:r.map aN≠[]:=by intro h;have:=congrArg FN h;grind
 obtain⟨ver,e4,rfl⟩:=hg.inv bl;simp only[go_sem,seval,e4,hlt,aT (aC bO _),aA (aC bO _),aA (aC aU _),aW];grind
abbrev aDJ(g:SN):List ae:=[qm 12 0,qm 13 5,⟨QQ 14,oi 12 13 4,N2,[0,1]⟩,⟨QQ 15,ola 4 14,N2,[2,0,1]⟩,qla 16 4 3,⟨QQ 17,.bin .eql (.cells [.int,.int,.int,.int]) (u 15) (u 16),N2,[3,2,0,1,4]⟩]
abbrev tJ:LN:=[]
abbrev aDK(g:SN):ag:=.seq (qS [qm 6 5,qm 7 0,qn 8 7,qb 9 .lss 6 8]<|qC 9 (.skip) (.exit 0))<|.seq (.block 1 (.seq (.region QS (aDJ g))<|qC 17 (qS [qmc 4 (.bool QS)]<|.ret) (.skip)))<|.region QT [qm 10 5,qbi 11 .add 10 1,qm 5 11]
def rI(g:SN):bw:=⟨18,[3],[.tmp 4],qS [qx 3 4 1,qmc 4 (.bool QT)]<|.seq (qS [qmc 5 z0]<|.block 0 (.loop (aDK g)))<|qS [qmc 4 (.bool QT)]<|.ret⟩
abbrev jQ(g:SN):ag:=.seq (qS [qm 16 6,qm 17 1,qb 18 .lss 16 17]<|qC 18 (.skip) (.exit 0))<|.seq (.block 1 (qS [qm 21 0,qc 22 (g "a") [u 21,ui 2],qbi 23 .eql 22 0]<|qC 23 (qR [qf 24 3 5,ql 25 1 24,qm 26 6,qq 27 (.bsl 1 [z0] 1 [(0,(.tmp 26))]),qa 28 1 8 25 27,qf 29 3 5,qs 1 29 28]) (.skip)))<|.region QT [qm 19 6,qbi 20 .add 19 1,qm 6 20]
abbrev pI:LN:=[16,17,18,21,22,23,24,25,26,27,28,29,19,20,6]
abbrev pJ(g:SN):List ae:=[qf 45 2 5,⟨QQ 46,ol 1 45,N2,[0]⟩,qm 47 0,⟨QQ 48,oc (g "i") [u 47],N2,[2]⟩,⟨QQ 49,.bsl 1 [(.str [])] 4 [(0,(.const (.str [121,101,115]))),(1,(.const (.str [110,111]))),(2,(.tmp 48)),(3,(.const (.str [52,50])))],N2,[3,2]⟩,qm 50 8,qm 51 0,⟨QQ 52,oc (g "a") [u 51,ui 2],N2,[6,3,2]⟩,⟨QQ 53,ob .add 50 52,N2,[5,7,6,3,2]⟩,⟨QQ 54,obi .rem 53 4,N2,[8,5,7,6,3,2]⟩,⟨QQ 55,oi 49 54 1,N2,[4,9,8,5,7,6,3,2]⟩,⟨QQ 56,ol 1 55,N2,[10,4,9,8,5,7,6,3,2]⟩,⟨QQ 57,.bsl 1 [(.str [])] 1 [(0,(.tmp 56))],N2,[11,10,4,9,8,5,7,6,3,2]⟩,⟨QQ 58,oa 1 16 46 57,N2,[1,0,12,11,10,4,9,8,5,7,6,3,2]⟩,⟨QQ 59,of 2 5,N2,[13,1,0,12,11,10,4,9,8,5,7,6,3,2]⟩,⟨N2,os 1 59 58,N2,[14,13,1,0,12,11,10,4,9,8,5,7,6,3,2]⟩]
abbrev jR:LN:=[1,3,7]
abbrev pK(g:SN):List ae:=[qf 60 6 5,⟨QQ 61,ol 1 60,N2,[0]⟩,qq 62 (.bsl 1 [(.str [])] 3 [(0,(.const (.str []))),(1,(.const (.str [105,116,32,108,111,111,107,115,32,115,111]))),(2,(.const (.str [97,32,115,108,105,112])))]),qm 63 0,⟨QQ 64,oc (g "a") [u 63,ui 3],N2,[3]⟩,⟨QQ 65,oi 62 64 1,N2,[2,4,3]⟩,⟨QQ 66,ol 1 65,N2,[5,2,4,3]⟩,⟨QQ 67,.bsl 1 [(.str [])] 1 [(0,(.tmp 66))],N2,[6,5,2,4,3]⟩,⟨QQ 68,oa 1 16 61 67,N2,[1,0,7,6,5,2,4,3]⟩,⟨QQ 69,of 6 5,N2,[8,1,0,7,6,5,2,4,3]⟩,⟨N2,os 1 69 68,N2,[9,8,1,0,7,6,5,2,4,3]⟩]
abbrev jS:LN:=[1,4]
abbrev jT(g:SN):ag:=.seq (qS [qm 40 8,qm 41 7,qb 42 .lss 40 41]<|qC 42 (.skip) (.exit 3))<|.seq (.block 4 (.seq (.region QS (pJ g))<|.region QS (pK g)))<|.region QT [qm 43 8,qbi 44 .add 43 1,qm 8 44]
abbrev pL:LN:=[40,41,42,45,46,47,48,49,50,51,52,53,54,55,56,57,58,59,60,61,62,63,64,65,66,67,68,69,43,44,8]
def jU(g:SN):ag:=.block 2 (qS [qbi 36 .eql 31 0,qm 35 36]<|qC 35 (qS [qm 37 0,qc 38 (g "a") [u 37,ui 3],qq 39 (.bin .add .no (ui 2) (u 38)),qm 7 39]<|.seq (qS [qmc 8 z0]<|.block 3 (.loop (jT g)))<|.region QT [qm 70 0,qm 71 7,qc 72 (g "a") [u 70,u 71],qc 73 (g "I") [u 72],qf 74 4 5,qs 1 74 73]) (qS [qbi 76 .eql 31 1,qm 75 76]<|qC 75 (qR [qm 77 0,qc 78 (g "a") [u 77,ui 200],qc 79 (g "I") [u 78],qf 80 4 5,qs 1 80 79]) (qR [qm 32 0,qc 33 (g "i") [u 32],qf 34 4 5,qs 1 34 33])))
def eT(g:SN):bw:=⟨82,[4,5,28,58,68],[.cell 4 7 QS],qS [qq 4 (.alloc [z0,(.sl QS []),(.sl QS []),(.sl QS []),(.str []),z0,(.sl QS [])])]<|qS [qm 9 0,qc 10 (g "a") [u 9,ui 3],qm 11 0,qc 12 (g "M") [u 11],qm 13 0,qc 14 (g "a") [u 13,ui 9],qq 15 (.build [z0,(.sl QS []),(.sl QS []),(.sl QS []),(.str []),z0,(.sl QS [])] [(0,1,(.tmp 10)),(1,1,(.tmp 12)),(5,1,(.tmp 14))]),qq 5 (.alloc [z0,(.sl QS []),(.sl QS []),(.sl QS []),(.str []),z0,(.sl QS [])]),qs 7 5 15]<|.seq (qS [qmc 6 z0]<|.block 0 (.loop (jQ g)))<|.seq (qS [qf 30 0 5,ql 31 1 30]<|jU g)<|qS [qla 81 7 5,qs 7 4 81]<|.ret⟩
theorem aC1{a b:Fact}:lP [.int,.int,.int,.int] (aI a) (aI b)=QQ (eqv a b):=by rw[aRE];simp only[aI,lP,aCO,Zv,aKv];grind
theorem aLf{ts:List Tag}{x y:LA}{b:Bool}(h:lP ts x y=QQ b):kJ .eql (.cells ts) (.agg x) (.agg y)=QQ (.bool b):=by simp[kJ,tN,h]
theorem aSq{A:af}{g:SN}(h:Has A g "B" (rI g))(l:List Fact)(hl:l.length<=1000)(f:Fact)(H:LO):aG A (g "B") [.sl QT (l.map aI),.agg (aI f)] H=QQ (.bool (l.any fun a=>eqv a f),H,[]):=by
 refine h.call ?_;simp only[rI];simp only[go_sem,seval,aI];refine aKt (fun i ρ1 H1 wr=>wr=[]/\ρ1 5=vi i/\H1=H++[.box 1 (aI f)]/\(l.any fun a=>eqv a f)=((l.drop i).any fun a=>eqv a f)) l.length bIv rfl ⟨rfl,by simp only[go_sem,seval],by simp only[go_sem,seval,aI],rfl⟩ ?_;rintro i ρ1 H1 dc mg ⟨rfl,h5,rfl,hi⟩ hf;have f0:ρ1 0=.sl QT (l.map aI):=by rw[hf 0 rfl];simp only[go_sem,seval]
 have f3:ρ1 3=.ptr H.length 1 0:=by rw[hf 3 rfl];simp only[go_sem,seval]
 simp only[go_sem,seval,f0,h5];refine aD (fun hb=>?_) (fun hb=>?_)
 ·have hlt:i<l.length:=by simpa using hb
  rw[FD hlt,List.any_cons]at hi;simp only[go_sem,seval];refine aY (aq:=tJ) rfT rfT ?_;have h4:∀a:Fact,(aI a).length=4:=fun _=>rfl;have ht:∀a:Fact,FW 4 (aI a)=aI a:=fun _=>rfl;simp only[go_sem,seval,tJ,f0,f3,h5,hlt,getElem?_map_of hlt,h4,ht,aLf aC1];refine aD (fun dp=>?_) (fun dp=>?_)
  ·rw[dp,EP]at hi;simp only[go_sem,seval,hi]
  rw[dp,II]at hi;simp only[go_sem,seval,h5];rw[dW omT];grind
 have hlt:i=l.length:=by grind
 subst hlt;rw[List.drop_eq_nil_of_le (AQ _),List.any_nil]at hi;simp only[go_sem,seval,hi]
abbrev bGE:List Str:=[121,101,115]::[110,111]::[52,50]::aQm
abbrev bGF:List Str:=[[],[105,116,32,108,111,111,107,115,32,115,111],[97,32,115,108,105,112]]
theorem bGa{s:Str}(h:s∈bGE):s.length<=9:=(by decide:∀s∈bGE,s.length<=9) s h
theorem bGb{s:Str}(h:s∈bGF):s.length<=11:=(by decide:∀s∈bGF,s.length<=11) s h
def bJq:Int->List Int->Bool
 |_,[]=>QS
 |last,n::r=>decide (n>last)&&bJq n r
theorem bJA:∀(l:List Int) (last a:Int),bJq last l=QS->last<a->(∀n∈l,n<a)->bJq last (l++[a])=QS
 | [],last,a,_,h,_=>by simp[bJq,h]
 |n::r,last,a,h,h1,h2=>by
  simp only[bJq,AI]at h;simp only[DO,bJq,AI];exact⟨h.1,bJA r n a h.2 (h2 n (List.mem_cons_self ..)) fun m hm=>h2 m (BZ _ hm)⟩
abbrev bKo(q:Question):Prop:=q.kind=2/\q.key≠[]∨q.kind≠2/\∃n:Nat,n<1000/\q.key=dec n/\(q.kind=0->n<q.options.length)
structure jt(m:Nat)(q:Question):Prop where
 kind:0<=q.kind/\q.kind<=2
 lk:bGD q.lk
 len:q.options.length<=4/\q.dv.length=q.options.length
 opt:∀s∈q.options,s∈bGE
 rea:∀s∈q.dv,s∈bGF
 Q4:q.cy.length<=m
 cy:∀n∈q.cy,0<=n/\n<m
 key:q.key∈aQm∨∃n:Nat,n<1000/\q.key=dec n
 points:0<=q.points/\q.points<=8
 X4:bJq (-1) q.cy=QS
 H6:if q.kind=0 then 2<=q.options.length else q.options=[]
 Wg:bKo q
theorem jt.ok{m:Nat}{q:Question}(h:jt m q)(hm:m<=10):q.Ok:=by
 obtain⟨h1,h2,h3,h4,h5,h6,h7,h8,h9,_,_,_⟩:=h;refine⟨by grind,omT,fun a ha=>(h2.2.2.1 a ha).1,omT,fun s hs=>?_,omT,fun n hn=>by grind, ?_,by grind,omT,fun s hs=>?_⟩
 ·have:=bGa (h4 s hs);grind
 ·rcases h8 with h | ⟨n,hn,h⟩
  ·have:=bDR h;grind
  have:=aGn 2 n omT;grind
 have:=bGb (h5 s hs);grind
abbrev aBr(m:Nat)(v:AV):Prop:=∃q:Question,v=.agg (gR q)/\jt m q
theorem aVj{A:af}{g:SN}(ht:fR A g){H:LO}{Q:bf->bN->LO->LN->Prop}{tg}{l:List Int}(hl:jP l){o v:Nat}(hlt:o<H.length) {i:Int} {o0 o2 o3 o4:ah} {vq:Nat} {c0 c1 c2 c4 c5 c6:AV} {m:Nat} (hm:m<=10) {ρ:bN} (e0:ρ 0=.ptr o v 0) (e1:ρ 1=vi m) (e5:ρ 5=.ptr (H.length+1) vq 0) (e6:ρ 6=vi 0) (hQ:∀ρ' i' o2 w (r:List Int),(∀t,pI.contains t=QT->ρ' t=ρ t)->r.length<=m->(∀a∈r,0<=a/\a<m)/\bJq (-1) r=QS->ew (H.length+2) 1 (r.map bF) w o2 ->Q (.exit 0) ρ' (H.set o (.box v (aM l i'))++[o0,.box vq [c0,c1,c2,w,c4,c5,c6],o2,o3,o4]) [o]):wl A 82 ⟨H.length,[4,5,28,58,68]⟩ (jQ g) ρ (H.set o (.box v (aM l i))++[o0,.box vq [c0,c1,c2,.sl QS [],c4,c5,c6],o2,o3,o4]) [o] Q tg:=by
 refine bJ (fun j ρ1 H1 wr=>wr=[o]/\ρ1 6=vi j/\∃i' o2 w,∃r:List Int,H1=H.set o (.box v (aM l i'))++[o0,.box vq [c0,c1,c2,w,c4,c5,c6],o2,o3,o4]/\ew (H.length+2) 1 (r.map bF) w o2/\r.length<=j/\(∀a∈r,0<=a/\a<j)/\bJq (-1) r=QS) m
  (fun ρ1 H1 wr=>wr=[o]/\∃i' o2 w,∃r:List Int,H1=H.set o (.box v (aM l i'))++[o0,.box vq [c0,c1,c2,w,c4,c5,c6],o2,o3,o4]/\ew (H.length+2) 1 (r.map bF) w o2/\r.length<=m/\(∀a∈r,0<=a/\a<m)/\bJq (-1) r=QS)
  bIv rfl ⟨rfl,e6,i,o2,.sl QS [],[],rfl,.nil _,AQ _,siT,rfl⟩ ?_ (by
   rintro ρ' H' ba ⟨rfl,i',o2,w,r,rfl,hg,gj,nv⟩ hf;exact hQ ρ' i' o2 w r hf gj nv hg)
 rintro j ρ1 H1 dc mo ⟨rfl,e6,i',o2,w,r,rfl,hg,gu,il,xf⟩ hf;have f0:ρ1 0=.ptr o v 0:=(hf 0 rfl).trans e0;have f1:ρ1 1=vi m:=(hf 1 rfl).trans e1;have f5:ρ1 5=.ptr (H.length+1) vq 0:=(hf 5 rfl).trans e5;simp only[go_sem,seval,f1,e6];refine aD (fun hb=>?_) (fun hb=>?_)
 ·have cr:j<m:=by simpa using hb
  simp only[go_sem,seval,f0];refine bB (bA ht (m:=2) deT) hl (i:=i') (by grind) ?_;rintro val i3 ⟨x,rfl,jr,lz⟩;simp only[go_sem,seval,hlt,aR];refine aD (fun dp=>?_) (fun dp=>?_)
  ·obtain⟨v',o',eu,db⟩:=hg.app (new:=[[vi j]]) (bytes:=8) siT rfT (by grind);rw[show r.map bF++[[vi j]]=(r++[(j:Int)]).map bF by simp[bF]]at eu;simp only[go_sem,seval,f5,e6,db,eu.ak,eu.aj];rw[dW omT];refine⟨cr,rfl,i3,o',v',r++[(j:Int)],rfl,eu,soT, ?_,bJA r _ _ xf omT fun n hn=>(il n hn).2⟩;grind
  simp only[go_sem,seval,e6];rw[dW omT];grind
 have cr:j=m:=by grind
 subst cr;simp only[go_sem,seval];grind
theorem aQq{A:af}{g:SN}(ht:fR A g)(hp:dI A (g "i") [] aIG){H:LO}{Q:bf->bN->LO->LN->Prop}{tg}{l:List Int}(hl:jP l){o v:Nat}(hlt:o<H.length) {i:Int} {o0 o2 o3 o4:ah} {vq:Nat} {c0 c1 c3 c4 c5:AV} {n:Int} (gq:2<=n) (lx:n<=4) {ρ:bN} (e0:ρ 0=.ptr o v 0) (e5:ρ 5=.ptr (H.length+1) vq 0) (e7:ρ 7=vi n) (e8:ρ 8=vi 0) (hQ:∀ρ' i' o3 o4 w w' (r r':List Str),(∀t,pL.contains t=QT->ρ' t=ρ t)->r.length=n.toNat->(∀a∈r,a∈bGE)->r'.length=r.length->(∀a∈r',a∈bGF) ->ew (H.length+3) 1 (r.map aN) w o3->ew (H.length+4) 1 (r'.map aN) w' o4 ->Q (.exit 3) ρ' (H.set o (.box v (aM l i'))++[o0,.box vq [c0,c1,w,c3,c4,c5,w'],o2,o3,o4]) [o]):wl A 82 ⟨H.length,[4,5,28,58,68]⟩ (jT g) ρ (H.set o (.box v (aM l i))++[o0,.box vq [c0,c1,.sl QS [],c3,c4,c5,.sl QS []],o2,o3,o4]) [o] Q tg:=by
 refine bJ (fun j ρ1 H1 wr=>wr=[o]/\ρ1 8=vi j/\∃i' o3 o4 w w',∃r r':List Str,H1=H.set o (.box v (aM l i'))++[o0,.box vq [c0,c1,w,c3,c4,c5,w'],o2,o3,o4] /\
   ew (H.length+3) 1 (r.map aN) w o3/\ew (H.length+4) 1 (r'.map aN) w' o4/\r.length=j/\r'.length=j/\(∀a∈r,a∈bGE)/\∀a∈r',a∈bGF) n.toNat
  (fun ρ1 H1 wr=>wr=[o]/\∃i' o3 o4 w w',∃r r':List Str,H1=H.set o (.box v (aM l i'))++[o0,.box vq [c0,c1,w,c3,c4,c5,w'],o2,o3,o4] /\
   ew (H.length+3) 1 (r.map aN) w o3/\ew (H.length+4) 1 (r'.map aN) w' o4/\r.length=n.toNat/\r'.length=r.length/\(∀a∈r,a∈bGE)/\∀a∈r',a∈bGF)
  bIv rfl ⟨rfl,e8,i,o3,o4,.sl QS [],.sl QS [],[],[],rfl,.nil _,.nil _,rfl,rfl,siT,siT⟩ ?_ (by
   rintro ρ' H' ba ⟨rfl,i',o3,o4,w,w',r,r',rfl,hg,eu,h1,h2,h3,h4⟩ hf;exact hQ ρ' i' o3 o4 w w' r r' hf h1 h3 h2 h4 hg eu)
 rintro j ρ1 H1 dc mo ⟨rfl,e8,i',o3,o4,w,w',r,r',rfl,hg,hh,gu,Gp,il,Bn⟩ hf;have f0:ρ1 0=.ptr o v 0:=(hf 0 rfl).trans e0;have f5:ρ1 5=.ptr (H.length+1) vq 0:=(hf 5 rfl).trans e5;have f7:ρ1 7=vi n:=(hf 7 rfl).trans e7;simp only[go_sem,seval,f7,e8];refine aD (fun hb=>?_) (fun hb=>?_)
 ·have cr:j<n.toNat:=by grind
  have bl:(H.length+1==o)=false:=soT;simp only[go_sem,seval];refine aY (aq:=jR) rfT rfT ?_;simp only[go_sem,seval,jR,f0,f5,e8];refine eB hp hl (i:=i') (by grind) ?_;rintro val i3 ⟨s,rfl,hs⟩;simp only[go_sem,seval,hlt,aR];refine eB (bA ht (m:=2) deT) hl (i:=i3) (by grind) ?_;rintro val i4 ⟨y,rfl,oj,tc⟩;have zz:AR.wrap ((j:Int)+y)=j+y:=wrap_i64 omT omT;have Cx:=HV 4 (a:=j+y) omT;have gj:=GX (j+y) (b:=4) deT;obtain⟨t,qt,cx⟩:=aQl [[121,101,115],[110,111],s,[52,50]] Cx gj;simp only[DR,aN]at cx;have tl:t∈bGE:=by grind
  obtain⟨v',o',eu,db⟩:=hg.app (new:=[[.str t]]) (bytes:=16) siT rfT (by grind);rw[show r.map aN++[[.str t]]=(r++[t]).map aN by simp[aN]]at eu;simp only[go_sem,seval,hlt,aR,zz,tS (b:=4) deT,Cx,cx,db,eu.ak,eu.aj,eH,dG,bl,aL];refine aY (aq:=jS) rfT rfT ?_;simp only[go_sem,seval,jS,f0,f5];refine eB (bA ht (m:=3) deT) hl (i:=i4) (by grind) ?_;rintro val i5 ⟨z,rfl,me,rr⟩;obtain⟨u,Jc,wm⟩:=aQl bGF me rr;simp only[DR,aN]at wm;obtain⟨v2,o2',Cy,ll⟩:=hh.app (new:=[[.str u]]) (bytes:=16) siT rfT (by grind);rw[show r'.map aN++[[.str u]]=(r'++[u]).map aN by simp[aN]]at Cy;simp only[go_sem,seval,e8,hlt,aR,me,wm,ll,Cy.ak,Cy.aj,eH,dG,bl,aL];rw[dW omT];refine⟨cr,rfl,i5,o',o2',v',v2,r++[t],r'++[u],rfl,eu,Cy,by simp[gu],by simp[Gp], ?_, ?_⟩
  all_goals grind
 have cr:j=n.toNat:=by grind
 subst cr;simp only[go_sem,seval];grind
theorem uM:∀(H:LO) (a b:LN),dL H (a++b)=dL (dL H a) b
 |H,[],b=>rfl
 |H,o::r,b=>by simp only[DO,dL];exact uM _ r b
theorem aAS(n:Nat):∀(wr a b:LN),bE n wr (a++b)=bE n (bE n wr a) b
 |wr,[],b=>rfl
 |wr,o::r,b=>by
  simp only[DO,bE];split<;>exact aAS n _ r b
theorem aLg{A:af}{g:SN}(h:Has A g "X" (eT g))(ht:fR A g)(hp:dI A (g "i") [] aIG) (hr:dI A (g "M") [] aQn) (hd:aH8 A g) {m:Nat} (hm:m<=10):dI A (g "X") [vi m] (aBr m):=by
 refine h.gen (by simp[eT]) (fun n=>bIv) ?_;intro l i o v H hl hlt ho;simp only[eT];simp only[go_sem,seval];refine bB (bA ht (m:=3) deT) hl (i:=i) (by grind) ?_;rintro val i1 ⟨k,rfl,Rj,Ch⟩;simp only[go_sem,seval,hlt,fN];refine bB hr hl (i:=i1) (by grind) ?_;rintro val i2 ⟨st,rfl,bd⟩;simp only[go_sem,seval,hlt,aR];refine bB (bA ht (m:=9) deT) hl (i:=i2) (by grind) ?_;rintro val i3 ⟨p,rfl,Mi,Oz⟩;simp only[go_sem,seval,hlt,aR];refine aVj ht hl hlt (m:=m) hm (by simp only[go_sem,seval]) (by simp only[go_sem,seval]) (by simp only[go_sem,seval]) (by simp only[go_sem,seval]) ?_;intro ρ2 i4 o2 w nd cq lx xh hg;have g0:ρ2 0=.ptr o v 0:=by rw[cq 0 rfl];simp only[go_sem,seval]
 have g4:ρ2 4=.ptr H.length 1 0:=by rw[cq 4 rfl];simp only[go_sem,seval]
 have g5:ρ2 5=.ptr (H.length+1) 1 0:=by rw[cq 5 rfl];simp only[go_sem,seval]
 obtain⟨f1,l1,o2',qe,iq,yz⟩:=hg.dw (aC aU _);have fin:∀(op rs:List Str) (key:Str),op.length<=4->(∀a∈op,a∈bGE)->rs.length=op.length->(∀a∈rs,a∈bGF)->(key∈aQm∨∃n:Nat,n<1000/\key=dec n)->(if k=0 then 2<=op.length else op=[])->bKo ⟨k,st,op,nd,key,p,rs⟩ ->
   aBr m (.agg [vi k,.sl QT (st.map cZ),.sl QT (op.map aN),.sl QT (nd.map bF),.str key,vi p,.sl QT (rs.map aN)]):=fun op rs key h1 h2 h3 h4 h5 h6 h7=>⟨⟨k,st,op,nd,key,p,rs⟩,rfl,⟨Rj,by grind⟩,bd,⟨h1,h3⟩,h2,h4,lx,xh.1,h5,⟨Mi,by grind⟩,xh.2,h6,h7⟩
 have ru:k=0∨k=1∨k=2:=omT;simp only[go_sem,seval,g5];simp only[jU];rcases ru with rfl | rfl | rfl
 ·simp only[go_sem,seval,g0];refine bB (bA ht (m:=3) deT) hl (i:=i4) (by simp only[go_sem,seval,aP,hlt]) ?_;rintro val i5 ⟨x,rfl,jr,lz⟩;have wk:AR.wrap (2+x)=2+x:=wrap_i64 omT omT;simp only[go_sem,seval,hlt,aR,wk];refine aQq ht hp hl hlt (n:=2+x) omT omT (by simp only[go_sem,seval,g0]) (by simp only[go_sem,seval,g5]) (by simp only[go_sem,seval]) (by simp only[go_sem,seval]) ?_;intro ρ3 i6 o3 o4 w1 w2 op rs im a1 a2 a3 a4 D4 Aq;have k0:ρ3 0=.ptr o v 0:=by rw[im 0 rfl];simp only[go_sem,seval,g0]
  have k4:ρ3 4=.ptr H.length 1 0:=by rw[im 4 rfl];simp only[go_sem,seval,g4]
  have k5:ρ3 5=.ptr (H.length+1) 1 0:=by rw[im 5 rfl];simp only[go_sem,seval,g5]
  have k7:ρ3 7=vi (2+x):=by rw[im 7 rfl];simp only[go_sem,seval]
  obtain⟨f2,l2,o3',m1,m2,m3⟩:=D4.dw (aC bO _);obtain⟨f3,l3,o4',n1,n2,n3⟩:=Aq.dw (aC bO _);simp only[go_sem,seval,k0,k7];refine bB (bA ht (m:=2+x) omT) hl (i:=i6) (by simp only[go_sem,seval,aP,hlt]) ?_;rintro val i7 ⟨y,rfl,oj,tc⟩;obtain⟨yn,rfl⟩:=DN oj;have Gq:=fun H=>hd yn H omT;simp only[go_sem,seval,k4,k5,hlt,aR,Gq,hg.ak,D4.ak,Aq.ak,qe,iq,yz,m1,m2,m3,n1,n2,n3,uM,aAS,aW,aA (aC cA _),aA (aC bO _),aA (aC aU _)];exact⟨⟨i7,rfl⟩,fin op rs (dec yn) omT a2 a3 a4 (.inr ⟨yn,omT,rfl⟩) (by grind) (.inr ⟨by grind,yn,omT,rfl,fun _=>by grind⟩)⟩
 ·simp only[go_sem,seval,g0];refine bB (bA ht (m:=200) deT) hl (i:=i4) (by simp only[go_sem,seval,aP,hlt]) ?_;rintro val i7 ⟨y,rfl,oj,tc⟩;obtain⟨yn,rfl⟩:=DN oj;have Gq:=fun H=>hd yn H omT;simp only[go_sem,seval,g4,g5,hlt,aR,Gq,hg.ak,qe,iq,yz,aW,aA (aC cA _),aA (aC aU _)];exact⟨⟨i7,rfl⟩,fin [] [] (dec yn) siT siT rfl siT (.inr ⟨yn,omT,rfl⟩) rfl (.inr ⟨by grind,yn,omT,rfl,fun h=>Zw h (by grind)⟩)⟩
 simp only[go_sem,seval,g0];refine bB hp hl (i:=i4) (by simp only[go_sem,seval,aP,hlt]) ?_;rintro val i7 ⟨s,rfl,G6⟩;simp only[go_sem,seval,g4,g5,hlt,aR,hg.ak,qe,iq,yz,aW,aA (aC cA _),aA (aC aU _)];exact⟨⟨i7,rfl⟩,fin [] [] s siT siT rfl siT (.inl G6) rfl (.inl ⟨rfl,fun h=>by simp_all⟩)⟩
abbrev nD(g:SN):List ae:=[qla 11 4 3,qm 12 0,qm 13 5,⟨QQ 14,oi 12 13 4,N2,[1,2]⟩,⟨QQ 15,ola 4 14,N2,[3,1,2]⟩,⟨QQ 16,.bin .eql (.cells [.int,.int,.int,.int]) (u 11) (u 15),N2,[0,4,3,1,2]⟩]
abbrev eE:LN:=[]
abbrev nE(g:SN):ag:=qS [qb 9 .lss 8 7]<|.seq (qC 9 (.skip) (.exit 0))<|.seq (.block 1 (qS [qm 10 8,qm 5 10]<|.seq (.region QS (nD g))<|qC 16 (qS [qm 17 5,qm 4 17]<|.ret) (.skip)))<|.region QT [qbi 18 .add 8 1,qm 8 18]
def dM(g:SN):bw:=⟨19,[],[.tmp 4],qS [qx 3 4 1,qmc 4 z0]<|.seq (qS [qm 6 0,qn 7 6,qmc 8 z0]<|.block 0 (.loop (nE g)))<|qS [qmc 4 (.int .i64 (-1))]<|.ret⟩
def eF(g:SN):bw:=⟨9,[],[.tmp 4],qS [qx 3 4 1,qmc 4 (.bool QT)]<|qS [qm 5 0,qla 6 4 3,qc 7 (g "bn") [u 5,u 6],qbi 8 .geq 7 0,qm 4 8]<|.ret⟩
def tK(g:SN):ag:=.block 0 (qS [qbi 7 .eql 5 0,qm 6 7]<|qC 6 (qS [qm 8 0,qbi 9 .neq 8 4,qm 4 9]<|.ret) (qS [qbi 11 .eql 5 1,qm 10 11]<|qC 10 (qS [qm 12 0,qbi 13 .eql 12 3,qm 4 13]<|.ret) (.seq (qS [qbi 15 .eql 5 2,qm 14 15]<|qC 14 (.skip) (qS [qbi 16 .eql 5 3,qm 14 16]<|qC 14 (.skip) (qR [qbi 17 .eql 5 4,qm 14 17])))<|qC 14 (qS [qm 18 0,qbi 19 .eql 18 4,qm 4 19]<|.ret) (qS [qbi 21 .eql 5 5,qm 20 21]<|qC 20 (qS [qm 22 0,qbi 23 .eql 22 5,qm 4 23]<|.ret) (qS [qbi 25 .eql 5 6,qm 24 25]<|qC 24 (qS [qm 26 0,qbi 27 .eql 26 6,qm 4 27]<|.ret) (.skip))))))
def rJ(g:SN):bw:=⟨28,[],[.tmp 4],qS [qmc 4 (.bool QT)]<|.seq (qS [qm 5 1]<|tK g)<|qS [qmc 4 (.bool QT)]<|.ret⟩
def aFa(g:SN):bw:=⟨14,[3],[.tmp 4],qS [qx 2 13 0,qx 3 4 1,qmc 4 (.bool QT)]<|qS [qla 6 13 2,qq 7 (.bsl 13 [z0,(.sl QT []),z0,z0,(.sl QT []),z0,(.sl QT []),(.sl QT []),z0,z0,(.sl QT []),(.sl QT []),(.sl QT [])] 1 [(0,(.tmp 6))]),qq 8 (.build [(.str []),(.sl QS []),(.sl QS []),(.sl QS [])] [(0,1,(.const (.str [97]))),(1,1,(.tmp 7))]),qc 9 (g "bc") [u 8],qm 5 9]<|qS [qf 10 1 3,qz (.store 1 (u 10) (ui 0))]<|qS [qm 11 5,qla 12 4 3,qc 13 (g "ap") [u 11,u 12],qm 4 13]<|.ret⟩
section
variable {A:af}{g:SN}{tB:Nat}
theorem aMk(h:Has A g "bn" (dM g))(l:List Fact)(s:Fact)(fl:Bool)(hl:l.length<=1000000000)(H:LO):aG A (g "bn") [.sl fl (l.map aI),.agg (aI s)] H=QQ (vi (aMW (fun x=>eqv s x) l),H,[]):=by
 refine h.call ?_;simp only[dM];simp only[go_sem,↓aB,seval,AF,lF.len,lF.still,lF.ga];refine bJ (id:=0) (fun i ρ1 H1 wr=>wr=[]/\H1=H/\ρ1 8=vi i/\∀j (hj:j<i) (hl:j<l.length),(eqv s l[j])=QT) l.length
  (fun ρ1 H1 wr=>wr=[]/\H1=H/\∀j (hl:j<l.length),(eqv s l[j])=QT)
  bIv rfl ⟨rfl,siT,rfl,fun j hj=>omT⟩ ?_ ?_
 ·rintro i ρ1 H1 dc mg ⟨rfl,rfl,e8,hn⟩ hf;have e0:ρ1 0=.sl fl (l.map aI):=hf 0 rfl;have e3:ρ1 3=.ep (aI s) 0:=hf 3 rfl;have e7:ρ1 7=vi l.length:=hf 7 rfl;simp only[go_sem,↓aB,seval,e8,e7];refine aD (fun hb=>?_) (fun hb=>?_)
  ·have hlt:i<l.length:=by simpa using hb
   have hg:(l.map aI)[i]? = QQ (aI l[i]):=getElem?_map_of hlt;have gq:(0:Int)<=(i:Int):=omT;have lx:(i:Int)<(l.length:Int):=omT;have kx:((i:Int)).toNat=i:=omT;have Qe:=wS (i:=i) omT;have D0:=aLf (aC1 (a:=s) (b:=l[i]));simp only[go_sem,↓aB,seval,e8];refine aY (aq:=eE) rfT rfT ?_;cases hc:(eqv s l[i])with
   |true=>rw[hc]at D0;simp only[go_sem,↓aB,seval,eE,e0,e3,hg,gq,kx,D0,AD,lF.len,lF.take];exact (aLT (p:=fun x=>eqv s x) hlt hc fun j hj=>hn j hj omT).symm ▸ rfl
   |false=>
    rw[hc]at D0;simp only[go_sem,↓aB,seval,eE,e0,e3,e8,hg,gq,kx,D0,Qe,AD,lF.len,lF.take];refine⟨hlt,fun j hj mo=>?_⟩;by_cases e:j=i
    ·subst e;exact hc
    exact hn j omT mo
  have hi:i=l.length:=by simp at hb;omega
  subst hi;simp only[go_sem,seval];exact fun j hj=>hn j hj hj
 rintro ρ' H' ba ⟨rfl,rfl,hn⟩ hf;simp only[go_sem,↓aB,seval,aGq (p:=fun x=>eqv s x) hn]
theorem uN(h:Has A g "ap" (eF g))(hi:Has A g "bn" (dM g))(l:List Fact)(s:Fact)(fl:Bool)(hl:l.length<=1000000000)(H:LO):aG A (g "ap") [.sl fl (l.map aI),.agg (aI s)] H=QQ (.bool (l.any fun x=>eqv s x),H,[]):=by refine h.call ?_;simp only[eF];simp only[go_sem,↓aB,seval,fun H=>aMk hi l s QT hl H,aLU,lF.len,lF.still,lF.ga,lF.take,AD,aS (eL s)]
def aHb(bk fk:Int):Bool:=if fk=0 then bk != 4 else if fk=1 then bk==3 else if fk=2∨fk=3∨fk=4 then bk==4 else if fk=5 then bk==5 else if fk=6 then bk==6 else QT
theorem aJF(h:Has A g "bD" (rJ g))(bk fk:Int)(H:LO):aG A (g "bD") [vi bk,vi fk] H=QQ (.bool (aHb bk fk),H,[]):=by
 refine h.call ?_;simp only[rJ,tK,aHb];by_cases e0:fk=0
 ·simp only[go_sem,↓aB,seval,e0]
 have n0:(fk==0)=false:=by simpa using e0
 by_cases e1:fk=1
 ·simp only[go_sem,↓aB,seval,e1]
 have n1:(fk==1)=false:=by simpa using e1
 by_cases e2:fk=2
 ·simp only[go_sem,↓aB,seval,e2,true_or]
 have n2:(fk==2)=false:=by simpa using e2
 by_cases e3:fk=3
 ·simp only[go_sem,↓aB,seval,e3,true_or,or_true]
 have n3:(fk==3)=false:=by simpa using e3
 by_cases e4:fk=4
 ·simp only[go_sem,↓aB,seval,e4,or_true]
 have n4:(fk==4)=false:=by simpa using e4
 by_cases e5:fk=5
 ·simp only[go_sem,↓aB,seval,e5,or_self]
 have n5:(fk==5)=false:=by simpa using e5
 by_cases e6:fk=6
 ·simp only[go_sem,↓aB,seval,e6,or_self]
 have n6:(fk==6)=false:=by simpa using e6
 simp only[go_sem,↓aB,seval,e0,e1,e2,e3,e4,e5,e6,n0,n1,n2,n3,n4,n5,n6,or_self]
noncomputable def jY(b:Block):List Fact:=if dQ b then eM b 0 else []
theorem aHO{b:Block}(hb:b.Ok):(jY b).length<=1792:=by
 unfold jY;split
 ·exact yT hb 7
 exact FF _
structure lp(A:af)(g:SN)(tB:Nat):Prop where
 fam:ln A g
 facts:Has A g "H" (oZ g)
 usable:Has A g "bc" (yV g)
 valid:oh A g tB
 con:Has A g "ap" (eF g)
 ind:Has A g "bn" (dM g)
 holds:Has A g "cm" (aFa g)
 possible:Has A g "bD" (rJ g)
theorem aVk(F:lp A g tB)(b:Block)(hb:b.Ok)(H:LO):aG A (g "bc") [.agg (aO ⟨[97],[b],[],[]⟩)] H=QQ (aSo (jY b),H,[]):=by
 obtain⟨R,h1,h2⟩:=aH7 F.fam F.facts F.usable ⟨[97],[b],[],[]⟩ ⟨(by show ([97]:Str).length<=1000;decide),by show ([b]:List Block).length<=16;simp,fun x hx=>by rw[CG.1 hx];exact hb,FF _,(fun _ h=>by cases h),FF _,(fun _ h=>by cases h)⟩ (P:=dQ b=QS) (P':=dQ b=QS)
  (fun H=>⟨if dQ b then 0 else 1,aTi F.valid b hb H,fun h=>by cases hB:dQ b<;>simp[hB]at h ⊢,fun h=>by rw[h];rfl⟩) H
 rw[h1];rcases h2 with⟨rfl,hn⟩ | ⟨hp,rfl⟩
 ·have:dQ b=false:=by simpa using hn
  simp[jY,this]
 have:tI ⟨[97],[b],[],[]⟩=eM b 0:=by show mI [b] 1=_;rw[yW siT];simp[mI]
 rw[this];simp[jY,hp]
theorem aOr(F:lp A g tB)(b:Block)(hb:b.Ok)(f:Fact)(H:LO):aG A (g "cm") [.agg (aE b),.agg (aI f)] H=QQ (.bool ((jY b).any fun x=>eqv { f with block:=0 } x),H,[]):=by
 refine F.holds.call ?_;have hu:=fun H=>aVk F b hb H;have ax:=aHO hb;have hc:=fun H=>uN F.con F.ind (jY b) { f with block:=0 } QT omT H;simp only[aFa];simp only[aO,BI,BY]at hu;simp only[aI]at hc ⊢;cases hR:jY b with
 |nil=>simp only[hR,aFF,BY]at hu hc;simp only[go_sem,↓aB,seval,hu,hc,bT.len,bT.still,bT.ga,bT.take,AD,AB,AA,AE,aS (bG b),AJ]
 |cons x r=>have hd:gG ((x::r).map aI)=true:=aC eL _;simp only[hR,aDI]at hu hc;generalize (x::r).map aI=rows at *;simp only[go_sem,↓aB,seval,hu,hc,bT.len,bT.still,bT.ga,bT.take,AD,AB,AA,AE,aS (bG b),AJ]
end
section
variable {A:af}{g:SN}{tB tP:Nat}
theorem aVl(F:og A g tB tP)(b:Block)(hb:b.Ok)(hB:dQ b=QS)(hv:b.kind=1->aBV b.expr=0)(h4:b.kind≠4)(hc:∀H,aG A (g "K") [.agg (aE b)] H=QQ (vi 0,H,[]))(H:LO):aG A (g "cl") [.agg (aE b)] H=QQ (.tup [.str (wB b),vi 0],H,[]):=by
 obtain⟨op,n,ks,ig⟩:=eW b;refine F.text.call ?_;have qv:=bG b;have zz:=fun X=>aQe F.ways (g:=g) X;simp only[aH2];simp only[go_sem,↓aB,seval,cF,bT.take,bT.still,bT.ga,aS qv,hc];refine aY (aq:=aBZ) (H0:=_) (by simp only[go_sem,seval,cS];rfl) rfT ?_;have pk:FW 1 (aE b)=[vi b.kind]:=by rw[ig];rfl
 have hle:(1:Nat)<=13:=deT;obtain⟨j,hj,Mj,f1,f2,Ey,Mk⟩:=aYc F b hb hB hv h4;have Ml:=aSi j hj Mj Ey;simp only[go_sem,↓aB,seval,aBZ,zz,pk,hle,cF,AD,Ml,eH,dG,aL,bT.take,aS qv,aK qv,Mk]
end
theorem aCE{b:Block}{at':Int}{f:Fact}(h:f∈eM b at'):∃k,k<7/\lJ (aBp k) b.kind=QS/\∃p∈aWq b k,f=⟨k,at',p.1,p.2⟩:=by
 unfold eM nO at h;obtain⟨k,hk,h⟩:=IM.1 h;unfold aF8 at h;split at h
 ·rename_i hh;obtain⟨p,hp,e⟩:=DB.1 h;exact⟨k,HE.1 hk,hh,p,hp,e.symm⟩
 cases h
theorem aVm{l:List Shape}{kind:Int}{p:Nat×Nat}{n m:Nat}(h:p∈iI l kind n m):p.1<n/\p.2<m:=aDs.1 (List.mem_filter.1 h).1
def aAT(g:SN):ag:=.block 0 (qS [qm 30 7,qbi 31 .neq 30 0,qm 29 31]<|qC 29 (qS [qm 32 7,qmc 4 (.str []),qm 5 32]<|.ret) (qS [qf 34 0 6,ql 35 1 34,qf 36 0 3,ql 37 1 36,qc 38 (g "bD") [u 35,u 37],qq 39 (.un .not (u 38)),qm 33 39]<|qC 33 (qS [qmc 4 (.str []),qmc 5 (vi 13)]<|.ret) (qS [qla 41 13 6,qla 42 4 3,qc 43 (g "cm") [u 41,u 42],qq 44 (.un .not (u 43)),qm 40 44]<|qC 40 (qS [qmc 4 (.str []),qmc 5 (vi 5)]<|.ret) (.skip))))
abbrev aHc(g:SN):List ae:=[qf 55 7 6,⟨QQ 56,of 0 55,N2,[0]⟩,⟨QQ 57,ol 1 56,N2,[1,0]⟩,qf 58 2 3,⟨QQ 59,ol 1 58,N2,[3]⟩,⟨QQ 60,oi 57 59 1,N2,[2,1,0,4,3]⟩,⟨QQ 61,ol 1 60,N2,[5,2,1,0,4,3]⟩,qf 62 3 3,⟨QQ 63,ol 1 62,N2,[7]⟩,⟨QQ 64,oi 61 63 1,N2,[6,5,2,1,0,4,3,8,7]⟩,⟨QQ 65,ol 1 64,N2,[9,6,5,2,1,0,4,3,8,7]⟩,⟨QQ 4,om 65,N2,[10,9,6,5,2,1,0,4,3,8,7]⟩,⟨QQ 5,omc z0,N2,[11,10,9,6,5,2,1,0,4,3,8,7]⟩]
abbrev aAU:LN:=[]
abbrev aHd(g:SN):List ae:=[qf 68 11 6,⟨QQ 69,of 0 68,N2,[0]⟩,⟨QQ 70,ol 1 69,N2,[1,0]⟩,qf 71 3 3,⟨QQ 72,ol 1 71,N2,[3]⟩,⟨QQ 73,oi 70 72 1,N2,[2,1,0,4,3]⟩,⟨QQ 74,ol 1 73,N2,[5,2,1,0,4,3]⟩,qf 75 2 3,⟨QQ 76,ol 1 75,N2,[7]⟩,⟨QQ 77,oi 74 76 1,N2,[6,5,2,1,0,4,3,8,7]⟩,⟨QQ 78,ol 1 77,N2,[9,6,5,2,1,0,4,3,8,7]⟩,⟨QQ 79,oc (g "bF") [u 78],N2,[10,9,6,5,2,1,0,4,3,8,7]⟩,⟨QQ 4,om 79,N2,[11,10,9,6,5,2,1,0,4,3,8,7]⟩,⟨QQ 5,omc z0,N2,[12,11,10,9,6,5,2,1,0,4,3,8,7]⟩]
abbrev aAV:LN:=[]
def aAW(g:SN):ag:=.block 1 (qS [qbi 48 .eql 46 0,qm 47 48]<|qC 47 (qS [qla 49 13 6,qc 50 (g "cl") [u 49],qq 51 (.ext 0 (u 50)),qq 52 (.ext 1 (u 50)),qm 4 51,qm 5 52]<|.ret) (qS [qbi 54 .eql 46 1,qm 53 54]<|qC 53 (.seq (.region QS (aHc g))<|.ret) (qS [qbi 67 .eql 46 5,qm 66 67]<|qC 66 (.seq (.region QS (aHd g))<|.ret) (qS [qbi 81 .eql 46 6,qm 80 81]<|qC 80 (qS [qf 82 12 6,ql 83 1 82,qf 84 2 3,ql 85 1 84,qi 86 83 85 1,ql 87 1 86,qm 4 87,qmc 5 z0]<|.ret) (.skip)))))
def aAX(g:SN):bw:=⟨96,[6],[.tmp 4,.tmp 5],qS [qx 2 4 0,qx 3 4 1,qmc 4 (.str []),qmc 5 z0]<|.seq (qS [qf 10 1 3,ql 11 1 10,qbi 12 .lss 11 0,qm 13 12,qF 14 13 (of 1 3),qF 15 13 (ol 1 14),qF 16 13 (of 1 2),qF 17 13 (ol 1 16),qF 18 13 (on 17),qF 19 13 (ob .geq 15 18),qq 20 (.pick (u 13) uT (u 19))]<|qC 20 (qS [qmc 4 (.str []),qmc 5 (vi 12)]<|.ret) (.skip))<|qS [qf 21 1 2,ql 22 1 21,qf 23 1 3,ql 24 1 23,qi 25 22 24 13,qla 26 13 25,qq 6 (.alloc [z0,(.sl QS []),z0,z0,(.sl QS []),z0,(.sl QS []),(.sl QS []),z0,z0,(.sl QS []),(.sl QS []),(.sl QS [])]),qs 13 6 26]<|.seq (qS [qla 27 13 6,qc 28 (g "K") [u 27],qm 7 28]<|aAT g)<|.seq (qS [qf 45 0 3,ql 46 1 45]<|aAW g)<|.seq (qS [qf 89 8 6,qla 90 3 89,qla 91 4 3,qc 92 (g "p") [u 90,u 91],qm 88 92,qq 93 (.ext 0 (u 88)),qq 94 (.ext 1 (u 88)),qm 8 93,qm 9 94]<|qS [qm 95 8]<|qC 95 (qS [qmc 4 (.str [121,101,115]),qmc 5 z0]<|.ret) (.skip))<|qS [qmc 4 (.str [110,111]),qmc 5 z0]<|.ret⟩
structure Told(E:Int->Int->List Shape->Int)(x:Item)(f:Fact):Prop where
 b0:0<=f.block
 b1:f.block<x.blocks.length
 right:∀b,x.blocks[f.block.toNat]? = QQ b->dQ b=QS/\nU E b=0/\f∈eM b f.block
theorem aVn{k:Nat}{b:Block}(hk:k<7)(h:lJ (aBp k) b.kind=QS)(hb:0<=b.kind):aHb b.kind k=true:=by
 match k,hk with
 |0,_=>simp[lJ,aBp]at h;simp[aHb];omega
 |1,_=>simp[lJ,aBp]at h;simp[aHb];omega
 |2,_=>simp[lJ,aBp]at h;simp[aHb];omega
 |3,_=>simp[lJ,aBp]at h;simp[aHb];omega
 |4,_=>simp[lJ,aBp]at h;simp[aHb];omega
 |5,_=>simp[lJ,aBp]at h;simp[aHb];omega
 |6,_=>simp[lJ,aBp]at h;simp[aHb];omega
theorem aVo{k:Nat}{b:Block}(hk:k<7)(h:lJ (aBp k) b.kind=QS):(k=0/\b.kind≠4)∨(0<k/\b.kind=aBp k):=by
 match k,hk with
 |0,_=>simp[lJ,aBp]at h;left;exact⟨rfl,omT⟩
 |1,_=>simp[lJ,aBp]at h;right;exact⟨deT,by simp[aBp];omega⟩
 |2,_=>simp[lJ,aBp]at h;right;exact⟨deT,by simp[aBp];omega⟩
 |3,_=>simp[lJ,aBp]at h;right;exact⟨deT,by simp[aBp];omega⟩
 |4,_=>simp[lJ,aBp]at h;right;exact⟨deT,by simp[aBp];omega⟩
 |5,_=>simp[lJ,aBp]at h;right;exact⟨deT,by simp[aBp];omega⟩
 |6,_=>simp[lJ,aBp]at h;right;exact⟨deT,by simp[aBp];omega⟩
theorem aOs{b:Block}{f:Fact}{n m:Int}(h:f∈eM b n):({ f with block:=m }:Fact)∈eM b m:=by obtain⟨k,hk,hh,p,hp,rfl⟩:=aCE h;unfold eM nO;refine IM.2 ⟨k,HE.2 hk, ?_⟩;unfold aF8;rw[Zy hh];exact DB.2 ⟨p,hp,rfl⟩
abbrev aHP(g:SN):List ae:=[qm 37 7,qf 38 2 2,⟨QQ 39,ol 1 38,N2,[1]⟩,qf 40 2 3,⟨QQ 41,ol 1 40,N2,[3]⟩,⟨QQ 42,oi 39 41 2,N2,[2,1,4,3]⟩,⟨QQ 43,ola 2 42,N2,[5,2,1,4,3]⟩,qf 44 2 2,⟨QQ 45,ol 1 44,N2,[7]⟩,qf 46 3 3,⟨QQ 47,ol 1 46,N2,[9]⟩,⟨QQ 48,oi 45 47 2,N2,[8,7,10,9]⟩,⟨QQ 49,ola 2 48,N2,[11,8,7,10,9]⟩,⟨QQ 50,.dm (u 37) [(.tmp 43),(.tmp 49)],N2,[0,6,5,2,1,4,3,12,11,8,7,10,9]⟩,⟨QQ 4,om 50,N2,[13,0,6,5,2,1,4,3,12,11,8,7,10,9]⟩,⟨QQ 5,omc z0,N2,[14,13,0,6,5,2,1,4,3,12,11,8,7,10,9]⟩]
abbrev jZ:LN:=[]
def aCF(g:SN):bw:=⟨51,[13],[.tmp 4,.tmp 5],qS [qx 2 3 0,qx 3 4 1,qmc 4 (.bool QT),qmc 5 z0]<|.seq (qS [qla 8 3 2,qc 9 (g "k") [u 8],qm 6 9]<|qS [qm 10 6,qbi 11 .neq 10 0]<|qC 11 (qS [qm 12 6,qmc 4 (.bool QT),qm 5 12]<|.ret) (.skip))<|qS [qq 13 (.jn),qz (.ins (u 13) (ui 2) (uf (g "C"))),qz (.ins (u 13) (ui 3) (uf (g "D"))),qz (.ins (u 13) (ui 4) (uf (g "E"))),qm 14 13,qf 15 0 3,ql 16 1 15,qq 17 (.look .bx (u 14) (u 16) QT),qm 7 17]<|.seq (qS [qm 18 7,qq 19 (.bin .eql .func (u 18) (uc .bx))]<|qC 19 (qS [qmc 4 (.bool QT),qmc 5 (vi 1)]<|.ret) (.skip))<|.seq (qS [qf 20 2 3,ql 21 1 20,qf 22 3 3,ql 23 1 22,qq 24 (.mm QT [(.tmp 21),(.tmp 23)]),qbi 25 .lss 24 0,qm 26 25,qF 27 26 (of 2 3),qF 28 26 (ol 1 27),qF 29 26 (of 3 3),qF 30 26 (ol 1 29),qF 31 26 (.mm QS [(.tmp 28),(.tmp 30)]),qF 32 26 (of 2 2),qF 33 26 (ol 1 32),qF 34 26 (on 33),qF 35 26 (ob .geq 31 34),qq 36 (.pick (u 26) uT (u 35))]<|qC 36 (qS [qmc 4 (.bool QT),qmc 5 (vi 6)]<|.ret) (.skip))<|.seq (.region QS (aHP g))<|.ret⟩
section
variable {A:af}{g:SN}{E:Int->Int->List Shape->Int}
theorem aSr(hE:aCD A g E) (hI:∀s t:Shape,s.points.length<=1000->t.points.length<=1000->∀H,∃r:Bool,aG A (g "C") [.agg (aH s),.agg (aH t)] H=QQ (.bool r,H,[])) (hL:∀s t:Shape,s.points.length<=1000->t.points.length<=1000->∀H,∃r:Bool,aG A (g "D") [.agg (aH s),.agg (aH t)] H=QQ (.bool r,H,[])) (hG:∀s t:Shape,s.points.length<=1000->t.points.length<=1000->∀H,∃r:Bool,aG A (g "E") [.agg (aH s),.agg (aH t)] H=QQ (.bool r,H,[])) (h:Has A g "p" (aCF g)) (w hh:Int) (l:List Shape) (f:Fact) (H:LO) (hl:∀s∈l,vQ s=QS) (hw:1<=w/\w<=1000) (Cw:1<=hh/\hh<=1000) (Mo:l.length<=8) (Bt:0<=f.a) (qw:0<=f.b) (ha:f.a<l.length) (hb:f.b<l.length) (z8:2<=f.kind) (Je:f.kind<=4):∃(r:Bool) (e:Int),aG A (g "p") [.agg (aDn w hh l),.agg (aI f)] H=QQ (.tup [.bool r,vi e],H,[]):=by
 obtain⟨v,H',wr,h1,rfl,rfl,m,e,rfl⟩:=h.bp (args:=[.agg (aDn w hh l),.agg (aI f)]) (H:=H) (K:=fun v H' wr=>wr=[]/\H'=H/\∃(r:Bool) (e:Int),v=.tup [.bool r,vi e]) (by
  have hv:=fun H=>hE w hh l hw Cw Mo hl H;have l9:∀s∈l,s.points.length<=1000:=fun s hm=>by
   have q1:=hl s hm;unfold vQ at q1;simp only[AI,eG]at q1;omega
  simp only[aCF];simp only[aDn,aI]at hv ⊢;cases e1:(E w hh l != 0)with
  |true=>simp only[go_sem,↓aB,seval,hv,e1,AD,AA,AE];exact⟨_,_,rfl⟩
  |false=>
   have hk:f.kind=2∨f.kind=3∨f.kind=4:=omT;have Jg:f.a.toNat<l.length:=omT;have Cf:f.b.toNat<l.length:=omT;have Mp:(l.map aH)[f.a.toNat]? = QQ (aH l[f.a.toNat]):=by rw[BN,AP Jg];rfl
   have Gt:(l.map aH)[f.b.toNat]? = QQ (aH l[f.b.toNat]):=by rw[BN,AP Cf];rfl
   obtain⟨sa,Gu,ea⟩:∃s:Shape,s.points.length<=1000/\(l.map aH)[f.a.toNat]? = QQ (aH s):=⟨_,l9 _ (AS Jg),Mp⟩;obtain⟨sb,Gv,eb⟩:∃s:Shape,s.points.length<=1000/\(l.map aH)[f.b.toNat]? = QQ (aH s):=⟨_,l9 _ (AS Cf),Gt⟩;have fI:kJ JT vd.func (AV.fn (g "C") [] []) AV.bx=QQ (.bool QT):=rfl;have fL:kJ JT vd.func (AV.fn (g "D") [] []) AV.bx=QQ (.bool QT):=rfl;have fG:kJ JT vd.func (AV.fn (g "E") [] []) AV.bx=QQ (.bool QT):=rfl;have c1:decide ((if f.b<f.a then f.b else f.a)<0)=false:=by simp;split<;>omega
   have c2:decide ((if f.a<f.b then f.b else f.a) ≥ (l.length:Int))=false:=by simp;split<;>omega
   rcases hk with hk | hk | hk
   ·rw[hk];obtain⟨r,hr⟩:=hI sa sb Gu Gv (H++[ah.map 1 [(AV.int AR 2,AV.fn (g "C") [] []),(AV.int AR 3,AV.fn (g "D") [] []),(AV.int AR 4,AV.fn (g "E") [] [])]]);simp only[aH]at ea eb hr;simp only[go_sem,↓aB,seval,hv,e1,fI,c1,c2,AF,Zz,AD,AA,AE,AB];refine aY (aq:=jZ) rfT rfT ?_;simp only[go_sem,↓aB,seval,jZ,ea,eb,hr,Bt,qw,AD,AA,AE,AB];exact⟨_,_,rfl⟩
   ·rw[hk];obtain⟨r,hr⟩:=hL sa sb Gu Gv (H++[ah.map 1 [(AV.int AR 2,AV.fn (g "C") [] []),(AV.int AR 3,AV.fn (g "D") [] []),(AV.int AR 4,AV.fn (g "E") [] [])]]);simp only[aH]at ea eb hr;simp only[go_sem,↓aB,seval,hv,e1,fL,c1,c2,AF,Zz,AD,AA,AE,AB];refine aY (aq:=jZ) rfT rfT ?_;simp only[go_sem,↓aB,seval,jZ,ea,eb,hr,Bt,qw,AD,AA,AE,AB];exact⟨_,_,rfl⟩
   rw[hk];obtain⟨r,hr⟩:=hG sa sb Gu Gv (H++[ah.map 1 [(AV.int AR 2,AV.fn (g "C") [] []),(AV.int AR 3,AV.fn (g "D") [] []),(AV.int AR 4,AV.fn (g "E") [] [])]]);simp only[aH]at ea eb hr;simp only[go_sem,↓aB,seval,hv,e1,fG,c1,c2,AF,Zz,AD,AA,AE,AB];refine aY (aq:=jZ) rfT rfT ?_;simp only[go_sem,↓aB,seval,jZ,ea,eb,hr,Bt,qw,AD,AA,AE,AB];exact⟨_,_,rfl⟩)
 exact⟨m,e,h1⟩
structure C2(A:af)(g:SN):Prop where
 fns:PlaneFns A g
 within:Has A g "af" (oY g)
 con:aAA A (g "bm") 2 QS
 in1:Has A g "ad" (oP g)
 inside:Has A g "C" (aAI g)
 box:Has A g "ac" (aDo g)
 left:Has A g "D" (aEv g)
 length:Has A g "ae" (tC g)
 S6:Has A g "E" (aAF g)
 holds:Has A g "p" (aCF g)
theorem aVp(P:C2 A g)(hE:aCD A g E)(b:Block)(f:Fact)(H:LO)(hb:b.Ok)(hl:∀s∈b.aw,vQ s=QS)(hw:1<=b.w/\b.w<=1000)(hh:1<=b.h/\b.h<=1000)(h8:b.aw.length<=8)(a0:0<=f.a)(b0:0<=f.b)(a1:f.a<b.aw.length)(b1:f.b<b.aw.length)(k2:2<=f.kind)(k4:f.kind<=4):∃(r:Bool) (e:Int),aG A (g "p") [.agg (aDn b.w b.h b.aw),.agg (aI f)] H=QQ (.tup [.bool r,vi e],H,[]):=
 aSr hE (fun s t hs ht H=>aQ9 P.fns P.within P.con P.in1 P.inside s t hs ht H) (fun s t hs ht H=>aV5 P.box P.left s t hs ht H) (fun s t hs ht H=>aQ5 P.fns P.length P.S6 s t hs ht H) P.holds b.w b.h b.aw f H hl hw hh h8 a0 b0 a1 b1 k2 k4
end
theorem aII{n:Nat}:∀{l:LA},dJ n l=QS->∀(i:Nat) a,l[i]? = QQ a->a.under n=QS
 | [],_,i,a,h=>by simp at h
 |v::r,hu,i,a,h=>by
  simp only[dJ,AI]at hu;cases i with
  |zero=>simp at h;subst h;exact hu.1
  |succ i=>exact aII hu.2 i a (by simpa using h)
noncomputable def aFb(A:af)(f:Nat):aIP:=fun args _=>if dJ 0 args=QS then
  match aG A f args []with
  |some (v,[],[])=>if v.atomic=QS then QQ (v,[],[])else N2
  |_=>N2
 else N2
theorem aQr{A:af}{f:Nat}{args:LA}{H:LO}{r}(h:aFb A f args H=QQ r):∃v,r=(v,[],[])/\v.atomic=QS/\dJ 0 args=QS/\aG A f args []=QQ (v,[],[]):=by
 unfold aFb at h;split at h
 ·rename_i hu;split at h
  ·rename_i v hc;split at h
   ·rename_i ha;cases h;exact⟨v,rfl,ha,hu,hc⟩
   cases h
  cases h
 cases h
theorem aQs{A:af}{f:Nat}{args:LA}{v:AV}(hu:dJ 0 args=QS)(ha:v.atomic=QS)(h:aG A f args []=QQ (v,[],[]))(H:LO):aFb A f args H=QQ (v,[],[]):=by unfold aFb;rw[Zy hu,h];dsimp only;rw[Zy ha]
theorem aSs{P:Program}{ab:cu}{A:af}(hA:Good P ab A)(B4:∀n row,ab.row n=QQ row->dJ 0 row=QS){f:Nat} (hf:∃F,P.funcs[f]? = QQ F/\(F.name == "runtime.NumGoroutine")=QT/\F.body.isNone=QT):gS P ab fun f' args H=>if f'=f then (aFb A f args H).map (cT H)else none:=by
 refine oC hf fun args H v ws ns hp g w xs hw hg hx=>?_;obtain⟨v',e,jk,hu,hc⟩:=aQr hp;cases e;obtain⟨n,hc⟩:=oM hc;have od:WF (g.cut 0) [] w:=by
  refine⟨hw.perm,fun o l h=>by simp[G.cut]at h,fun o l h=>by simp[G.cut]at h,fun o x l _ h=>by simp[G.cut]at h,fun o l x h=>?_,fun o l x h=>?_,fun o o' l l' x x' h=>?_,⟨fun b y hy=>⟨(hw.whole.blocks b y hy).1,fun o l z hz=>?_⟩,hw.whole.io⟩⟩
  all_goals first
   | (have:=h.Pr;simp at this;done)
   | (have:=hz.Pr;simp at this;done)
 have Q6:bM P ab (g.cut 0):=⟨fun n row e=>by
  obtain⟨h1,h2⟩:=hg.row n row e;exact⟨h1.cut (by simpa [AV.under]using B4 n row e),h2⟩,hg.code⟩
 have jr:fU (g.cut 0) args xs:=⟨hx.1,fun i a x e1 e2=>(hx.2 i a x e1 e2).cut (aII hu i a e1)⟩;refine (((sU hA n).1 f args [] v [] [] hc (g.cut 0) w xs od Q6 jr).2).mono fun e w' he=>?_;cases e with
 |panicked c=>exact he
 |outgrown=>exact he
 |returned x=>
  obtain⟨g',hs,hr⟩:=he;have kh:w'.os=w.os/\w'.output=w.output:=by have e1:=hs.wf.whole.io;have e2:=hs.le.io;have e3:=hw.whole.io;rw[e2]at e1;have e4:(w.os,w.output)=(w'.os,w'.output):=e3.symm.trans e1;exact⟨(congrArg EM e4).symm,(congrArg GQ e4).symm⟩
  refine⟨g,by simpa [eU]using Step.nf hw hs.frame.1 (fun b hb=>hs.frame.2 b hb fun o ho=>by cases ho) kh, ?_⟩;cases v<;>first | (simp[AV.atomic,AV.atom]at jk;done) | exact ai.atomic hr jk
end Go.AM
end
