/- Part 13: lemmas for the last text. -/
import Derived.Test.YtebodiamojfnnaaGreatDoorK04
import Derived.Test.YtebodiamojfnnaaGreatDoorK10
import Derived.Test.YtebodiamojfnnaaGreatDoorK12
set_option linter.unusedVariables false
set_option linter.unusedSimpArgs false
set_option maxHeartbeats 6400000
set_option maxRecDepth 20000
open Bool renaming true_beq -> CE, false_beq -> BB, and_eq_true -> AI, true -> Qt, false -> Qu
open Go.IntKind renaming i64 -> AR
open Int renaming tmod_nonneg -> HV, tmod_lt_of_pos -> GX, toNat_natCast -> AT, natCast_nonneg -> AU, ofNat_lt -> PN
open List renaming length_map -> AF, drop_zero -> AD, take_succ_cons -> AA, take_zero -> AE, map_cons -> BI, getElem?_cons_zero -> BG, append_nil -> AJ, drop_succ_cons -> AB, map_nil -> BY, getElem?_cons_succ -> CT, length_cons -> AW, length_nil -> AZ, all_eq_true -> AO, map -> DR, mem_cons -> BD, not_mem_nil -> CC, mem_append -> AY, length -> FN, take -> FW, take_of_length_le -> CH, length_append -> BA, map_take -> Pu, getElem?_eq_getElem -> AP, getElem_mem -> AS, mem_singleton -> CG, getElem?_map -> BN, take_length -> DM, take_succ_eq_append_getElem -> EW
open Nat renaming zero_add -> BC, le_refl -> AQ
open Option renaming some -> Qr, none -> Qs
open Option.some renaming inj -> DZ, injEq -> AG
section
namespace Go.AM
open Go
def zU(g:SN):ag:=.block 0 (qS [qbi 10 .eql 8 3,qm 9 10]<|qC 9 (qS [qm 11 3,qbi 12 .lss 11 2,qm 13 12,qF 14 13 (om 3),qF 15 13 (obi .gtr 14 8),qq 16 (.pick (u 13) uT (u 15))]<|qC 16 (qS [qmc 2 (vi 1)]<|.ret) (.skip)) (.seq (qS [qbi 18 .eql 8 4,qm 17 18]<|qC 17 (.skip) (qS [qbi 19 .eql 8 5,qm 17 19]<|qC 17 (.skip) (qR [qbi 20 .eql 8 6,qm 17 20])))<|qC 17 (qS [qm 21 3,qbi 22 .neq 21 2]<|qC 22 (qS [qmc 2 (vi 1)]<|.ret) (.skip)) (qS [qmc 2 (vi 1)]<|.ret)))
abbrev aFw(g:SN):List ae:=[qf 23 1 1,⟨Qr 24,ol 1 23,Qs,[0]⟩,⟨Qr 25,oc (g "di") [u 24,uf (g "bF")],Qs,[1,0]⟩,⟨Qr 26,om 25,Qs,[2,1,0]⟩,⟨Qr 27,of 0 1,Qr (Qr 26,Qu),yq3⟩,⟨Qr 28,ol 1 27,Qr (Qr 26,Qu),yq4⟩,⟨Qr 29,obi .eql 28 4,Qr (Qr 26,Qu),yq5⟩,⟨Qr 30,om 29,Qr (Qr 26,Qu),yq6⟩,⟨Qr 31,of 1 1,Qr (Qr 30,Qt),yq7⟩,⟨Qr 32,ol 1 31,Qr (Qr 30,Qt),yq8⟩,⟨Qr 33,.iaV (u 32) (ui 0) 1,Qr (Qr 30,Qt),yq9⟩,⟨Qr 34,ol 1 33,Qr (Qr 30,Qt),bBZ⟩,⟨Qr 35,of 1 1,Qr (Qr 30,Qt),yq7⟩,⟨Qr 36,ol 1 35,Qr (Qr 30,Qt),12::yq7⟩,⟨Qr 37,.iaV (u 36) (ui 1) 1,Qr (Qr 30,Qt),13::12::yq7⟩,⟨Qr 38,ol 1 37,Qr (Qr 30,Qt),14::13::12::yq7⟩,⟨Qr 39,ob .lss 34 38,Qr (Qr 30,Qt),11::10::9::8::15::14::13::12::yq7⟩,⟨Qr 40,op 30 39,Qr (Qr 26,Qu),16::11::10::9::8::15::14::13::12::yq7⟩,⟨Qr 41,.pick (u 26) uT (u 40),Qs,17::16::11::10::9::8::15::14::13::12::yq7⟩,⟨Qr 42,om 41,Qs,18::17::16::11::10::9::8::15::14::13::12::yq7⟩,⟨Qr 43,of 0 1,Qr (Qr 42,Qu),19::18::17::16::11::10::9::8::15::14::13::12::yq7⟩,⟨Qr 44,ol 1 43,Qr (Qr 42,Qu),20::19::18::17::16::11::10::9::8::15::14::13::12::yq7⟩,⟨Qr 45,obi .eql 44 6,Qr (Qr 42,Qu),21::20::19::18::17::16::11::10::9::8::15::14::13::12::yq7⟩,⟨Qr 46,om 45,Qr (Qr 42,Qu),22::21::20::19::18::17::16::11::10::9::8::15::14::13::12::yq7⟩,⟨Qr 47,of 1 1,Qr (Qr 46,Qt),23::22::21::20::19::18::17::16::11::10::9::8::15::14::13::12::yq7⟩,⟨Qr 48,ol 1 47,Qr (Qr 46,Qt),24::23::22::21::20::19::18::17::16::11::10::9::8::15::14::13::12::yq7⟩,⟨Qr 49,.iaV (u 48) (ui 1) 1,Qr (Qr 46,Qt),25::24::23::22::21::20::19::18::17::16::11::10::9::8::15::14::13::12::yq7⟩,⟨Qr 50,ol 1 49,Qr (Qr 46,Qt),26::25::24::23::22::21::20::19::18::17::16::11::10::9::8::15::14::13::12::yq7⟩,⟨Qr 51,obi .eql 50 0,Qr (Qr 46,Qt),27::26::25::24::23::22::21::20::19::18::17::16::11::10::9::8::15::14::13::12::yq7⟩,⟨Qr 52,op 46 51,Qr (Qr 42,Qu),28::27::26::25::24::23::22::21::20::19::18::17::16::11::10::9::8::15::14::13::12::yq7⟩,⟨Qr 53,.pick (u 42) uT (u 52),Qs,29::28::27::26::25::24::23::22::21::20::19::18::17::16::11::10::9::8::15::14::13::12::yq7⟩]
abbrev gM:LN:=[]
def aDN(g:SN):bw:=⟨54,[],[.tmp 2],qS [qx 1 2 0,qmc 2 z0]<|qS [qf 4 1 1,ql 5 1 4,qn 6 5,qm 3 6]<|.seq (qS [qf 7 0 1,ql 8 1 7]<|zU g)<|.seq (.seq (.region Qt (aFw g))<|qC 53 (qS [qmc 2 (vi 5)]<|.ret) (.skip))<|qS [qmc 2 z0]<|.ret⟩
def aB0(g:SN):bw:=⟨9,[],[.tmp 2],qS [qmc 2 (.bool Qu)]<|qS [qm 3 0,qbi 4 .lss 3 0,qm 5 4,qF 6 5 (om 0),qF 7 5 (obi .gtr 6 999999),qq 8 (.pick (u 5) uT (u 7)),qm 2 8]<|.ret⟩
def aC5(g:SN):ag:=.block 0 (qS [qf 7 0 1,ql 8 1 7,qn 9 8,qbi 10 .gtr 9 2,qm 11 10,qF 12 11 (of 0 1),qF 13 11 (ol 1 12),qF 14 11 (om 3),qF 15 11 (oc (g "cI") [u 13,u 14]),qq 16 (.pick (u 11) uT (u 15)),qm 6 16]<|qC 6 (qS [qmc 2 (vi 4)]<|.ret) (qS [qf 18 0 1,ql 19 1 18,qn 20 19,qbi 21 .eql 20 0,qm 22 21,qF 23 22 (of 0 1),qF 24 22 (ol 1 23),qF 25 22 (om 4),qF 26 22 (oc (g "cI") [u 24,u 25]),qq 27 (.pick (u 22) uT (u 26)),qm 17 27]<|qC 17 (qS [qmc 2 (vi 1)]<|.ret) (.skip)))
def aHi(g:SN):bw:=⟨28,[],[.tmp 2],qS [qx 1 1 0,qmc 2 z0]<|qS [qmc 3 (.fn (g "br") [] [])]<|qS [qq 5 (.mkf (g "bt") [] [(.tmp 1)]),qm 4 5]<|.seq (aC5 g)<|qS [qmc 2 z0]<|.ret⟩
def yY(g:SN):bw:=⟨10,[],[.tmp 2],qS [qmc 2 (.bool Qu)]<|qS [qm 3 0,qn 4 3,qbi 5 .gtr 4 32,qm 6 5,qF 7 6 (om 0),qF 8 6 (oc (g "cJ") [u 7,uf (g "bs")]),qq 9 (.pick (u 6) uT (u 8)),qm 2 9]<|.ret⟩
def aB1(g:SN):bw:=⟨6,[],[.tmp 2],qS [qmc 2 (.bool Qu)]<|qS [qm 3 0,qn 4 3,qbi 5 .gtr 4 16,qm 2 5]<|.ret⟩
def aDO(g:SN):bw:=⟨21,[],[.tmp 3],qS [qmc 3 (.bool Qu)]<|qS [qm 4 0,qn 5 4,qbi 6 .eql 5 0,qm 7 6,qF 8 7 (om 0),qF 9 7 (on 8),qF 10 7 (of 0 1),qF 11 7 (ol 1 10),qF 12 7 (.iaV (u 11) (ui 0) 1),qF 13 7 (ol 1 12),qF 14 7 (on 13),qF 15 7 (ob .neq 9 14),qq 16 (.pick (u 7) uT (u 15)),qm 17 16,qF 18 17 (om 0),qF 19 17 (oc (g "cJ") [u 18,uf (g "bu")]),qq 20 (.pick (u 17) uT (u 19)),qm 3 20]<|.ret⟩
def aB2(g:SN):bw:=⟨6,[],[.tmp 2],qS [qmc 2 (.bool Qu)]<|qS [qm 3 0,qc 4 (g "cb") [u 3],qq 5 (.un .not (u 4)),qm 2 5]<|.ret⟩
def uO(g:SN):bw:=⟨11,[],[.tmp 2],qS [qmc 2 (.bool Qu)]<|qS [qm 3 0,qn 4 3,qbi 5 .gtr 4 0,qm 6 5,qT 7 6 (om 0),qT 8 6 (oc (g "dg") [u 7,uf (g "bv")]),qT 9 6 (.un .not (u 8)),qp 10 6 9,qm 2 10]<|.ret⟩
def zV(g:SN):bw:=⟨6,[],[.tmp 2],qS [qx 1 3 0,qmc 2 (.bool Qu)]<|qS [qla 3 3 1,qc 4 (g "ca") [u 3],qq 5 (.un .not (u 4)),qm 2 5]<|.ret⟩
def aHj(g:SN):bw:=⟨40,[],[.tmp 2],qS [qx 1 3 0,qmc 2 (.bool Qu)]<|qS [qf 3 0 1,ql 4 1 3,qbi 5 .geq 4 (-1),qm 6 5,qT 7 6 (of 0 1),qT 8 6 (ol 1 7),qT 9 6 (obi .leq 8 48),qp 10 6 9,qm 11 10,qT 12 11 (of 1 1),qT 13 11 (ol 1 12),qT 14 11 (obi .geq 13 0),qp 15 11 14,qm 16 15,qT 17 16 (of 1 1),qT 18 16 (ol 1 17),qT 19 16 (obi .lss 18 5),qp 20 16 19,qm 21 20,qT 22 21 (of 2 1),qT 23 21 (ol 1 22),qT 24 21 (of 2 1),qT 25 21 (ol 1 24),qT 26 21 (.un .neg (u 25)),qT 27 21 (.mm Qt [(.tmp 23),(.tmp 26)]),qT 28 21 (obi .leq 27 1),qp 29 21 28,qm 30 29,qT 31 30 (of 0 1),qT 32 30 (ol 1 31),qT 33 30 (obi .geq 32 0),qT 34 30 (om 33),qF 35 34 (of 2 1),qF 36 34 (ol 1 35),qF 37 34 (obi .eql 36 0),qT 38 30 (.pick (u 34) uT (u 37)),qp 39 30 38,qm 2 39]<|.ret⟩
def aB3(g:SN):ag:=.block 0 (qS [qbi 6 .eql 4 1,qm 5 6]<|qC 5 (qS [qf 7 2 1,qla 8 3 7,qc 9 (g "aB") [u 8],qm 2 9]<|.ret) (qS [qbi 11 .eql 4 2,qm 10 11]<|qC 10 (qS [qf 12 5 1,qla 13 2 12,qc 14 (g "cq") [u 13],qm 2 14]<|.ret) (qS [qbi 16 .eql 4 4,qm 15 16]<|qC 15 (qS [qf 17 8 1,qla 18 3 17,qc 19 (g "p") [u 18],qm 2 19]<|.ret) (qS [qbi 21 .eql 4 5,qm 20 21]<|qC 20 (qS [qf 22 11 1,qla 23 1 22,qc 24 (g "bZ") [u 23],qm 2 24]<|.ret) (.skip)))))
def aFc(g:SN):bw:=⟨25,[],[.tmp 2],qS [qx 1 13 0,qmc 2 z0]<|.seq (qS [qf 3 0 1,ql 4 1 3]<|aB3 g)<|qS [qmc 2 z0]<|.ret⟩
structure iw(A:af)(g:SN):Prop where
 sp:Has A g "cq" (aDN g)
 sp1:Has A g "bF" (aB0 g)
 mu:Has A g "bZ" (aHi g)
 mu1:Has A g "br" (yY g)
 Gz:Has A g "bs" (aB1 g)
 mu2:Has A g "bt" (aDO g)
 Ha:Has A g "bu" (aB2 g)
 rb:Has A g "cb" (uO g)
 rb1:Has A g "bv" (zV g)
 rt:Has A g "ca" (aHj g)
 block:Has A g "bN" (aFc g)
 cI:aAA A (g "di") 1 Qu
 cN:aAA A (g "dg") 3 Qt
 cB:aAA A (g "cJ") 1 Qu
 cH:aAA A (g "cI") 1 Qu
section
variable {A:af}{g:SN}{tB tP:Nat}
theorem aYg(F:iw A g)(n:Int)(H:LO):∃r:Bool,aG A (g "bF") [vi n] H=Qr (.bool r,H,[]):=by
 refine⟨decide (n<0) || decide (n>999999),F.sp1.call ?_⟩;simp only[aB0];cases e1:decide (n<0)with
 |true=>simp only[go_sem,↓aB,seval,e1,Bool.true_or,CE]
 |false=>simp only[go_sem,↓aB,seval,e1,Zz,Bool.false_or]
theorem aVu(F:iw A g)(l:List ct)(H:LO):∃r:Bool,aG A (g "bs") [.sl Qu (l.map bV)] H=Qr (.bool r,H,[]):=by refine⟨decide ((l.length:Int)>16),F.Gz.call ?_⟩;simp only[aB1];simp only[go_sem,↓aB,seval,AF]
theorem aSt(F:iw A g)(n:ct)(hn:n.Ok)(H:LO):∃r:Bool,aG A (g "ca") [.agg (bV n)] H=Qr (.bool r,H,[]):=by
 obtain⟨r,H',ba,e1,rfl,rfl,b,rfl⟩:=F.rt.bp (args:=[.agg (bV n)]) (H:=H) (K:=fun r H' wr=>wr=[]/\H'=H/\∃b,r=.bool b) (by
  simp only[aHj];cases c1:decide (n.step ≥ -1)with
  |false=>simp only[go_sem,↓aB,seval,bV,c1,BB];exact⟨_,rfl⟩
  |true=>cases c2:decide (n.step<=48)with
   |false=>simp only[go_sem,↓aB,seval,bV,c1,c2,Zz,BB];exact⟨_,rfl⟩
   |true=>cases c3:decide (n.length ≥ 0)with
    |false=>simp only[go_sem,↓aB,seval,bV,c1,c2,c3,Zz,BB];exact⟨_,rfl⟩
    |true=>cases c4:decide (n.length<5)with
     |false=>simp only[go_sem,↓aB,seval,bV,c1,c2,c3,c4,Zz,BB];exact⟨_,rfl⟩
     |true=>
      simp only[go_sem,↓aB,seval,bV,c1,c2,c3,c4,Zz];generalize decide ((if AR.wrap (0 - n.alter)>n.alter then AR.wrap (0 - n.alter)else n.alter)<=1)=c5;cases c5 with
      |false=>simp only[go_sem,↓aB,seval,BB];exact⟨_,rfl⟩
      |true=>cases c6:decide (n.step ≥ 0)with
       |false=>simp only[go_sem,↓aB,seval,c6,Zz];exact⟨_,rfl⟩
       |true=>simp only[go_sem,↓aB,seval,c6,Zz,CE];exact⟨_,rfl⟩)
 exact⟨b,e1⟩
theorem aYh(F:iw A g)(n:ct)(hn:n.Ok)(H:LO):∃r:Bool,aG A (g "bv") [.agg (bV n)] H=Qr (.bool r,H,[]):=by obtain⟨b,hb⟩:=aSt F n hn H;refine⟨!b,F.rb1.call ?_⟩;simp only[zV];simp only[bV]at hb ⊢;simp only[go_sem,↓aB,seval,hb,AD,AA,AE]
theorem bBj(F:iw A g)(l:List ct)(hl:l.length<=16)(hn:∀n∈l,n.Ok)(H:LO):∃r:Bool,aG A (g "cb") [.sl Qu (l.map bV)] H=Qr (.bool r,H,[]):=by
 obtain⟨b,hb⟩:=aBX F.cN aMZ cQ (l:=l) (by show l.length<_;omega) (H:=H) (f1:=g "bv") fun n hm=>aYh F n (hn n hm) H;cases c1:decide ((l.length:Int)>0)with
 |false=>refine⟨Qu,F.rb.call ?_⟩;simp only[uO];simp only[go_sem,↓aB,seval,AF,c1,BB]
 |true=>refine⟨!b,F.rb.call ?_⟩;simp only[uO];simp only[go_sem,↓aB,seval,AF,c1,hb,Zz]
theorem aVv(F:iw A g)(l:List ct)(hl:l.length<=16)(hn:∀n∈l,n.Ok)(H:LO):∃r:Bool,aG A (g "bu") [.sl Qu (l.map bV)] H=Qr (.bool r,H,[]):=by obtain⟨b,hb⟩:=bBj F l hl hn H;refine⟨!b,F.Ha.call ?_⟩;simp only[aB2];simp only[go_sem,↓aB,seval,hb]
abbrev aMl(h:List (List ct)):Prop:=h.length<=16/\∀l∈h,l.length<=16/\∀n∈l,n.Ok
theorem aYi(F:iw A g)(h:List (List ct))(hh:aMl h)(H:LO):∃r:Bool,aG A (g "br") [.sl Qu (h.map gH)] H=Qr (.bool r,H,[]):=by
 obtain⟨b,hb⟩:=aBX F.cB aLY cQ (l:=h) (by have:=hh.1;show h.length<_;omega) (H:=H) (f1:=g "bs") fun n hm=>aVu F n H;cases c1:decide ((h.length:Int)>32)with
 |true=>refine⟨Qt,F.mu1.call ?_⟩;simp only[yY];simp only[go_sem,↓aB,seval,AF,c1,CE]
 |false=>refine⟨b,F.mu1.call ?_⟩;simp only[yY];simp only[go_sem,↓aB,seval,AF,c1,hb,Zz]
theorem aYj(F:iw A g)(h0:List (List ct))(hs:List (List (List ct)))(h:List (List ct))(hh:aMl h)(H:LO):∃r:Bool,aG A (g "bt") [.sl Qu (h.map gH),.ep [.sl Qu ((h0::hs).map bS)] 0] H=Qr (.bool r,H,[]):=by
 obtain⟨b,hb⟩:=aBX F.cB aLY cQ (l:=h) (by have:=hh.1;show h.length<_;omega) (H:=H) (f1:=g "bu") fun n hm=>aVv F n (hh.2 n hm).1 (hh.2 n hm).2 H;obtain⟨r,H',ba,e1,rfl,rfl,b',rfl⟩:=F.mu2.bp (args:=[.sl Qu (h.map gH),.ep [.sl Qu ((h0::hs).map bS)] 0]) (H:=H) (K:=fun r H' wr=>wr=[]/\H'=H/\∃b,r=.bool b) (by
  simp only[aDO];cases c1:((h.length:Int)==0)with
  |true=>simp only[go_sem,↓aB,seval,AF,c1,CE];exact⟨_,rfl⟩
  |false=>cases c2:((h.length:Int) != (h0.length:Int))with
   |true=>simp only[go_sem,↓aB,seval,AF,BI,bS,BG,AD,AA,AE,c1,c2,Zz,CE];exact⟨_,rfl⟩
   |false=>simp only[go_sem,↓aB,seval,AF,BI,bS,BG,AD,AA,AE,c1,c2,hb,Zz];exact⟨_,rfl⟩)
 exact⟨b',e1⟩
theorem bBk(F:iw A g)(l:List (List (List ct)))(hl:l.length<=16)(hh:∀h∈l,aMl h)(H:LO):∃e:Int,aG A (g "bZ") [.agg [.sl Qu (l.map bS)]] H=Qr (vi e,H,[]):=by
 obtain⟨b1,fo⟩:=aBX F.cH aJk cQ (l:=l) (by show l.length<_;omega) (H:=H) (f1:=g "br") fun h hm=>aYi F h (hh h hm) H;obtain⟨b2,dp⟩:=aBX F.cH aJk (cQ.ep [.sl Qu (l.map bS)] 0) (l:=l) (by show l.length<_;omega) (H:=H) (f1:=g "bt") fun h hm=>by
  cases l with
  |nil=>cases hm
  |cons h0 hs=>exact aYj F h0 hs h (hh h hm) H
 obtain⟨r,H',ba,e1,rfl,rfl,b',rfl⟩:=F.mu.bp (args:=[.agg [.sl Qu (l.map bS)]]) (H:=H) (K:=fun r H' wr=>wr=[]/\H'=H/\∃e:Int,r=vi e) (by
  simp only[aHi];simp only[go_sem,↓aB,seval,AJ];simp only[aC5];cases c1:decide ((l.length:Int)>2)with
  |true=>simp only[go_sem,↓aB,seval,AF,c1,CE];exact⟨_,rfl⟩
  |false=>cases b1 with
   |true=>simp only[go_sem,↓aB,seval,AF,c1,fo,Zz];exact⟨_,rfl⟩
   |false=>cases c2:((l.length:Int)==0)with
    |true=>simp only[go_sem,↓aB,seval,AF,c1,c2,fo,Zz,CE];exact⟨_,rfl⟩
    |false=>cases b2 with
     |true=>simp only[go_sem,↓aB,seval,AF,c1,c2,fo,dp,Zz];exact⟨_,rfl⟩
     |false=>simp only[go_sem,↓aB,seval,AF,c1,c2,fo,dp,Zz];exact⟨_,rfl⟩)
 exact⟨b',e1⟩
theorem bBl(F:iw A g)(op:Int)(l:List Int)(hl:l.length<=16)(H:LO):∃e:Int,aG A (g "cq") [.agg [vi op,.sl Qu (l.map bF)]] H=Qr (vi e,H,[]):=by
 obtain⟨b1,fo⟩:=aBX F.cI aLX cQ (l:=l) (by show l.length<_;omega) (H:=H) (f1:=g "bF") fun n _=>aYg F n H;obtain⟨r,H',ba,e1,rfl,rfl,b',rfl⟩:=F.sp.bp (args:=[.agg [vi op,.sl Qu (l.map bF)]]) (H:=H) (K:=fun r H' wr=>wr=[]/\H'=H/\∃e:Int,r=vi e) (by
  simp only[aDN];simp only[go_sem,↓aB,seval,AJ,AF,AD,AB,AA,AE];simp only[zU];by_cases o3:op=3
  ·subst o3;cases c1:decide ((l.length:Int)<2)with
   |true=>simp only[go_sem,↓aB,seval,c1,Zz,CE];exact⟨_,rfl⟩
   |false=>cases c2:decide ((l.length:Int)>8)with
    |true=>simp only[go_sem,↓aB,seval,c1,c2,Zz];exact⟨_,rfl⟩
    |false=>
     simp only[go_sem,↓aB,seval,c1,c2,Zz];refine aY (aq:=gM) (by rfl) (by rfl) ?_;cases b1 with
     |true=>simp only[go_sem,↓aB,seval,gM,fo,CE,AD,AB,AA,AE,BC];exact⟨_,rfl⟩
     |false=>simp only[go_sem,↓aB,seval,gM,fo,Zz,BB,AD,AB,AA,AE,BC];exact⟨_,rfl⟩
  have n3:(op==3)=false:=by simpa using o3
  by_cases o456:op=4∨op=5∨op=6
  ·cases c1:((l.length:Int) != 2)with
   |true=>rcases o456 with rfl | rfl | rfl<;>(simp only[go_sem,↓aB,seval,c1,Zz];exact⟨_,rfl⟩)
   |false=>
    have h2:l.length=2:=by simp at c1;omega
    obtain⟨x,y,rfl⟩:∃x y,l=[x,y]:=by
     match l,h2 with
     | [x,y],_=>exact⟨x,y,rfl⟩
    simp only[BI,BY,bF]at fo;rcases o456 with rfl | rfl | rfl
    all_goals
     simp only[go_sem,↓aB,seval,Zz];refine aY (aq:=gM) (by rfl) (by rfl) ?_;cases b1 with
     |true=>simp only[go_sem,↓aB,seval,gM,fo,BI,BY,bF,CE,AD,AB,AA,AE,BC];exact⟨_,rfl⟩
     |false=>cases c3:decide (x<y)<;>cases c4:(y==0)<;>(simp only[go_sem,↓aB,seval,gM,fo,c3,c4,BI,BY,bF,BG,CT,AW,AZ,Zz,BB,CE,AD,AB,AA,AE,BC];exact⟨_,rfl⟩)
  have n4:(op==4)=false:=by simp;omega
  have n5:(op==5)=false:=by simp;omega
  have n6:(op==6)=false:=by simp;omega
  simp only[go_sem,↓aB,seval,n3,n4,n5,n6];exact⟨_,rfl⟩)
 exact⟨b',e1⟩
theorem aMm{E:Int->Int->List Shape->Int}(F:iw A g)(hE:aCD A g E)(hF:lu A g)(b:Block)(hb:b.Ok)(hB:dQ b=Qt)(H:LO):∃e:Int,aG A (g "bN") [.agg (aE b)] H=Qr (vi e,H,[])/\(e=0->nU E b=0):=by
 obtain⟨op,n,ks,mn⟩:∃op n ks,b.expr=Expr.mk op n ks:=by cases b.expr;exact⟨_,_,_,rfl⟩
 have vt:aF b.expr=[vi op,vi n,.sl Qu (ks.map aF)]:=by rw[mn,aF,aZ]
 have ig:aE b=[vi b.kind,.sl Qu (b.runs.map cZ),vi op,vi n,.sl Qu (ks.map aF),vi b.dn,.sl Qu (b.eg.map bF),.sl Qu (b.cd.map bY),vi b.w,vi b.h,.sl Qu (b.aw.map aH),.sl Qu (b.bo.map bS),.sl Qu (b.lines.map aN)]:=by unfold aE;rw[vt];rfl
 have yp:=aCp hF b.expr hb.expr hb.size H;rw[vt]at yp;obtain⟨e2,h2⟩:=bBl F b.dn b.eg hb.tj H;obtain⟨e5,h5⟩:=bBk F b.bo hb.uv hb.bo H;obtain⟨r,H',ba,e1,rfl,rfl,e,rfl,he⟩:=F.block.bp (args:=[.agg (aE b)]) (H:=H) (K:=fun r H' wr=>wr=[]/\H'=H/\∃e:Int,r=vi e/\(e=0->nU E b=0)) (by
  unfold nU;rw[Zy hB,ig];simp only[aFc];simp only[go_sem,↓aB,seval,AJ,AD,AA,AE];simp only[aB3];by_cases k1:b.kind=1
  ·simp only[go_sem,↓aB,seval,k1,yp,AD,AB,AA,AE,AJ];exact⟨_,rfl,fun e=>e⟩
  have n1:(b.kind==1)=false:=by simpa using k1
  by_cases k2:b.kind=2
  ·simp only[go_sem,↓aB,seval,k2,h2,AD,AB,AA,AE,AJ];exact⟨_,rfl,fun e=>trivial⟩
  have n2:(b.kind==2)=false:=by simpa using k2
  by_cases k4:b.kind=4
  ·have hk:=yU hB;unfold xU at hk;rw[Zx (by omega),Zx (by omega),Zx (by omega),Zx (by omega),Zy k4]at hk;simp only[AI,eG]at hk;obtain⟨⟨hw,hh⟩,⟨_,Iv⟩,hS⟩:=hk;have Gn:=hE b.w b.h b.aw hw hh (by omega) (AO.1 hS) H;simp only[go_sem,↓aB,seval,k4,Gn,AD,AB,AA,AE,AJ];exact⟨_,rfl,fun e=>e⟩
  have n4:(b.kind==4)=false:=by simpa using k4
  by_cases k5:b.kind=5
  ·simp only[go_sem,↓aB,seval,k5,h5,AD,AB,AA,AE,AJ];exact⟨_,rfl,fun e=>trivial⟩
  have n5:(b.kind==5)=false:=by simpa using k5
  simp only[go_sem,↓aB,seval,n1,n2,n4,n5,k1,k4];exact⟨_,rfl,fun e=>trivial⟩)
 exact⟨e,e1,he⟩
end
def gQ(g:SN):bw:=⟨47,[2],[.cell 2 2 Qt],qS [qq 2 (.alloc [z0,(.sl Qt [])])]<|qS [qq 6 (.bsl 1 [z0] 5 [(0,(.const (vi 3))),(1,(.const (vi 3))),(2,(.const (vi 4))),(3,(.const (vi 5))),(4,(.const (vi 6)))]),qm 7 0,qc 8 (g "a") [u 7,ui 5],qi 9 6 8 1,ql 10 1 9,qm 3 10]<|qS [qq 11 (.bsl 1 [z0] 6 [(0,(.const z0)),(1,(.const (vi 5))),(2,(.const (vi 99))),(3,(.const (vi 123))),(4,(.const (vi 1005))),(5,(.const (vi 47)))]),qm 12 0,qc 13 (g "a") [u 12,ui 6],qi 14 11 13 1,ql 15 1 14,qm 4 15]<|qS [qq 16 (.bsl 1 [z0] 6 [(0,(.const (vi 3))),(1,(.const (vi 9))),(2,(.const (vi 12))),(3,(.const (vi 58))),(4,(.const (vi 1))),(5,(.const (vi 70)))]),qm 17 0,qc 18 (g "a") [u 17,ui 6],qi 19 16 18 1,ql 20 1 19,qm 5 20]<|.seq (qS [qm 21 3,qbi 22 .eql 21 4]<|qC 22 (qS [qm 23 3,qm 24 4,qm 25 5,qb 26 .add 24 25,qm 27 5,qq 28 (.bsl 1 [z0] 2 [(0,(.tmp 26)),(1,(.tmp 27))]),qq 29 (.build [z0,(.sl Qt [])] [(0,1,(.tmp 23)),(1,1,(.tmp 28))]),qs 2 2 29]<|.ret) (.skip))<|.seq (qS [qm 30 3,qbi 31 .eql 30 3,qm 32 31,qT 33 32 (om 0),qT 34 32 (oc (g "a") [u 33,ui 3]),qT 35 32 (obi .eql 34 0),qp 36 32 35]<|qC 36 (qS [qm 37 3,qm 38 4,qm 39 5,qq 40 (.bsl 1 [z0] 3 [(0,(.tmp 38)),(1,(.tmp 39)),(2,(.const (vi 808)))]),qq 41 (.build [z0,(.sl Qt [])] [(0,1,(.tmp 37)),(1,1,(.tmp 40))]),qs 2 2 41]<|.ret) (.skip))<|qS [qm 42 3,qm 43 4,qm 44 5,qq 45 (.bsl 1 [z0] 2 [(0,(.tmp 43)),(1,(.tmp 44))]),qq 46 (.build [z0,(.sl Qt [])] [(0,1,(.tmp 42)),(1,1,(.tmp 45))]),qs 2 2 46]<|.ret⟩
abbrev lY(g:SN):ag:=.seq (qS [qm 20 8,qm 21 5,qb 22 .lss 20 21]<|qC 22 (.skip) (.exit 2))<|.seq (.block 3 (qR [qm 25 7,qm 26 0,qc 27 (g "i") [u 26],qq 28 (.bsl 1 [(.str [])] 1 [(0,(.tmp 27))]),qa 29 1 16 25 28,qm 7 29]))<|.region Qu [qm 23 8,qbi 24 .add 23 1,qm 8 24]
abbrev uP:LN:=[20,21,22,25,26,27,28,29,7,23,24,8]
abbrev uQ(g:SN):ag:=.seq (qS [qm 15 6,qm 16 4,qb 17 .lss 15 16]<|qC 17 (.skip) (.exit 0))<|.seq (.block 1 (qS [qmc 7 (.sl Qt [])]<|.seq (qS [qmc 8 z0]<|.block 2 (.loop (lY g)))<|.region Qu [qf 30 0 3,ql 31 1 30,qm 32 7,qq 33 (.bsl 1 [(.sl Qu [])] 1 [(0,(.tmp 32))]),qa 34 1 24 31 33,qf 35 0 3,qs 1 35 34]))<|.region Qu [qm 18 6,qbi 19 .add 18 1,qm 6 19]
def gC(g:SN):bw:=⟨37,[2,3,29,34],[.cell 2 1 Qt],qS [qq 2 (.alloc [(.sl Qt [])])]<|qS [qq 3 (.alloc [(.sl Qt [])])]<|qS [qm 9 0,qc 10 (g "a") [u 9,ui 3],qq 11 (.bin .add .no (ui 1) (u 10)),qm 4 11]<|qS [qm 12 0,qc 13 (g "a") [u 12,ui 3],qq 14 (.bin .add .no (ui 1) (u 13)),qm 5 14]<|.seq (qS [qmc 6 z0]<|.block 0 (.loop (uQ g)))<|qS [qla 36 1 3,qs 1 2 36]<|.ret⟩
abbrev uR(g:SN):List ae:=[qf 39 2 7,⟨Qr 40,ol 1 39,Qs,[0]⟩,qm 41 0,qm 42 1,⟨Qr 43,obi .sub 42 1,Qs,[3]⟩,⟨Qr 44,oc (g "k") [u 41,u 43],Qs,[2,4,3]⟩,⟨Qr 45,.bsl 3 [z0,z0,(.sl Qu [])] 1 [(0,(.tmp 44))],Qs,[5,2,4,3]⟩,⟨Qr 46,oa 3 40 40 45,Qs,[1,0,6,5,2,4,3]⟩,⟨Qr 47,of 2 7,Qs,[7,1,0,6,5,2,4,3]⟩,⟨Qs,os 1 47 46,Qs,[8,7,1,0,6,5,2,4,3]⟩]
abbrev lZ:LN:=[1,5]
abbrev uS(g:SN):ag:=.seq (qS [qm 33 8,qm 34 6,qc 35 (g "ay") [u 34],qb 36 .lss 33 35]<|qC 36 (.skip) (.exit 0))<|.seq (.block 1 (.region Qt (uR g)))<|.region Qu [qm 37 8,qbi 38 .add 37 1,qm 8 38]
def gD(g:SN):bw:=⟨49,[4,7,46],[.cell 4 3 Qt],qS [qq 4 (.alloc [z0,z0,(.sl Qt [])])]<|qS [qm 9 0,qc 10 (g "a") [u 9,ui 12],qm 5 10]<|.seq (qS [qm 11 1,qbi 12 .leq 11 0]<|qC 12 (qR [qm 13 5,qbi 14 .rem 13 3,qm 5 14]) (.skip))<|.seq (qS [qm 15 5,qbi 16 .lss 15 2]<|qC 16 (qS [qq 17 (.bsl 1 [z0] 6 [(0,(.const z0)),(1,(.const (vi 1))),(2,(.const (vi 7))),(3,(.const (vi 12))),(4,(.const (vi 100))),(5,(.const (vi 999999)))]),qm 18 0,qc 19 (g "a") [u 18,ui 6],qi 20 17 19 1,ql 21 1 20,qq 22 (.build [z0,z0,(.sl Qt [])] [(0,1,(.const z0)),(1,1,(.tmp 21))]),qs 3 4 22]<|.ret) (.skip))<|.seq (qS [qm 23 5,qbi 24 .eql 23 2]<|qC 24 (qS [qm 25 0,qc 26 (g "a") [u 25,ui 4],qq 27 (.build [z0,z0,(.sl Qt [])] [(0,1,(.const (vi 1))),(1,1,(.tmp 26))]),qs 3 4 27]<|.ret) (.skip))<|qS [qm 28 0,qc 29 (g "a") [u 28,ui 7],qq 30 (.bin .add .no (ui 2) (u 29)),qm 6 30]<|qS [qm 31 6,qq 32 (.build [z0,z0,(.sl Qt [])] [(0,1,(.tmp 31))]),qq 7 (.alloc [z0,z0,(.sl Qt [])]),qs 3 7 32]<|.seq (qS [qmc 8 z0]<|.block 0 (.loop (uS g)))<|qS [qla 48 3 7,qs 3 4 48]<|.ret⟩
abbrev uU(g:SN):List ae:=[qm 13 0,⟨Qr 14,oc (g "a") [u 13,ui 2],Qs,[0]⟩,⟨Qr 15,.bin .add .no (ui 9) (u 14),Qs,[1,0]⟩,qla 16 3 5,qm 17 0,qm 18 1,⟨Qr 19,obi .sub 18 1,Qs,[5]⟩,⟨Qr 20,oc (g "k") [u 17,u 19],Qs,[4,6,5,1,0]⟩,⟨Qr 21,.bsl 3 [z0,z0,(.sl Qu [])] 2 [(0,(.tmp 16)),(1,(.tmp 20))],Qs,[3,7,4,6,5,1,0]⟩,⟨Qr 22,.build [z0,z0,(.sl Qt [])] [(0,1,(.tmp 15)),(2,1,(.tmp 21))],Qs,[2,8,3,7,4,6,5,1,0]⟩,⟨Qs,os 3 4 22,Qs,[9,2,8,3,7,4,6,5,1,0]⟩]
abbrev mA:LN:=[1,3,7]
def gE(g:SN):bw:=⟨26,[4,5],[.cell 4 3 Qt],qS [qq 4 (.alloc [z0,z0,(.sl Qt [])])]<|.seq (qS [qm 6 0,qc 7 (g "a") [u 6,ui 4],qbi 8 .eql 7 0]<|qC 8 (qS [qm 9 0,qm 10 1,qbi 11 .sub 10 1,qc 12 (g "k") [u 9,u 11],qq 5 (.alloc [z0,z0,(.sl Qt [])]),qs 3 5 12]<|.seq (.region Qt (uU g))<|.ret) (.skip))<|qS [qm 23 0,qm 24 1,qc 25 (g "k") [u 23,u 24],qs 3 4 25]<|.ret⟩
abbrev aVw(v:AV):Prop:=∃(op:Int) (a:List Int),v=.agg [vi op,.sl Qu (a.map bF)]/\eA op/\a.length<=3/\(∀n∈a,eA n)/\0<=op/\op<=10
theorem cC{n:Int}(h0:0<=n)(h1:n<=1000000):eA n:=by constructor<;>omega
theorem aVx{A:af}{g:SN}(h:Has A g "aw" (gQ g))(ht:fR A g):dI A (g "aw") [] aVw:=by
 refine h.gen (by simp[gQ]) (fun n=>by kernel_rfl) ?_;intro l i o v H hl hlt ho;simp only[gQ];simp only[go_sem,seval];refine bB (bA ht (m:=5) (by decide)) hl (i:=i) (by simp only[go_sem,seval,eK,hlt,ho]) ?_;rintro val i1 ⟨x,rfl,jr,lz⟩;obtain⟨op,wx,cx⟩:=aQk [3,3,4,5,6] jr lz;simp only[DR,bF]at cx;have Bv:0<=op/\op<=6:=by
  have:∀n∈([3,3,4,5,6]:List Int),0<=n/\n<=6:=by decide
  exact this _ wx
 simp only[go_sem,seval,hlt,fN,jr,cx];refine bB (bA ht (m:=6) (by decide)) hl (i:=i1) (by simp only[go_sem,seval,aP,hlt]) ?_;rintro val i2 ⟨y,rfl,oj,tc⟩;obtain⟨a,ha,wm⟩:=aQk [0,5,99,123,1005,47] oj tc;simp only[DR,bF]at wm;have Pb:0<=a/\a<=1005:=by
  have:∀n∈([0,5,99,123,1005,47]:List Int),0<=n/\n<=1005:=by decide
  exact this _ ha
 simp only[go_sem,seval,hlt,aR,oj,wm];refine bB (bA ht (m:=6) (by decide)) hl (i:=i2) (by simp only[go_sem,seval,aP,hlt]) ?_;rintro val i3 ⟨z,rfl,me,rr⟩;obtain⟨b,hb,M8⟩:=aQk [3,9,12,58,1,70] me rr;simp only[DR,bF]at M8;have V5:0<=b/\b<=70:=by
  have:∀n∈([3,9,12,58,1,70]:List Int),0<=n/\n<=70:=by decide
  exact this _ hb
 have hw:AR.wrap (a+b)=a+b:=wrap_i64 (by omega) (by omega);have fin:∀ns:List Int,ns.length<=3->(∀n∈ns,0<=n/\n<=1000000)->aVw (.agg [vi op,.sl Qu (ns.map bF)]):=fun ns h1 h2=>⟨op,ns,rfl,cC Bv.1 (by omega),h1,fun n hn=>cC (h2 n hn).1 (h2 n hn).2,Bv.1,by omega⟩;simp only[go_sem,seval,hlt,aR,me,M8];refine aD (fun Co=>?_) (fun Co=>?_)
 ·simp only[go_sem,seval,hlt,hw,aW,aA (aC aU _)];exact⟨⟨i3,rfl⟩,fin [a+b,b] (by simp) (by intro n hn;simp only[BD,CC,or_false]at hn;rcases hn with rfl | rfl<;>omega)⟩
 simp only[go_sem,seval,Co];refine aD (fun C4=>?_) (fun C4=>?_)
 ·simp only[go_sem,seval,C4];refine bB (bA ht (m:=3) (by decide)) hl (i:=i3) (by simp only[go_sem,seval,aP,hlt]) ?_;rintro val i4 ⟨w,rfl,od,dy⟩;have S9:(op==3)=true:=by simpa using C4
  simp only[go_sem,seval,hlt,aR,S9];refine aD (fun Hb=>?_) (fun Hb=>?_)
  ·simp only[go_sem,seval,hlt,aW,aA (aC aU _)];exact⟨⟨i4,rfl⟩,fin [a,b,808] (by simp) (by intro n hn;simp only[BD,CC,or_false]at hn;rcases hn with rfl | rfl | rfl<;>omega)⟩
  simp only[go_sem,seval,hlt,aW,aA (aC aU _)];exact⟨⟨i4,rfl⟩,fin [a,b] (by simp) (by intro n hn;simp only[BD,CC,or_false]at hn;rcases hn with rfl | rfl<;>omega)⟩
 have S9:(op==3)=false:=by
  cases hq:(op==3)with
  |false=>rfl
  |true=>rw[hq]at C4;cases C4
 simp only[go_sem,seval,S9,hlt,aW,aA (aC aU _)];exact⟨⟨i3,rfl⟩,fin [a,b] (by simp) (by intro n hn;simp only[BD,CC,or_false]at hn;rcases hn with rfl | rfl<;>omega)⟩
abbrev aIJ(r:List Str):Prop:=1<=r.length/\r.length<=3/\∀s∈r,s.length<=60
abbrev aTk(v:AV):Prop:=∃rows:List (List Str),v=.agg [.sl Qu (rows.map bY)]/\1<=rows.length/\rows.length<=3/\∀r∈rows,aIJ r
theorem aSu{A:af}{g:SN}(hp:dI A (g "i") [] aIG){H:LO}{Q:bf->bN->LO->LN->Prop}{tg}{l:List Int}(hl:jP l){o v:Nat}(hlt:o<H.length) {i:Int} {o0 o1 o2 o3:ah} {c:Int} (jg:1<=c) (mj:c<=3) {ρ:bN} (e0:ρ 0=.ptr o v 0) (e5:ρ 5=vi c) (e7:ρ 7=.sl Qt []) (e8:ρ 8=vi 0) (hQ:∀ρ' i' o2 (r:List Str),(∀t,uP.contains t=Qu->ρ' t=ρ t)->aIJ r->ew (H.length+2) 1 (r.map aN) (ρ' 7) o2->Q (.exit 2) ρ' (H.set o (.box v (aM l i'))++[o0,o1,o2,o3]) [o]):wl A 37 ⟨H.length,[2,3,29,34]⟩ (lY g) ρ (H.set o (.box v (aM l i))++[o0,o1,o2,o3]) [o] Q tg:=by
 refine bJ (fun j ρ1 H1 wr=>wr=[o]/\ρ1 8=vi j/\∃i' o2,∃r:List Str,H1=H.set o (.box v (aM l i'))++[o0,o1,o2,o3]/\ew (H.length+2) 1 (r.map aN) (ρ1 7) o2/\r.length=j/\∀a∈r,a.length<=60) c.toNat
  (fun ρ1 H1 wr=>wr=[o]/\∃i' o2,∃r:List Str,H1=H.set o (.box v (aM l i'))++[o0,o1,o2,o3]/\ew (H.length+2) 1 (r.map aN) (ρ1 7) o2/\aIJ r)
  (by kernel_rfl) rfl ⟨rfl,e8,i,o2,[],rfl,by rw[e7];exact .nil _,rfl,by simp⟩ ?_ (by
   rintro ρ' H' ba ⟨rfl,i',o2,r,rfl,hg,hr⟩ hf;exact hQ ρ' i' o2 r hf hr hg)
 rintro j ρ1 H1 dc mo ⟨rfl,e8,i',o2,r,rfl,hg,gu,il⟩ hf;have f0:ρ1 0=.ptr o v 0:=(hf 0 rfl).trans e0;have f5:ρ1 5=vi c:=(hf 5 rfl).trans e5;simp only[go_sem,seval,f5,e8];refine aD (fun hb=>?_) (fun hb=>?_)
 ·have cr:j<c.toNat:=by simp at hb;omega
  simp only[go_sem,seval,f0,e8];refine bB hp hl (i:=i') (by simp only[go_sem,seval,aP,hlt]) ?_;rintro val i3 ⟨s,rfl,hs⟩;obtain⟨v',o',eu,db⟩:=hg.app (new:=[[.str s]]) (bytes:=16) (by simp) (by rfl) (by rw[AF,gu];simp;omega);rw[show r.map aN++[[.str s]]=(r++[s]).map aN by simp[aN]]at eu;simp only[go_sem,seval,hlt,aR,db];rw[dW (by omega)];refine⟨cr,rfl,i3,o',r++[s],rfl,eu,by simp[gu], ?_⟩;intro a ha;rcases AY.1 ha with ha | ha
  ·exact il a ha
  have:a=s:=by simpa using ha
  subst this;exact hs
 have cr:j=c.toNat:=by simp at hb;omega
 subst cr;simp only[go_sem,seval];exact⟨i',o2,r,rfl,hg,by omega,by omega,il⟩
theorem aSv{A:af}{g:SN}(h:Has A g "at" (gC g))(ht:fR A g)(hp:dI A (g "i") [] aIG):dI A (g "at") [] aTk:=by
 refine h.gen (by simp[gC]) (fun n=>by kernel_rfl) ?_;intro l i o v H hl hlt ho;simp only[gC];simp only[go_sem,seval];refine bB (bA ht (m:=3) (by decide)) hl (i:=i) (by simp only[go_sem,seval,eK,hlt,ho]) ?_;rintro val i1 ⟨x,rfl,jr,lz⟩;have wk:AR.wrap (1+x)=1+x:=wrap_i64 (by omega) (by omega);simp only[go_sem,seval,hlt,fN,wk];refine bB (bA ht (m:=3) (by decide)) hl (i:=i1) (by simp only[go_sem,seval,aP,hlt]) ?_;rintro val i2 ⟨y,rfl,oj,tc⟩;have zz:AR.wrap (1+y)=1+y:=wrap_i64 (by omega) (by omega);simp only[go_sem,seval,hlt,aR,zz];refine bJ (id:=0) (fun j ρ1 H1 wr=>wr=[o]/\ρ1 6=vi j/\∃i' o2 o3 w,∃rows:List (List Str),H1=H.set o (.box v (aM l i'))++[.box 1 [.sl Qt []],.box 1 [w],o2,o3]/\ew (H.length+3) 1 (rows.map bY) w o3/\rows.length=j/\∀a∈rows,aIJ a) (1+x).toNat
  (fun ρ1 H1 wr=>wr=[o]/\∃i' o2 o3 w,∃rows:List (List Str),H1=H.set o (.box v (aM l i'))++[.box 1 [.sl Qt []],.box 1 [w],o2,o3]/\ew (H.length+3) 1 (rows.map bY) w o3/\rows.length=(1+x).toNat/\∀a∈rows,aIJ a)
  (by kernel_rfl) rfl ⟨by simp only[go_sem,seval],by simp only[go_sem,seval],i2,.gone 0,.gone 0,.sl Qt [],[],rfl,.nil _,rfl,by simp⟩ ?_ ?_
 ·rintro j ρ1 H1 dc mo ⟨rfl,e6,i',o2,o3,w,rows,rfl,hg,gu,il⟩ hf;have e0:ρ1 0=.ptr o v 0:=by rw[hf 0 rfl];simp only[go_sem,seval]
  have e3:ρ1 3=.ptr (H.length+1) 1 0:=by rw[hf 3 rfl];simp only[go_sem,seval]
  have e4:ρ1 4=vi (1+x):=by rw[hf 4 rfl];simp only[go_sem,seval]
  have e5:ρ1 5=vi (1+y):=by rw[hf 5 rfl];simp only[go_sem,seval]
  simp only[go_sem,seval,e4,e6];refine aD (fun hb=>?_) (fun hb=>?_)
  ·have cr:j<(1+x).toNat:=by simp at hb;omega
   simp only[go_sem,seval];refine aSu hp hl hlt (c:=1+y) (by omega) (by omega) (by simp only[go_sem,seval,e0]) (by simp only[go_sem,seval,e5]) (by simp only[go_sem,seval]) (by simp only[go_sem,seval]) ?_;intro ρ2 i4 o2' r cq hr qu;have g3:ρ2 3=.ptr (H.length+1) 1 0:=by rw[cq 3 rfl];simp only[go_sem,seval,e3]
   have g6:ρ2 6=vi j:=by rw[cq 6 rfl];simp only[go_sem,seval,e6]
   obtain⟨ff,lf,o2'',D1,D4,T0⟩:=qu.dw (aC bO _);have hle:∀H',H'[H.length+2]? = Qr o2'->dw H' (ρ2 7)=Qr (.sl ff (r.map aN),lf):=by
    intro H' hh;have:=D1 H' hh;obtain⟨ver,h7,_⟩:=qu.inv (by
     intro Hc;have:=congrArg FN Hc;have h1:=hr.1;simp only[AF,AZ]at this;omega)
    rw[h7]at this ⊢;exact this
   obtain⟨v',o',eu,db⟩:=hg.app (new:=[[.sl Qu (r.map aN)]]) (bytes:=24) (by simp) (by rfl) (by rw[AF,gu];simp;omega);rw[show rows.map bY++[[.sl Qu (r.map aN)]]=(rows++[r]).map bY by simp[bY]]at eu;simp only[go_sem,seval,g3,g6,hle,D4,T0,db,eu.aj,eu.ak];rw[dW (by omega)];refine⟨cr,rfl,i4,o2'',o',v',rows++[r],rfl,eu,by simp[gu], ?_⟩;intro a ha;rcases AY.1 ha with ha | ha
   ·exact il a ha
   have:a=r:=by simpa using ha
   subst this;exact hr
  have cr:j=(1+x).toNat:=by simp at hb;omega
  subst cr;simp only[go_sem,seval];exact⟨i',o2,o3,w,rows,rfl,hg,gu,il⟩
 rintro ρ2 H2 en ⟨rfl,i',o2,o3,w,rows,rfl,hg,gu,il⟩ hf;have e2:ρ2 2=.ptr H.length 1 0:=by rw[hf 2 rfl];simp only[go_sem,seval]
 have e3:ρ2 3=.ptr (H.length+1) 1 0:=by rw[hf 3 rfl];simp only[go_sem,seval]
 have bl:rows.map bY≠[]:=by intro h;have:=congrArg FN h;simp only[AF,gu,AZ]at this;omega
 obtain⟨ver,e4,rfl⟩:=hg.inv bl;simp only[go_sem,seval,e2,e3,e4,hlt,aT (aC cU _),aA (aC cU _),aA (aC aU _),aW];exact⟨⟨i',rfl⟩,rows,rfl,by omega,by omega,il⟩
inductive Deep:Nat->Expr->Prop where
 |mk (d:Nat) (op n:Int) (kids:List Expr):(0<=op/\op<=100)->(0<=n/\n<=1000000)->kids.length<=2->(∀e∈kids,Deep d e)->(kids.length=0/\op<=1∨kids.length=1/\(op=2∨op=8)∨kids.length=2/\(3<=op/\op<=7∨9<=op/\op<=10))->Deep (d+1) (.mk op n kids)
theorem Deep.ok:∀{d:Nat} {e:Expr},Deep d e->e.Ok/\gY e<=2 ^ d - 1
 |0,e,h=>by cases h
 |d+1,.mk op n kids,h=>by
  cases h with
  |mk _ _ _ _ h1 h2 h3 h4 h5=>
   refine⟨.mk _ _ _ (cC h1.1 (by omega)) (cC h2.1 h2.2) (by omega) fun e he=>(Deep.ok (h4 e he)).1, ?_⟩;have hk:cP kids<=2*(2 ^ d - 1):=by
    match kids,h3,h4 with
    | [],_,_=>simp[cP]
    | [a],_,h4=>have:=(Deep.ok (h4 a (by simp))).2;simp only[cP];omega
    | [a,b],_,h4=>have h5:=(Deep.ok (h4 a (by simp))).2;have h6:=(Deep.ok (h4 b (by simp))).2;simp only[cP];omega
    |_::_::_::_,h3,_=>simp at h3
   have hp:1<=2 ^ d:=Nat.one_le_two_pow;rw[gY,Nat.pow_succ];omega
abbrev aFd(d:Nat)(v:AV):Prop:=∃e:Expr,v=.agg (aF e)/\Deep d e
def arity(op:Int):Int:=if op=0 then 0 else if op=1 then 0 else if op=2 then 1 else if op=8 then 1 else 2
theorem aOv{A:af}{g:SN}(h:Has A g "ay" (oI g))(op:Int)(H:LO):aG A (g "ay") [vi op] H=Qr (vi (arity op),H,[]):=by
 refine h.call ?_;simp only[oI];by_cases h0:op=0
 ·subst h0;simp only[go_sem,seval,arity]
 by_cases h1:op=1
 ·subst h1;simp only[go_sem,seval,arity]
 by_cases h2:op=2
 ·subst h2;simp only[go_sem,seval,arity]
 by_cases h8:op=8
 ·subst h8;simp only[go_sem,seval,arity]
 simp only[go_sem,seval,arity,aF9 h0,aF9 h1,aF9 h2,aF9 h8,h0,h1,h2,h8]
theorem aSw(op:Int):0<=arity op/\arity op<=2:=by
 unfold arity;split
 ·omega
 split
 ·omega
 split
 ·omega
 split<;>omega
theorem aQw{op:Int}(h1:2<=op)(h2:op<=8):(arity op).toNat=1/\(op=2∨op=8)∨(arity op).toNat=2/\(3<=op/\op<=7∨9<=op/\op<=10):=by
 unfold arity;rw[Zx (by omega),Zx (by omega)];by_cases h3:op=2
 ·rw[Zy h3];exact .inl ⟨rfl,.inl h3⟩
 rw[Zx h3];by_cases h4:op=8
 ·rw[Zy h4];exact .inl ⟨rfl,.inr h4⟩
 rw[Zx h4];exact .inr ⟨rfl,.inl ⟨by omega,by omega⟩⟩
theorem aNp{A:af}{g:SN}(h:Has A g "k" (gD g))(ht:fR A g) (Db:∀(op:Int) (H:LO),aG A (g "ay") [vi op] H=Qr (vi (arity op),H,[])):∀d:Nat,d<=3->dI A (g "k") [vi d] (aFd (d+1))
 |d,hd=>by
  have ih:∀d',d=d'+1->dI A (g "k") [vi d'] (aFd (d'+1)):=fun d' V0=>aNp h ht Db d' (by omega);refine h.gen (by simp[gD]) (fun n=>by kernel_rfl) ?_;intro l i o v H hl hlt ho;have leaf:∀op n:Int,0<=op->op<=1->0<=n->n<=1000000->aFd (d+1) (.agg [vi op,vi n,.sl Qu []]):=fun op n h1 h2 h3 h4=>⟨.mk op n [],rfl,.mk _ _ _ _ ⟨h1,by omega⟩ ⟨h3,h4⟩ (by simp) (by simp) (.inl ⟨rfl,h2⟩)⟩;simp only[gD];simp only[go_sem,seval];refine bB (bA ht (m:=12) (by decide)) hl (i:=i) (by simp only[go_sem,seval,eK,hlt,ho]) ?_;rintro val i1 ⟨k,rfl,l6,Ch⟩;cases d with
  |zero=>
   have Pc:0<=k.tmod 3/\k.tmod 3<3:=⟨HV _ l6,GX _ (by decide)⟩;simp only[go_sem,seval,hlt,fN,tS (b:=3) (by decide),Int.cast_ofNat_Int];refine aD (fun hb=>?_) (fun hb=>?_)
   ·simp only[go_sem,seval];refine bB (bA ht (m:=6) (by decide)) hl (i:=i1) (by simp only[go_sem,seval,aP,hlt]) ?_;rintro val i2 ⟨x,rfl,jr,lz⟩;obtain⟨n,hn,cx⟩:=aQk [0,1,7,12,100,999999] jr lz;simp only[DR,bF]at cx;have yh:0<=n/\n<=1000000:=by
     have:∀n∈([0,1,7,12,100,999999]:List Int),0<=n/\n<=1000000:=by decide
     exact this _ hn
    simp only[go_sem,seval,hlt,aR,jr,cx,aW,aA (aC aU _)];exact⟨⟨i2,rfl⟩,leaf 0 n (by decide) (by decide) yh.1 yh.2⟩
   simp only[go_sem,seval];refine aD (fun dp=>?_) (fun dp=>?_)
   ·simp only[go_sem,seval];refine bB (bA ht (m:=4) (by decide)) hl (i:=i1) (by simp only[go_sem,seval,aP,hlt]) ?_;rintro val i2 ⟨x,rfl,jr,lz⟩;simp only[go_sem,seval,hlt,aR,aW,aA (aC aU _)];exact⟨⟨i2,rfl⟩,leaf 1 x (by decide) (by decide) jr (by omega)⟩
   exfalso;simp at hb dp;omega
  |succ d'=>
   have Cr:decide ((((d'+1:Nat):Int))<=0)=false:=by first | (simp;done)|(simp;omega)
   have q9:(((d'+1:Nat):Int))=(d':Int)+1:=rfl;simp only[go_sem,seval,hlt,fN,Cr];refine aD (fun hb=>?_) (fun hb=>?_)
   ·simp only[go_sem,seval];refine bB (bA ht (m:=6) (by decide)) hl (i:=i1) (by simp only[go_sem,seval,aP,hlt]) ?_;rintro val i2 ⟨x,rfl,jr,lz⟩;obtain⟨n,hn,cx⟩:=aQk [0,1,7,12,100,999999] jr lz;simp only[DR,bF]at cx;have yh:0<=n/\n<=1000000:=by
     have:∀n∈([0,1,7,12,100,999999]:List Int),0<=n/\n<=1000000:=by decide
     exact this _ hn
    simp only[go_sem,seval,hlt,aR,jr,cx,aW,aA (aC aU _)];exact⟨⟨i2,rfl⟩,leaf 0 n (by decide) (by decide) yh.1 yh.2⟩
   simp only[go_sem,seval];refine aD (fun dp=>?_) (fun dp=>?_)
   ·simp only[go_sem,seval];refine bB (bA ht (m:=4) (by decide)) hl (i:=i1) (by simp only[go_sem,seval,aP,hlt]) ?_;rintro val i2 ⟨x,rfl,jr,lz⟩;simp only[go_sem,seval,hlt,aR,aW,aA (aC aU _)];exact⟨⟨i2,rfl⟩,leaf 1 x (by decide) (by decide) jr (by omega)⟩
   simp only[go_sem,seval];refine bB (bA ht (m:=7) (by decide)) hl (i:=i1) (by simp only[go_sem,seval,aP,hlt]) ?_;rintro val i2 ⟨x,rfl,jr,lz⟩;have wk:AR.wrap (2+x)=2+x:=wrap_i64 (by omega) (by omega);simp only[go_sem,seval,hlt,aR,wk];have j8:=aSw (2+x);refine bJ (id:=0) (fun j ρ1 H1 wr=>wr=[o]/\ρ1 8=vi j/\∃i' o2 w,∃kids:List Expr,H1=H.set o (.box v (aM l i'))++[.box 1 [vi 0,vi 0,.sl Qt []],.box 1 [vi (2+x),vi 0,w],o2]/\ew (H.length+2) 3 (kids.map aF) w o2/\kids.length=j/\∀a∈kids,Deep (d'+1) a) (arity (2+x)).toNat
    (fun ρ1 H1 wr=>wr=[o]/\∃i' o2 w,∃kids:List Expr,H1=H.set o (.box v (aM l i'))++[.box 1 [vi 0,vi 0,.sl Qt []],.box 1 [vi (2+x),vi 0,w],o2]/\ew (H.length+2) 3 (kids.map aF) w o2/\kids.length=(arity (2+x)).toNat/\∀a∈kids,Deep (d'+1) a)
    (by kernel_rfl) rfl ⟨by simp only[go_sem,seval],by simp only[go_sem,seval],i2,.gone 0,.sl Qt [],[],by simp only[go_sem,seval],.nil _,rfl,by simp⟩ ?_ ?_
   ·rintro j ρ1 H1 dc mo ⟨rfl,e8,i',o2,w,kids,rfl,hg,zp,p9⟩ hf;have e0:ρ1 0=.ptr o v 0:=by rw[hf 0 rfl];simp only[go_sem,seval]
    have e1:ρ1 1=vi ((d':Int)+1):=by rw[hf 1 rfl];simp only[go_sem,seval];rfl
    have e6:ρ1 6=vi (2+x):=by rw[hf 6 rfl];simp only[go_sem,seval]
    have e7:ρ1 7=.ptr (H.length+1) 1 0:=by rw[hf 7 rfl];simp only[go_sem,seval]
    simp only[go_sem,seval,e6,e8,Db];refine aD (fun D3=>?_) (fun D3=>?_)
    ·have cr:j<(arity (2+x)).toNat:=by simp at D3;omega
     have F3:AR.wrap ((d':Int)+1 - 1)=(d':Int):=by rw[wrap_i64 (by omega) (by omega)];omega
     have bl:(H.length+1==o)=false:=by simp;omega
     simp only[go_sem,seval];refine aY (aq:=lZ) (by rfl) (by rfl) ?_;simp only[go_sem,seval,lZ,e0,e1,e7,F3];refine eB (ih d' rfl) hl (i:=i') (by simp only[go_sem,seval,aP,hlt]) ?_;rintro val i3 ⟨e,rfl,he⟩;obtain⟨w',o',eu,db⟩:=hg.app (new:=[aF e]) (bytes:=40) (by simp) (by rw[aCj,pA];rfl) (by rw[AF,zp];simp;omega);rw[show kids.map aF++[aF e]=(kids++[e]).map aF by simp]at eu;simp only[go_sem,seval,hlt,e8,aR,pA,aK (aV _),bR (aV _),db,eu.ak,eu.aj,eH,dG,bl,aL];rw[dW (by omega)];refine⟨cr,rfl,i3,o',w',kids++[e],rfl,eu,by simp[zp], ?_⟩;intro a ha;rcases AY.1 ha with ha | ha
     ·exact p9 a ha
     have:a=e:=by simpa using ha
     subst this;exact he
    have cr:j=(arity (2+x)).toNat:=by simp at D3;omega
    subst cr;simp only[go_sem,seval];exact⟨i',o2,w,kids,rfl,hg,zp,p9⟩
   rintro ρ2 H2 en ⟨rfl,i',o2,w,kids,rfl,hg,zp,p9⟩ hf;have e4:ρ2 4=.ptr H.length 1 0:=by rw[hf 4 rfl];simp only[go_sem,seval]
   have e7:ρ2 7=.ptr (H.length+1) 1 0:=by rw[hf 7 rfl];simp only[go_sem,seval]
   obtain⟨ff,lf,o2'',D1,D4,T0⟩:=hg.dw (aC aV _);simp only[go_sem,seval,e4,e7,hlt,hg.ak,D1,D4,T0,aA (aC aV _),aA (aC aU _),aW];exact⟨⟨i',rfl⟩,.mk (2+x) 0 kids,by rw[aF,bD],.mk _ _ _ _ ⟨by omega,by omega⟩ ⟨by decide,by decide⟩ (by omega) p9 (by rw[zp];exact .inr (aQw (by omega) (by omega)))⟩
abbrev rL(g:SN):List ae:=[qf 7 2 3,⟨Qr 8,ol 1 7,Qs,[0]⟩,qm 9 0,⟨Qr 10,oc (g "a") [u 9,ui 4],Qs,[2]⟩,⟨Qr 11,.bin .add .no (ui 24) (u 10),Qs,[3,2]⟩,qm 12 0,⟨Qr 13,oc (g "a") [u 12,ui 9],Qs,[5,3,2]⟩,⟨Qr 14,.bin .add .no (ui 30) (u 13),Qs,[6,5,3,2]⟩,⟨Qr 15,oc (g "I") [ui 2,ui 2,u 11,u 14],Qs,[4,7,6,5,3,2]⟩,⟨Qr 16,.build [z0,(.sl Qt [])] [(0,1,(.const (vi 2))),(1,1,(.tmp 15))],Qs,[8,4,7,6,5,3,2]⟩,⟨Qr 17,.bsl 2 [z0,(.sl Qu [])] 1 [(0,(.tmp 16))],Qs,[9,8,4,7,6,5,3,2]⟩,⟨Qr 18,oa 2 32 8 17,Qs,[1,0,10,9,8,4,7,6,5,3,2]⟩,⟨Qr 19,of 2 3,Qs,[11,1,0,10,9,8,4,7,6,5,3,2]⟩,⟨Qs,os 1 19 18,Qs,[12,11,1,0,10,9,8,4,7,6,5,3,2]⟩]
abbrev kW:LN:=[1,3,6,8]
abbrev rM(g:SN):List ae:=[qf 23 2 3,⟨Qr 24,ol 1 23,Qs,[0]⟩,qm 25 0,⟨Qr 26,oc (g "a") [u 25,ui 5],Qs,[2]⟩,⟨Qr 27,.bin .add .no (ui 10) (u 26),Qs,[3,2]⟩,qm 28 0,⟨Qr 29,oc (g "a") [u 28,ui 8],Qs,[5,3,2]⟩,⟨Qr 30,.bin .add .no (ui 12) (u 29),Qs,[6,5,3,2]⟩,⟨Qr 31,.build [z0,z0] [(0,1,(.tmp 27)),(1,1,(.tmp 30))],Qs,[4,7,6,5,3,2]⟩,⟨Qr 32,.bsl 2 [z0,z0] 1 [(0,(.tmp 31))],Qs,[8,4,7,6,5,3,2]⟩,⟨Qr 33,.build [z0,(.sl Qt [])] [(0,1,(.const z0)),(1,1,(.tmp 32))],Qs,[9,8,4,7,6,5,3,2]⟩,⟨Qr 34,.bsl 2 [z0,(.sl Qu [])] 1 [(0,(.tmp 33))],Qs,[10,9,8,4,7,6,5,3,2]⟩,⟨Qr 35,oa 2 32 24 34,Qs,[1,0,11,10,9,8,4,7,6,5,3,2]⟩,⟨Qr 36,of 2 3,Qs,[12,1,0,11,10,9,8,4,7,6,5,3,2]⟩,⟨Qs,os 1 36 35,Qs,[13,12,1,0,11,10,9,8,4,7,6,5,3,2]⟩]
abbrev kX:LN:=[1,3,6]
abbrev rN(g:SN):List ae:=[qf 43 2 3,⟨Qr 44,ol 1 43,Qs,[0]⟩,qm 45 4,⟨Qr 46,.build [z0,z0] [(0,1,(.tmp 45)),(1,1,(.const (vi 4)))],Qs,[2]⟩,qm 47 4,⟨Qr 48,obi .add 47 8,Qs,[4]⟩,qm 49 0,⟨Qr 50,oc (g "a") [u 49,ui 6],Qs,[6]⟩,⟨Qr 51,.bin .add .no (ui 10) (u 50),Qs,[7,6]⟩,⟨Qr 52,.build [z0,z0] [(0,1,(.tmp 48)),(1,1,(.tmp 51))],Qs,[5,4,8,7,6]⟩,qm 53 4,⟨Qr 54,.build [z0,z0] [(0,1,(.tmp 53)),(1,1,(.const (vi 30)))],Qs,[10]⟩,⟨Qr 55,.bsl 2 [z0,z0] 3 [(0,(.tmp 46)),(1,(.tmp 52)),(2,(.tmp 54))],Qs,[3,2,9,5,4,8,7,6,11,10]⟩,⟨Qr 56,.build [z0,(.sl Qt [])] [(0,1,(.const (vi 1))),(1,1,(.tmp 55))],Qs,[12,3,2,9,5,4,8,7,6,11,10]⟩,⟨Qr 57,.bsl 2 [z0,(.sl Qu [])] 1 [(0,(.tmp 56))],Qs,[13,12,3,2,9,5,4,8,7,6,11,10]⟩,⟨Qr 58,oa 2 32 44 57,Qs,[1,0,14,13,12,3,2,9,5,4,8,11,10,7,6]⟩,⟨Qr 59,of 2 3,Qs,[15,1,0,14,13,12,3,2,9,5,4,8,11,10,7,6]⟩,⟨Qs,os 1 59 58,Qs,[16,15,1,0,14,13,12,3,2,9,5,4,8,11,10,7,6]⟩]
abbrev kY:LN:=[1,7]
abbrev rO(g:SN):List ae:=[qf 60 2 3,⟨Qr 61,ol 1 60,Qs,[0]⟩,qm 62 4,qm 63 0,⟨Qr 64,oc (g "a") [u 63,ui 12],Qs,[3]⟩,⟨Qr 65,.bin .add .no (ui 12) (u 64),Qs,[4,3]⟩,⟨Qr 66,oc (g "I") [u 62,ui 5,ui 10,u 65],Qs,[2,5,4,3]⟩,⟨Qr 67,.build [z0,(.sl Qt [])] [(0,1,(.const (vi 2))),(1,1,(.tmp 66))],Qs,[6,2,5,4,3]⟩,⟨Qr 68,.bsl 2 [z0,(.sl Qu [])] 1 [(0,(.tmp 67))],Qs,[7,6,2,5,4,3]⟩,⟨Qr 69,oa 2 32 61 68,Qs,[1,0,8,7,6,2,5,4,3]⟩,⟨Qr 70,of 2 3,Qs,[9,1,0,8,7,6,2,5,4,3]⟩,⟨Qs,os 1 70 69,Qs,[10,9,1,0,8,7,6,2,5,4,3]⟩]
abbrev kZ:LN:=[1,4,6]
abbrev rP(g:SN):List ae:=[qf 74 2 3,⟨Qr 75,ol 1 74,Qs,[0]⟩,qq 76 (.build [z0,z0] [(0,1,(.const (vi 36))),(1,1,(.const (vi 44)))]),qm 77 0,⟨Qr 78,oc (g "a") [u 77,ui 20],Qs,[3]⟩,⟨Qr 79,.bin .add .no (ui 36) (u 78),Qs,[4,3]⟩,⟨Qr 80,.build [z0,z0] [(0,1,(.tmp 79)),(1,1,(.const (vi 44)))],Qs,[5,4,3]⟩,⟨Qr 81,.bsl 2 [z0,z0] 2 [(0,(.tmp 76)),(1,(.tmp 80))],Qs,[2,6,5,4,3]⟩,⟨Qr 82,.build [z0,(.sl Qt [])] [(0,1,(.const (vi 1))),(1,1,(.tmp 81))],Qs,[7,2,6,5,4,3]⟩,⟨Qr 83,.bsl 2 [z0,(.sl Qu [])] 1 [(0,(.tmp 82))],Qs,[8,7,2,6,5,4,3]⟩,⟨Qr 84,oa 2 32 75 83,Qs,[1,0,9,8,7,2,6,5,4,3]⟩,⟨Qr 85,of 2 3,Qs,[10,1,0,9,8,7,2,6,5,4,3]⟩,⟨Qs,os 1 85 84,Qs,[11,10,1,0,9,8,7,2,6,5,4,3]⟩]
abbrev lA:LN:=[1,4,7,9]
abbrev rQ(g:SN):List ae:=[qf 90 2 3,⟨Qr 91,ol 1 90,Qs,[0]⟩,qm 92 5,⟨Qr 93,oi 91 92 2,Qs,[1,0,2]⟩,⟨Qr 94,of 1 93,Qs,[3,1,0,2]⟩,⟨Qr 95,ol 1 94,Qs,[4,3,1,0,2]⟩,qf 96 2 3,⟨Qr 97,ol 1 96,Qs,[6]⟩,qm 98 5,⟨Qr 99,oi 97 98 2,Qs,[7,6,8]⟩,⟨Qr 100,of 1 99,Qs,[9,7,6,8]⟩,⟨Qr 101,ol 1 100,Qs,[10,9,7,6,8]⟩,⟨Qr 102,.iaV (u 101) (ui 1) 2,Qs,[11,10,9,7,6,8]⟩,⟨Qr 103,of 0 102,Qs,[12,11,10,9,7,6,8]⟩,⟨Qr 104,ol 1 103,Qs,[13,12,11,10,9,7,6,8]⟩,⟨Qr 105,obi .add 104 3,Qs,[14,13,12,11,10,9,7,6,8]⟩,⟨Qr 106,.iaV (u 95) (ui 1) 2,Qs,[5,4,3,1,0,2,15,14,13,12,11,10,9,7,6,8]⟩,⟨Qr 107,of 0 106,Qs,[16,5,4,3,1,0,2,15,14,13,12,11,10,9,7,6,8]⟩,⟨Qs,os 1 107 105,Qs,[17,16,5,4,3,1,0,2,15,14,13,12,11,10,9,7,6,8]⟩]
abbrev lB:LN:=[]
def fD(g:SN):bw:=⟨109,[81,83,2,3,18,35,58,69,84],[.cell 2 3 Qt],qS [qq 2 (.alloc [z0,z0,(.sl Qt [])])]<|qS [qq 6 (.build [z0,z0,(.sl Qt [])] [(0,1,(.const (vi 60))),(1,1,(.const (vi 50)))]),qq 3 (.alloc [z0,z0,(.sl Qt [])]),qs 3 3 6]<|.seq (.region Qt (rL g))<|.seq (qS [qm 20 0,qc 21 (g "a") [u 20,ui 3],qbi 22 .gtr 21 0]<|qC 22 (.region Qt (rM g)) (.skip))<|qS [qm 37 0,qc 38 (g "a") [u 37,ui 4],qq 39 (.bin .add .no (ui 36) (u 38)),qm 4 39]<|.seq (qS [qm 40 0,qc 41 (g "a") [u 40,ui 2],qbi 42 .eql 41 0]<|qC 42 (.region Qt (rN g)) (.region Qt (rO g)))<|.seq (qS [qm 71 0,qc 72 (g "a") [u 71,ui 3],qbi 73 .eql 72 0]<|qC 73 (.seq (.region Qt (rP g))<|qS [qf 86 2 3,ql 87 1 86,qn 88 87,qbi 89 .sub 88 1,qm 5 89]<|.region Qt (rQ g)) (.skip))<|.seq (.seq (.frz [(1,94)])<|.region Qu [qla 108 3 3,qs 3 2 108])<|.ret⟩
def rR(g:SN):bw:=⟨30,[],[.tmp 8],qS [qmc 8 (.sl Qt [])]<|qS [qm 9 0,qm 10 1,qq 11 (.build [z0,z0] [(0,1,(.tmp 9)),(1,1,(.tmp 10))]),qm 12 0,qm 13 2,qb 14 .add 12 13,qm 15 1,qq 16 (.build [z0,z0] [(0,1,(.tmp 14)),(1,1,(.tmp 15))]),qm 17 0,qm 18 2,qb 19 .add 17 18,qm 20 1,qm 21 3,qb 22 .add 20 21,qq 23 (.build [z0,z0] [(0,1,(.tmp 19)),(1,1,(.tmp 22))]),qm 24 0,qm 25 1,qm 26 3,qb 27 .add 25 26,qq 28 (.build [z0,z0] [(0,1,(.tmp 24)),(1,1,(.tmp 27))]),qq 29 (.bsl 2 [z0,z0] 4 [(0,(.tmp 11)),(1,(.tmp 16)),(2,(.tmp 23)),(3,(.tmp 28))]),qm 8 29]<|.ret⟩
theorem aSx{A:af}{g:SN}(h:Has A g "ar" (gE g))(ht:fR A g) (qt:∀d:Nat,d<=3->dI A (g "k") [vi d] (aFd (d+1))):dI A (g "ar") [vi 3] (aFd 4):=by
 refine h.gen (by simp[gE]) (fun n=>by kernel_rfl) ?_;intro l i o v H hl hlt ho;have h2:dI A (g "k") [vi 2] (aFd 3):=qt 2 (by decide);have h3:dI A (g "k") [vi 3] (aFd 4):=qt 3 (by decide);have gn:AR.wrap 2=2:=wrap_i64 (by decide) (by decide);simp only[gE];simp only[go_sem,seval];refine bB (bA ht (m:=4) (by decide)) hl (i:=i) (by simp only[go_sem,seval,eK,hlt,ho]) ?_;rintro val i1 ⟨x,rfl,jr,lz⟩;simp only[go_sem,seval,hlt,fN];refine aD (fun hb=>?_) (fun hb=>?_)
 ·simp only[go_sem,seval,hlt,gn];refine bB h2 hl (i:=i1) (by simp only[go_sem,seval,aP,hlt]) ?_;rintro val i2 ⟨a,rfl,ha⟩;simp only[go_sem,seval,hlt,aR,pA,bQ (aV _)];refine aY (aq:=mA) (by rfl) (by rfl) ?_;simp only[go_sem,seval,mA];refine eB (bA ht (m:=2) (by decide)) hl (i:=i2) (by simp only[go_sem,seval,aP,hlt]) ?_;rintro val i3 ⟨y,rfl,oj,tc⟩;have zz:AR.wrap (9+y)=9+y:=wrap_i64 (by omega) (by omega);have pk:∀e:Expr,FW 3 (aF e)=aF e:=fun e=>CH (by rw[pA];exact AQ _);have bl:(H.length+1==o)=false:=by simp;omega
  simp only[go_sem,seval,hlt,aR,zz,gn,pA,pk,aK (aV _),bR (aV _)];refine eB h2 hl (i:=i3) (by simp only[go_sem,seval,aP,hlt]) ?_;rintro val i4 ⟨b,rfl,dp⟩;simp only[go_sem,seval,hlt,aR,pA,aK (aV _),bR (aV _),eH,dG,bl,aL,aW,dC (aV _),aA (aC aU _)];refine⟨⟨i4,rfl⟩,.mk (9+y) 0 [a,b],rfl,.mk _ _ _ _ ⟨by omega,by omega⟩ ⟨by decide,by decide⟩ (by simp) ?_ (.inr (.inr ⟨rfl,.inr ⟨by omega,by omega⟩⟩))⟩;intro e he;simp only[BD,CC,or_false]at he;rcases he with rfl | rfl
  ·exact ha
  exact dp
 simp only[go_sem,seval];refine bB h3 hl (i:=i1) (by simp only[go_sem,seval,aP,hlt]) ?_;rintro val i2 ⟨a,rfl,ha⟩;have pk:FW 3 (aF a)=aF a:=CH (by rw[pA];exact AQ _);simp only[go_sem,seval,hlt,aR,pA,bQ (aV _),pk,aS (aV _),aK (aV _),aW,dC (aV _),aA (aC aU _)];exact⟨⟨i2,rfl⟩,a,rfl,ha⟩
abbrev lC(g:SN):ag:=.seq (qS [qm 32 11,qm 33 10,qb 34 .lss 32 33]<|qC 34 (.skip) (.exit 4))<|.seq (.block 5 (qS [qm 37 0,qc 38 (g "a") [u 37,ui 21],qq 39 (.bin .add .no (ui 14) (u 38)),qm 40 0,qc 41 (g "a") [u 40,ui 5],qq 42 (.bsl 1 [z0] 5 [(0,(.const z0)),(1,(.const z0)),(2,(.const z0)),(3,(.const (.int .i64 (-1)))),(4,(.const (vi 1)))]),qm 43 0,qc 44 (g "a") [u 43,ui 5],qi 45 42 44 1,ql 46 1 45,qq 47 (.build [z0,z0,z0] [(0,1,(.tmp 39)),(1,1,(.tmp 41)),(2,1,(.tmp 46))]),qq 12 (.alloc [z0,z0,z0]),qs 3 12 47]<|.seq (qS [qm 48 0,qc 49 (g "a") [u 48,ui 6],qbi 50 .eql 49 0]<|qC 50 (qR [qf 51 1 12,ql 52 1 51,qq 53 (.build [z0,z0,z0] [(0,1,(.const (.int .i64 (-1)))),(1,1,(.tmp 52))]),qs 3 12 53]) (.skip))<|.region Qu [qm 54 9,qla 55 3 12,qq 56 (.bsl 3 [z0,z0,z0] 1 [(0,(.tmp 55))]),qa 57 3 24 54 56,qm 9 57]))<|.region Qu [qm 35 11,qbi 36 .add 35 1,qm 11 36]
abbrev rS:LN:=[32,33,34,37,38,39,40,41,42,43,44,45,46,47,12,48,49,50,51,52,53,54,55,56,57,9,35,36,11]
abbrev lD(g:SN):ag:=.seq (qS [qm 24 8,qm 25 5,qb 26 .lss 24 25]<|qC 26 (.skip) (.exit 2))<|.seq (.block 3 (qS [qmc 9 (.sl Qt [])]<|qS [qm 29 0,qc 30 (g "a") [u 29,ui 4],qq 31 (.bin .add .no (ui 1) (u 30)),qm 10 31]<|.seq (qS [qmc 11 z0]<|.block 4 (.loop (lC g)))<|.region Qu [qm 58 7,qm 59 9,qq 60 (.bsl 1 [(.sl Qu [])] 1 [(0,(.tmp 59))]),qa 61 1 24 58 60,qm 7 61]))<|.region Qu [qm 27 8,qbi 28 .add 27 1,qm 8 28]
abbrev rT:LN:=[24,25,26,9,29,30,31,10,11,32,33,34,37,38,39,40,41,42,43,44,45,46,47,12,48,49,50,51,52,53,54,55,56,57,9,35,36,11,58,59,60,61,7,27,28,8]
abbrev rU(g:SN):ag:=.seq (qS [qm 19 6,qm 20 4,qb 21 .lss 19 20]<|qC 21 (.skip) (.exit 0))<|.seq (.block 1 (qS [qmc 7 (.sl Qt [])]<|.seq (qS [qmc 8 z0]<|.block 2 (.loop (lD g)))<|.region Qu [qf 62 0 3,ql 63 1 62,qm 64 7,qq 65 (.bsl 1 [(.sl Qu [])] 1 [(0,(.tmp 64))]),qa 66 1 24 63 65,qf 67 0 3,qs 1 67 66]))<|.region Qu [qm 22 6,qbi 23 .add 22 1,qm 6 23]
def fE(g:SN):bw:=⟨69,[2,3,12,57,61,66],[.cell 2 1 Qt],qS [qq 2 (.alloc [(.sl Qt [])])]<|qS [qq 3 (.alloc [(.sl Qt [])])]<|qS [qm 13 0,qc 14 (g "a") [u 13,ui 2],qq 15 (.bin .add .no (ui 1) (u 14)),qm 4 15]<|qS [qm 16 0,qc 17 (g "a") [u 16,ui 3],qq 18 (.bin .add .no (ui 1) (u 17)),qm 5 18]<|.seq (qS [qmc 6 z0]<|.block 0 (.loop (rU g)))<|qS [qla 68 1 3,qs 1 2 68]<|.ret⟩
abbrev aZI(b:List ct):Prop:=1<=b.length/\b.length<=4/\∀n∈b,n.Ok
abbrev aOw(h:List (List ct)):Prop:=1<=h.length/\h.length<=3/\∀b∈h,aZI b
abbrev aNq(v:AV):Prop:=∃m:List (List (List ct)),v=.agg [.sl Qu (m.map bS)]/\1<=m.length/\m.length<=2/\∀h∈m,aOw h
theorem ew.M9{id k:Nat}{rows:List LA}{v:AV}{o:ah}(h:ew id k rows v o)(bl:rows≠[])(hd:gG rows=Qt):∃l o',(∀H,H[id]? = Qr o->aA2 H v=Qr (.sl Qu rows,l))/\(∀H,H[id]? = Qr o->Go.AM.dw H v=Qr (.sl Qu rows,l))/\(∀H,H[id]? = Qr o->dL H l=H.set id o')/\(∀b wr,b<=id->bE b wr l=wr):=by
 obtain⟨ver,rfl,rfl⟩:=h.inv bl;obtain⟨f,l,o',h1,h2,h3⟩:=h.dw hd;cases h with
 |obj=>
  have key:∀H:LO,H[id]? = Qr (.vec ver k rows)->aA2 H (.sr id ver rows.length)=Qr (.sl Qu rows,[id]):=by
   intro H ho;show (match H[id]? with
    |some (.vec v' _ bt)=>if v'=ver/\bt.length=rows.length/\bt.all (fun r=>r.all AV.still)then Qr (AV.sl Qu bt,[id])else Qs
    |_=>Qs)=_
   rw[ho];simp only[aT hd,and_self,Zv]
  refine⟨[id],.gone ver,key,key,fun H ho=>?_,fun b wr hb=>?_⟩
  ·simp only[dL,ho];rfl
  unfold bE;rw[Zx (by omega)];rfl
theorem aHk{α β:Type}{f:α->β}{l:List α}(h:1<=l.length):l.map f≠[]:=by intro hn;have:=congrArg FN hn;simp only[AF,AZ]at this;omega
theorem aJI{A:af}{g:SN}(ht:fR A g){H:LO}{Q:bf->bN->LO->LN->Prop}{tg}{l:List Int}(hl:jP l){o v:Nat}(hlt:o<H.length) {i:Int} {o0 o1 o2 o3 o4 o5:ah} {c:Int} (jg:1<=c) (mj:c<=4) {ρ:bN} (e0:ρ 0=.ptr o v 0) (e10:ρ 10=vi c) (e9:ρ 9=.sl Qt []) (e11:ρ 11=vi 0) (hQ:∀ρ' i' o2 o3 (r:List ct),(∀t,rS.contains t=Qu->ρ' t=ρ t)->aZI r->ew (H.length+3) 3 (r.map bV) (ρ' 9) o3->Q (.exit 4) ρ' (H.set o (.box v (aM l i'))++[o0,o1,o2,o3,o4,o5]) [o]):wl A 69 ⟨H.length,[2,3,12,57,61,66]⟩ (lC g) ρ (H.set o (.box v (aM l i))++[o0,o1,o2,o3,o4,o5]) [o] Q tg:=by
 refine bJ (fun j ρ1 H1 wr=>wr=[o]/\ρ1 11=vi j/\∃i' o2 o3,∃r:List ct,H1=H.set o (.box v (aM l i'))++[o0,o1,o2,o3,o4,o5]/\ew (H.length+3) 3 (r.map bV) (ρ1 9) o3/\r.length=j/\∀a∈r,a.Ok) c.toNat
  (fun ρ1 H1 wr=>wr=[o]/\∃i' o2 o3,∃r:List ct,H1=H.set o (.box v (aM l i'))++[o0,o1,o2,o3,o4,o5]/\ew (H.length+3) 3 (r.map bV) (ρ1 9) o3/\aZI r)
  (by kernel_rfl) rfl ⟨rfl,e11,i,o2,o3,[],rfl,by rw[e9];exact .nil _,rfl,by simp⟩ ?_ (by
   rintro ρ' H' ba ⟨rfl,i',o2,o3,r,rfl,hg,hr⟩ hf;exact hQ ρ' i' o2 o3 r hf hr hg)
 rintro j ρ1 H1 dc mo ⟨rfl,e11,i',o2,o3,r,rfl,hg,gu,il⟩ hf;have f0:ρ1 0=.ptr o v 0:=(hf 0 rfl).trans e0;have f10:ρ1 10=vi c:=(hf 10 rfl).trans e10;simp only[go_sem,seval,f10,e11];refine aD (fun hb=>?_) (fun hb=>?_)
 ·have cr:j<c.toNat:=by simp at hb;omega
  simp only[go_sem,seval,f0];refine bB (bA ht (m:=21) (by decide)) hl (i:=i') (by simp only[go_sem,seval,aP,hlt]) ?_;rintro val i2 ⟨x,rfl,jr,lz⟩;have wk:AR.wrap (14+x)=14+x:=wrap_i64 (by omega) (by omega);simp only[go_sem,seval,hlt,aR,wk];refine bB (bA ht (m:=5) (by decide)) hl (i:=i2) (by simp only[go_sem,seval,aP,hlt]) ?_;rintro val i3 ⟨y,rfl,oj,tc⟩;simp only[go_sem,seval,hlt,aR];refine bB (bA ht (m:=5) (by decide)) hl (i:=i3) (by simp only[go_sem,seval,aP,hlt]) ?_;rintro val i4 ⟨z,rfl,me,rr⟩;obtain⟨n,hn,cx⟩:=aQk [0,0,0,-1,1] me rr;simp only[DR,bF]at cx;have yh : -1<=n/\n<=1:=by
   have:∀n∈([0,0,0,-1,1]:List Int),-1<=n/\n<=1:=by decide
   exact this _ hn
  simp only[go_sem,seval,hlt,aR,me,cx];refine bB (bA ht (m:=6) (by decide)) hl (i:=i4) (by simp only[go_sem,seval,aP,hlt]) ?_;rintro val i5 ⟨w,rfl,od,dy⟩;simp only[go_sem,seval,hlt,aR];refine aD (fun dp=>?_) (fun dp=>?_)
  ·obtain⟨v',o',eu,db⟩:=hg.app (new:=[[vi (-1),vi y,vi 0]]) (bytes:=24) (by simp) (by rfl) (by rw[AF,gu];simp;omega);rw[show r.map bV++[[vi (-1),vi y,vi 0]]=(r++[ct.mk (-1) y 0]).map bV by simp[bV]]at eu;simp only[go_sem,seval,db,e11];rw[dW (by omega)];refine⟨cr,rfl,i5,_,o',r++[ct.mk (-1) y 0],rfl,eu,by simp[gu], ?_⟩;intro a ha;rcases AY.1 ha with ha | ha
   ·exact il a ha
   have:a=ct.mk (-1) y 0:=by simpa using ha
   subst this;exact⟨⟨by show -9223372036854775808<=(-1:Int);omega,by show (-1:Int)<=9223372036854775807;omega⟩,⟨by show -9223372036854775808<=y;omega,by show y<=9223372036854775807;omega⟩,⟨by show -9223372036854775808<=(0:Int);omega,by show (0:Int)<=9223372036854775807;omega⟩⟩
  obtain⟨v',o',eu,db⟩:=hg.app (new:=[[vi (14+x),vi y,vi n]]) (bytes:=24) (by simp) (by rfl) (by rw[AF,gu];simp;omega);rw[show r.map bV++[[vi (14+x),vi y,vi n]]=(r++[ct.mk (14+x) y n]).map bV by simp[bV]]at eu;simp only[go_sem,seval,db,e11];rw[dW (by omega)];refine⟨cr,rfl,i5,_,o',r++[ct.mk (14+x) y n],rfl,eu,by simp[gu], ?_⟩;intro a ha;rcases AY.1 ha with ha | ha
  ·exact il a ha
  have:a=ct.mk (14+x) y n:=by simpa using ha
  subst this;exact⟨⟨by show -9223372036854775808<=(14+x:Int);omega,by show (14+x:Int)<=9223372036854775807;omega⟩,⟨by show -9223372036854775808<=y;omega,by show y<=9223372036854775807;omega⟩,⟨by show -9223372036854775808<=(n:Int);omega,by show (n:Int)<=9223372036854775807;omega⟩⟩
 have cr:j=c.toNat:=by simp at hb;omega
 subst cr;simp only[go_sem,seval];exact⟨i',o2,o3,r,rfl,hg,by omega,by omega,il⟩
theorem aLi{A:af}{g:SN}(ht:fR A g){H:LO}{Q:bf->bN->LO->LN->Prop}{tg}{l:List Int}(hl:jP l){o v:Nat}(hlt:o<H.length) {i:Int} {o0 o1 o2 o3 o4 o5:ah} {c:Int} (jg:1<=c) (mj:c<=3) {ρ:bN} (e0:ρ 0=.ptr o v 0) (e5:ρ 5=vi c) (e7:ρ 7=.sl Qt []) (e8:ρ 8=vi 0) (hQ:∀ρ' i' o2 o3 o4 (r:List (List ct)),(∀t,rT.contains t=Qu->ρ' t=ρ t)->aOw r->ew (H.length+4) 1 (r.map gH) (ρ' 7) o4->Q (.exit 2) ρ' (H.set o (.box v (aM l i'))++[o0,o1,o2,o3,o4,o5]) [o]):wl A 69 ⟨H.length,[2,3,12,57,61,66]⟩ (lD g) ρ (H.set o (.box v (aM l i))++[o0,o1,o2,o3,o4,o5]) [o] Q tg:=by
 refine bJ (fun j ρ1 H1 wr=>wr=[o]/\ρ1 8=vi j/\∃i' o2 o3 o4,∃r:List (List ct),H1=H.set o (.box v (aM l i'))++[o0,o1,o2,o3,o4,o5]/\ew (H.length+4) 1 (r.map gH) (ρ1 7) o4/\r.length=j/\∀a∈r,aZI a) c.toNat
  (fun ρ1 H1 wr=>wr=[o]/\∃i' o2 o3 o4,∃r:List (List ct),H1=H.set o (.box v (aM l i'))++[o0,o1,o2,o3,o4,o5]/\ew (H.length+4) 1 (r.map gH) (ρ1 7) o4/\aOw r)
  (by kernel_rfl) rfl ⟨rfl,e8,i,o2,o3,o4,[],rfl,by rw[e7];exact .nil _,rfl,by simp⟩ ?_ (by
   rintro ρ' H' ba ⟨rfl,i',o2,o3,o4,r,rfl,hg,hr⟩ hf;exact hQ ρ' i' o2 o3 o4 r hf hr hg)
 rintro j ρ1 H1 dc mo ⟨rfl,e8,i',o2,o3,o4,r,rfl,hg,gu,il⟩ hf;have f0:ρ1 0=.ptr o v 0:=(hf 0 rfl).trans e0;have f5:ρ1 5=vi c:=(hf 5 rfl).trans e5;simp only[go_sem,seval,f5,e8];refine aD (fun hb=>?_) (fun hb=>?_)
 ·have cr:j<c.toNat:=by simp at hb;omega
  simp only[go_sem,seval,f0];refine bB (bA ht (m:=4) (by decide)) hl (i:=i') (by simp only[go_sem,seval,aP,hlt]) ?_;rintro val i2 ⟨x,rfl,jr,lz⟩;have wk:AR.wrap (1+x)=1+x:=wrap_i64 (by omega) (by omega);simp only[go_sem,seval,hlt,aR,wk];refine aJI ht hl hlt (c:=1+x) (by omega) (by omega) (by simp only[go_sem,seval,f0]) (by simp only[go_sem,seval]) (by simp only[go_sem,seval]) (by simp only[go_sem,seval]) ?_;intro ρ2 i4 o2' o3' b cq dp qu;have g7:ρ2 7=ρ1 7:=by rw[cq 7 rfl];simp only[go_sem,seval]
  have g8:ρ2 8=vi j:=by rw[cq 8 rfl];simp only[go_sem,seval,e8]
  obtain⟨lf,o3'',h1,h2,D4,T0⟩:=qu.M9 (aHk dp.1) (aC aD9 _);obtain⟨v',o',eu,db⟩:=hg.app (new:=[[.sl Qu (b.map bV)]]) (bytes:=24) (by simp) (by rfl) (by rw[AF,gu];simp;omega);rw[show r.map gH++[[.sl Qu (b.map bV)]]=(r++[b]).map gH by simp[gH]]at eu;simp only[go_sem,seval,g7,g8,h2,D4,T0,db];rw[dW (by omega)];refine⟨cr,rfl,i4,o2',o3'',o',r++[b],rfl,eu,by simp[gu], ?_⟩;intro a ha;rcases AY.1 ha with ha | ha
  ·exact il a ha
  have:a=b:=by simpa using ha
  subst this;exact dp
 have cr:j=c.toNat:=by simp at hb;omega
 subst cr;simp only[go_sem,seval];exact⟨i',o2,o3,o4,r,rfl,hg,by omega,by omega,il⟩
theorem aOx{A:af}{g:SN}(h:Has A g "av" (fE g))(ht:fR A g):dI A (g "av") [] aNq:=by
 refine h.gen (by simp[fE]) (fun n=>by kernel_rfl) ?_;intro l i o v H hl hlt ho;simp only[fE];simp only[go_sem,seval];refine bB (bA ht (m:=2) (by decide)) hl (i:=i) (by simp only[go_sem,seval,eK,hlt,ho]) ?_;rintro val i1 ⟨x,rfl,jr,lz⟩;have wk:AR.wrap (1+x)=1+x:=wrap_i64 (by omega) (by omega);simp only[go_sem,seval,hlt,fN,wk];refine bB (bA ht (m:=3) (by decide)) hl (i:=i1) (by simp only[go_sem,seval,aP,hlt]) ?_;rintro val i2 ⟨y,rfl,oj,tc⟩;have zz:AR.wrap (1+y)=1+y:=wrap_i64 (by omega) (by omega);simp only[go_sem,seval,hlt,aR,zz];refine bJ (id:=0) (fun j ρ1 H1 wr=>wr=[o]/\ρ1 6=vi j/\∃i' o2 o3 o4 o5 w,∃rows:List (List (List ct)),H1=H.set o (.box v (aM l i'))++[.box 1 [.sl Qt []],.box 1 [w],o2,o3,o4,o5]/\ew (H.length+5) 1 (rows.map bS) w o5/\rows.length=j/\∀a∈rows,aOw a) (1+x).toNat
  (fun ρ1 H1 wr=>wr=[o]/\∃i' o2 o3 o4 o5 w,∃rows:List (List (List ct)),H1=H.set o (.box v (aM l i'))++[.box 1 [.sl Qt []],.box 1 [w],o2,o3,o4,o5]/\ew (H.length+5) 1 (rows.map bS) w o5/\rows.length=(1+x).toNat/\∀a∈rows,aOw a)
  (by kernel_rfl) rfl ⟨by simp only[go_sem,seval],by simp only[go_sem,seval],i2,.gone 0,.gone 0,.gone 0,.gone 0,.sl Qt [],[],rfl,.nil _,rfl,by simp⟩ ?_ ?_
 ·rintro j ρ1 H1 dc mo ⟨rfl,e6,i',o2,o3,o4,o5,w,rows,rfl,hg,gu,il⟩ hf;have e0:ρ1 0=.ptr o v 0:=by rw[hf 0 rfl];simp only[go_sem,seval]
  have e3:ρ1 3=.ptr (H.length+1) 1 0:=by rw[hf 3 rfl];simp only[go_sem,seval]
  have e4:ρ1 4=vi (1+x):=by rw[hf 4 rfl];simp only[go_sem,seval]
  have e5:ρ1 5=vi (1+y):=by rw[hf 5 rfl];simp only[go_sem,seval]
  simp only[go_sem,seval,e4,e6];refine aD (fun hb=>?_) (fun hb=>?_)
  ·have cr:j<(1+x).toNat:=by simp at hb;omega
   simp only[go_sem,seval];refine aLi ht hl hlt (c:=1+y) (by omega) (by omega) (by simp only[go_sem,seval,e0]) (by simp only[go_sem,seval,e5]) (by simp only[go_sem,seval]) (by simp only[go_sem,seval]) ?_;intro ρ2 i4 o2' o3' o4' r cq hr qu;have g3:ρ2 3=.ptr (H.length+1) 1 0:=by rw[cq 3 rfl];simp only[go_sem,seval,e3]
   have g6:ρ2 6=vi j:=by rw[cq 6 rfl];simp only[go_sem,seval,e6]
   obtain⟨lf,o4'',h1,h2,D4,T0⟩:=qu.M9 (aHk hr.1) (aC aFA _);obtain⟨v',o',eu,db⟩:=hg.app (new:=[[.sl Qu (r.map gH)]]) (bytes:=24) (by simp) (by rfl) (by rw[AF,gu];simp;omega);rw[show rows.map bS++[[.sl Qu (r.map gH)]]=(rows++[r]).map bS by simp[bS]]at eu;simp only[go_sem,seval,g3,g6,h2,D4,T0,db,eu.aj,eu.ak];rw[dW (by omega)];refine⟨cr,rfl,i4,o2',o3',o4'',o',v',rows++[r],rfl,eu,by simp[gu], ?_⟩;intro a ha;rcases AY.1 ha with ha | ha
   ·exact il a ha
   have:a=r:=by simpa using ha
   subst this;exact hr
  have cr:j=(1+x).toNat:=by simp at hb;omega
  subst cr;simp only[go_sem,seval];exact⟨i',o2,o3,o4,o5,w,rows,rfl,hg,gu,il⟩
 rintro ρ2 H2 en ⟨rfl,i',o2,o3,o4,o5,w,rows,rfl,hg,gu,il⟩ hf;have e2:ρ2 2=.ptr H.length 1 0:=by rw[hf 2 rfl];simp only[go_sem,seval]
 have e3:ρ2 3=.ptr (H.length+1) 1 0:=by rw[hf 3 rfl];simp only[go_sem,seval]
 obtain⟨ver,e4,rfl⟩:=hg.inv (aHk (by omega));simp only[go_sem,seval,e2,e3,e4,hlt,aT (aC cR _),aA (aC cR _),aA (aC aU _),aW];exact⟨⟨i',rfl⟩,rows,rfl,by omega,by omega,il⟩
def lK(g:SN):ag:=.block 0 (qS [qbi 13 .eql 8 0,qm 12 13]<|qC 12 (qR [qm 14 0,qc 15 (g "K") [u 14],qf 16 1 5,qs 1 16 15]) (qS [qbi 18 .eql 8 1,qm 17 18]<|qC 17 (qR [qm 19 0,qc 20 (g "ar") [u 19,ui 3],qf 21 2 5,qs 3 21 20]) (qS [qbi 23 .eql 8 2,qm 22 23]<|qC 22 (qR [qm 24 0,qc 25 (g "aw") [u 24],qf 26 5 5,qs 2 26 25]) (qS [qbi 28 .eql 8 3,qm 27 28]<|qC 27 (qR [qm 29 0,qc 30 (g "at") [u 29],qf 31 7 5,qs 1 31 30]) (qS [qbi 33 .eql 8 4,qm 32 33]<|qC 32 (qR [qm 34 0,qc 35 (g "as") [u 34],qf 36 8 5,qs 3 36 35]) (qS [qbi 38 .eql 8 5,qm 37 38]<|qC 37 (qR [qm 39 0,qc 40 (g "av") [u 39],qf 41 11 5,qs 1 41 40]) (qR [qm 9 0,qc 10 (g "au") [u 9],qf 11 12 5,qs 1 11 10])))))))
def fT(g:SN):bw:=⟨43,[4,5],[.cell 4 13 Qt],qS [qq 4 (.alloc [z0,(.sl Qt []),z0,z0,(.sl Qt []),z0,(.sl Qt []),(.sl Qt []),z0,z0,(.sl Qt []),(.sl Qt []),(.sl Qt [])])]<|qS [qm 6 1,qq 7 (.build [z0,(.sl Qt []),z0,z0,(.sl Qt []),z0,(.sl Qt []),(.sl Qt []),z0,z0,(.sl Qt []),(.sl Qt []),(.sl Qt [])] [(0,1,(.tmp 6))]),qq 5 (.alloc [z0,(.sl Qt []),z0,z0,(.sl Qt []),z0,(.sl Qt []),(.sl Qt []),z0,z0,(.sl Qt []),(.sl Qt []),(.sl Qt [])]),qs 13 5 7]<|.seq (qS [qm 8 1]<|lK g)<|qS [qla 42 13 5,qs 13 4 42]<|.ret⟩
abbrev SOk(a:Shape):Prop:=a.Ok/\0<=a.kind/\a.kind<=2
abbrev aNr(v:AV):Prop:=∃(w h:Int) (s:List Shape),v=.agg [vi w,vi h,.sl Qu (s.map aH)]/\eA w/\eA h/\2<=s.length/\s.length<=4/\∀a∈s,SOk a
structure C5(b:Block):Prop where
 runs:b.runs.length<=3
 eg:b.eg.length<=3
 size:gY b.expr<=900
 kids:∀op n ks,b.expr=.mk op n ks->ks.length<=2
theorem aBs{b:Block}(h1:b.runs.length<=3)(h2:b.eg.length<=3)(h3:b.expr=.mk 0 0 []):C5 b:=⟨h1,h2,by rw[h3];decide,fun op n ks e=>by rw[h3]at e;cases e;decide⟩
theorem aOy{b:Block}(h1:b.runs.length<=3)(h2:b.eg.length<=3){e:Expr}(h3:b.expr=e)(hd:Deep 4 e):C5 b:=⟨h1,h2,by rw[h3];have:=hd.ok.2;omega,fun op n ks h=>by rw[h3]at h;subst h;cases hd;assumption⟩
structure Fit(b:Block):Prop where
 expr:Deep 4 b.expr
 dn:0<=b.dn/\b.dn<=10
 aw:∀a∈b.aw,0<=a.kind/\a.kind<=2
theorem aHl:Deep 4 (.mk 0 0 []):=.mk _ _ _ _ (by decide) (by decide) (by simp) (by simp) (.inl ⟨rfl,by decide⟩)
theorem aNs{b:Block}(h1:b.expr=.mk 0 0 [])(h2:b.dn=0)(h3:b.aw=[]):Fit b:=⟨by rw[h1];exact aHl,by rw[h2];decide,by rw[h3];simp⟩
structure kf(b:Block):Prop where
 ok:b.Ok
 lens:b.aw.length<=4/\b.cd.length<=3/\b.bo.length<=2/\b.lines.length<=3
 ye:b.kind=4->2<=b.aw.length
 cd:b.kind=3->1<=b.cd.length/\∀r∈b.cd,aIJ r
 L7:b.kind=5->1<=b.bo.length/\∀h∈b.bo,aOw h
 mq:b.kind=6->1<=b.lines.length
 Bw:C5 b
 fit:Fit b
abbrev aMn(k:Int)(v:AV):Prop:=∃b:Block,v=.agg (aE b)/\b.kind=k/\kf b
def cV(k:Int):Block:=⟨k,[],.mk 0 0 [],0,[],[],0,0,[],[],[]⟩
theorem aCH:eA 0:=by constructor<;>decide
theorem aQx:(Expr.mk 0 0 []).Ok:=.mk _ _ _ aCH aCH (by simp) (by simp)
theorem oJ{k:Int}(hk:eA k):(cV k).Ok:=by constructor<;>first | exact hk | exact aCH | exact aQx | (simp[cV,gY,cP];done)
theorem aQy{A:af}{g:SN}(h:Has A g "Q" (fT g)) (hr:dI A (g "K") [] aQn) (he:dI A (g "ar") [vi 3] (aFd 4)) (hs:dI A (g "aw") [] aVw) (hg:dI A (g "at") [] aTk) (hf:dI A (g "as") [] aNr) (hm:dI A (g "av") [] aNq) (hn:dI A (g "au") [] aQo) {k:Int} (l6:0<=k) (Ch:k<7):dI A (g "Q") [vi k] (aMn k):=by
 refine h.gen (by simp[fT]) (fun n=>by kernel_rfl) ?_;intro l i o v H hl hlt ho;have p9:eA k:=cC l6 (by omega);have ru:k=0∨k=1∨k=2∨k=3∨k=4∨k=5∨k=6:=by omega
 simp only[fT,lK];rcases ru with rfl | rfl | rfl | rfl | rfl | rfl | rfl
 ·simp only[go_sem,seval];refine bB hr hl (i:=i) (by simp only[go_sem,seval,eK,hlt,ho]) ?_;rintro val i1 ⟨r,rfl,gj,nv,U0⟩;simp only[go_sem,seval,hlt,fN,aW,aA (aC cA _),aA (aC aU _)];exact⟨⟨i1,rfl⟩,{ cV 0 with runs:=r },by simp[aE,cV,aF,gO],rfl,{ oJ p9 with vw:=by show r.length<=16;omega,runs:=fun a h=>(U0 a h).1 },by simp[cV],fun hh=>Zw (show (0:Int)=4 from hh) (by decide),fun hh=>Zw (show (0:Int)=3 from hh) (by decide),fun hh=>Zw (show (0:Int)=5 from hh) (by decide),fun hh=>Zw (show (0:Int)=6 from hh) (by decide),aBs nv (by simp[cV]) rfl,aNs rfl rfl rfl⟩
 ·simp only[go_sem,seval];refine bB he hl (i:=i) (by simp only[go_sem,seval,eK,hlt,ho]) ?_;rintro val i1 ⟨⟨op,n,kids⟩,rfl,hd⟩;simp only[aF,bD];simp only[go_sem,seval,hlt,fN,aW,aA (aC aV _),aA (aC aU _)];exact⟨⟨i1,rfl⟩,{ cV 1 with expr:=.mk op n kids },by simp[aE,cV,aF,bD],rfl,{ oJ p9 with expr:=hd.ok.1,size:=by have:=hd.ok.2;show gY (.mk op n kids)<=1000;omega },by simp[cV],fun hh=>Zw (show (1:Int)=4 from hh) (by decide),fun hh=>Zw (show (1:Int)=3 from hh) (by decide),fun hh=>Zw (show (1:Int)=5 from hh) (by decide),fun hh=>Zw (show (1:Int)=6 from hh) (by decide),aOy (by simp[cV]) (by simp[cV]) rfl hd,⟨hd,by simp[cV],by simp[cV]⟩⟩
 ·simp only[go_sem,seval];refine bB hs hl (i:=i) (by simp only[go_sem,seval,eK,hlt,ho]) ?_;rintro val i1 ⟨op,a,rfl,M1,R7,Ay,Mv⟩;simp only[go_sem,seval,hlt,fN,aW,aA (aC aU _)];exact⟨⟨i1,rfl⟩,{ cV 2 with dn:=op,eg:=a },by simp[aE,cV,aF,gO],rfl,{ oJ p9 with dn:=M1,tj:=by show a.length<=16;omega,eg:=Ay },by simp[cV],fun hh=>Zw (show (2:Int)=4 from hh) (by decide),fun hh=>Zw (show (2:Int)=3 from hh) (by decide),fun hh=>Zw (show (2:Int)=5 from hh) (by decide),fun hh=>Zw (show (2:Int)=6 from hh) (by decide),aBs (by simp[cV]) R7 rfl,⟨aHl,Mv,by simp[cV]⟩⟩
 ·simp only[go_sem,seval];refine bB hg hl (i:=i) (by simp only[go_sem,seval,eK,hlt,ho]) ?_;rintro val i1 ⟨r,rfl,gj,nv,U0⟩;simp only[go_sem,seval,hlt,fN,aW,aA (aC cU _),aA (aC aU _)];exact⟨⟨i1,rfl⟩,{ cV 3 with cd:=r },by simp[aE,cV,aF,gO],rfl,{ oJ p9 with uu:=by show r.length<=16;omega,cd:=fun x hx=>⟨by have:=(U0 x hx).2.1;omega,fun s hs=>by have:=(U0 x hx).2.2 s hs;show s.length<=1000;omega⟩ },by simp[cV];omega,fun hh=>Zw (show (3:Int)=4 from hh) (by decide),fun _=>⟨gj,U0⟩,fun hh=>Zw (show (3:Int)=5 from hh) (by decide),fun hh=>Zw (show (3:Int)=6 from hh) (by decide),aBs (by simp[cV]) (by simp[cV]) rfl,aNs rfl rfl rfl⟩
 ·simp only[go_sem,seval];refine bB hf hl (i:=i) (by simp only[go_sem,seval,eK,hlt,ho]) ?_;rintro val i1 ⟨w,h,s,rfl,hw,hh,lq,nu,F1⟩;simp only[go_sem,seval,hlt,fN,aW,aA (aC bW _),aA (aC aU _)];exact⟨⟨i1,rfl⟩,{ cV 4 with w:=w,h:=h,aw:=s },by simp[aE,cV,aF,gO],rfl,{ oJ p9 with w:=hw,h:=hh,fg:=by show s.length<=16;omega,aw:=fun a ha=>(F1 a ha).1 },by simp[cV];omega,fun _=>lq,fun hh=>Zw (show (4:Int)=3 from hh) (by decide),fun hh=>Zw (show (4:Int)=5 from hh) (by decide),fun hh=>Zw (show (4:Int)=6 from hh) (by decide),aBs (by simp[cV]) (by simp[cV]) rfl,⟨aHl,by simp[cV],fun a ha=>(F1 a ha).2⟩⟩
 ·simp only[go_sem,seval];refine bB hm hl (i:=i) (by simp only[go_sem,seval,eK,hlt,ho]) ?_;rintro val i1 ⟨m,rfl,V9,Ep,Dc⟩;simp only[go_sem,seval,hlt,fN,aW,aA (aC cR _),aA (aC aU _)];exact⟨⟨i1,rfl⟩,{ cV 5 with bo:=m },by simp[aE,cV,aF,gO],rfl,{ oJ p9 with uv:=by show m.length<=16;omega,bo:=fun x hx=>⟨by have:=(Dc x hx).2.1;omega,fun y hy=>⟨by have:=((Dc x hx).2.2 y hy).2.1;omega,((Dc x hx).2.2 y hy).2.2⟩⟩ },by simp[cV];omega,fun hh=>Zw (show (5:Int)=4 from hh) (by decide),fun hh=>Zw (show (5:Int)=3 from hh) (by decide),fun _=>⟨V9,Dc⟩,fun hh=>Zw (show (5:Int)=6 from hh) (by decide),aBs (by simp[cV]) (by simp[cV]) rfl,aNs rfl rfl rfl⟩
 simp only[go_sem,seval];refine bB hn hl (i:=i) (by simp only[go_sem,seval,eK,hlt,ho]) ?_;rintro val i1 ⟨r,rfl,gj,nv,U0⟩;simp only[go_sem,seval,hlt,fN,aW,aA (aC bO _),aA (aC aU _)];exact⟨⟨i1,rfl⟩,{ cV 6 with lines:=r },by simp[aE,cV,aF,gO],rfl,{ oJ p9 with vz:=by show r.length<=16;omega,lines:=fun s hs=>by have:=U0 s hs;show s.length<=1000;omega },by simp[cV];omega,fun hh=>Zw (show (6:Int)=4 from hh) (by decide),fun hh=>Zw (show (6:Int)=3 from hh) (by decide),fun hh=>Zw (show (6:Int)=5 from hh) (by decide),fun _=>gj,aBs (by simp[cV]) (by simp[cV]) rfl,aNs rfl rfl rfl⟩
theorem aSy{A:af}{g:SN}(h:Has A g "I" (rR g)){x y w hh:Int}(hx:0<=x/\x<=1000)(hy:0<=y/\y<=1000)(hw:0<=w/\w<=1000)(ft:0<=hh/\hh<=1000)(H:LO):aG A (g "I") [vi x,vi y,vi w,vi hh] H=Qr (.sl Qu ([(x,y),(x+w,y),(x+w,y+hh),(x,y+hh)].map bL),H,[]):=by have h1:AR.wrap (x+w)=x+w:=wrap_i64 (by omega) (by omega);have h2:AR.wrap (y+hh)=y+hh:=wrap_i64 (by omega) (by omega);refine h.call ?_;simp only[rR];simp only[go_sem,seval,h1,h2,bL]
abbrev P4(x y w h:Int):List (Int×Int):=[(x,y),(x+w,y),(x+w,y+h),(x,y+h)]
theorem aYk{x y w h:Int}(hx:0<=x/\x<=1000)(hy:0<=y/\y<=1000)(hw:0<=w/\w<=1000)(ft:0<=h/\h<=1000){k:Int}(hk:0<=k/\k<=2):SOk (Shape.mk k (P4 x y w h)):=by
 refine⟨⟨cC hk.1 (by show k<=1000000;omega),by simp, ?_⟩,hk⟩;intro p hp;simp only[BD,CC,or_false]at hp;rcases hp with rfl | rfl | rfl | rfl
 ·exact⟨cC hx.1 (by omega),cC hy.1 (by omega)⟩
 ·exact⟨cC (by show 0<=x+w;omega) (by show x+w<=1000000;omega),cC hy.1 (by omega)⟩
 ·exact⟨cC (by show 0<=x+w;omega) (by show x+w<=1000000;omega),cC (by show 0<=y+h;omega) (by show y+h<=1000000;omega)⟩
 exact⟨cC hx.1 (by omega),cC (by show 0<=y+h;omega) (by show y+h<=1000000;omega)⟩
theorem aOz{A:af}{g:SN}(h:Has A g "as" (fD g))(ht:fR A g) (V6:∀{x y w hh:Int},(0<=x/\x<=1000)->(0<=y/\y<=1000)->(0<=w/\w<=1000)->(0<=hh/\hh<=1000)->∀H,aG A (g "I") [vi x,vi y,vi w,vi hh] H=Qr (.sl Qu ((P4 x y w hh).map bL),H,[])):dI A (g "as") [] aNr:=by
 refine h.gen (by simp[fD]) (fun n=>by kernel_rfl) ?_;intro l i o v H hl hlt ho;have bl:∀k,(H.length+k==o)=false:=fun k=>by simp;omega
 simp only[fD];simp only[go_sem,seval];refine aY (aq:=kW) (by rfl) (by rfl) ?_;simp only[go_sem,seval,kW];refine eB (bA ht (m:=4) (by decide)) hl (i:=i) (by simp only[go_sem,seval,eK,hlt,ho]) ?_;rintro val i1 ⟨x1,rfl,jr,lz⟩;have w1:AR.wrap (24+x1)=24+x1:=wrap_i64 (by omega) (by omega);simp only[go_sem,seval,hlt,fN,w1];refine eB (bA ht (m:=9) (by decide)) hl (i:=i1) (by simp only[go_sem,seval,aP,hlt]) ?_;rintro val i2 ⟨x2,rfl,C9,Jj⟩;have w2:AR.wrap (30+x2)=30+x2:=wrap_i64 (by omega) (by omega);have fo:=fun H=>V6 (x:=2) (y:=2) (w:=24+x1) (hh:=30+x2) (by decide) (by decide) (by omega) (by omega) H;simp only[go_sem,seval,hlt,aR,w2,fo,bP,eH,dG,bl,aL];refine bB (bA ht (m:=3) (by decide)) hl (i:=i2) (by simp only[go_sem,seval,aP,hlt]) ?_;rintro val i3 ⟨x3,rfl,Pd,Pe⟩;simp only[go_sem,seval,hlt,aR];have s1:SOk (Shape.mk 2 (P4 2 2 (24+x1) (30+x2))):=aYk (by decide) (by decide) (by omega) (by omega) (by decide);refine xX (W:=[23,24,25,26,27,28,29,30,31,32,33,34,35,36]) (fun _ H1 wr=>wr=[o]/\∃i' o5,∃S:List Shape,1<=S.length/\S.length<=2/\(∀a∈S,SOk a) /\
  H1=H.set o (.box v (aM l i'))++[.gone 0,.gone 0,.box 1 [vi 0,vi 0,.sl Qt []],.box 1 [vi 60,vi 50,.sr (H.length+4) 1 S.length],.vec 1 2 (S.map aH),o5,.gone 0,.gone 0,.gone 0]) (by rfl) (fun hb=>?_) (fun hb=>?_) ?_
 ·refine aY (aq:=kX) (by rfl) (by rfl) ?_;simp only[go_sem,seval,kX];refine eB (bA ht (m:=5) (by decide)) hl (i:=i3) (by simp only[go_sem,seval,aP,hlt]) ?_;rintro val i4 ⟨x4,rfl,Pf,Pg⟩;have w4:AR.wrap (10+x4)=10+x4:=wrap_i64 (by omega) (by omega);simp only[go_sem,seval,hlt,aR,w4];refine eB (bA ht (m:=8) (by decide)) hl (i:=i4) (by simp only[go_sem,seval,aP,hlt]) ?_;rintro val i5 ⟨x5,rfl,Ph,Pj⟩;have w5:AR.wrap (12+x5)=12+x5:=wrap_i64 (by omega) (by omega);simp only[go_sem,seval,hlt,aR,w5,bP,eH,dG,bl,aL];refine⟨i5,_,[Shape.mk 2 (P4 2 2 (24+x1) (30+x2)),Shape.mk 0 [(10+x4,12+x5)]],by simp,by simp, ?_,rfl⟩;intro a ha;simp only[BD,CC,or_false]at ha;rcases ha with rfl | rfl
  ·exact s1
  exact⟨⟨cC (by show (0:Int)<=0;decide) (by show (0:Int)<=1000000;decide),by simp,fun q hq=>by
   simp only[BD,CC,or_false]at hq;subst hq;exact⟨cC (by show 0<=10+x4;omega) (by show 10+x4<=1000000;omega),cC (by show 0<=12+x5;omega) (by show 12+x5<=1000000;omega)⟩⟩,by show (0:Int)<=0;decide,by show (0:Int)<=2;decide⟩
 ·simp only[go_sem,seval];exact⟨i3,_,[Shape.mk 2 (P4 2 2 (24+x1) (30+x2))],by simp,by simp,by intro a ha;simp only[BD,CC,or_false]at ha;subst ha;exact s1,rfl⟩
 rintro ρ2 H2 en ⟨rfl,i6,o5,S,Pk,Pl,Jk,rfl⟩ cq;have g0:ρ2 0=.ptr o v 0:=by rw[cq 0 rfl];simp only[go_sem,seval]
 have g2:ρ2 2=.ptr (H.length+2) 1 0:=by rw[cq 2 rfl];simp only[go_sem,seval]
 have g3:ρ2 3=.ptr (H.length+3) 1 0:=by rw[cq 3 rfl];simp only[go_sem,seval]
 have g94:ρ2 94=.undef:=by rw[cq 94 rfl];simp only[go_sem,seval]
 simp only[go_sem,seval,g0];refine bB (bA ht (m:=4) (by decide)) hl (i:=i6) (by simp only[go_sem,seval,aP,hlt]) ?_;rintro val i7 ⟨x6,rfl,Mw,Mx⟩;have w6:AR.wrap (36+x6)=36+x6:=wrap_i64 (by omega) (by omega);simp only[go_sem,seval,hlt,aR,w6];refine bB (bA ht (m:=2) (by decide)) hl (i:=i7) (by simp only[go_sem,seval,aP,hlt]) ?_;rintro val i8 ⟨x7,rfl,My,Mz⟩;simp only[go_sem,seval,hlt,aR];have vg:∀(a:Shape) (S:List Shape),S.map aH++[[vi a.kind,.sl Qu (a.points.map bL)]]=(S++[a]).map aH:=fun a S=>by simp[aH]
 refine xX (W:=[43,44,45,46,47,48,49,50,51,52,53,54,55,56,57,58,59,60,61,62,63,64,65,66,67,68,69,70]) (fun _ H1 wr=>wr=[o]/\∃i' o5 o6 o7,∃S:List Shape,2<=S.length/\S.length<=3/\(∀a∈S,SOk a) /\
  H1=H.set o (.box v (aM l i'))++[.gone 0,.gone 0,.box 1 [vi 0,vi 0,.sl Qt []],.box 1 [vi 60,vi 50,.sr (H.length+4) 1 S.length],.vec 1 2 (S.map aH),o5,o6,o7,.gone 0]) (by rfl) (fun hb=>?_) (fun hb=>?_) ?_
 ·refine aY (aq:=kY) (by rfl) (by rfl) ?_;have w7:AR.wrap (36+x6+8)=36+x6+8:=wrap_i64 (by omega) (by omega);simp only[go_sem,seval,kY,g0,g3,w7];refine eB (bA ht (m:=6) (by decide)) hl (i:=i8) (by simp only[go_sem,seval,aP,hlt]) ?_;rintro val i9 ⟨x8,rfl,Hd,He⟩;have w8:AR.wrap (10+x8)=10+x8:=wrap_i64 (by omega) (by omega);have hr:bP (S.length+1) 32=true:=by unfold bP;simp;omega
  have N0:=vg ⟨1,[(36+x6,4),(36+x6+8,10+x8),(36+x6,30)]⟩ S;simp only[DR,bL]at N0;simp only[go_sem,seval,hlt,aR,w8,hr,N0,eH,dG,bl,aL];refine⟨i9,_,_,_,S++[⟨1,[(36+x6,4),(36+x6+8,10+x8),(36+x6,30)]⟩],by simp;omega,by simp;omega, ?_,by simp only[BA,AW,AZ,BC];rfl⟩;intro a ha;rcases AY.mp ha with ha | ha
  ·exact Jk a ha
  simp only[BD,CC,or_false]at ha;subst ha;refine⟨⟨cC (by show (0:Int)<=1;decide) (by show (1:Int)<=1000000;decide),by simp,fun q hq=>?_⟩,by show (0:Int)<=1;decide,by show (1:Int)<=2;decide⟩;simp only[BD,CC,or_false]at hq;rcases hq with rfl | rfl | rfl
  ·exact⟨cC (by show 0<=36+x6;omega) (by show 36+x6<=1000000;omega),cC (by show (0:Int)<=4;decide) (by show (4:Int)<=1000000;decide)⟩
  ·exact⟨cC (by show 0<=36+x6+8;omega) (by show 36+x6+8<=1000000;omega),cC (by show 0<=10+x8;omega) (by show 10+x8<=1000000;omega)⟩
  exact⟨cC (by show 0<=36+x6;omega) (by show 36+x6<=1000000;omega),cC (by show (0:Int)<=30;decide) (by show (30:Int)<=1000000;decide)⟩
 ·refine aY (aq:=kZ) (by rfl) (by rfl) ?_;simp only[go_sem,seval,kZ,g0,g3];refine eB (bA ht (m:=12) (by decide)) hl (i:=i8) (by simp only[go_sem,seval,aP,hlt]) ?_;rintro val i9 ⟨x8,rfl,Hd,He⟩;have w8:AR.wrap (12+x8)=12+x8:=wrap_i64 (by omega) (by omega);have hr:bP (S.length+1) 32=true:=by unfold bP;simp;omega
  have dp:=fun H=>V6 (x:=36+x6) (y:=5) (w:=10) (hh:=12+x8) (by omega) (by decide) (by decide) (by omega) H;have N0:=vg ⟨2,P4 (36+x6) 5 10 (12+x8)⟩ S;simp only[DR]at N0 dp;simp only[go_sem,seval,hlt,aR,w8,dp,hr,N0,eH,dG,bl,aL];refine⟨i9,_,_,_,S++[⟨2,P4 (36+x6) 5 10 (12+x8)⟩],by simp;omega,by simp;omega, ?_,by simp only[BA,AW,AZ,BC];rfl⟩;intro a ha;rcases AY.mp ha with ha | ha
  ·exact Jk a ha
  simp only[BD,CC,or_false]at ha;subst ha;exact aYk (by omega) (by decide) (by decide) (by omega) (by decide)
 rintro ρ3 H3 wr3 ⟨rfl,i9,o5',o6,o7,T,Na,Pm,Jl,rfl⟩ im;have e0:ρ3 0=.ptr o v 0:=by rw[im 0 rfl];simp only[go_sem,seval,g0]
 have e2:ρ3 2=.ptr (H.length+2) 1 0:=by rw[im 2 rfl];simp only[go_sem,seval,g2]
 have e3:ρ3 3=.ptr (H.length+3) 1 0:=by rw[im 3 rfl];simp only[go_sem,seval,g3]
 have e94:ρ3 94=.undef:=by rw[im 94 rfl];simp only[go_sem,seval,g94]
 clear cq im;simp only[go_sem,seval,e0];refine bB (bA ht (m:=3) (by decide)) hl (i:=i9) (by simp only[go_sem,seval,aP,hlt]) ?_;rintro val i10 ⟨x9,rfl,Nb,Nc⟩;simp only[go_sem,seval,hlt,aR];refine aD (fun hb=>?_) (fun hb=>?_)
 ·simp only[go_sem,seval];refine aY (aq:=lA) (by rfl) (by rfl) ?_;simp only[go_sem,seval,lA,e0,e3];refine eB (bA ht (m:=20) (by decide)) hl (i:=i10) (by simp only[go_sem,seval,aP,hlt]) ?_;rintro val i11 ⟨x10,rfl,Nd,Nf⟩;have w10:AR.wrap (36+x10)=36+x10:=wrap_i64 (by omega) (by omega);have hr:bP (T.length+1) 32=true:=by unfold bP;simp;omega
  simp only[go_sem,seval,e3,hlt,aR,w10,hr,eH,dG,bl,aL];have w11:AR.wrap (((T.length+1:Nat):Int) - 1)=(T.length:Int):=by rw[wrap_i64 (by omega) (by omega)];omega
  have l8:(T.map aH++[[AV.int AR 1,AV.sr H.length 1 2]])[T.length]? = Qr [AV.int AR 1,AV.sr H.length 1 2]:=by simp
  rw[w11];refine aY (aq:=lB) (by rfl) (by rfl) ?_;have w12:AR.wrap (36+x10+3)=36+x10+3:=wrap_i64 (by omega) (by omega);have lg:∀x y,(T.map aH++[x]).set T.length y=T.map aH++[y]:=fun x y=>by simp
  have N0:=vg ⟨1,[(36,44),(36+x10+3,44)]⟩ T;simp only[DR,bL]at N0;have ax:(T++[Shape.mk 1 [(36,44),(36+x10+3,44)]]).length=T.length+1:=by simp
  simp only[go_sem,seval,lB,e2,e3,l8,AT,w12,lg,N0,hlt,ax,AF,aT (aC bW (T++[Shape.mk 1 [(36,44),(36+x10+3,44)]])),aW,aA (aC bW _),aA (aC aU _)];refine⟨⟨i11,rfl⟩,60,50,T++[Shape.mk 1 [(36,44),(36+x10+3,44)]],rfl,cC (by decide) (by decide),cC (by decide) (by decide),by simp;omega,by simp;omega, ?_⟩;intro a ha;rcases AY.mp ha with ha | ha
  ·exact Jl a ha
  simp only[BD,CC,or_false]at ha;subst ha;refine⟨⟨cC (by show (0:Int)<=1;decide) (by show (1:Int)<=1000000;decide),by simp,fun q hq=>?_⟩,by show (0:Int)<=1;decide,by show (1:Int)<=2;decide⟩;simp only[BD,CC,or_false]at hq;rcases hq with rfl | rfl
  ·exact⟨cC (by decide) (by decide),cC (by decide) (by decide)⟩
  exact⟨cC (by show 0<=36+x10+3;omega) (by show 36+x10+3<=1000000;omega),cC (by show (0:Int)<=44;decide) (by show (44:Int)<=1000000;decide)⟩
 simp only[go_sem,seval,e3,e94,e2,hlt,aT (aC bW T),aW,aA (aC bW _),aA (aC aU _)];exact⟨⟨i10,rfl⟩,60,50,T,rfl,cC (by decide) (by decide),cC (by decide) (by decide),Na,by omega,Jl⟩
abbrev uV(g:SN):List ae:=[qq 20 (.bsl 1 [z0] 2 [(0,(.const (vi 3))),(1,(.const (vi 4)))]),qm 21 0,⟨Qr 22,oc (g "a") [u 21,ui 2],Qs,[1]⟩,⟨Qr 23,oi 20 22 1,Qs,[0,2,1]⟩,⟨Qr 24,ol 1 23,Qs,[3,0,2,1]⟩,qm 25 2,qm 26 8,qm 27 8,⟨Qr 28,obi .add 27 1,Qs,[7]⟩,qm 29 0,qm 30 7,⟨Qr 31,obi .sub 30 1,Qs,[10]⟩,⟨Qr 32,oc (g "a") [u 29,u 31],Qs,[9,11,10,2,1]⟩,⟨Qr 33,ob .add 28 32,Qs,[8,7,12,9,11,10,2,1]⟩,qm 34 7,⟨Qr 35,ob .rem 33 34,Qs,[13,8,7,12,9,11,10,2,1,14]⟩,⟨Qr 36,.build [z0,z0,z0,z0] [(0,1,(.tmp 24)),(1,1,(.tmp 25)),(2,1,(.tmp 26)),(3,1,(.tmp 35))],Qs,[4,3,0,5,6,15,13,8,7,12,9,11,10,2,1,14]⟩,qq 9 (.alloc [z0,z0,z0,z0]),⟨Qs,os 4 9 36,Qs,[16,4,3,0,5,6,15,13,8,7,12,9,11,10,2,1,14,17]⟩]
abbrev mB:LN:=[2,4,12,17]
abbrev uW(g:SN):List ae:=[qm 56 2,qm 57 0,qf 58 7 4,⟨Qr 59,of 0 58,Qs,[2]⟩,⟨Qr 60,ol 1 59,Qs,[3,2]⟩,⟨Qr 61,on 60,Qs,[4,3,2]⟩,⟨Qr 62,oc (g "a") [u 57,u 61],Qs,[1,5,4,3,2]⟩,qm 63 0,qf 64 7 4,⟨Qr 65,of 0 64,Qs,[8]⟩,⟨Qr 66,ol 1 65,Qs,[9,8]⟩,⟨Qr 67,.iaV (u 66) (ui 0) 1,Qs,[10,9,8]⟩,⟨Qr 68,ol 1 67,Qs,[11,10,9,8]⟩,⟨Qr 69,on 68,Qs,[12,11,10,9,8]⟩,⟨Qr 70,oc (g "a") [u 63,u 69],Qs,[7,13,12,11,10,9,8,6,1,5,4,3,2]⟩,⟨Qr 71,.build [z0,z0,z0,z0] [(0,1,(.const (vi 1))),(1,1,(.tmp 56)),(2,1,(.tmp 62)),(3,1,(.tmp 70))],Qs,[0,14,7,13,12,11,10,9,8,6,1,5,4,3,2]⟩,⟨Qs,os 4 6 71,Qs,[15,0,14,7,13,12,11,10,9,8,6,1,5,4,3,2]⟩]
abbrev mC:LN:=[6,10,12]
abbrev uX(g:SN):List ae:=[qm 80 2,qm 81 0,qf 82 11 4,⟨Qr 83,of 0 82,Qs,[2]⟩,⟨Qr 84,ol 1 83,Qs,[3,2]⟩,⟨Qr 85,.iaV (u 84) (ui 0) 1,Qs,[4,3,2]⟩,⟨Qr 86,ol 1 85,Qs,[5,4,3,2]⟩,⟨Qr 87,on 86,Qs,[6,5,4,3,2]⟩,⟨Qr 88,oc (g "a") [u 81,u 87],Qs,[1,7,6,5,4,3,2]⟩,qm 89 0,qf 90 11 4,⟨Qr 91,of 0 90,Qs,[10]⟩,⟨Qr 92,ol 1 91,Qs,[11,10]⟩,⟨Qr 93,on 92,Qs,[12,11,10]⟩,⟨Qr 94,oc (g "a") [u 89,u 93],Qs,[9,13,12,11,10,8,1,7,6,5,4,3,2]⟩,⟨Qr 95,.build [z0,z0,z0,z0] [(0,1,(.const (vi 5))),(1,1,(.tmp 80)),(2,1,(.tmp 88)),(3,1,(.tmp 94))],Qs,[0,14,9,13,12,11,10,8,1,7,6,5,4,3,2]⟩,⟨Qs,os 4 6 95,Qs,[15,0,14,9,13,12,11,10,8,1,7,6,5,4,3,2]⟩]
abbrev mD:LN:=[8,12]
def gF(g:SN):bw:=⟨113,[4,6,9],[.cell 6 4 Qt],qS [qx 4 13 1,qq 6 (.alloc [z0,z0,z0,z0])]<|.seq (qS [qf 10 0 4,ql 11 1 10,qbi 12 .eql 11 4]<|qC 12 (qS [qf 13 8 4,qf 14 2 13,ql 15 1 14,qn 16 15,qm 7 16]<|qS [qm 17 0,qm 18 7,qc 19 (g "a") [u 17,u 18],qm 8 19]<|.seq (.region Qt (uV g))<|.seq (qS [qm 37 0,qc 38 (g "a") [u 37,ui 3],qbi 39 .eql 38 0,qm 40 39,qT 41 40 (om 8),qT 42 40 (obi .gtr 41 0),qp 43 40 42]<|qC 43 (qS [qm 44 2,qm 45 8,qq 46 (.build [z0,z0,z0,z0] [(0,1,(.const (vi 2))),(1,1,(.tmp 44)),(2,1,(.tmp 45))]),qs 4 6 46]<|.ret) (.skip))<|qS [qla 47 4 9,qs 4 6 47]<|.ret) (.skip))<|.seq (qS [qf 48 0 4,ql 49 1 48,qbi 50 .eql 49 3,qm 51 50,qT 52 51 (om 0),qT 53 51 (oc (g "a") [u 52,ui 3]),qT 54 51 (obi .gtr 53 0),qp 55 51 54]<|qC 55 (.seq (.region Qt (uW g))<|.ret) (.skip))<|.seq (qS [qf 72 0 4,ql 73 1 72,qbi 74 .eql 73 5,qm 75 74,qT 76 75 (om 0),qT 77 75 (oc (g "a") [u 76,ui 3]),qT 78 75 (obi .gtr 77 0),qp 79 75 78]<|qC 79 (.seq (.region Qt (uX g))<|.ret) (.skip))<|.seq (qS [qf 96 0 4,ql 97 1 96,qbi 98 .eql 97 6,qm 99 98,qT 100 99 (om 0),qT 101 99 (oc (g "a") [u 100,ui 3]),qT 102 99 (obi .gtr 101 0),qp 103 99 102]<|qC 103 (qS [qm 104 2,qm 105 0,qf 106 12 4,ql 107 1 106,qn 108 107,qc 109 (g "a") [u 105,u 108],qq 110 (.build [z0,z0,z0,z0] [(0,1,(.const (vi 6))),(1,1,(.tmp 104)),(2,1,(.tmp 109))]),qs 4 6 110]<|.ret) (.skip))<|qS [qm 111 2,qq 112 (.build [z0,z0,z0,z0] [(0,1,(.const z0)),(1,1,(.tmp 111))]),qs 4 6 112]<|.ret⟩
abbrev aLj(v:AV):Prop:=∃f:Fact,v=.agg (aI f)/\f.Ok
abbrev aBt(A:af)(f:Nat)(args:LA)(P:AV->Prop):Prop:=∀(l:List Int) (i:Int) (o v:Nat) (H:LO),jP l->H[o]? = Qr (.box v (aM l i)) ->
 ∃val i' wr,aG A f (.ptr o v 0::args) H=Qr (val,H.set o (.box v (aM l i')),wr)/\(wr=[]∨wr=[o])/\P val
theorem Has.Hf{A:af}{g:SN}{name:String}{fn:bw}(h:Has A g name fn){args:LA}{P:AV->Prop}(hN:args.length+1<=fn.ntmps)(hok:∀n,dK fn.ntmps ⟨n,fn.sites⟩ fn.body=Qt) (hw:∀(l:List Int) (i:Int) (o v:Nat) (H:LO),jP l->o<H.length->H[o]? = Qr (.box v (aM l i)) ->wc A fn.ntmps ⟨H.length,fn.sites⟩ fn.body (pO (.ptr o v 0::args)) (H++List.replicate fn.sites.length (.gone 0)) [] (aRz H.length fn.results (fun val H' wr=>(∃i',H'=H.set o (.box v (aM l i')))/\(wr=[]∨wr=[o])/\P val) ⟨⟩) ⟨⟩):aBt A (g name) args P:=by intro l i o v H hl ho;obtain⟨val,H',wr,h1,⟨i',rfl⟩,gn,h2⟩:=h.bp (args:=.ptr o v 0::args) (hw l i o v H hl (getElem?_lt ho) ho) (Nat.ble_eq_true_of_le (by simpa using hN)) (hok _);exact⟨val,i',wr,h1,gn,h2⟩
theorem aSz{A:af}{g:SN}(h:Has A g "J" (gF g))(ht:fR A g){b:Block}(hb:kf b){at':Int}(Bt:0<=at')(M1:at'<=1000):aBt A (g "J") [.agg (aE b),vi at'] aLj:=by
 refine h.Hf (by simp[gF]) (fun n=>by kernel_rfl) ?_;intro l i o v H hl hlt ho;obtain⟨qe,iq,yz,yv⟩:=hb.lens;have fin:∀k x y:Int,0<=k->k<=1000->0<=x->x<=1000->0<=y->y<=1000->aLj (.agg [vi k,vi at',vi x,vi y]):=fun k x y h1 h2 h3 h4 h5 h6=>⟨⟨k,at',x,y⟩,rfl,⟨cC h1 (by show k<=1000000;omega),cC Bt (by show at'<=1000000;omega),cC h3 (by show x<=1000000;omega),cC h5 (by show y<=1000000;omega)⟩⟩;simp only[gF];cases nz:b.expr with | mk op n kids=>
 by_cases k6:b.kind=6
 ·have hn:=hb.mq k6;simp only[go_sem,seval,aE,nz,aF,bD,k6];refine bB (bA ht (m:=3) (by decide)) hl (i:=i) (by simp only[go_sem,seval,eK,hlt,ho]) ?_;rintro val i1 ⟨x,rfl,jr,lz⟩;simp only[go_sem,seval,hlt,fN];refine aD (fun fo=>?_) (fun fo=>?_)
  ·simp only[go_sem,seval,hlt];refine bB (bA ht (m:=b.lines.length) (by omega)) hl (i:=i1) (by simp only[go_sem,seval,aP,hlt]) ?_;rintro val i2 ⟨y,rfl,oj,tc⟩;simp only[go_sem,seval,hlt,aR,aW,aA (aC aU _)];exact⟨⟨i2,rfl⟩,.inr trivial,fin 6 y 0 (by decide) (by decide) oj (by omega) (by decide) (by decide)⟩
  simp only[go_sem,seval,hlt,aW,aA (aC aU _)];exact⟨⟨i1,rfl⟩,.inr trivial,fin 0 0 0 (by decide) (by decide) (by decide) (by decide) (by decide) (by decide)⟩
 by_cases k5:b.kind=5
 ·have hn:=hb.L7 k5;cases tz:b.bo with
  |nil=>rw[tz]at hn;simp at hn
  |cons h0 hr=>
  have ft:=hn.2 h0 (by rw[tz];simp);rw[tz]at yz;simp only[AW]at yz;simp only[go_sem,seval,aE,nz,aF,bD,k5,tz];refine bB (bA ht (m:=3) (by decide)) hl (i:=i) (by simp only[go_sem,seval,eK,hlt,ho]) ?_;rintro val i1 ⟨x,rfl,jr,lz⟩;simp only[go_sem,seval,hlt,fN];refine aD (fun fo=>?_) (fun fo=>?_)
  ·simp only[go_sem,seval];refine aY (aq:=mD) (by rfl) (by rfl) ?_;simp only[go_sem,seval,mD,hlt,bS];refine eB (bA ht (m:=h0.length) (by have:=ft.1;omega)) hl (i:=i1) (by simp only[go_sem,seval,aP,hlt]) ?_;rintro val i2 ⟨y,rfl,oj,tc⟩;simp only[go_sem,seval,hlt,aR];refine eB (bA ht (m:=((hr.length+1:Nat):Int)) (by omega)) hl (i:=i2) (by simp only[go_sem,seval,aP,hlt]) ?_;rintro val i3 ⟨z,rfl,me,rr⟩;have bl:(H.length==o)=false:=by simp;omega
   simp only[go_sem,seval,hlt,aR,aW,aA (aC aU _),eH,dG,bl,aL];have:=ft.2.1;exact⟨⟨i3,rfl⟩,.inr trivial,fin 5 y z (by decide) (by decide) oj (by omega) me (by omega)⟩
  simp only[go_sem,seval,hlt,aW,aA (aC aU _)];exact⟨⟨i1,rfl⟩,.inr trivial,fin 0 0 0 (by decide) (by decide) (by decide) (by decide) (by decide) (by decide)⟩
 by_cases k3:b.kind=3
 ·have hn:=hb.cd k3;cases tz:b.cd with
  |nil=>rw[tz]at hn;simp at hn
  |cons h0 hr=>
  have ft:=hn.2 h0 (by rw[tz];simp);rw[tz]at iq;simp only[AW]at iq;simp only[go_sem,seval,aE,nz,aF,bD,k3,tz];refine bB (bA ht (m:=3) (by decide)) hl (i:=i) (by simp only[go_sem,seval,eK,hlt,ho]) ?_;rintro val i1 ⟨x,rfl,jr,lz⟩;simp only[go_sem,seval,hlt,fN];refine aD (fun fo=>?_) (fun fo=>?_)
  ·simp only[go_sem,seval];refine aY (aq:=mC) (by rfl) (by rfl) ?_;simp only[go_sem,seval,mC,hlt,bY];refine eB (bA ht (m:=((hr.length+1:Nat):Int)) (by omega)) hl (i:=i1) (by simp only[go_sem,seval,aP,hlt]) ?_;rintro val i2 ⟨y,rfl,oj,tc⟩;simp only[go_sem,seval,hlt,aR];refine eB (bA ht (m:=h0.length) (by have:=ft.1;omega)) hl (i:=i2) (by simp only[go_sem,seval,aP,hlt]) ?_;rintro val i3 ⟨z,rfl,me,rr⟩;have bl:(H.length==o)=false:=by simp;omega
   simp only[go_sem,seval,hlt,aR,aW,aA (aC aU _),eH,dG,bl,aL];have:=ft.2.1;exact⟨⟨i3,rfl⟩,.inr trivial,fin 1 y z (by decide) (by decide) oj (by omega) me (by omega)⟩
  simp only[go_sem,seval,hlt,aW,aA (aC aU _)];exact⟨⟨i1,rfl⟩,.inr trivial,fin 0 0 0 (by decide) (by decide) (by decide) (by decide) (by decide) (by decide)⟩
 by_cases k4:b.kind=4
 ·have hn:=hb.ye k4;have od:AR.wrap ((b.aw.length:Int) - 1)=(b.aw.length:Int) - 1:=wrap_i64 (by omega) (by omega);simp only[go_sem,seval,aE,nz,aF,bD,k4];refine bB (bA ht (m:=b.aw.length) (by omega)) hl (i:=i) (by simp only[go_sem,seval,eK,hlt,ho]) ?_;rintro val i1 ⟨x,rfl,jr,lz⟩;simp only[go_sem,seval,hlt,fN];refine aY (aq:=mB) (H0:=_) (by simp only[go_sem,seval,cS];rfl) (by rfl) ?_;simp only[go_sem,seval,mB];refine eB (bA ht (m:=2) (by decide)) hl (i:=i1) (by simp only[go_sem,seval,aP,hlt]) ?_;rintro val i2 ⟨y,rfl,oj,tc⟩;obtain⟨kd,Cz,cx⟩:=aQk [3,4] oj tc;simp only[DR,bF]at cx;have Ng:0<=kd/\kd<=4:=by
   simp only[BD,CC,or_false]at Cz;omega
  have wk:AR.wrap (x+1)=x+1:=wrap_i64 (by omega) (by omega);have bl:(H.length==o)=false:=by simp;omega
  have ya:(H.length+2==o)=false:=by simp;omega
  simp only[go_sem,seval,hlt,aR,oj,cx,wk,od];refine eB (bA ht (m:=(b.aw.length:Int) - 1) (by omega)) hl (i:=i2) (by simp only[go_sem,seval,aP,hlt]) ?_;rintro val i3 ⟨z,rfl,me,rr⟩;have Nh:AR.wrap (x+1+z)=x+1+z:=wrap_i64 (by omega) (by omega);have Ni:(b.aw.length:Int)≠0:=by omega
  have Cx:=HV (b.aw.length:Int) (a:=x+1+z) (by omega);have gj:=GX (x+1+z) (b:=(b.aw.length:Int)) (by omega);simp only[go_sem,seval,hlt,aR,Nh,tS Ni,eH,dG,ya,aL];refine bB (bA ht (m:=3) (by decide)) hl (i:=i3) (by simp only[go_sem,seval,aP,hlt]) ?_;rintro val i4 ⟨w,rfl,od,dy⟩;have last:=fin kd x ((x+1+z).tmod b.aw.length) Ng.1 (by omega) jr (by omega) Cx (by omega);simp only[go_sem,seval,hlt,aR];refine aD (fun fo=>?_) (fun fo=>?_)
  ·have dp:(w==0)=true:=by simpa using fo
   simp only[go_sem,seval,dp];refine aD (fun D3=>?_) (fun D3=>?_)
   ·simp only[go_sem,seval,hlt,aW,aA (aC aU _)];exact⟨⟨i4,rfl⟩,.inr trivial,fin 2 x 0 (by decide) (by decide) jr (by omega) (by decide) (by decide)⟩
   simp only[go_sem,seval,hlt,aW,aA (aC aU _)];exact⟨⟨i4,rfl⟩,.inr trivial,last⟩
  have dp:(w==0)=false:=by
   cases hq:(w==0)with
   |false=>rfl
   |true=>rw[hq]at fo;cases fo
  simp only[go_sem,seval,dp,hlt,aW,aA (aC aU _)];exact⟨⟨i4,rfl⟩,.inr trivial,last⟩
 simp only[go_sem,seval,aE,nz,aF,bD,aF9 k3,aF9 k4,aF9 k5,aF9 k6];exact⟨⟨i,(aJo ho).symm⟩,.inl trivial,fin 0 0 0 (by decide) (by decide) (by decide) (by decide) (by decide) (by decide)⟩
end Go.AM
end
section

end
section
namespace Go.AM
open Go
def jV(g:SN):ag:=.block 0 (qS [qbi 11 .eql 8 0,qm 10 11]<|qC 10 (qR [qm 12 2,qc 13 (g "c") [u 12,ui 5],qbi 14 .sub 13 1,qf 15 0 3,qs 1 15 14]) (qS [qbi 17 .eql 8 1,qm 16 17]<|qC 16 (qR [qq 18 (.bsl 1 [(.str [])] 0 []),qf 19 2 3,ql 20 1 19,qa 21 1 16 18 20,qq 22 (.bsl 1 [(.str [])] 1 [(0,(.const (.str [109,111,114,101])))]),qa 23 1 16 21 22,qf 24 2 3,qs 1 24 23]) (qS [qbi 26 .eql 8 2,qm 25 26]<|qC 25 (qR [qq 27 (.bsl 1 [z0] 0 []),qf 28 3 3,ql 29 1 28,qa 30 1 8 27 29,qm 31 2,qc 32 (g "c") [u 31,ui 10],qbi 33 .sub 32 1,qq 34 (.bsl 1 [z0] 1 [(0,(.tmp 33))]),qa 35 1 8 30 34,qf 36 3 3,qs 1 36 35]) (qS [qbi 38 .eql 8 3,qm 37 38]<|qC 37 (qR [qq 39 (.bsl 1 [(.str [])] 4 [(0,(.const (.str []))),(1,(.const (.str [127]))),(2,(.const (.str [107,101,121]))),(3,(.const (.str [97,32,107,101,121,32,116,104,97,116,32,104,97,115,32,109,111,114,101,32,116,104,97,110,32,102,111,114,116,121,32,98,121,116,101,115,32,105,110,32,97,108,108])))]),qm 40 2,qc 41 (g "c") [u 40,ui 4],qi 42 39 41 1,ql 43 1 42,qf 44 4 3,qs 1 44 43]) (qS [qbi 46 .eql 8 4,qm 45 46]<|qC 45 (qR [qm 47 2,qc 48 (g "c") [u 47,ui 103],qbi 49 .sub 48 1,qf 50 5 3,qs 1 50 49]) (qR [qf 9 1 3,qz (.store 1 (u 9) (uc (.sl Qt [])))]))))))
def gK(g:SN):bw:=⟨52,[3,6,21,23,30,35],[.cell 6 7 Qt],qS [qx 3 7 0,qq 6 (.alloc [z0,(.sl Qt []),(.sl Qt []),(.sl Qt []),(.str []),z0,(.sl Qt [])])]<|.seq (qS [qm 7 1,qc 8 (g "c") [u 7,ui 6]]<|jV g)<|qS [qla 51 7 3,qs 7 6 51]<|.ret⟩
theorem nA{n m c:Int}(hn:eA n)(hm:1<=m)(Ep:m<=1000)(jg:0<=c)(hc:c<=10):AR.wrap (bu n m - c)=bu n m - c/\eA (bu n m - c):=by obtain⟨h1,h2⟩:=kV hn hm;exact⟨wrap_i64 (by omega) (by omega),by omega,by omega⟩
theorem pS{α:Type}{P:α->Prop}{l:List α}{a:α}(h:∀x∈l,P x)(ha:P a):∀x∈l++[a],P x:=by
 intro x hx;rcases AY.1 hx with hx | hx
 ·exact h x hx
 have:x=a:=by simpa using hx
 subst this;exact ha
theorem uY{α:Type}{l:List α}{a:α}{n:Nat}(h:l.length<=n):(l++[a]).length<=n+1:=by simpa using h
structure uz(q:Question):Prop where
 opts:q.options.length<=15
 cy:q.cy.length<=15
 lk:∀r∈q.lk,r.text.length<=60
theorem cD{n b:Nat}(h1:n<=100)(h2:b<=1000):bP n b=true:=by unfold bP;have:n*(b+1)<=100*1001:=Nat.mul_le_mul h1 (by omega);simp;omega
theorem aLk{A:af}{g:SN}(h:Has A g "aA" (gK g))(ha:qK A g){q:Question}(hq:q.Ok)(hs:uz q){how by':Int}(rh:eA by')(H:LO):∃v H' wr,aG A (g "aA") [.agg (gR q),vi how,vi by'] H=Qr (v,H',wr)/\(H'=H/\wr=[]/\∃q':Question,v=.agg (gR q')/\q'.Ok):=by
 refine h.bp ?_;have qe:=hs.opts;have iq:=hs.cy;have fin:∀q1:Question,q1.Ok->∀v:AV,v=.agg (gR q1)->∃q2:Question,v=.agg (gR q2)/\q2.Ok:=fun q1 h v e=>⟨q1,e,h⟩;simp only[gK,jV];have h5:=nA (c:=1) rh (m:=5) (by decide) (by decide) (by decide) (by decide);have B8:=nA (c:=1) rh (m:=10) (by decide) (by decide) (by decide) (by decide);have Bx:=nA (c:=1) rh (m:=103) (by decide) (by decide) (by decide) (by decide);simp only[go_sem,seval,gR,ha how];refine aD (fun hb=>?_) (fun hb=>?_)
 ·simp only[go_sem,seval,ha by',h5.1,aA (aC cA _),aA (aC bO _),aA (aC aU _)];exact fin { q with kind:=bu by' 5 - 1 } { hq with kind:=h5.2 } _ rfl
 simp only[go_sem,seval];refine aD (fun hb=>?_) (fun hb=>?_)
 ·have hm:∀l:List Str,l.map aN++[[.str [109,111,114,101]]]=(l++[[109,111,114,101]]).map aN:=fun l=>by simp[aN]
  have ho:{ q with options:=q.options++[[109,111,114,101]]:Question }.Ok:={ hq with Q3:=uY qe,options:=pS hq.options (by decide) };cases lr:q.options with
  |nil=>rw[lr]at ho;simp only[go_sem,seval,cD,aA (aC cA _),aA (aC bO _),aA (aC aU _)];exact fin _ ho _ rfl
  |cons a r=>rw[lr]at ho qe;have gj:bP (r.length+1) 16=true:=cD (by simp at qe ⊢;omega) (by decide);have nv:bP (r.length+1+1) 16=true:=cD (by simp at qe ⊢;omega) (by decide);simp only[go_sem,seval,gj,nv,hm,aN,aT (aC bO _),aA (aC cA _),aA (aC bO _),aA (aC aU _)];exact fin _ ho _ (by simp[gR,aN])
 simp only[go_sem,seval];refine aD (fun hb=>?_) (fun hb=>?_)
 ·have hm:∀(l:List Int) (n:Int),l.map bF++[[vi n]]=(l++[n]).map bF:=fun l n=>by simp[bF]
  have ho:{ q with cy:=q.cy++[bu by' 10 - 1]:Question }.Ok:={ hq with Q4:=uY iq,cy:=pS hq.cy B8.2 };cases lr:q.cy with
  |nil=>rw[lr]at ho;simp only[go_sem,seval,ha by',B8.1,cD,aA (aC cA _),aA (aC bO _)];exact fin _ ho _ rfl
  |cons a r=>rw[lr]at ho iq;have gj:bP (r.length+1) 8=true:=cD (by simp at iq ⊢;omega) (by decide);have nv:bP (r.length+1+1) 8=true:=cD (by simp at iq ⊢;omega) (by decide);simp only[go_sem,seval,ha by',B8.1,gj,nv,hm,bF,aT (aC aU _),aA (aC cA _),aA (aC bO _),aA (aC aU _)];exact fin _ ho _ (by simp[gR,bF])
 simp only[go_sem,seval];refine aD (fun hb=>?_) (fun hb=>?_)
 ·obtain⟨k1,k2⟩:=kV rh (m:=4) (by decide);obtain⟨t,qt,cx⟩:=aQl [[],[127],[107,101,121],[97,32,107,101,121,32,116,104,97,116,32,104,97,115,32,109,111,114,101,32,116,104,97,110,32,102,111,114,116,121,32,98,121,116,101,115,32,105,110,32,97,108,108]] k1 k2;simp only[DR,aN]at cx;have tl:lI t:=by
   have:∀s∈([[],[127],[107,101,121],[97,32,107,101,121,32,116,104,97,116,32,104,97,115,32,109,111,114,101,32,116,104,97,110,32,102,111,114,116,121,32,98,121,116,101,115,32,105,110,32,97,108,108]]:List Str),lI s:=by decide
   exact this t qt
  simp only[go_sem,seval,ha by',k1,cx,aA (aC cA _),aA (aC bO _),aA (aC aU _)];exact fin { q with key:=t } { hq with key:=tl } _ rfl
 simp only[go_sem,seval];refine aD (fun hb=>?_) (fun hb=>?_)
 ·simp only[go_sem,seval,ha by',Bx.1,aA (aC cA _),aA (aC bO _),aA (aC aU _)];exact fin { q with points:=bu by' 103 - 1 } { hq with points:=Bx.2 } _ rfl
 simp only[go_sem,seval,aA (aC bO _),aA (aC aU _)];exact fin { q with lk:=[] } { hq with fg:=by simp,lk:=by simp } _ rfl
def lL(g:SN):ag:=.block 0 (qS [qbi 22 .eql 8 0,qm 21 22]<|qC 21 (qR [qm 23 2,qc 24 (g "c") [u 23,ui 9],qbi 25 .sub 24 1,qf 26 0 3,qs 1 26 25]) (qS [qbi 28 .eql 8 1,qm 27 28]<|qC 27 (qR [qq 29 (.bsl 2 [z0,(.str [])] 0 []),qf 30 1 3,ql 31 1 30,qa 32 2 24 29 31,qm 33 2,qc 34 (g "c") [u 33,ui 4],qbi 35 .sub 34 1,qq 36 (.bsl 1 [(.str [])] 4 [(0,(.const (.str []))),(1,(.const (.str [120]))),(2,(.const (.str [10]))),(3,(.const (.str [126])))]),qm 37 2,qc 38 (g "c") [u 37,ui 4],qi 39 36 38 1,ql 40 1 39,qq 41 (.build [z0,(.str [])] [(0,1,(.tmp 35)),(1,1,(.tmp 40))]),qq 42 (.bsl 2 [z0,(.str [])] 1 [(0,(.tmp 41))]),qa 43 2 24 32 42,qf 44 1 3,qs 1 44 43]) (qS [qbi 46 .eql 8 2,qm 45 46]<|qC 45 (qR [qq 47 (.bsl 3 [z0,z0,(.sl Qu [])] 0 []),qf 48 2 3,qf 49 2 48,ql 50 1 49,qa 51 3 40 47 50,qm 52 2,qq 53 (.build [z0,z0,(.sl Qt [])] [(1,1,(.tmp 52))]),qq 54 (.bsl 3 [z0,z0,(.sl Qu [])] 1 [(0,(.tmp 53))]),qa 55 3 40 51 54,qf 56 2 3,qf 57 2 56,qs 1 57 55]) (qS [qbi 59 .eql 8 3,qm 58 59]<|qC 58 (qR [qq 60 (.bsl 1 [z0] 0 []),qf 61 5 3,qf 62 1 61,ql 63 1 62,qa 64 1 8 60 63,qq 65 (.bsl 1 [z0] 4 [(0,(.const (.int .i64 (-1)))),(1,(.const z0)),(2,(.const (vi 999999))),(3,(.const (vi 1000000)))]),qm 66 2,qc 67 (g "c") [u 66,ui 4],qi 68 65 67 1,ql 69 1 68,qq 70 (.bsl 1 [z0] 1 [(0,(.tmp 69))]),qa 71 1 8 64 70,qf 72 5 3,qf 73 1 72,qs 1 73 71]) (qS [qbi 75 .eql 8 4,qm 74 75]<|qC 74 (qR [qq 76 (.bsl 1 [(.sl Qu [])] 0 []),qf 77 7 3,qf 78 0 77,ql 79 1 78,qa 80 1 24 76 79,qq 81 (.bsl 1 [(.str [])] 2 [(0,(.const (.str [97]))),(1,(.const (.str [50,49,32,98,121,116,101,115,32,97,114,101,32,116,111,111,32,109,117,99,104,46])))]),qm 82 2,qc 83 (g "c") [u 82,ui 3],qq 84 (.gw 1 (u 81) Qs (Qr (.tmp 83)) Qs),qq 85 (.bsl 1 [(.sl Qu [])] 1 [(0,(.tmp 84))]),qa 86 1 24 80 85,qf 87 7 3,qf 88 0 87,qs 1 88 86]) (qS [qbi 90 .eql 8 5,qm 89 90]<|qC 89 (qR [qq 91 (.bsl 1 [z0] 4 [(0,(.const z0)),(1,(.const (vi 1))),(2,(.const (vi 1000))),(3,(.const (vi 1001)))]),qm 92 2,qc 93 (g "c") [u 92,ui 4],qi 94 91 93 1,ql 95 1 94,qf 96 8 3,qf 97 0 96,qs 1 97 95]) (qS [qbi 99 .eql 8 6,qm 98 99]<|qC 98 (qR [qq 100 (.bsl 1 [(.sl Qu [])] 0 []),qf 101 11 3,qf 102 0 101,ql 103 1 102,qa 104 1 24 100 103,qm 105 2,qc 106 (g "c") [u 105,ui 52],qbi 107 .sub 106 2,qq 108 (.build [z0,z0,z0] [(0,1,(.tmp 107))]),qq 109 (.bsl 3 [z0,z0,z0] 1 [(0,(.tmp 108))]),qq 110 (.bsl 1 [(.sl Qu [])] 1 [(0,(.tmp 109))]),qq 111 (.bsl 1 [(.sl Qu [])] 1 [(0,(.tmp 110))]),qa 112 1 24 104 111,qf 113 11 3,qf 114 0 113,qs 1 114 112]) (qR [qq 9 (.bsl 1 [(.str [])] 0 []),qf 10 12 3,ql 11 1 10,qa 12 1 16 9 11,qq 13 (.bsl 1 [(.str [])] 3 [(0,(.const (.str []))),(1,(.const (.str [120]))),(2,(.const (.str [9])))]),qm 14 2,qc 15 (g "c") [u 14,ui 3],qi 16 13 15 1,ql 17 1 16,qq 18 (.bsl 1 [(.str [])] 1 [(0,(.tmp 17))]),qa 19 1 16 12 18,qf 20 12 3,qs 1 20 19]))))))))
def jJ(g:SN):bw:=⟨116,[3,6,32,43,51,55,64,71,80,86,104,112,12,19],[.cell 6 13 Qt],qS [qx 3 13 0,qq 6 (.alloc [z0,(.sl Qt []),z0,z0,(.sl Qt []),z0,(.sl Qt []),(.sl Qt []),z0,z0,(.sl Qt []),(.sl Qt []),(.sl Qt [])])]<|.seq (qS [qm 7 1,qc 8 (g "c") [u 7,ui 8]]<|lL g)<|qS [qla 115 13 3,qs 13 6 115]<|.ret⟩
structure va(b:Block):Prop where
 runs:b.runs.length<=15
 kids:∀op n ks,b.expr=.mk op n ks->ks.length<=15
 size:gY b.expr<=999
 eg:b.eg.length<=15
 cd:b.cd.length<=15
 bo:b.bo.length<=15
 lines:b.lines.length<=15
 fit:Fit b
theorem kf.U1{b:Block}(h:kf b):va b:=by obtain⟨h1,h2,h3,h4⟩:=h.Bw;obtain⟨k1,k2,k3,k4⟩:=h.lens;exact⟨by omega,fun op n ks e=>by have:=h4 op n ks e;omega,by omega,by omega,by omega,by omega,by omega,h.fit⟩
theorem aIK:∀(l:List Expr) (e:Expr),cP (l++[e])=cP l+gY e
 | [],e=>by simp[cP]
 |a::l,e=>by rw[List.cons_append,cP,cP,aIK l e];omega
theorem aLl{A:af}{g:SN}(h:Has A g "az" (jJ g))(ha:qK A g){b:Block}(hq:b.Ok)(hs:va b){how by':Int}(rh:eA by')(H:LO):∃v H' wr,aG A (g "az") [.agg (aE b),vi how,vi by'] H=Qr (v,H',wr)/\(H'=H/\wr=[]/\∃b1:Block,v=.agg (aE b1)/\b1.Ok):=by
 refine h.bp ?_;have fin:∀b1:Block,b1.Ok->∀v:AV,v=.agg (aE b1)->∃b2:Block,v=.agg (aE b2)/\b2.Ok:=fun b1 h v e=>⟨b1,e,h⟩;have qe:=hs.runs;have yz:=hs.eg;have yv:=hs.cd;have Dd:=hs.bo;have Q2:=hs.lines;cases nz:b.expr with | mk op n kids=>
 have iq:=hs.kids op n kids nz;have mn:=hq.expr;have gd:=hs.size;rw[nz]at mn gd;obtain⟨x1,x2,x3,x4⟩:eA op/\eA n/\kids.length<=16/\∀e∈kids,Expr.Ok e:=by cases mn;exact⟨by assumption,by assumption,by assumption,by assumption⟩
 rw[gY]at gd;simp only[jJ,lL];have h9:=nA (c:=1) rh (m:=9) (by decide) (by decide) (by decide) (by decide);have h4:=nA (c:=1) rh (m:=4) (by decide) (by decide) (by decide) (by decide);have Hg:=nA (c:=2) rh (m:=52) (by decide) (by decide) (by decide) (by decide);obtain⟨k1,k2⟩:=kV rh (m:=4) (by decide);simp only[go_sem,seval,aE,nz,aF,bD,ha how];refine aD (fun hb=>?_) (fun hb=>?_)
 ·simp only[go_sem,seval,ha by',h9.1,aA (aC cA _),aA (aC aV _),aA (aC bO _),aA (aC aU _),aA (aC cU _),aA (aC bW _),aA (aC cR _)];exact fin { b with kind:=bu by' 9 - 1 } { hq with kind:=h9.2 } _ (by simp[aE,nz,aF,bD])
 simp only[go_sem,seval];refine aD (fun hb=>?_) (fun hb=>?_)
 ·obtain⟨t,qt,cx⟩:=aQl [[],[120],[10],[126]] k1 k2;simp only[DR,aN]at cx;have tl:lI t:=by
   have:∀s∈([[],[120],[10],[126]]:List Str),lI s:=by decide
   exact this t qt
  have ho:({ b with runs:=b.runs++[mr.mk (bu by' 4 - 1) t]:Block }).Ok:={ hq with vw:=uY qe,runs:=pS hq.runs ⟨h4.2,tl⟩ };have hm:∀l,l.map cZ++[cZ (mr.mk (bu by' 4 - 1) t)]=(l++[mr.mk (bu by' 4 - 1) t]).map cZ:=fun l=>by simp
  simp only[cZ]at hm;cases lr:b.runs with
  |nil=>rw[lr]at ho;simp only[go_sem,seval,ha by',h4.1,k1,cx,cD,aA (aC aV _),aA (aC bO _),aA (aC aU _),aA (aC cU _),aA (aC bW _),aA (aC cR _)];exact fin _ ho _ (by simp[aE,nz,aF,bD,cZ])
  |cons a r=>
   rw[lr]at ho qe;have gj:bP (r.length+1) 24=true:=cD (by simp at qe ⊢;omega) (by decide);have nv:bP (r.length+1+1) 24=true:=cD (by simp at qe ⊢;omega) (by decide);have xd:(cZ a).length=2:=by first | rfl | exact dP a
   have bd:(cZ a).all AV.still=true:=bR (cA a);simp only[go_sem,seval,ha by',h4.1,k1,cx,gj,nv,hm,xd,bd,aT (aC cA _),dC (cA a),aA (aC cA _),aA (aC aV _),aA (aC bO _),aA (aC aU _),aA (aC cU _),aA (aC bW _),aA (aC cR _)];exact fin _ ho _ (by simp[aE,nz,aF,bD,cZ])
 simp only[go_sem,seval];refine aD (fun hb=>?_) (fun hb=>?_)
 ·have Ge:cP (kids++[Expr.mk 0 by' []])+1<=1000:=by rw[aIK,gY,cP];omega
  have ho:({ b with expr:=.mk op n (kids++[Expr.mk 0 by' []]):Block }).Ok:={ hq with expr:=.mk _ _ _ x1 x2 (uY iq) (pS x4 (.mk _ _ _ aCH rh (by simp) (by simp))),size:=by rw[gY];exact Ge };have hm:∀l,l.map aF++[aF (Expr.mk 0 by' [])]=(l++[Expr.mk 0 by' []]).map aF:=fun l=>by simp
  simp only[aF,gO]at hm;cases lr:kids with
  |nil=>rw[lr]at ho;simp only[go_sem,seval,cD,aA (aC cA _),aA (aC bO _),aA (aC aU _),aA (aC cU _),aA (aC bW _),aA (aC cR _)];exact fin _ ho _ (by simp[aE,aF,bD,aF,gO])
  |cons a r=>
   rw[lr]at ho iq;have gj:bP (r.length+1) 40=true:=cD (by simp at iq ⊢;omega) (by decide);have nv:bP (r.length+1+1) 40=true:=cD (by simp at iq ⊢;omega) (by decide);have xd:(aF a).length=3:=by first | rfl | exact dP a
   have bd:(aF a).all AV.still=true:=bR (aV a);simp only[go_sem,seval,gj,nv,hm,xd,bd,aT (aC aV _),dC (aV a),aA (aC cA _),aA (aC aV _),aA (aC bO _),aA (aC aU _),aA (aC cU _),aA (aC bW _),aA (aC cR _)];exact fin _ ho _ (by simp[aE,aF,bD,aF,gO])
 simp only[go_sem,seval];refine aD (fun hb=>?_) (fun hb=>?_)
 ·obtain⟨t,qt,cx⟩:=aQk [-1,0,999999,1000000] k1 k2;simp only[DR,bF]at cx;have tl:eA t:=by
   have:∀s∈([-1,0,999999,1000000]:List Int),eA s:=by decide
   exact this t qt
  have ho:({ b with eg:=b.eg++[t]:Block }).Ok:={ hq with tj:=uY yz,eg:=pS hq.eg tl };have hm:∀l,l.map bF++[bF (t)]=(l++[t]).map bF:=fun l=>by simp
  simp only[bF]at hm;cases lr:b.eg with
  |nil=>rw[lr]at ho;simp only[go_sem,seval,ha by',k1,cx,cD,aA (aC cA _),aA (aC aV _),aA (aC bO _),aA (aC cU _),aA (aC bW _),aA (aC cR _)];exact fin _ ho _ (by simp[aE,nz,aF,bD,bF])
  |cons a r=>
   rw[lr]at ho yz;have gj:bP (r.length+1) 8=true:=cD (by simp at yz ⊢;omega) (by decide);have nv:bP (r.length+1+1) 8=true:=cD (by simp at yz ⊢;omega) (by decide);have xd:(bF a).length=1:=by first | rfl | exact dP a
   have bd:(bF a).all AV.still=true:=bR (aU a);simp only[go_sem,seval,ha by',k1,cx,gj,nv,hm,xd,bd,aT (aC aU _),dC (aU a),aA (aC cA _),aA (aC aV _),aA (aC bO _),aA (aC aU _),aA (aC cU _),aA (aC bW _),aA (aC cR _)];exact fin _ ho _ (by simp[aE,nz,aF,bD,bF])
 simp only[go_sem,seval];refine aD (fun hb=>?_) (fun hb=>?_)
 ·obtain⟨j1,j2⟩:=kV rh (m:=3) (by decide);have hc:bu by' 3=0∨bu by' 3=1∨bu by' 3=2:=by omega
  rcases hc with h3 | h3 | h3
  ·skip
   have ho:({ b with cd:=b.cd++[([]:List Str)]:Block }).Ok:={ hq with uu:=uY yv,cd:=pS hq.cd ⟨by simp,by decide⟩ };have hm:∀l,l.map bY++[bY (([]:List Str))]=(l++[([]:List Str)]).map bY:=fun l=>by simp
   simp only[bY,BY]at hm;cases lr:b.cd with
   |nil=>rw[lr]at ho;simp only[go_sem,seval,ha by',h3,dU,iL,cD,aA (aC cA _),aA (aC aV _),aA (aC bO _),aA (aC aU _),aA (aC bW _),aA (aC cR _)];exact fin _ ho _ (by simp[aE,nz,aF,bD,bY])
   |cons a r=>
    rw[lr]at ho yv;have gj:bP (r.length+1) 24=true:=cD (by simp at yv ⊢;omega) (by decide);have nv:bP (r.length+1+1) 24=true:=cD (by simp at yv ⊢;omega) (by decide);have xd:(bY a).length=1:=by first | rfl | exact dP a
    have bd:(bY a).all AV.still=true:=bR (cU a);simp only[go_sem,seval,ha by',h3,dU,iL,gj,nv,hm,xd,bd,aT (aC cU _),dC (cU a),aA (aC cA _),aA (aC aV _),aA (aC bO _),aA (aC aU _),aA (aC cU _),aA (aC bW _),aA (aC cR _)];exact fin _ ho _ (by simp[aE,nz,aF,bD,bY])
  ·skip
   have ho:({ b with cd:=b.cd++[[[97]]]:Block }).Ok:={ hq with uu:=uY yv,cd:=pS hq.cd ⟨by simp,by decide⟩ };have hm:∀l,l.map bY++[bY ([[97]])]=(l++[[[97]]]).map bY:=fun l=>by simp
   simp only[bY,aN,BI,BY]at hm;cases lr:b.cd with
   |nil=>rw[lr]at ho;simp only[go_sem,seval,ha by',h3,dU,iL,cD,aA (aC cA _),aA (aC aV _),aA (aC bO _),aA (aC aU _),aA (aC bW _),aA (aC cR _)];exact fin _ ho _ (by simp[aE,nz,aF,bD,bY,aN])
   |cons a r=>
    rw[lr]at ho yv;have gj:bP (r.length+1) 24=true:=cD (by simp at yv ⊢;omega) (by decide);have nv:bP (r.length+1+1) 24=true:=cD (by simp at yv ⊢;omega) (by decide);have xd:(bY a).length=1:=by first | rfl | exact dP a
    have bd:(bY a).all AV.still=true:=bR (cU a);simp only[go_sem,seval,ha by',h3,dU,iL,gj,nv,hm,xd,bd,aT (aC cU _),dC (cU a),aA (aC cA _),aA (aC aV _),aA (aC bO _),aA (aC aU _),aA (aC cU _),aA (aC bW _),aA (aC cR _)];exact fin _ ho _ (by simp[aE,nz,aF,bD,bY,aN])
  skip
  have ho:({ b with cd:=b.cd++[[[97],[50,49,32,98,121,116,101,115,32,97,114,101,32,116,111,111,32,109,117,99,104,46]]]:Block }).Ok:={ hq with uu:=uY yv,cd:=pS hq.cd ⟨by simp,by decide⟩ };have hm:∀l,l.map bY++[bY ([[97],[50,49,32,98,121,116,101,115,32,97,114,101,32,116,111,111,32,109,117,99,104,46]])]=(l++[[[97],[50,49,32,98,121,116,101,115,32,97,114,101,32,116,111,111,32,109,117,99,104,46]]]).map bY:=fun l=>by simp
  simp only[bY,aN,BI,BY]at hm;cases lr:b.cd with
  |nil=>rw[lr]at ho;simp only[go_sem,seval,ha by',h3,dU,iL,cD,aA (aC cA _),aA (aC aV _),aA (aC bO _),aA (aC aU _),aA (aC bW _),aA (aC cR _)];exact fin _ ho _ (by simp[aE,nz,aF,bD,bY,aN])
  |cons a r=>
   rw[lr]at ho yv;have gj:bP (r.length+1) 24=true:=cD (by simp at yv ⊢;omega) (by decide);have nv:bP (r.length+1+1) 24=true:=cD (by simp at yv ⊢;omega) (by decide);have xd:(bY a).length=1:=by first | rfl | exact dP a
   have bd:(bY a).all AV.still=true:=bR (cU a);simp only[go_sem,seval,ha by',h3,dU,iL,gj,nv,hm,xd,bd,aT (aC cU _),dC (cU a),aA (aC cA _),aA (aC aV _),aA (aC bO _),aA (aC aU _),aA (aC cU _),aA (aC bW _),aA (aC cR _)];exact fin _ ho _ (by simp[aE,nz,aF,bD,bY,aN])
 simp only[go_sem,seval];refine aD (fun hb=>?_) (fun hb=>?_)
 ·obtain⟨t,qt,cx⟩:=aQk [0,1,1000,1001] k1 k2;simp only[DR,bF]at cx;have tl:eA t:=by
   have:∀s∈([0,1,1000,1001]:List Int),eA s:=by decide
   exact this t qt
  simp only[go_sem,seval,ha by',k1,cx,aA (aC cA _),aA (aC aV _),aA (aC bO _),aA (aC aU _),aA (aC cU _),aA (aC bW _),aA (aC cR _)];exact fin { b with w:=t } { hq with w:=tl } _ (by simp[aE,nz,aF,bD])
 simp only[go_sem,seval];refine aD (fun hb=>?_) (fun hb=>?_)
 ·skip
  have ho:({ b with bo:=b.bo++[[[ct.mk (bu by' 52 - 2) 0 0]]]:Block }).Ok:={ hq with uv:=uY Dd,bo:=pS hq.bo ⟨by simp,fun l hl=>by
   have:l=[ct.mk (bu by' 52 - 2) 0 0]:=by simpa using hl
   subst this;exact⟨by simp,fun m hm=>by
    have:m=ct.mk (bu by' 52 - 2) 0 0:=by simpa using hm
    subst this;exact⟨Hg.2,aCH,aCH⟩⟩⟩ }
  have hm:∀l,l.map bS++[bS ([[ct.mk (bu by' 52 - 2) 0 0]])]=(l++[[[ct.mk (bu by' 52 - 2) 0 0]]]).map bS:=fun l=>by simp
  simp only[bS,gH,bV,BI,BY]at hm;cases lr:b.bo with
  |nil=>rw[lr]at ho;simp only[go_sem,seval,ha by',Hg.1,cD,aA (aC cA _),aA (aC aV _),aA (aC bO _),aA (aC aU _),aA (aC cU _),aA (aC bW _)];exact fin _ ho _ (by simp[aE,nz,aF,bD,bS,gH,bV])
  |cons a r=>
   rw[lr]at ho Dd;have gj:bP (r.length+1) 24=true:=cD (by simp at Dd ⊢;omega) (by decide);have nv:bP (r.length+1+1) 24=true:=cD (by simp at Dd ⊢;omega) (by decide);have xd:(bS a).length=1:=by first | rfl | exact dP a
   have bd:(bS a).all AV.still=true:=bR (cR a);simp only[go_sem,seval,ha by',Hg.1,gj,nv,hm,xd,bd,aT (aC cR _),dC (cR a),aA (aC cA _),aA (aC aV _),aA (aC bO _),aA (aC aU _),aA (aC cU _),aA (aC bW _),aA (aC cR _)];exact fin _ ho _ (by simp[aE,nz,aF,bD,bS,gH,bV])
 obtain⟨k1,k2⟩:=kV rh (m:=3) (by decide);obtain⟨t,qt,cx⟩:=aQl [[],[120],[9]] k1 k2;simp only[DR,aN]at cx;have tl:lI t:=by
  have:∀s∈([[],[120],[9]]:List Str),lI s:=by decide
  exact this t qt
 have ho:({ b with lines:=b.lines++[t]:Block }).Ok:={ hq with vz:=uY Q2,lines:=pS hq.lines tl };have hm:∀l,l.map aN++[aN (t)]=(l++[t]).map aN:=fun l=>by simp
 simp only[aN]at hm;cases lr:b.lines with
 |nil=>rw[lr]at ho;simp only[go_sem,seval,ha by',k1,cx,cD,aA (aC cA _),aA (aC aV _),aA (aC aU _),aA (aC cU _),aA (aC bW _),aA (aC cR _)];exact fin _ ho _ (by simp[aE,nz,aF,bD,aN])
 |cons a r=>
  rw[lr]at ho Q2;have gj:bP (r.length+1) 16=true:=cD (by simp at Q2 ⊢;omega) (by decide);have nv:bP (r.length+1+1) 16=true:=cD (by simp at Q2 ⊢;omega) (by decide);have xd:(aN a).length=1:=by first | rfl | exact dP a
  have bd:(aN a).all AV.still=true:=bR (bO a);simp only[go_sem,seval,ha by',k1,cx,gj,nv,hm,xd,bd,aT (aC bO _),dC (bO a),aA (aC cA _),aA (aC aV _),aA (aC bO _),aA (aC aU _),aA (aC cU _),aA (aC bW _),aA (aC cR _)];exact fin _ ho _ (by simp[aE,nz,aF,bD,aN])
abbrev rV(g:SN):ag:=.seq (qS [qm 63 12,qm 64 11,qb 65 .lss 63 64]<|qC 65 (.skip) (.exit 4))<|.seq (.block 5 (qS [qm 68 3,qla 69 13 10,qm 70 9,qc 71 (g "J") [u 68,u 69,u 70],qq 13 (.alloc [z0,z0,z0,z0]),qs 4 13 71]<|qS [qf 72 2 7,ql 73 1 72,qla 74 4 13,qc 75 (g "u") [u 73,u 74],qq 76 (.un .not (u 75))]<|qC 76 (qR [qf 77 2 7,ql 78 1 77,qla 79 4 13,qq 80 (.bsl 4 [z0,z0,z0,z0] 1 [(0,(.tmp 79))]),qa 81 4 32 78 80,qf 82 2 7,qs 1 82 81]) (.skip)))<|.region Qu [qm 66 12,qbi 67 .add 66 1,qm 12 67]
abbrev aCI:LN:=[63,64,65,68,69,70,71,13,72,73,74,75,76,77,78,79,80,81,82,66,67,12]
abbrev rW(g:SN):ag:=.seq (qS [qm 45 9,qm 46 8,qb 47 .lss 45 46]<|qC 47 (.skip) (.exit 2))<|.seq (.block 3 (qS [qm 50 3,qm 51 3,qc 52 (g "a") [u 51,ui 7],qc 53 (g "Q") [u 50,u 52],qq 10 (.alloc [z0,(.sl Qt []),z0,z0,(.sl Qt []),z0,(.sl Qt []),(.sl Qt []),z0,z0,(.sl Qt []),(.sl Qt []),(.sl Qt [])]),qs 13 10 53]<|qS [qf 54 1 7,ql 55 1 54,qla 56 13 10,qq 57 (.bsl 13 [z0,(.sl Qu []),z0,z0,(.sl Qu []),z0,(.sl Qu []),(.sl Qu []),z0,z0,(.sl Qu []),(.sl Qu []),(.sl Qu [])] 1 [(0,(.tmp 56))]),qa 58 13 216 55 57,qf 59 1 7,qs 1 59 58]<|qS [qm 60 3,qc 61 (g "a") [u 60,ui 2],qq 62 (.bin .add .no (ui 1) (u 61)),qm 11 62]<|qS [qmc 12 z0]<|.block 4 (.loop (rV g))))<|.region Qu [qm 48 9,qbi 49 .add 48 1,qm 9 49]
abbrev aCJ:LN:=[45,46,47,50,51,52,53,10,54,55,56,57,58,59,60,61,62,11,12,63,64,65,68,69,70,71,13,72,73,74,75,76,77,78,79,80,81,82,66,67,12,48,49,9]
abbrev aCK(g:SN):List ae:=[qf 90 3 7,⟨Qr 91,ol 1 90,Qs,[0]⟩,qm 92 3,qf 93 2 7,⟨Qr 94,ol 1 93,Qs,[3]⟩,⟨Qr 95,on 94,Qs,[4,3]⟩,⟨Qr 96,oc (g "R") [u 92,u 95],Qs,[2,5,4,3]⟩,⟨Qr 97,.bsl 7 [z0,(.sl Qu []),(.sl Qu []),(.sl Qu []),(.str []),z0,(.sl Qu [])] 1 [(0,(.tmp 96))],Qs,[6,2,5,4,3]⟩,⟨Qr 98,oa 7 128 91 97,Qs,[1,0,7,6,2,5,4,3]⟩,⟨Qr 99,of 3 7,Qs,[8,1,0,7,6,2,5,4,3]⟩,⟨Qs,os 1 99 98,Qs,[9,8,1,0,7,6,2,5,4,3]⟩]
abbrev rX:LN:=[1,6]
abbrev rY(g:SN):ag:=.seq (qS [qm 85 15,qm 86 14,qb 87 .lss 85 86]<|qC 87 (.skip) (.exit 6))<|.seq (.block 7 (.region Qt (aCK g)))<|.region Qu [qm 88 15,qbi 89 .add 88 1,qm 15 89]
abbrev aCL:LN:=[85,86,87,90,91,92,93,94,95,96,97,98,99,88,89,15]
abbrev rZ(g:SN):ag:=.seq (qS [qm 32 6,qm 33 5,qb 34 .lss 32 33]<|qC 34 (.skip) (.exit 0))<|.seq (.block 1 (qS [qq 37 (.bsl 1 [(.str [])] 3 [(0,(.const (.str [102,105,114,115,116]))),(1,(.const (.str [113,50]))),(2,(.const (.str [108,97,115,116])))]),qm 38 6,qi 39 37 38 1,ql 40 1 39,qq 41 (.build [(.str []),(.sl Qt []),(.sl Qt []),(.sl Qt [])] [(0,1,(.tmp 40))]),qq 7 (.alloc [(.str []),(.sl Qt []),(.sl Qt []),(.sl Qt [])]),qs 4 7 41]<|qS [qm 42 3,qc 43 (g "a") [u 42,ui 3],qq 44 (.bin .add .no (ui 1) (u 43)),qm 8 44]<|.seq (qS [qmc 9 z0]<|.block 2 (.loop (rW g)))<|qS [qm 83 3,qc 84 (g "a") [u 83,ui 3],qm 14 84]<|.seq (qS [qmc 15 z0]<|.block 6 (.loop (rY g)))<|.region Qu [qf 100 1 4,ql 101 1 100,qla 102 4 7,qq 103 (.bsl 4 [(.str []),(.sl Qu []),(.sl Qu []),(.sl Qu [])] 1 [(0,(.tmp 102))]),qa 104 4 88 101 103,qf 105 1 4,qs 1 105 104]))<|.region Qu [qm 35 6,qbi 36 .add 35 1,qm 6 36]
abbrev aCM:LN:=[32,33,34,37,38,39,40,41,7,42,43,44,8,9,45,46,47,50,51,52,53,10,54,55,56,57,58,59,60,61,62,11,12,63,64,65,68,69,70,71,13,72,73,74,75,76,77,78,79,80,81,82,66,67,12,48,49,9,83,84,14,15,85,86,87,90,91,92,93,94,95,96,97,98,99,88,89,15,100,101,102,103,104,105,35,36,6]
def pM(g:SN):bw:=⟨107,[2,22,4,7,10,58,13,81,98,104],[.cell 2 2 Qt],qS [qq 2 (.alloc [(.str []),(.sl Qt [])])]<|qS [qm 16 0,qm 17 0,qn 18 17,qq 19 (.mm Qu [(.tmp 18),(.const (vi 400))]),qq 20 (.gw 1 (u 16) Qs (Qr (.tmp 19)) Qs),qq 21 (.build [(.sl Qt []),z0] [(0,1,(.tmp 20))]),qx 22 2 21,qm 3 22]<|qS [qq 23 (.bsl 1 [(.str [])] 3 [(0,(.const (.str [84,101,115,116]))),(1,(.const (.str [89,101,97,114,32,55,44,32,112,97,114,116,32,50]))),(2,(.const (.str [65])))]),qm 24 3,qc 25 (g "a") [u 24,ui 3],qi 26 23 25 1,ql 27 1 26,qq 28 (.build [(.str []),(.sl Qt [])] [(0,1,(.tmp 27))]),qq 4 (.alloc [(.str []),(.sl Qt [])]),qs 2 4 28]<|qS [qm 29 3,qc 30 (g "a") [u 29,ui 3],qq 31 (.bin .add .no (ui 1) (u 30)),qm 5 31]<|.seq (qS [qmc 6 z0]<|.block 0 (.loop (rZ g)))<|qS [qla 106 2 4,qs 2 2 106]<|.ret⟩
structure C6(x:Item):Prop where
 blocks:x.blocks.length<=3
 facts:x.facts.length<=6
 ask:x.ask.length<=2
 block:∀b∈x.blocks,va b
 jd:∀q∈x.ask,uz q
 bne:1<=x.blocks.length
structure vb(x:jm):Prop where
 title:x.title.length<=100
 items:x.items.length<=3
 item:∀i∈x.items,C6 i
 ine:1<=x.items.length
abbrev aYl(v:AV):Prop:=∃x:jm,v=dE x/\x.Ok/\vb x
theorem jt.U2{q:Question}(h:jt q):uz q:=by obtain⟨h1,h2,h3,h4⟩:=h.lens;exact⟨by omega,by omega,h.lk⟩
theorem aQz{A:af}{f:Nat}{args:LA}{P:AV->Prop}(hs:aBt A f args P){l:List Int}{i:Int}{o v:Nat}{H H2:LO}(hl:jP l)(ho:H[o]? = Qr (.box v (aM l i))){site:Option Nat}{q:Bool} {k:AV×LO×LN->Prop} {tg} (hk:∀val i' wr,(wr=[]∨wr=[o])->P val->bnd (dY site q H2 (Qr (val,H.set o (.box v (aM l i')),wr))) k):aCi (dY site q H2 (aG A f (.ptr o v 0::args) H)) k tg:=by obtain⟨val,i',wr,h1,h2,h3⟩:=hs l i o v H hl ho;rw[h1];exact hk val i' wr h2 h3
theorem aEB(b:Block):FW 13 (aE b)=aE b:=CH (by rw[cF];exact AQ _)
theorem aNt(f:Fact):(aI f).length=4:=rfl
theorem aLm(f:Fact):FW 4 (aI f)=aI f:=CH (AQ _)
theorem aQA{A:af}{g:SN}(hh:∀(l:List Fact),l.length<=1000->∀f:Fact,∃b:Bool,∀H,aG A (g "u") [.sl Qu (l.map aI),.agg (aI f)] H=Qr (.bool b,H,[])) {id:Nat} {rows:List LA} {fs:List Fact} (hr:rows=fs.map aI) (Nj:fs.length<=1000) {w:AV} {o:ah} (hg:ew id 4 rows w o) (f:Fact):∃b:Bool,∀H site,H[id]? = Qr o ->cX (aG A) H site (.fn (g "u") [] []) [w,.agg (aI f)]=Qr (.bool b,H,[]):=by
 obtain⟨b,hb⟩:=hh fs Nj f;refine⟨b,fun H site ho=>?_⟩;cases hg with
 |nil=>have dp:=hb H;rw[<- hr]at dp;simp only[go_sem,seval,aS (eL _),aK (eL _),dp]
 |obj ver=>
  have bd:(rows.all fun r=>r.all AV.still)=true:=by rw[hr];exact aT (aC eL _)
  rw[<- hr]at hb;simp only[go_sem,seval,aS (eL _),aK (eL _),ho,bd,hb]
abbrev aNu:LN:=[2,22,4,7,10,58,13,81,98,104]
theorem aVy{A:af}{g:SN}(hf:∀{b:Block},kf b->∀{a:Int},0<=a->a<=1000->aBt A (g "J") [.agg (aE b),vi a] aLj) (hh:∀(l:List Fact),l.length<=1000->∀f:Fact,∃b:Bool,∀H,aG A (g "u") [.sl Qu (l.map aI),.agg (aI f)] H=Qr (.bool b,H,[])) {H:LO} {Q:bf->bN->LO->LN->Prop} {tg} {l:List Int} (hl:jP l) {i:Int} {o0 o2 o5 o6 o7 o8 o9:ah} {v7 v10:Nat} {c0 c1 c2 c3:AV} {b:Block} (hb:kf b) {k:Nat} (hk:k<=10) {n:Int} (gq:0<=n) (hn:n<=2) {fs:List Fact} (I9:fs.length<=10) (k9:∀f∈fs,f.Ok) (hg:ew (H.length+7) 4 (fs.map aI) c2 o7) {ρ:bN} (e3:ρ 3=.ptr (H.length+1) 1 0) (e7:ρ 7=.ptr (H.length+3) v7 0) (e9:ρ 9=vi k) (e10:ρ 10=.ptr (H.length+4) v10 0) (e11:ρ 11=vi n) (e12:ρ 12=vi 0) (hQ:∀ρ' i' o6 o7 c2 (fs':List Fact),(∀t,aCI.contains t=Qu->ρ' t=ρ t)->fs'.length<=fs.length+2->(∀f∈fs',f.Ok)->ew (H.length+7) 4 (fs'.map aI) c2 o7 ->Q (.exit 4) ρ' (H++[o0,.box 1 (aM l i'),o2,.box v7 [c0,c1,c2,c3],.box v10 (aE b),o5,o6,o7,o8,o9]) []):wl A 107 ⟨H.length,aNu⟩ (rV g) ρ (H++[o0,.box 1 (aM l i),o2,.box v7 [c0,c1,c2,c3],.box v10 (aE b),o5,o6,o7,o8,o9]) [] Q tg:=by
 refine bJ (fun j ρ1 H1 wr=>wr=[]/\ρ1 12=vi j/\∃i' o6 o7 c2,∃fs':List Fact,H1=H++[o0,.box 1 (aM l i'),o2,.box v7 [c0,c1,c2,c3],.box v10 (aE b),o5,o6,o7,o8,o9]/\ew (H.length+7) 4 (fs'.map aI) c2 o7/\fs'.length<=fs.length+j/\∀f∈fs',f.Ok) n.toNat
  (fun ρ1 H1 wr=>wr=[]/\∃i' o6 o7 c2,∃fs':List Fact,H1=H++[o0,.box 1 (aM l i'),o2,.box v7 [c0,c1,c2,c3],.box v10 (aE b),o5,o6,o7,o8,o9]/\ew (H.length+7) 4 (fs'.map aI) c2 o7/\fs'.length<=fs.length+2/\∀f∈fs',f.Ok)
  (by kernel_rfl) rfl ⟨rfl,e12,i,o6,o7,c2,fs,rfl,hg,AQ _,k9⟩ ?_ (by
   rintro ρ' H' ba ⟨rfl,i',o6,o7,c2,fs',rfl,hg,h1,h2⟩ hf;exact hQ ρ' i' o6 o7 c2 fs' hf h1 h2 hg)
 rintro j ρ1 H1 dc mo ⟨rfl,e12,i',o6,o7,c2,fs',rfl,hg,gu,il⟩ my;have f3:ρ1 3=.ptr (H.length+1) 1 0:=(my 3 rfl).trans e3;have f7:ρ1 7=.ptr (H.length+3) v7 0:=(my 7 rfl).trans e7;have f9:ρ1 9=vi k:=(my 9 rfl).trans e9;have f10:ρ1 10=.ptr (H.length+4) v10 0:=(my 10 rfl).trans e10;have f11:ρ1 11=vi n:=(my 11 rfl).trans e11;simp only[go_sem,↓aB,seval,f11,e12];refine aD (fun fo=>?_) (fun fo=>?_)
 ·have cr:j<n.toNat:=by simp at fo;omega
  simp only[go_sem,↓aB,seval,f3,f9,f10,cF,aEB,aS (bG _),aK (bG _)];refine aQz (hf hb (a:=(k:Int)) (by omega) (by omega)) hl (i:=i') (by simp only[go_sem,seval]) ?_;rintro val i3 dc ma ⟨f,rfl,Hh⟩;have hw:bE H.length [] dc=[]:=by rcases ma with rfl | rfl<;>simp only[go_sem,seval]
  obtain⟨bb,az⟩:=aQA hh rfl (by omega) hg f;simp only[go_sem,↓aB,seval,az,hw,f7,aNt,aLm,bQ (eL _)];refine aD (fun dp=>?_) (fun dp=>?_)
  ·obtain⟨v',o',eu,db⟩:=hg.app (new:=[aI f]) (bytes:=32) (by simp) (by rfl) (by simp only[AF,AW,AZ];omega);rw[show fs'.map aI++[aI f]=(fs'++[f]).map aI by simp]at eu;simp only[go_sem,↓aB,seval,f7,e12,aNt,aLm,aS (eL _),aK (eL _),bR (eL _),db,eu.ak,eu.aj];rw[dW (by omega)];exact⟨cr,rfl,i3,_,o',v',fs'++[f],rfl,eu,by simp;omega,pS il Hh⟩
  simp only[go_sem,↓aB,seval,e12];rw[dW (by omega)];exact⟨cr,rfl,i3,_,o7,c2,fs',rfl,hg,by omega,il⟩
 have cr:j=n.toNat:=by simp at fo;omega
 subst cr;simp only[go_sem,seval];exact⟨i',o6,o7,c2,fs',rfl,hg,by omega,il⟩
theorem aSA{A:af}{g:SN}(ht:fR A g)(dx:∀{k:Int},0<=k->k<7->dI A (g "Q") [vi k] (aMn k)) (hf:∀{b:Block},kf b->∀{a:Int},0<=a->a<=1000->aBt A (g "J") [.agg (aE b),vi a] aLj) (hh:∀(l:List Fact),l.length<=1000->∀f:Fact,∃b:Bool,∀H,aG A (g "u") [.sl Qu (l.map aI),.agg (aI f)] H=Qr (.bool b,H,[])) {H:LO} {Q:bf->bN->LO->LN->Prop} {tg} {l:List Int} (hl:jP l) {i:Int} {o0 o2 o4 o5 o6 o7 o8 o9:ah} {v7:Nat} {c0 c3:AV} {n:Int} (gq:1<=n) (hn:n<=3) {ρ:bN} (e3:ρ 3=.ptr (H.length+1) 1 0) (e7:ρ 7=.ptr (H.length+3) v7 0) (e8:ρ 8=vi n) (e9:ρ 9=vi 0) (hQ:∀ρ' i' o4 o5 o6 o7 c1 c2 (bs:List Block) (fs:List Fact),(∀t,aCJ.contains t=Qu->ρ' t=ρ t)->1<=bs.length/\bs.length<=3->(∀b∈bs,kf b)->fs.length<=6->(∀f∈fs,f.Ok) ->ew (H.length+5) 13 (bs.map aE) c1 o5->ew (H.length+7) 4 (fs.map aI) c2 o7 ->Q (.exit 2) ρ' (H++[o0,.box 1 (aM l i'),o2,.box v7 [c0,c1,c2,c3],o4,o5,o6,o7,o8,o9]) []):wl A 107 ⟨H.length,aNu⟩ (rW g) ρ (H++[o0,.box 1 (aM l i),o2,.box v7 [c0,.sl Qt [],.sl Qt [],c3],o4,o5,o6,o7,o8,o9]) [] Q tg:=by
 refine bJ (fun j ρ1 H1 wr=>wr=[]/\ρ1 9=vi j/\∃i' o4 o5 o6 o7 c1 c2,∃bs:List Block,∃fs:List Fact,H1=H++[o0,.box 1 (aM l i'),o2,.box v7 [c0,c1,c2,c3],o4,o5,o6,o7,o8,o9] /\
   ew (H.length+5) 13 (bs.map aE) c1 o5/\ew (H.length+7) 4 (fs.map aI) c2 o7/\bs.length=j/\(∀b∈bs,kf b)/\fs.length<=2*j/\∀f∈fs,f.Ok) n.toNat
  (fun ρ1 H1 wr=>wr=[]/\∃i' o4 o5 o6 o7 c1 c2,∃bs:List Block,∃fs:List Fact,H1=H++[o0,.box 1 (aM l i'),o2,.box v7 [c0,c1,c2,c3],o4,o5,o6,o7,o8,o9] /\
   ew (H.length+5) 13 (bs.map aE) c1 o5/\ew (H.length+7) 4 (fs.map aI) c2 o7/\(1<=bs.length/\bs.length<=3)/\(∀b∈bs,kf b)/\fs.length<=6/\∀f∈fs,f.Ok)
  (by kernel_rfl) rfl ⟨rfl,e9,i,o4,o5,o6,o7,.sl Qt [],.sl Qt [],[],[],rfl,.nil _,.nil _,rfl,by simp,by simp,by simp⟩ ?_ (by
   rintro ρ' H' ba ⟨rfl,i',o4,o5,o6,o7,c1,c2,bs,fs,rfl,hg,qu,h1,h2,h3,h4⟩ hf;exact hQ ρ' i' o4 o5 o6 o7 c1 c2 bs fs hf h1 h2 h3 h4 hg qu)
 rintro j ρ1 H1 dc mo ⟨rfl,e9,i',o4,o5,o6,o7,c1,c2,bs,fs,rfl,hg,qu,zo,td,I9,k9⟩ my;have f3:ρ1 3=.ptr (H.length+1) 1 0:=(my 3 rfl).trans e3;have f7:ρ1 7=.ptr (H.length+3) v7 0:=(my 7 rfl).trans e7;have f8:ρ1 8=vi n:=(my 8 rfl).trans e8;simp only[go_sem,↓aB,seval,f8,e9];refine aD (fun fo=>?_) (fun fo=>?_)
 ·have cr:j<n.toNat:=by simp at fo;omega
  simp only[go_sem,↓aB,seval,f3];refine bB (bA ht (m:=7) (by decide)) hl (i:=i') (by simp only[go_sem,seval]) ?_;rintro val i3 ⟨x,rfl,jr,lz⟩;simp only[go_sem,↓aB,seval];refine bB (dx jr lz) hl (i:=i3) (by simp only[go_sem,seval]) ?_;rintro val i4 ⟨b,rfl,P7,Jm⟩;obtain⟨v',o',eu,db⟩:=hg.app (new:=[aE b]) (bytes:=216) (by simp) (by rw[aCj,cF];rfl) (by simp only[AF,AW,AZ];omega);rw[show bs.map aE++[aE b]=(bs++[b]).map aE by simp]at eu;simp only[go_sem,↓aB,seval,f3,f7,cF,aEB,bQ (bG _),aS (bG _),aK (bG _),bR (bG _),db,eu.ak,eu.aj];refine bB (bA ht (m:=2) (by decide)) hl (i:=i4) (by simp only[go_sem,seval]) ?_;rintro val i5 ⟨y,rfl,oj,tc⟩;have zz:AR.wrap (1+y)=1+y:=wrap_i64 (by omega) (by omega);simp only[go_sem,↓aB,seval,zz];refine aVy hf hh hl Jm (k:=j) (by omega) (n:=1+y) (by omega) (by omega) (fs:=fs) (by omega) k9 qu (by simp only[go_sem,seval,f3]) (by simp only[go_sem,seval,f7]) (by simp only[go_sem,seval,e9]) (by simp only[go_sem,seval]) (by simp only[go_sem,seval]) (by simp only[go_sem,seval]) ?_;intro ρ2 i6 o6' o7' c2' fs' cq Nk Hi Hj;have g9:ρ2 9=vi j:=by rw[cq 9 rfl];simp only[go_sem,seval,e9]
  simp only[go_sem,↓aB,seval,g9];rw[dW (by omega)];exact⟨cr,rfl,i6,_,o',o6',o7',v',c2',bs++[b],fs',rfl,eu,Hj,by simp[zo],pS td Jm,by omega,Hi⟩
 have cr:j=n.toNat:=by simp at fo;omega
 subst cr;simp only[go_sem,seval];exact⟨i',o4,o5,o6,o7,c1,c2,bs,fs,rfl,hg,qu,by omega,td,by omega,k9⟩
theorem aVz(q:Question):(gR q).length=7:=rfl
theorem aYm{A:af}{g:SN}(Nl:∀{m:Nat},m<=10->dI A (g "R") [vi m] aBr) {H:LO} {Q:bf->bN->LO->LN->Prop} {tg} {l:List Int} (hl:jP l) {i:Int} {o0 o2 o4 o5 o6 o7 o8 o9:ah} {v7:Nat} {c0 c1 c2:AV} {fs:List Fact} (I9:fs.length<=6) (qu:ew (H.length+7) 4 (fs.map aI) c2 o7) {n:Int} (gq:0<=n) (hn:n<=2) {ρ:bN} (e3:ρ 3=.ptr (H.length+1) 1 0) (e7:ρ 7=.ptr (H.length+3) v7 0) (e14:ρ 14=vi n) (e15:ρ 15=vi 0) (hQ:∀ρ' i' o8 c3 (qs:List Question),(∀t,aCL.contains t=Qu->ρ' t=ρ t)->qs.length<=2->(∀q∈qs,jt q)->ew (H.length+8) 7 (qs.map gR) c3 o8 ->Q (.exit 6) ρ' (H++[o0,.box 1 (aM l i'),o2,.box v7 [c0,c1,c2,c3],o4,o5,o6,o7,o8,o9]) []):wl A 107 ⟨H.length,aNu⟩ (rY g) ρ (H++[o0,.box 1 (aM l i),o2,.box v7 [c0,c1,c2,.sl Qt []],o4,o5,o6,o7,o8,o9]) [] Q tg:=by
 refine bJ (fun j ρ1 H1 wr=>wr=[]/\ρ1 15=vi j/\∃i' o8 c3,∃qs:List Question,H1=H++[o0,.box 1 (aM l i'),o2,.box v7 [c0,c1,c2,c3],o4,o5,o6,o7,o8,o9] /\
   ew (H.length+8) 7 (qs.map gR) c3 o8/\qs.length=j/\∀q∈qs,jt q) n.toNat
  (fun ρ1 H1 wr=>wr=[]/\∃i' o8 c3,∃qs:List Question,H1=H++[o0,.box 1 (aM l i'),o2,.box v7 [c0,c1,c2,c3],o4,o5,o6,o7,o8,o9] /\
   ew (H.length+8) 7 (qs.map gR) c3 o8/\qs.length<=2/\∀q∈qs,jt q)
  (by kernel_rfl) rfl ⟨rfl,e15,i,o8,.sl Qt [],[],rfl,.nil _,rfl,by simp⟩ ?_ (by
   rintro ρ' H' ba ⟨rfl,i',o8,c3,qs,rfl,hg,h1,h2⟩ hf;exact hQ ρ' i' o8 c3 qs hf h1 h2 hg)
 rintro j ρ1 H1 dc mo ⟨rfl,e15,i',o8,c3,qs,rfl,hg,Cs,J0⟩ my;have f3:ρ1 3=.ptr (H.length+1) 1 0:=(my 3 rfl).trans e3;have f7:ρ1 7=.ptr (H.length+3) v7 0:=(my 7 rfl).trans e7;have f14:ρ1 14=vi n:=(my 14 rfl).trans e14;simp only[go_sem,↓aB,seval,f14,e15];refine aD (fun fo=>?_) (fun fo=>?_)
 ·have cr:j<n.toNat:=by simp at fo;omega
  simp only[go_sem,seval];refine aY (aq:=rX) (by rfl) (by rfl) ?_;simp only[go_sem,↓aB,seval,rX,f3,f7,qu.len];refine eB (Nl (m:=fs.length) (by omega)) hl (i:=i') (by simp only[go_sem,seval]) ?_;rintro val i3 ⟨q,rfl,Nn⟩;obtain⟨v',o',eu,db⟩:=hg.app (new:=[gR q]) (bytes:=128) (by simp) (by rfl) (by simp only[AF,AW,AZ];omega);rw[show qs.map gR++[gR q]=(qs++[q]).map gR by simp]at eu;simp only[go_sem,↓aB,seval,f7,e15,aVz,aK (aBI _),bR (aBI _),db,eu.ak,eu.aj,eH,dG,aL];rw[dW (by omega)];exact⟨cr,rfl,i3,o',v',qs++[q],rfl,eu,by simp[Cs],pS J0 Nn⟩
 have cr:j=n.toNat:=by simp at fo;omega
 subst cr;simp only[go_sem,seval];exact⟨i',o8,c3,qs,rfl,hg,by omega,J0⟩
structure Gens(A:af)(g:SN):Prop where
 take:fR A g
 block:∀{k:Int},0<=k->k<7->dI A (g "Q") [vi k] (aMn k)
 fact:∀{b:Block},kf b->∀{a:Int},0<=a->a<=1000->aBt A (g "J") [.agg (aE b),vi a] aLj
 has:∀(l:List Fact),l.length<=1000->∀f:Fact,∃b:Bool,∀H,aG A (g "u") [.sl Qu (l.map aI),.agg (aI f)] H=Qr (.bool b,H,[])
 jd:∀{m:Nat},m<=10->dI A (g "R") [vi m] aBr
abbrev aVA(x:Item):Prop:=x.Ok/\C6 x
theorem aVB{A:af}{g:SN}(G:Gens A g) {H:LO} {Q:bf->bN->LO->LN->Prop} {tg} {l:List Int} (hl:jP l) {i:Int} {o0 o3 o4 o5 o6 o7 o8 o9:ah} {v4:Nat} {c0:AV} {n:Int} (gq:1<=n) (hn:n<=3) {ρ:bN} (e3:ρ 3=.ptr (H.length+1) 1 0) (e4:ρ 4=.ptr (H.length+2) v4 0) (e5:ρ 5=vi n) (e6:ρ 6=vi 0) (hQ:∀ρ' i' o3 o4 o5 o6 o7 o8 o9 c1 (xs:List Item),(∀t,aCM.contains t=Qu->ρ' t=ρ t)->1<=xs.length/\xs.length<=3->(∀x∈xs,aVA x)->ew (H.length+9) 4 (xs.map aO) c1 o9 ->Q (.exit 0) ρ' (H++[o0,.box 1 (aM l i'),.box v4 [c0,c1],o3,o4,o5,o6,o7,o8,o9]) []):wl A 107 ⟨H.length,aNu⟩ (rZ g) ρ (H++[o0,.box 1 (aM l i),.box v4 [c0,.sl Qt []],o3,o4,o5,o6,o7,o8,o9]) [] Q tg:=by
 refine bJ (fun j ρ1 H1 wr=>wr=[]/\ρ1 6=vi j/\∃i' o3 o4 o5 o6 o7 o8 o9 c1,∃xs:List Item,H1=H++[o0,.box 1 (aM l i'),.box v4 [c0,c1],o3,o4,o5,o6,o7,o8,o9] /\
   ew (H.length+9) 4 (xs.map aO) c1 o9/\xs.length=j/\∀x∈xs,aVA x) n.toNat
  (fun ρ1 H1 wr=>wr=[]/\∃i' o3 o4 o5 o6 o7 o8 o9 c1,∃xs:List Item,H1=H++[o0,.box 1 (aM l i'),.box v4 [c0,c1],o3,o4,o5,o6,o7,o8,o9] /\
   ew (H.length+9) 4 (xs.map aO) c1 o9/\(1<=xs.length/\xs.length<=3)/\∀x∈xs,aVA x)
  (by kernel_rfl) rfl ⟨rfl,e6,i,o3,o4,o5,o6,o7,o8,o9,.sl Qt [],[],rfl,.nil _,rfl,by simp⟩ ?_ (by
   rintro ρ' H' ba ⟨rfl,i',o3,o4,o5,o6,o7,o8,o9,c1,xs,rfl,hg,h1,h2⟩ hf;exact hQ ρ' i' o3 o4 o5 o6 o7 o8 o9 c1 xs hf h1 h2 hg)
 rintro j ρ1 H1 dc mo ⟨rfl,e6,i',o3,o4,o5,o6,o7,o8,o9,c1,xs,rfl,hg,n9,xa⟩ my;have f3:ρ1 3=.ptr (H.length+1) 1 0:=(my 3 rfl).trans e3;have f4:ρ1 4=.ptr (H.length+2) v4 0:=(my 4 rfl).trans e4;have f5:ρ1 5=vi n:=(my 5 rfl).trans e5;simp only[go_sem,↓aB,seval,f5,e6];refine aD (fun fo=>?_) (fun fo=>?_)
 ·have cr:j<n.toNat:=by simp at fo;omega
  obtain⟨nm,W6,cx⟩:=aQl [[102,105,114,115,116],[113,50],[108,97,115,116]] (x:=(j:Int)) (by omega) (by simp;omega);simp only[DR,aN,AT]at cx;have O4:nm.length<=60:=by simp only[BD,CC,or_false]at W6;rcases W6 with rfl | rfl | rfl<;>simp
  simp only[go_sem,↓aB,seval,f3,e6,cx];refine bB (bA G.take (m:=3) (by decide)) hl (i:=i') (by simp only[go_sem,seval]) ?_;rintro val i3 ⟨x,rfl,jr,lz⟩;have wk:AR.wrap (1+x)=1+x:=wrap_i64 (by omega) (by omega);simp only[go_sem,↓aB,seval,wk];refine aSA G.take G.block G.fact G.has hl (n:=1+x) (by omega) (by omega) (by simp only[go_sem,seval,f3]) (by simp only[go_sem,seval]) (by simp only[go_sem,seval]) (by simp only[go_sem,seval]) ?_;intro ρ2 i4 p4 p5 p6 p7 d1 d2 bs fs cq zo td I9 k9 Gt Jn;have g3:ρ2 3=.ptr (H.length+1) 1 0:=by rw[cq 3 rfl];simp only[go_sem,seval,f3]
  have g4:ρ2 4=.ptr (H.length+2) v4 0:=by rw[cq 4 rfl];simp only[go_sem,seval,f4]
  have g6:ρ2 6=vi j:=by rw[cq 6 rfl];simp only[go_sem,seval,e6]
  have g7:ρ2 7=.ptr (H.length+3) (o3.ver+1) 0:=by rw[cq 7 rfl];simp only[go_sem,seval]
  simp only[go_sem,↓aB,seval,g3];refine bB (bA G.take (m:=3) (by decide)) hl (i:=i4) (by simp only[go_sem,seval]) ?_;rintro val i5 ⟨y,rfl,oj,tc⟩;simp only[go_sem,↓aB,seval];refine aYm G.jd hl I9 Jn (n:=y) (by omega) (by omega) (by simp only[go_sem,seval,g3]) (by simp only[go_sem,seval,g7]) (by simp only[go_sem,seval]) (by simp only[go_sem,seval]) ?_;intro ρ3 i6 p8 d3 qs im Cs J0 No;have k4:ρ3 4=.ptr (H.length+2) v4 0:=by rw[im 4 rfl];simp only[go_sem,seval,g4]
  have k6:ρ3 6=vi j:=by rw[im 6 rfl];simp only[go_sem,seval,g6]
  have k7:ρ3 7=.ptr (H.length+3) (o3.ver+1) 0:=by rw[im 7 rfl];simp only[go_sem,seval,g7]
  obtain⟨b1,b2,b3,b4,b5,b6⟩:=Gt.dw (aC bG _);obtain⟨q1,q2,q3,q4,q5,q6⟩:=No.dw (aC aBI _);obtain⟨r1,r2,r3,r4,r5,r6⟩:=Jn.dw (aC eL _);obtain⟨v',o',eu,db⟩:=hg.app (new:=[[.str nm,.sl Qu (bs.map aE),.sl Qu (fs.map aI),.sl Qu (qs.map gR)]]) (bytes:=88) (by simp) (by rfl) (by simp only[AF,AW,AZ];omega);rw[show xs.map aO++[[.str nm,.sl Qu (bs.map aE),.sl Qu (fs.map aI),.sl Qu (qs.map gR)]]=(xs++[Item.mk nm bs fs qs]).map aO by simp[aO]]at eu;simp only[go_sem,↓aB,seval,k4,k6,k7,b4,b5,b6,q4,q5,q6,r4,r5,r6,uM,aAS,db,eu.ak,eu.aj];rw[dW (by omega)];refine⟨cr,rfl,i6,_,_,_,_,_,_,o',v',xs++[Item.mk nm bs fs qs],rfl,eu,by simp[n9],pS xa ⟨⟨by show nm.length<=1000;omega,by show bs.length<=16;omega,fun b hb=>(td b hb).ok,by show fs.length<=16;omega,k9,by show qs.length<=16;omega,fun q hq=>(J0 q hq).ok⟩,⟨zo.2,I9,Cs,fun b hb=>(td b hb).U1,fun q hq=>(J0 q hq).U2,zo.1⟩⟩⟩
 have cr:j=n.toNat:=by simp at fo;omega
 subst cr;simp only[go_sem,seval];exact⟨i',o3,o4,o5,o6,o7,o8,o9,c1,xs,rfl,hg,by omega,xa⟩
theorem aQB{A:af}{g:SN}(h:Has A g "ap" (pM g))(G:Gens A g){l:List Int}(hl:jP l)(H:LO):∃v H' wr,aG A (g "ap") [.sl Qu (l.map bF)] H=Qr (v,H',wr)/\(H'=H/\wr=[]/\aYl v):=by
 refine h.bp ?_;have hb:dU l.length Qs (Qr (.int .i64 (if (400:Int)<l.length then 400 else l.length))) Qs=Qr (0,min l.length 400,l.length):=by
  by_cases hc:(400:Int)<l.length
  ·rw[Zy hc];simp only[dU,iL];rw[Zy ⟨by decide,by omega⟩];simp;omega
  rw[Zx hc];simp only[dU,iL];rw[Zy ⟨by omega,by omega⟩];simp;omega
 have hh:dF 1 (l.map bF)=true:=by cases l<;>rfl
 have pk:FW (min l.length 400) (l.map bF)=(l.take (min l.length 400)).map bF:=Pu.symm;have iq:jP (l.take (min l.length 400)):=fun a ha=>hl a (List.mem_of_mem_take ha);generalize l.take (min l.length 400)=l2 at pk iq;simp only[pM];simp only[go_sem,↓aB,seval,hb,hh,pk];refine bB (bA G.take (m:=3) (by decide)) iq (i:=0) (by simp only[go_sem,seval]) ?_;rintro val i1 ⟨x,rfl,jr,lz⟩;obtain⟨nm,W6,cx⟩:=aQl [[84,101,115,116],[89,101,97,114,32,55,44,32,112,97,114,116,32,50],[65]] jr lz;simp only[DR,aN]at cx;have O4:nm.length<=60:=by simp only[BD,CC,or_false]at W6;rcases W6 with rfl | rfl | rfl<;>simp
 simp only[go_sem,↓aB,seval,jr,cx];refine bB (bA G.take (m:=3) (by decide)) iq (i:=i1) (by simp only[go_sem,seval]) ?_;rintro val i2 ⟨y,rfl,oj,tc⟩;have zz:AR.wrap (1+y)=1+y:=wrap_i64 (by omega) (by omega);simp only[go_sem,↓aB,seval,zz];refine aVB G iq (n:=1+y) (by omega) (by omega) (by simp only[go_sem,seval]) (by simp only[go_sem,seval]) (by simp only[go_sem,seval]) (by simp only[go_sem,seval]) ?_;intro ρ2 i3 o3 o4 o5 o6 o7 o8 o9 c1 xs cq n9 xa hg;have g2:ρ2 2=.ptr H.length 1 0:=by rw[cq 2 rfl];simp only[go_sem,seval]
 have g4:ρ2 4=.ptr (H.length+2) 1 0:=by rw[cq 4 rfl];simp only[go_sem,seval]
 obtain⟨b1,b2,b3,b4,b5,b6⟩:=hg.dw (aC dV _);simp only[go_sem,↓aB,seval,g2,g4,hg.ak,b4,b5,b6,aA (aC dV _)];exact⟨jm.mk nm xs,rfl,⟨by show nm.length<=1000;omega,by show xs.length<=16;omega,fun i hi=>(xa i hi).1⟩,⟨by show nm.length<=100;omega,n9.2,fun i hi=>(xa i hi).2,n9.1⟩⟩
abbrev sI(g:SN):List ae:=[qla 22 2 9,qla 23 2 9,qm 24 1,qm 25 2,qm 26 3,⟨Qr 27,oc (g "aq") [u 23,u 24,u 25,u 26],Qs,[1,2,3,4]⟩,⟨Qr 28,.bsl 2 [(.str []),(.sl Qu [])] 2 [(0,(.tmp 22)),(1,(.tmp 27))],Qs,[0,5,1,2,3,4]⟩,⟨Qr 10,om 28,Qs,[6,0,5,1,2,3,4]⟩]
abbrev lM:LN:=[0,5]
abbrev sJ(g:SN):List ae:=[qm 81 12,qm 82 14,⟨Qr 83,oi 81 82 1,Qs,[0,1]⟩,⟨Qr 84,ol 1 83,Qs,[2,0,1]⟩,⟨Qr 85,on 84,Qs,[3,2,0,1]⟩,qf 86 2 15,⟨Qr 87,ol 1 86,Qs,[5]⟩,⟨Qr 88,on 87,Qs,[6,5]⟩,⟨Qr 89,ob .neq 85 88,Qs,[4,3,2,0,1,7,6,5]⟩]
abbrev lN:LN:=[]
abbrev sK(g:SN):List ae:=[qla 97 4 15,qm 98 16,qm 99 17,⟨Qr 100,oi 98 99 4,Qs,[1,2]⟩,⟨Qr 101,ola 4 100,Qs,[3,1,2]⟩,⟨Qr 102,oc (g "aO") [u 97,u 101],Qs,[0,4,3,1,2]⟩,⟨Qr 96,om 102,Qs,[5,0,4,3,1,2]⟩,⟨Qr 103,.ext 0 (u 96),Qs,[6,5,0,4,3,1,2]⟩,⟨Qr 104,.ext 1 (u 96),Qs,[6,5,0,4,3,1,2]⟩,⟨Qr 18,om 103,Qs,[7,6,5,0,4,3,1,2]⟩,⟨Qr 19,om 104,Qs,[8,9,7,6,5,0,4,3,1,2]⟩]
abbrev lO:LN:=[]
abbrev sL(g:SN):ag:=.seq (qS [qm 90 17,qm 91 16,qn 92 91,qb 93 .lss 90 92]<|qC 93 (.skip) (.exit 4))<|.seq (.block 5 (.seq (.region Qt (sK g))<|qS [qm 105 19,qbi 106 .neq 105 0]<|qC 106 (qS [qmc 8 (.bool Qu)]<|.ret) (.skip)))<|.region Qu [qm 94 17,qbi 95 .add 94 1,qm 17 95]
abbrev sM(g:SN):ag:=.seq (qS [qm 61 14,qm 62 10,qm 63 11,qi 64 62 63 2,qf 65 1 64,ql 66 1 65,qn 67 66,qb 68 .lss 61 67]<|qC 68 (.skip) (.exit 2))<|.seq (.block 3 (qS [qm 71 10,qm 72 11,qi 73 71 72 2,qf 74 1 73,ql 75 1 74,qm 76 14,qi 77 75 76 4,qla 78 4 77,qq 15 (.alloc [(.str []),(.sl Qt []),(.sl Qt []),(.sl Qt [])]),qs 4 15 78]<|qS [qla 79 4 15,qc 80 (g "B") [u 79],qm 16 80]<|.seq (.seq (.region Qt (sJ g))<|qC 89 (qS [qmc 8 (.bool Qu)]<|.ret) (.skip))<|qS [qmc 17 z0]<|.block 4 (.loop (sL g))))<|.region Qu [qm 69 14,qbi 70 .add 69 1,qm 14 70]
abbrev sN(g:SN):ag:=.seq (qS [qm 29 11,qbi 30 .lss 29 2]<|qC 30 (.skip) (.exit 0))<|.seq (.block 1 (.seq (qS [qm 33 10,qm 34 11,qi 35 33 34 2,qla 36 2 35,qc 37 (g "F") [u 36],qn 38 37,qbi 39 .gtr 38 0]<|qC 39 (.exit 1) (.skip))<|qS [qm 41 10,qm 42 11,qi 43 41 42 2,qla 44 2 43,qc 45 (g "aN") [u 44],qm 40 45,qq 46 (.ext 0 (u 40)),qq 47 (.ext 1 (u 40)),qm 12 46,qm 13 47]<|.seq (qS [qm 48 13,qbi 49 .neq 48 0,qm 50 49,qF 51 50 (om 12),qF 52 50 (on 51),qF 53 50 (om 10),qF 54 50 (om 11),qF 55 50 (oi 53 54 2),qF 56 50 (of 1 55),qF 57 50 (ol 1 56),qF 58 50 (on 57),qF 59 50 (ob .neq 52 58),qq 60 (.pick (u 50) uT (u 59))]<|qC 60 (qS [qmc 8 (.bool Qu)]<|.ret) (.skip))<|qS [qmc 14 z0]<|.block 2 (.loop (sM g))))<|.region Qu [qm 31 11,qbi 32 .add 31 1,qm 11 32]
def jK(g:SN):bw:=⟨108,[9,15],[.tmp 8],qS [qmc 8 (.bool Qu)]<|qS [qm 20 0,qc 21 (g "ap") [u 20],qq 9 (.alloc [(.str []),(.sl Qt [])]),qs 2 9 21]<|.seq (.region Qt (sI g))<|.seq (qS [qmc 11 z0]<|.block 0 (.loop (sN g)))<|qS [qc 107 (g "bq") [],qm 8 107]<|.ret⟩
structure wq(E:Int->Int->List Shape->Int)(x:jm):Prop where
 blocks:∀it∈x.items,∀b∈it.blocks,dQ b=Qt/\nU E b=0
 told:∀it∈x.items,∀f∈it.facts,Told E it f
def wO(x:jm):LA:=[.str x.title,.sl Qu (x.items.map aO)]
structure ng(A:af)(g:SN)(E:Int->Int->List Shape->Int)(tB tP:Nat):Prop where
 J3:∀{l:List Int},jP l->∀H,∃x:jm,aG A (g "ap") [.sl Qu (l.map bF)] H=Qr (dE x,H,[])/\x.Ok/\vb x
 spoilt:∀{x:jm},x.Ok->vb x->∀{at' how by':Int},eA at'->eA by'->∀H,∃x':jm,aG A (g "aq") [dE x,vi at',vi how,vi by'] H=Qr (dE x',H,[])/\x'.Ok
 check:∀{x:jm},x.Ok->∀H,∃r rows,aG A (g "F") [dE x] H=Qr (r,H,[])/\(r=.own 4 rows∨r=.sl Qu rows∨(r=.ar/\rows=[]))/\(rows=[]->wq E x)
 val:yc A g E tB tP
 full:oh A g tB
 facts:Has A g "aN" (tM g)
 wu:∀H,aG A (g "bq") [] H=Qr (.bool Qt,H,[])
theorem aMo{E:Int->Int->List Shape->Int}{x:Item}(h:∀b∈x.blocks,dQ b=Qt/\nU E b=0){f:Fact}(hf:f∈tI x):Told E x f:=by unfold tI mI at hf;obtain⟨k,hk,hf⟩:=List.mem_flatMap.1 hf;have hk:=List.mem_range.1 hk;rw[AP hk]at hf;dsimp only at hf;obtain⟨j,hj,hh,p,hp,rfl⟩:=aCE hf;refine⟨by show (0:Int)<=(k:Int);omega,by show (k:Int)<_;omega,fun b hb=>?_⟩;have e:x.blocks[k]? = Qr b:=hb;rw[AP hk]at e;cases e;obtain⟨h1,h2⟩:=h _ (AS hk);exact⟨h1,h2,hf⟩
section
variable {A:af}{g:SN}{E:Int->Int->List Shape->Int}{tB tP:Nat}
theorem aVC(S:ng A g E tB tP)(it:Item)(hi:it.Ok)(hg:∀b∈it.blocks,dQ b=Qt/\nU E b=0)(H:LO):∃R:List Fact,aG A (g "B") [.agg (aO it)] H=Qr (aSo R,H,[])/\(∀f∈R,Told E it f)/\R.length<=100000:=by
 obtain⟨R,h1,h2⟩:=aH7 S.val.hold.fam S.val.hold.facts S.val.hold.usable it hi (P:=True) (P':=False) (fun H=>by
  obtain⟨e,h1,_⟩:=aTh S.full ⟨[120],[it]⟩ ⟨(by show ([120]:Str).length<=1000;decide),by show ([it]:List Item).length<=16;simp,fun i hm=>by rw[CG.1 hm];exact hi⟩ H;exact⟨e,h1,fun _=>trivial,fun h=>h.elim⟩) H
 have h2:(R=[]∨R=tI it):=h2.elim (fun h=>.inl h.1) (fun h=>.inr h.2);refine⟨R,h1, ?_⟩;rcases h2 with rfl | rfl
 ·exact⟨fun f hf=>(by cases hf),Nat.zero_le _⟩
 have h3:=aEA hi.blocks it.blocks.length (AQ _);have h4:=hi.zq;exact⟨fun f hf=>aMo hg hf,by show (mI it.blocks it.blocks.length).length<=_;omega⟩
theorem aQC(S:ng A g E tB tP)(h:Has A g "bj" (jK g)){l:List Int}(hl:jP l){at' how by':Int}(jk:eA at')(rh:eA by')(H:LO):aG A (g "bj") [.sl Qu (l.map bF),vi at',vi how,vi by'] H=Qr (.bool Qt,H,[]):=by
 refine h.call ?_;obtain⟨x,lz,C9,Jj⟩:=S.J3 hl (H++[.gone 0,.gone 0]);obtain⟨x',lq,nu⟩:=S.spoilt C9 Jj (how:=how) jk rh (H++[.box 1 (wO x),.gone 0]);simp only[jK];simp only[dE,wO]at lz lq;simp only[go_sem,↓aB,seval,lz,AD,AE];refine aY (aq:=lM) (by rfl) (by rfl) ?_;simp only[go_sem,↓aB,seval,lM,lq,eH,dG,aL,AD,AA,AE];have re:∀y∈[x,x'],y.Ok:=fun y hy=>by
  rcases BD.1 hy with rfl | hy
  ·exact C9
  rw[CG.1 hy];exact nu
 have cn:[[AV.str x.title,AV.sl Qu (x.items.map aO)],[AV.str x'.title,AV.sl Qu (x'.items.map aO)]]=([x,x']:List jm).map wO:=rfl;rw[cn];generalize hX:([x,x']:List jm)=xs at *;have n9:xs.length=2:=by rw[<- hX];rfl
 generalize ah.box 1 [AV.str x.title,AV.sl Qu (x.items.map aO)]=o0;refine bJ (id:=0) (fun i ρ1 H1 wr=>wr=[]/\ρ1 11=vi (i:Nat)/\∃o1,H1=H++[o0,o1]) 2 (fun ρ1 H1 wr=>wr=[]/\∃o1,H1=H++[o0,o1]) (by kernel_rfl) rfl ⟨rfl,rfl,_,rfl⟩ ?_ ?_
 ·rintro i ρ1 H1 dc mg ⟨rfl,e11,o1,rfl⟩ hf;have f10:ρ1 10=.sl Qt (xs.map wO):=hf 10 rfl;simp only[go_sem,↓aB,seval,e11];refine aD (fun e3=>?_) (fun e3=>?_)
  ·have hlt:i<xs.length:=by simp at e3;omega
   have dy:=wS (i:=i) (by omega);have cj:=mgE wO hlt;have De:=re _ (AS hlt);generalize xs[i]=y at *;obtain⟨r,rows,mj,nc,Z4⟩:=S.check De (H++[o0,o1]);simp only[dE]at mj;have sw:i<2:=by omega
   cases rows with
   |cons row rs=>
    have hz:decide (((rs.length+1:Nat):Int)>0)=true:=by simp
    rcases nc with rfl | rfl | ⟨_,nc⟩
    ·simp only[go_sem,↓aB,seval,e11,f10,cj,wO,mj,dy,AU,AT,AD,AA,AE,AW,hz];exact⟨sw,o1,rfl⟩
    ·simp only[go_sem,↓aB,seval,e11,f10,cj,wO,mj,dy,AU,AT,AD,AA,AE,AW,hz];exact⟨sw,o1,rfl⟩
    cases nc
   |nil=>
    have hG:=Z4 rfl;obtain⟨R,J2,Jo⟩:=aJH S.val S.facts y De hG.told (H++[o0,o1]);simp only[dE]at Jo;have ax:R.length=y.items.length:=by have:=congrArg FN J2;simpa using this
    have bl:((R.length:Int) != (y.items.length:Int))=false:=by rw[ax];simp
    have tl:(hU R).length=R.length:=by unfold hU;rw[AF]
    have Bm:=De.G8;have Hk:aG A (g "F") [.agg [.str y.title,.sl Qu (y.items.map aO)]] (H++[o0,o1])=Qr (.sl Qu [],H++[o0,o1],[])∨aG A (g "F") [.agg [.str y.title,.sl Qu (y.items.map aO)]] (H++[o0,o1])=Qr (.own 4 [],H++[o0,o1],[])∨aG A (g "F") [.agg [.str y.title,.sl Qu (y.items.map aO)]] (H++[o0,o1])=Qr (.ar,H++[o0,o1],[]):=by
     rcases nc with rfl | rfl | ⟨rfl,_⟩
     ·exact .inr (.inl mj)
     ·exact .inl mj
     exact .inr (.inr mj)
    rcases Hk with mj | mj | mj
    all_goals
     simp only[go_sem,↓aB,seval,e11,f10,cj,wO,mj,Jo,tl,bl,AF,AU,AT,AD,AB,AA,AE,Zz,AZ];refine bJ (id:=2) (fun k ρ2 H2 wr=>wr=[]/\ρ2 14=vi (k:Nat)/\∃o1,H2=H++[o0,o1]) y.items.length (fun ρ2 H2 wr=>wr=[]/\∃o1,H2=H++[o0,o1]) (by kernel_rfl) rfl ⟨rfl,rfl,_,rfl⟩ ?_ ?_
     ·rintro k ρ2 H2 en zp ⟨rfl,e14,p1,rfl⟩ cq;have g10:ρ2 10=.sl Qt (xs.map wO):=(cq 10 rfl).trans f10;have g11:ρ2 11=vi (i:Nat):=(cq 11 rfl).trans e11;have g12:ρ2 12=.sl Qu (hU R):=cq 12 rfl;have gn:=wS (i:=k) (by omega);simp only[go_sem,↓aB,seval,e14,g10,g11,cj,wO,AF,AU,PN,AT,AD,AB,AA,AE];refine aD (fun e4=>?_) (fun e4=>?_)
      ·have klt:k<y.items.length:=by simp at e4;omega
       have kR:k<R.length:=by omega
       have aIc:=mgE aO klt;have kR2:(hU R)[k]? = Qr [.sl Qu (R[k].map aN)]:=by unfold hU;rw[BN,AP kR];rfl
       have Np:R[k].length=y.items[k].facts.length:=by have:=congrArg (fun l=>l[k]?) J2;simp only[BN,AP kR,AP klt,Option.map_some]at this;exact DZ this
       have kio:=De.items _ (AS klt);have kbl:=hG.blocks _ (AS klt);generalize R[k]=Rk at *;generalize y.items[k]=it at *;obtain⟨U,yi,X5,Pn⟩:=aVC S it kio kbl (H++[o0,.box (p1.ver+1) (aO it)]);have ya:((Rk.length:Int) != (it.facts.length:Int))=false:=by rw[Np];simp
       have By:aG A (g "B") [.agg (aO it)] (H++[o0,.box (p1.ver+1) (aO it)])=Qr (.sl Qu (U.map aI),H++[o0,.box (p1.ver+1) (aO it)],[])∨aG A (g "B") [.agg (aO it)] (H++[o0,.box (p1.ver+1) (aO it)])=Qr (.own 4 (U.map aI),H++[o0,.box (p1.ver+1) (aO it)],[]):=by
        cases U with
        |nil=>exact .inl yi
        |cons a r=>exact .inr yi
       have kp:=fun f hf H=>aIH S.val it kio f (X5 f hf) H;simp only[aO]at By aIc kp;rcases By with yi | yi
       all_goals
        simp only[go_sem,↓aB,seval,e14,g10,g11,cj,wO,aIc,klt,yi,AU,AT,AD,AB,AA,AE];refine aY (aq:=lN) (by rfl) (by rfl) ?_;simp only[go_sem,↓aB,seval,lN,g12,e14,kR2,ya,AF,AU,AT,AD,AB,AA,AE];refine bJ (id:=4) (fun j ρ4 H4 wr=>wr=[]/\ρ4 17=vi (j:Nat)/\H4=H++[o0,.box (p1.ver+1) [.str it.name,.sl Qu (it.blocks.map aE),.sl Qu (it.facts.map aI),.sl Qu (it.ask.map gR)]]) U.length (fun ρ4 H4 wr=>wr=[]/\H4=H++[o0,.box (p1.ver+1) [.str it.name,.sl Qu (it.blocks.map aE),.sl Qu (it.facts.map aI),.sl Qu (it.ask.map gR)]]) (by kernel_rfl) rfl ⟨rfl,rfl,rfl⟩ ?_ ?_
        ·rintro j ρ4 H4 wr4 mo ⟨rfl,e17,rfl⟩ I3;have m15:ρ4 15=.ptr (H.length+1) (p1.ver+1) 0:=I3 15 rfl;have m16:ρ4 16=.sl Qu (U.map aI):=I3 16 rfl;have As:=wS (i:=j) (by omega);simp only[go_sem,↓aB,seval,e17,m16,AF,PN];refine aD (fun e5=>?_) (fun e5=>?_)
         ·have jlt:j<U.length:=by simp at e5;omega
          have fh:=mgE aI jlt;obtain⟨s,hv⟩:=kp _ (AS jlt) (H++[o0,.box (p1.ver+1) [.str it.name,.sl Qu (it.blocks.map aE),.sl Qu (it.facts.map aI),.sl Qu (it.ask.map gR)]]);generalize U[j]=f at *;simp only[aI]at hv fh;simp only[go_sem,seval];refine aY (aq:=lO) (by rfl) (by rfl) ?_;simp only[go_sem,↓aB,seval,lO,e17,m15,m16,fh,jlt,hv,As,AU,AT,AD,AA,AE]
         have:j=U.length:=by simp at e5;omega
         subst this;simp only[go_sem,seval]
        rintro ρ5 H5 wr5 ⟨rfl,rfl⟩ I3;have n14:ρ5 14=vi (k:Nat):=(I3 14 rfl).trans e14;simp only[go_sem,↓aB,seval,n14,gn];exact⟨klt,_,rfl⟩
      have:k=y.items.length:=by simp at e4;omega
      subst this;simp only[go_sem,seval];exact⟨p1,rfl⟩
     rintro ρ3 H3 wr3 ⟨rfl,p1,rfl⟩ cq;have g11:ρ3 11=vi (i:Nat):=(cq 11 rfl).trans e11;simp only[go_sem,↓aB,seval,g11,dy];exact⟨sw,p1,rfl⟩
  have:i=2:=by simp at e3;omega
  subst this;simp only[go_sem,seval];exact⟨o1,rfl⟩
 rintro ρ' H' ba ⟨rfl,o1,rfl⟩ hf;have E4:=S.wu (H++[o0,o1]);simp only[go_sem,↓aB,seval,E4]
end
abbrev aHm(g:SN):ag:=qS [qb 42 .lss 41 40]<|.seq (qC 42 (.skip) (.exit 2))<|.seq (.block 3 (qS [qm 43 41,qi 44 39 41 13,qla 45 13 44,qq 8 (.alloc [z0,.ar,z0,z0,.ar,z0,.ar,.ar,z0,z0,.ar,.ar,.ar]),qm 7 43,qs 13 8 45]<|.region Qu [qm 46 4,qm 47 5,qm 48 7,qla 49 13 8,qc 50 (g "bN") [u 49],qq 51 (.build [z0,z0,z0,z0] [(0,1,(.tmp 47)),(1,1,(.const (vi 1))),(2,1,(.tmp 48)),(3,1,(.tmp 50))]),qq 52 (.bsl 4 [z0,z0,z0,z0] 1 [(0,(.tmp 51))]),qq 53 (.ee (uf (g "g")) [(.tmp 46),(.tmp 52)]),qm 4 53]))<|.region Qu [qbi 54 .add 41 1,qm 41 54]
abbrev aHn(g:SN):ag:=qS [qb 59 .lss 58 57]<|.seq (qC 59 (.skip) (.exit 4))<|.seq (.block 5 (qS [qm 60 58,qm 9 60]<|.region Qu [qm 61 4,qm 62 5,qm 63 9,qla 64 4 6,qm 65 9,qc 66 (g "aY") [u 64,u 65],qq 67 (.build [z0,z0,z0,z0] [(0,1,(.tmp 62)),(1,1,(.const (vi 2))),(2,1,(.tmp 63)),(3,1,(.tmp 66))]),qq 68 (.bsl 4 [z0,z0,z0,z0] 1 [(0,(.tmp 67))]),qq 69 (.ee (uf (g "g")) [(.tmp 61),(.tmp 68)]),qm 4 69]))<|.region Qu [qbi 70 .add 58 1,qm 58 70]
abbrev aHo(g:SN):ag:=qS [qb 75 .lss 74 73]<|.seq (qC 75 (.skip) (.exit 6))<|.seq (.block 7 (qS [qm 76 74,qi 77 72 74 7,qla 78 7 77,qq 11 (.alloc [z0,.ar,.ar,.ar,(.str []),z0,.ar]),qm 10 76,qs 7 11 78]<|.region Qu [qm 79 4,qm 80 5,qm 81 10,qla 82 4 6,qla 83 7 11,qc 84 (g "aZ") [u 82,u 83],qq 85 (.build [z0,z0,z0,z0] [(0,1,(.tmp 80)),(1,1,(.const (vi 3))),(2,1,(.tmp 81)),(3,1,(.tmp 84))]),qq 86 (.bsl 4 [z0,z0,z0,z0] 1 [(0,(.tmp 85))]),qq 87 (.ee (uf (g "g")) [(.tmp 79),(.tmp 86)]),qm 4 87]))<|.region Qu [qbi 88 .add 74 1,qm 74 88]
abbrev aHp(g:SN):ag:=qS [qb 23 .lss 22 21]<|.seq (qC 23 (.skip) (.exit 0))<|.seq (.block 1 (qS [qm 24 22,qi 25 20 22 4,qla 26 4 25,qq 6 (.alloc [(.str []),.ar,.ar,.ar]),qm 5 24,qs 4 6 26]<|.seq (qS [qf 27 1 1,ql 28 1 27,qm 29 5,qq 30 (.gw 4 (u 28) Qs (Qr (.tmp 29)) Qs),qq 31 (.mkf (g "O") [] [(.tmp 6)]),qc 32 (g "bf") [u 30,u 31]]<|qC 32 (qR [qm 33 4,qm 34 5,qq 35 (.build [z0,z0,z0,z0] [(0,1,(.tmp 34)),(1,1,(.const z0)),(2,1,(.const (.int .i64 (-1)))),(3,1,(.const (vi 7)))]),qq 36 (.bsl 4 [z0,z0,z0,z0] 1 [(0,(.tmp 35))]),qq 37 (.ee (uf (g "g")) [(.tmp 33),(.tmp 36)]),qm 4 37]) (.skip))<|.seq (qS [qf 38 1 6,ql 39 1 38,qn 40 39,qmc 41 z0]<|.block 2 (.loop (aHm g)))<|.seq (qS [qf 55 2 6,ql 56 1 55,qn 57 56,qmc 58 z0]<|.block 4 (.loop (aHn g)))<|qS [qf 71 3 6,ql 72 1 71,qn 73 72,qmc 74 z0]<|.block 6 (.loop (aHo g))))<|.region Qu [qbi 89 .add 22 1,qm 22 89]
def aB4(g:SN):bw:=⟨91,[1,6,8,11,36,37,52,53,68,69,86,87],[.tmp 2],qS [qx 1 2 0,qmc 2 .ar]<|.seq (qS [qla 12 2 1,qc 13 (g "z") [u 12],qm 3 13]<|qS [qm 14 3,qbi 15 .neq 14 0]<|qC 15 (qS [qm 16 3,qq 17 (.build [z0,z0,z0,z0] [(0,1,(.const (.int .i64 (-1)))),(1,1,(.const z0)),(2,1,(.const (.int .i64 (-1)))),(3,1,(.tmp 16))]),qq 18 (.bsl 4 [z0,z0,z0,z0] 1 [(0,(.tmp 17))]),qm 2 18]<|.ret) (.skip))<|qS [qmc 4 .ar]<|.seq (qS [qf 19 1 1,ql 20 1 19,qn 21 20,qmc 22 z0]<|.block 0 (.loop (aHp g)))<|qS [qm 90 4,qm 2 90]<|.ret⟩
def aIL(it:Item)(f:Fact):Prop:=0<=f.block/\f.block<it.blocks.length/\∀b,it.blocks[f.block.toNat]? = Qr b->f∈eM b f.block
def aHT(E:Int->Int->List Shape->Int)(it:Item):Prop:=(∀b∈it.blocks,nU E b=0)/\∀f∈it.facts,aIL it f
def CI(H:LO)(X0 X1:ah)(N:Nat)(Q:Prop)(l:AV)(X:LO):Prop:=∃x2 x3 x4 x5 x6 x7 x8 x9 x10 x11 rows,X=H++[X0,X1,x2,x3,x4,x5,x6,x7,x8,x9,x10,x11]/\PS H.length l rows [X0,X1,x2,x3,x4,x5,x6,x7,x8,x9,x10,x11]/\rows.length<=N/\(rows=[]->Q)
structure N1(A:af)(g:SN)(E:Int->Int->List Shape->Int):Prop where
 valid:∀{x:jm},x.Ok->∀H,∃e:Int,aG A (g "z") [dE x] H=Qr (vi e,H,[])/\(e=0->∀it∈x.items,aGU it=Qt)
 same:∀(x:Item) (l:List Item),l.length<=1000->∀{H:LO} {o v:Nat},H[o]? = Qr (.box v (aO x))->∃r:Bool,aG A (g "bf") [.sl Qu (l.map aO),.fn (g "O") [] [.ptr o v 0]] H=Qr (.bool r,H,[])
 block:∀(b:Block),b.Ok->dQ b=Qt->∀H,∃e:Int,aG A (g "bN") [.agg (aE b)] H=Qr (vi e,H,[])/\(e=0->nU E b=0)
 fact:∀(it:Item),it.Ok->∀(j:Nat) (hj:j<it.facts.length),aHJ it.facts[j]=Qt->∀H,∃e:Int,aG A (g "aY") [.agg (aO it),vi j] H=Qr (vi e,H,[])/\(e=0->aIL it it.facts[j])
 jd:∀(it:Item),it.Ok->∀(q:Question),q.Ok->∀H,∃e:Int,aG A (g "aZ") [.agg (aO it),.agg (gR q)] H=Qr (vi e,H,[])
 del:aAZ A g
 add:Has A g "g" (iJ g)
 check:Has A g "F" (aB4 g)
section
variable {A:af}{g:SN}{E:Int->Int->List Shape->Int}
theorem aEC{it:Item}(h:aGU it=Qt):(∀b∈it.blocks,dQ b=Qt)/\∀f∈it.facts,aHJ f=true:=by unfold aGU at h;simp only[AI,AO]at h;exact⟨h.1.1.2.2,h.1.2.2⟩
theorem aSB{E:Int->Int->List Shape->Int}{x:jm}(hv:∀it∈x.items,aGU it=Qt)(h:∀it∈x.items,aHT E it):wq E x where
 blocks:=fun it hi b hb=>⟨(aEC (hv it hi)).1 b hb,(h it hi).1 b hb⟩
 told:=fun it hi f hf=>by
  obtain⟨h1,h2,h3⟩:=(h it hi).2 f hf;refine⟨h1,h2,fun b hb=>?_⟩;have hm:=List.mem_of_getElem? hb;exact⟨(aEC (hv it hi)).1 b hm,(h it hi).1 b hm,h3 b hb⟩
theorem aQD(F:N1 A g E){x:jm}(hx:x.Ok)(H:LO):∃r rows,aG A (g "F") [dE x] H=Qr (r,H,[])/\(r=.own 4 rows∨r=.sl Qu rows∨(r=.ar/\rows=[]))/\(rows=[]->wq E x):=by
 obtain⟨v,H',wr,h1,rfl,rfl,m,h2,h3⟩:=F.check.bp (args:=[dE x]) (H:=H) (K:=fun v H' wr=>wr=[]/\H'=H/\∃rows,(v=.own 4 rows∨v=.sl Qu rows∨(v=.ar/\rows=[]))/\(rows=[]->wq E x)) (by
  obtain⟨e,he,hv⟩:=F.valid hx (H++[.box 1 (wO x),.gone 0,.gone 0,.gone 0,.gone 0,.gone 0,.gone 0,.gone 0,.gone 0,.gone 0,.gone 0,.gone 0]);simp only[aB4];simp only[dE,wO]at he ⊢;cases e1:(e != 0)with
  |true=>simp only[go_sem,↓aB,seval,he,e1,AD,AB,AA,AE];exact⟨_,.inr (.inl rfl),fun h=>by cases h⟩
  |false=>
   have hv:=hv (by simpa using e1);have Po:=hx.G8;simp only[go_sem,↓aB,seval,he,e1,AD,AB,AA,AE,AF];refine bJ (id:=0) (fun i ρ1 H1 wr=>wr=[]/\ρ1 22=vi (i:Nat)/\∃X1,CI H (.box 1 [.str x.title,.sl Qu (x.items.map aO)]) X1 (1000*i) (∀it∈x.items.take i,aHT E it) (ρ1 4) H1) x.items.length
    (fun ρ1 H1 wr=>wr=[]/\∃X1,CI H (.box 1 [.str x.title,.sl Qu (x.items.map aO)]) X1 16000 (∀it∈x.items,aHT E it) (ρ1 4) H1) (by kernel_rfl) rfl ⟨rfl,rfl,_,_,_,_,_,_,_,_,_,_,_,[],rfl,.inl ⟨rfl,rfl⟩,by simp,fun _ it h=>by simp at h⟩ ?_ ?_
   ·rintro i ρ1 H1 dc mg ⟨rfl,e22,X1,x2,x3,x4,x5,x6,x7,x8,x9,x10,x11,rows,rfl,hp,ax,hg⟩ hf;have f1:ρ1 1=.ptr H.length 1 0:=hf 1 rfl;have f20:ρ1 20=.sl Qu (x.items.map aO):=hf 20 rfl;have f21:ρ1 21=vi (x.items.length:Nat):=hf 21 rfl;simp only[go_sem,↓aB,seval,e22,f21];refine aD (fun e3=>?_) (fun e3=>?_);rotate_left
    ·have:i=x.items.length:=by simp at e3;omega
     subst this;simp only[go_sem,seval];exact⟨X1,x2,x3,x4,x5,x6,x7,x8,x9,x10,x11,rows,rfl,hp,by omega,fun h=>by have:=hg h;rwa [DM]at this⟩
    have hlt:i<x.items.length:=by simp at e3;omega
    have dy:=wS (i:=i) (by omega);have cj:=mgE aO hlt;have pk:x.items.take (i+1)=x.items.take i++[x.items[i]]:=EW hlt;have Nq:(x.items.map aO).take i=(x.items.take i).map aO:=Pu.symm;have kh:=hx.items _ (AS hlt);have W5:=aEC (hv _ (AS hlt));generalize x.items[i]=it at *;have Pp:=kh.zq;have Mt:=kh.B1;have Lr:=kh.tj;obtain⟨r,hr⟩:=F.same it (x.items.take i) (by simp;omega) (H:=H++[.box 1 [.str x.title,.sl Qu (x.items.map aO)],.box (X1.ver+1) (aO it),x2,x3,x4,x5,x6,x7,x8,x9,x10,x11]) (o:=H.length+1) (v:=X1.ver+1) (by rw[bX];rfl);simp only[aO]at hr cj;have Fp:dU x.items.length Qs (Qr (vi (i:Int))) Qs=Qr (0,i,x.items.length):=by simp[dU,iL,Nat.le_of_lt hlt]
    have tz:dF 4 (x.items.map aO)=true:=by cases x.items<;>rfl
    rw[<- Nq]at hr;simp only[go_sem,↓aB,seval,e22,f1,f20,AF,AU,AT,hlt,cj,AD,AB,AA,AE,hr,Fp,tz];refine xX (W:=[33,34,35,36,37,4]) (fun ρ' H1 wr=>wr=[]/\CI H (.box 1 [.str x.title,.sl Qu (x.items.map aO)]) (.box (X1.ver+1) [.str it.name,.sl Qu (it.blocks.map aE),.sl Qu (it.facts.map aI),.sl Qu (it.ask.map gR)]) (1000*i+1) (∀it∈x.items.take i,aHT E it) (ρ' 4) H1) (by rfl) (fun er=>?_) (fun er=>?_) ?_
    ·obtain⟨l',y4,y5,y6,y7,y8,y9,y10,y11,ba,bt,ji,ma,xn,kg,hz⟩:=aFG F.del F.add (H:=H) (hp.sq:PS H.length _ rows [.box 1 [.str x.title,.sl Qu (x.items.map aO)],.box (X1.ver+1) [.str it.name,.sl Qu (it.blocks.map aE),.sl Qu (it.facts.map aI),.sl Qu (it.ask.map gR)],x2,x3,.vec (x4.ver+1) 4 [[vi (i:Nat),vi 0,vi (-1),vi 7]],x5,x6,x7,x8,x9,x10,x11]) (by omega) (i:=4) (s:=5) (by simp) rfl (by rfl);simp only[go_sem,↓aB,seval,AD,AB,AA,AE,ji,ma];exact⟨_,_,_,_,_,_,_,_,_,_,bt,rfl,xn,by omega,fun h=>hg (hz h).1⟩
    ·simp only[go_sem,seval];exact⟨_,_,_,_,_,_,_,_,_,_,rows,rfl,hp.sq,by omega,hg⟩
    rintro ρ3 H3 wr3 ⟨rfl,x2,x3,x4,x5,x6,x7,x8,x9,x10,x11,rows,rfl,hp,ax,hg⟩ im;have g5:ρ3 5=vi (i:Nat):=im 5 rfl;have g6:ρ3 6=.ptr (H.length+1) (X1.ver+1) 0:=im 6 rfl;have g22:ρ3 22=vi (i:Nat):=(im 22 rfl).trans e22;clear im hr;simp only[go_sem,↓aB,seval,g6,AF,AD,AB,AA,AE];refine bJ (id:=2) (fun j ρ2 H2 wr=>wr=[]/\ρ2 41=vi (j:Nat)/\CI H (.box 1 [.str x.title,.sl Qu (x.items.map aO)]) (.box (X1.ver+1) [.str it.name,.sl Qu (it.blocks.map aE),.sl Qu (it.facts.map aI),.sl Qu (it.ask.map gR)]) (1000*i+1+j) ((∀it∈x.items.take i,aHT E it)/\(∀b∈it.blocks.take j,nU E b=0)) (ρ2 4) H2) it.blocks.length
     (fun ρ2 H2 wr=>wr=[]/\CI H (.box 1 [.str x.title,.sl Qu (x.items.map aO)]) (.box (X1.ver+1) [.str it.name,.sl Qu (it.blocks.map aE),.sl Qu (it.facts.map aI),.sl Qu (it.ask.map gR)]) (1000*i+1+16) ((∀it∈x.items.take i,aHT E it)/\(∀b∈it.blocks,nU E b=0)) (ρ2 4) H2) (by kernel_rfl) rfl ⟨rfl,rfl,x2,x3,x4,x5,x6,x7,x8,x9,x10,x11,rows,rfl,hp,by omega,fun h=>⟨hg h,fun y hy=>by simp at hy⟩⟩ ?_ ?_
    ·rintro j ρ2 H2 en mo ⟨rfl,ej,x2,x3,x4,x5,x6,x7,x8,x9,x10,x11,rows,rfl,hp,ax,hg⟩ cq;have k1:ρ2 40=vi (it.blocks.length:Nat):=cq 40 rfl;have kl:ρ2 39=.sl Qu (it.blocks.map aE):=cq 39 rfl;have k5:ρ2 5=vi (i:Nat):=(cq 5 rfl).trans g5;have k6:ρ2 6=.ptr (H.length+1) (X1.ver+1) 0:=(cq 6 rfl).trans g6;simp only[go_sem,↓aB,seval,ej,k1];refine aD (fun e4=>?_) (fun e4=>?_)
     ·have jlt:j<it.blocks.length:=by simp at e4;omega
      have gn:=wS (i:=j) (by omega);have fh:=mgE aE jlt;have sh:it.blocks.take (j+1)=it.blocks.take j++[it.blocks[j]]:=EW jlt;have td:=kh.blocks _ (AS jlt);have V5:=W5.1 _ (AS jlt);generalize it.blocks[j]=b at *;obtain⟨e,hc,hE⟩:=F.block b td V5 (H++[.box 1 [.str x.title,.sl Qu (x.items.map aO)],.box (X1.ver+1) [.str it.name,.sl Qu (it.blocks.map aE),.sl Qu (it.facts.map aI),.sl Qu (it.ask.map gR)],.box (x2.ver+1) (aE b),x3,x4,x5,x6,x7,x8,x9,x10,x11]);obtain⟨op,n,ks,ig⟩:=eW b;rw[ig]at hc fh;obtain⟨l',y4,y5,y6,y7,y8,y9,y10,y11,ba,bt,ji,ma,xn,kg,hz⟩:=aFG F.del F.add (H:=H) (hp.sq:PS H.length _ rows [.box 1 [.str x.title,.sl Qu (x.items.map aO)],.box (X1.ver+1) [.str it.name,.sl Qu (it.blocks.map aE),.sl Qu (it.facts.map aI),.sl Qu (it.ask.map gR)],.box (x2.ver+1) (aE b),x3,x4,x5,.vec (x6.ver+1) 4 [[vi (i:Nat),vi 1,vi (j:Nat),vi e]],x7,x8,x9,x10,x11]) (by omega) (i:=6) (s:=7) (by simp) rfl (by rfl);rw[ig]at ji xn;simp only[go_sem,↓aB,seval,ej,kl,k5,AU,AT,jlt,fh,AD,AB,AA,AE,hc,ji,ma,gn];exact⟨_,_,_,_,_,_,_,_,_,_,bt,rfl,xn,by omega,fun h=>by
       obtain⟨h1,h2⟩:=hz h;obtain⟨h3,h4⟩:=hg h1;refine⟨h3,fun y hy=>?_⟩;rw[sh,AY,CG]at hy;rcases hy with hy | rfl
       ·exact h4 y hy
       exact hE h2⟩
     have:j=it.blocks.length:=by simp at e4;omega
     subst this;simp only[go_sem,seval];exact⟨x2,x3,x4,x5,x6,x7,x8,x9,x10,x11,rows,rfl,hp,by omega,fun h=>by have:=hg h;rwa [DM]at this⟩
    rintro ρ3 H3 wr3 ⟨rfl,x2,x3,x4,x5,x6,x7,x8,x9,x10,x11,rows,rfl,hp,ax,hg⟩ im;have g5:ρ3 5=vi (i:Nat):=(im 5 rfl).trans g5;have g6:ρ3 6=.ptr (H.length+1) (X1.ver+1) 0:=(im 6 rfl).trans g6;have g22:ρ3 22=vi (i:Nat):=(im 22 rfl).trans g22;clear im;simp only[go_sem,↓aB,seval,g6,AF,AD,AB,AA,AE];refine bJ (id:=4) (fun j ρ2 H2 wr=>wr=[]/\ρ2 58=vi (j:Nat)/\CI H (.box 1 [.str x.title,.sl Qu (x.items.map aO)]) (.box (X1.ver+1) [.str it.name,.sl Qu (it.blocks.map aE),.sl Qu (it.facts.map aI),.sl Qu (it.ask.map gR)]) (1000*i+17+j) (((∀it∈x.items.take i,aHT E it)/\(∀b∈it.blocks,nU E b=0))/\(∀f∈it.facts.take j,aIL it f)) (ρ2 4) H2) it.facts.length
     (fun ρ2 H2 wr=>wr=[]/\CI H (.box 1 [.str x.title,.sl Qu (x.items.map aO)]) (.box (X1.ver+1) [.str it.name,.sl Qu (it.blocks.map aE),.sl Qu (it.facts.map aI),.sl Qu (it.ask.map gR)]) (1000*i+17+16) (((∀it∈x.items.take i,aHT E it)/\(∀b∈it.blocks,nU E b=0))/\(∀f∈it.facts,aIL it f)) (ρ2 4) H2) (by kernel_rfl) rfl ⟨rfl,rfl,x2,x3,x4,x5,x6,x7,x8,x9,x10,x11,rows,rfl,hp,by omega,fun h=>⟨hg h,fun y hy=>by simp at hy⟩⟩ ?_ ?_
    ·rintro j ρ2 H2 en mo ⟨rfl,ej,x2,x3,x4,x5,x6,x7,x8,x9,x10,x11,rows,rfl,hp,ax,hg⟩ cq;have k1:ρ2 57=vi (it.facts.length:Nat):=cq 57 rfl;have kl:ρ2 56=.sl Qu (it.facts.map aI):=cq 56 rfl;have k5:ρ2 5=vi (i:Nat):=(cq 5 rfl).trans g5;have k6:ρ2 6=.ptr (H.length+1) (X1.ver+1) 0:=(cq 6 rfl).trans g6;simp only[go_sem,↓aB,seval,ej,k1];refine aD (fun e4=>?_) (fun e4=>?_)
     ·have jlt:j<it.facts.length:=by simp at e4;omega
      have gn:=wS (i:=j) (by omega);have fh:=mgE aI jlt;have sh:it.facts.take (j+1)=it.facts.take j++[it.facts[j]]:=EW jlt;obtain⟨e,hc,hE⟩:=F.fact it kh j jlt (W5.2 _ (AS jlt)) (H++[.box 1 [.str x.title,.sl Qu (x.items.map aO)],.box (X1.ver+1) [.str it.name,.sl Qu (it.blocks.map aE),.sl Qu (it.facts.map aI),.sl Qu (it.ask.map gR)],x2,x3,x4,x5,x6,x7,x8,x9,x10,x11]);simp only[aO]at hc;generalize it.facts[j]=f at *;obtain⟨l',y4,y5,y6,y7,y8,y9,y10,y11,ba,bt,ji,ma,xn,kg,hz⟩:=aFG F.del F.add (H:=H) (hp.sq:PS H.length _ rows [.box 1 [.str x.title,.sl Qu (x.items.map aO)],.box (X1.ver+1) [.str it.name,.sl Qu (it.blocks.map aE),.sl Qu (it.facts.map aI),.sl Qu (it.ask.map gR)],x2,x3,x4,x5,x6,x7,.vec (x8.ver+1) 4 [[vi (i:Nat),vi 2,vi (j:Nat),vi e]],x9,x10,x11]) (by omega) (i:=8) (s:=9) (by simp) rfl (by rfl);simp only[go_sem,↓aB,seval,ej,k5,k6,jlt,AD,AB,AA,AE,hc,ji,ma,gn];exact⟨_,_,_,_,_,_,_,_,_,_,bt,rfl,xn,by omega,fun h=>by
       obtain⟨h1,h2⟩:=hz h;obtain⟨h3,h4⟩:=hg h1;refine⟨h3,fun y hy=>?_⟩;rw[sh,AY,CG]at hy;rcases hy with hy | rfl
       ·exact h4 y hy
       exact hE h2⟩
     have:j=it.facts.length:=by simp at e4;omega
     subst this;simp only[go_sem,seval];exact⟨x2,x3,x4,x5,x6,x7,x8,x9,x10,x11,rows,rfl,hp,by omega,fun h=>by have:=hg h;rwa [DM]at this⟩
    rintro ρ3 H3 wr3 ⟨rfl,x2,x3,x4,x5,x6,x7,x8,x9,x10,x11,rows,rfl,hp,ax,hg⟩ im;have g5:ρ3 5=vi (i:Nat):=(im 5 rfl).trans g5;have g6:ρ3 6=.ptr (H.length+1) (X1.ver+1) 0:=(im 6 rfl).trans g6;have g22:ρ3 22=vi (i:Nat):=(im 22 rfl).trans g22;clear im;simp only[go_sem,↓aB,seval,g6,AF,AD,AB,AA,AE];refine bJ (id:=6) (fun j ρ2 H2 wr=>wr=[]/\ρ2 74=vi (j:Nat)/\CI H (.box 1 [.str x.title,.sl Qu (x.items.map aO)]) (.box (X1.ver+1) [.str it.name,.sl Qu (it.blocks.map aE),.sl Qu (it.facts.map aI),.sl Qu (it.ask.map gR)]) (1000*i+33+j) ((((∀it∈x.items.take i,aHT E it)/\(∀b∈it.blocks,nU E b=0))/\(∀f∈it.facts,aIL it f))/\(∀q∈it.ask.take j,True)) (ρ2 4) H2) it.ask.length
     (fun ρ2 H2 wr=>wr=[]/\CI H (.box 1 [.str x.title,.sl Qu (x.items.map aO)]) (.box (X1.ver+1) [.str it.name,.sl Qu (it.blocks.map aE),.sl Qu (it.facts.map aI),.sl Qu (it.ask.map gR)]) (1000*i+33+16) ((((∀it∈x.items.take i,aHT E it)/\(∀b∈it.blocks,nU E b=0))/\(∀f∈it.facts,aIL it f))/\(∀q∈it.ask,True)) (ρ2 4) H2) (by kernel_rfl) rfl ⟨rfl,rfl,x2,x3,x4,x5,x6,x7,x8,x9,x10,x11,rows,rfl,hp,by omega,fun h=>⟨hg h,fun y hy=>by simp at hy⟩⟩ ?_ ?_
    ·rintro j ρ2 H2 en mo ⟨rfl,ej,x2,x3,x4,x5,x6,x7,x8,x9,x10,x11,rows,rfl,hp,ax,hg⟩ cq;have k1:ρ2 73=vi (it.ask.length:Nat):=cq 73 rfl;have kl:ρ2 72=.sl Qu (it.ask.map gR):=cq 72 rfl;have k5:ρ2 5=vi (i:Nat):=(cq 5 rfl).trans g5;have k6:ρ2 6=.ptr (H.length+1) (X1.ver+1) 0:=(cq 6 rfl).trans g6;simp only[go_sem,↓aB,seval,ej,k1];refine aD (fun e4=>?_) (fun e4=>?_)
     ·have jlt:j<it.ask.length:=by simp at e4;omega
      have gn:=wS (i:=j) (by omega);have fh:=mgE gR jlt;have sh:it.ask.take (j+1)=it.ask.take j++[it.ask[j]]:=EW jlt;have J0:=kh.ask _ (AS jlt);generalize it.ask[j]=q at *;obtain⟨e,hc⟩:=F.jd it kh q J0 (H++[.box 1 [.str x.title,.sl Qu (x.items.map aO)],.box (X1.ver+1) [.str it.name,.sl Qu (it.blocks.map aE),.sl Qu (it.facts.map aI),.sl Qu (it.ask.map gR)],x2,.box (x3.ver+1) (gR q),x4,x5,x6,x7,x8,x9,x10,x11]);have hE:e=0->True:=fun _=>trivial;simp only[aO,gR]at hc fh;obtain⟨l',y4,y5,y6,y7,y8,y9,y10,y11,ba,bt,ji,ma,xn,kg,hz⟩:=aFG F.del F.add (H:=H) (hp.sq:PS H.length _ rows [.box 1 [.str x.title,.sl Qu (x.items.map aO)],.box (X1.ver+1) [.str it.name,.sl Qu (it.blocks.map aE),.sl Qu (it.facts.map aI),.sl Qu (it.ask.map gR)],x2,.box (x3.ver+1) (gR q),x4,x5,x6,x7,x8,x9,.vec (x10.ver+1) 4 [[vi (i:Nat),vi 3,vi (j:Nat),vi e]],x11]) (by omega) (i:=10) (s:=11) (by simp) rfl (by rfl);simp only[gR]at ji xn;simp only[go_sem,↓aB,seval,ej,kl,k5,k6,AU,AT,jlt,fh,AD,AB,AA,AE,hc,ji,ma,gn];exact⟨_,_,_,_,_,_,_,_,_,_,bt,rfl,xn,by omega,fun h=>by
       obtain⟨h1,h2⟩:=hz h;obtain⟨h3,h4⟩:=hg h1;refine⟨h3,fun y hy=>?_⟩;rw[sh,AY,CG]at hy;rcases hy with hy | rfl
       ·exact h4 y hy
       exact hE h2⟩
     have:j=it.ask.length:=by simp at e4;omega
     subst this;simp only[go_sem,seval];exact⟨x2,x3,x4,x5,x6,x7,x8,x9,x10,x11,rows,rfl,hp,by omega,fun h=>by have:=hg h;rwa [DM]at this⟩
    rintro ρ3 H3 wr3 ⟨rfl,x2,x3,x4,x5,x6,x7,x8,x9,x10,x11,rows,rfl,hp,ax,hg⟩ im;have g5:ρ3 5=vi (i:Nat):=(im 5 rfl).trans g5;have g6:ρ3 6=.ptr (H.length+1) (X1.ver+1) 0:=(im 6 rfl).trans g6;have g22:ρ3 22=vi (i:Nat):=(im 22 rfl).trans g22;clear im;simp only[go_sem,↓aB,seval,g22];simp only[go_sem,seval,dy];exact⟨hlt,_,x2,x3,x4,x5,x6,x7,x8,x9,x10,x11,rows,rfl,hp,by omega,fun h=>by
     obtain⟨⟨⟨h1,h2⟩,h3⟩,_⟩:=hg h;intro y hy;rw[pk,AY,CG]at hy;rcases hy with hy | rfl
     ·exact h1 y hy
     exact⟨h2,h3⟩⟩
   rintro ρ' H' ba ⟨rfl,X1,x2,x3,x4,x5,x6,x7,x8,x9,x10,x11,rows,rfl,hp,ax,hg⟩ hf;have hG:rows=[]->wq E x:=fun h=>aSB hv (hg h);rcases hp with⟨rfl,h4⟩ | ⟨bl,hd,s,v,hs,h4,ho⟩
   ·have yp:∀(n:Nat) (H':LO),aDR n H' .ar=Qr (.ar,H',[]):=fun _ _=>rfl;simp only[go_sem,↓aB,seval,h4,yp];exact⟨[],.inr (.inr rfl),hG⟩
   simp only[BD,CC,or_false]at hs;rcases hs with rfl | rfl | rfl | rfl<;>(
    simp only[BG,CT,AG]at ho;subst ho;simp only[go_sem,↓aB,seval,h4,aT hd,aA hd];exact⟨rows,.inl rfl,hG⟩))
 exact⟨v,m,h1,h2,h3⟩
end
end Go.AM
end
