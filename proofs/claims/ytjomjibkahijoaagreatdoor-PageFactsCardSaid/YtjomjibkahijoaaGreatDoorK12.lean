/- Part 12: lemmas for the last text. -/
import Derived.Test.YtjomjibkahijoaaGreatDoorK10
import Derived.Test.YtjomjibkahijoaaGreatDoorK11
set_option linter.unusedVariables false
set_option linter.unusedSimpArgs false
set_option maxHeartbeats 6400000
set_option maxRecDepth 100000
open Bool renaming and_eq_true -> AI, true_beq -> CE, true_or -> EP, false_beq -> BB, false_or -> II, false_and -> BQ, true_and -> BR, true -> Qt, false -> Qu
open Go.BinOp renaming eql -> JT
open Go.IntKind renaming i64 -> AR, wrap -> GA, u8 -> KD, i32 -> Dd
open Int renaming natCast_nonneg -> AU, toNat_natCast -> AT, tmod_nonneg -> HV, tmod_lt_of_pos -> GX, eq_ofNat_of_zero_le -> DN
open List renaming mem_cons_self -> HD, mem_cons_of_mem -> BZ, all_eq_true -> AO, mem_range -> HE, drop_succ_cons -> AB, drop_zero -> AD, take_succ_cons -> AA, take_zero -> AE, append_nil -> AJ, getElem?_cons_zero -> BG, getElem?_cons_succ -> CT, map_cons -> BI, map_nil -> BY, length_nil -> AZ, headD_nil -> OW, length_map -> AF, headD_cons -> ON, range -> GZ, range_succ -> LQ, flatMap_append -> JK, length_append -> BA, mem_cons -> BD, not_mem_nil -> CC, append_assoc -> CJ, cons_append -> DO, nil_append -> CW, range' -> FM, mem_append -> AY, mem_range'_1 -> FC, map_append -> DQ, length_cons -> AW, getElem_mem -> AS, getElem?_eq_getElem -> AP, getElem?_map -> BN, getD_eq_getElem?_getD -> KV, flatMap_cons -> HW, map -> DR, length -> FN, drop_eq_getElem_cons -> FD, take -> FW, drop_eq_nil_of_le -> DH, mem_singleton -> CG, mem_flatMap -> IM, mem_map -> DB, length_pos_iff -> MY, take_append_drop -> IQ, length_drop -> NS, foldl_cons -> OE, foldl_append -> Bx, take_length -> DM, take_of_length_le -> CH, any_eq_true -> KS, drop -> KW, take_succ_eq_append_getElem -> EW, take_left -> GU, take_zipWith -> Ce, flatten_append -> Bz, mem_of_mem_take -> FA, eq_nil_or_concat -> Cc, concat_eq_append -> Cd
open Nat renaming le_refl -> AQ, zero_le -> FF, zero_add -> BC, mul_le_mul -> JL, succ_mul -> JS, le_add_right -> EG, mul_one -> FK, mul_le_mul_right -> BO, strongRecOn -> KK, lt_or_ge -> MH, min_eq_left -> Cb, min_eq_right -> Ca, le_trans -> HX
open Option renaming some -> Qr, none -> Qs
open Option.some renaming injEq -> AG, inj -> DZ
open Prod renaming fst -> EM, snd -> GQ
open UInt8 renaming ofNat -> CN
section
namespace Go.AM
open Go
def aCB(g:SN):bw:=⟨9,[1],[.tmp 0],qS [qmc 0 .undef]<|qS [qq 1 (.jn),qq 2 (.build [.bx,.bx] [(0,1,(.const (.fn (g "ca") [] []))),(1,1,(.const (.fn (g "cN") [] [])))]),qz (.ins (u 1) (ui 0) (u 2)),qq 3 (.build [.bx,.bx] [(0,1,(.const (.fn (g "cc") [] []))),(1,1,(.const (.fn (g "cL") [] [])))]),qz (.ins (u 1) (ui 1) (u 3)),qq 4 (.build [.bx,.bx] [(0,1,(.const (.fn (g "cd") [] []))),(1,1,(.const (.fn (g "cO") [] [])))]),qz (.ins (u 1) (ui 2) (u 4)),qq 5 (.build [.bx,.bx] [(0,1,(.const (.fn (g "ce") [] []))),(1,1,(.const (.fn (g "cP") [] [])))]),qz (.ins (u 1) (ui 3) (u 5)),qq 6 (.build [.bx,.bx] [(0,1,(.const (.fn (g "cf") [] []))),(1,1,(.const (.fn (g "cQ") [] [])))]),qz (.ins (u 1) (ui 5) (u 6)),qq 7 (.build [.bx,.bx] [(0,1,(.const (.fn (g "cb") [] []))),(1,1,(.const (.fn (g "cM") [] [])))]),qz (.ins (u 1) (ui 6) (u 7)),qm 8 1,qm 0 8]<|.ret⟩
def aDC(g:SN):bw:=⟨6,[],[.tmp 2],qS [qx 1 13 0,qmc 2 (.str [])]<|qS [qf 3 1 1,ql 4 1 3,qc 5 (g "ck") [u 4],qm 2 5]<|.ret⟩
def aDD(g:SN):bw:=⟨6,[],[.tmp 2],qS [qx 1 13 0,qmc 2 (.str [])]<|qS [qf 3 2 1,qla 4 3 3,qc 5 (g "bW") [u 4],qm 2 5]<|.ret⟩
def aDE(g:SN):bw:=⟨6,[],[.tmp 2],qS [qx 1 13 0,qmc 2 (.str [])]<|qS [qf 3 5 1,qla 4 2 3,qc 5 (g "cl") [u 4],qm 2 5]<|.ret⟩
def aDF(g:SN):bw:=⟨6,[],[.tmp 2],qS [qx 1 13 0,qmc 2 (.str [])]<|qS [qf 3 7 1,qla 4 1 3,qc 5 (g "cg") [u 4],qm 2 5]<|.ret⟩
def aDG(g:SN):bw:=⟨6,[],[.tmp 2],qS [qx 1 13 0,qmc 2 (.str [])]<|qS [qf 3 11 1,qla 4 1 3,qc 5 (g "ci") [u 4],qm 2 5]<|.ret⟩
def aBY(g:SN):bw:=⟨6,[],[.tmp 2],qS [qx 1 13 0,qmc 2 (.str [])]<|qS [qf 3 12 1,ql 4 1 3,qc 5 (g "ch") [u 4],qm 2 5]<|.ret⟩
abbrev aHN(g:SN):List ae:=[qc 13 (g "by") [],qf 14 0 1,⟨Qr 15,ol 1 14,Qs,[1]⟩,⟨Qr 16,.look (.agg [.bx,.bx]) (u 13) (u 15) Qt,Qs,[0,2,1]⟩,⟨Qr 12,om 16,Qs,[3,0,2,1]⟩,⟨Qr 17,.ext 0 (u 12),Qs,[4,3,0,2,1]⟩,⟨Qr 18,.ext 1 (u 12),Qs,[4,3,0,2,1]⟩,qq 5 (.alloc [.bx,.bx]),⟨Qs,os 2 5 17,Qs,[5,4,3,0,2,1,7]⟩,⟨Qr 6,om 18,Qs,[6,8,5,4,3,0,2,1,7]⟩]
abbrev aBZ:LN:=[0,2,7]
def aH2(g:SN):bw:=⟨25,[5],[.tmp 2,.tmp 3],qS [qx 1 13 0,qmc 2 (.str []),qmc 3 z0]<|.seq (qS [qla 7 13 1,qc 8 (g "C") [u 7],qm 4 8]<|qS [qm 9 4,qbi 10 .neq 9 0]<|qC 10 (qS [qm 11 4,qmc 2 (.str []),qm 3 11]<|.ret) (.skip))<|.seq (.region Qt (aHN g))<|.seq (qS [qm 19 6,qq 20 (.un .not (u 19))]<|qC 20 (qS [qmc 2 (.str []),qmc 3 (vi 13)]<|.ret) (.skip))<|qS [qf 21 0 5,ql 22 1 21,qla 23 13 1,qq 24 (.dm (u 22) [(.tmp 23)]),qm 2 24,qmc 3 z0]<|.ret⟩
theorem aTg:∀(m:List mr) (r:mr),(∀i,i+1<(r::m).length->sY (r::m) (i+1)≠sY (r::m) i)->(∀x∈m,x.gg=0∨x.gg=1)->Alt r.gg m
 | [],_,_,_=>trivial
 |x::m,r,h,hl=>by
  refine⟨?_,hl x HD,aTg m x (fun i hi=>?_) fun y hy=>hl y (BZ _ hy)⟩
  ·exact h 0 (by simp)
  have:=h (i+1) (by simp at hi ⊢;omega);exact this
theorem aSh{l:List mr}(h:aGx l=Qt):L6 l:=by
 simp only[aGx,AI,eG]at h;obtain⟨h1,⟨h2,_⟩,h3⟩:=h;have h4:∀r∈l,(r.gg=0∨r.gg=1)/\r.text≠[]:=fun r hr=>by
  have:=AO.1 h3 r hr;simp only[aUL,vP,AI,eG]at this;refine⟨by omega,fun e=>?_⟩;rw[e]at this;simp at this
 refine⟨fun e=>by rw[e]at h2;simp at h2,h4,fun r m e=>?_⟩;subst e;refine aTg m r (fun i hi=>?_) fun x hx=>(h4 x (BZ _ hx)).1;unfold aWm at h1;have:=AO.1 h1 i (HE.2 (by simp at hi ⊢;omega));simpa using this
theorem qJ{α:Type}{l:List α}(h:(1:Int)<=l.length):l≠[]:=fun e=>by rw[e]at h;simp at h
theorem aZG{b:Block}(h:dQ b=Qt)(h4:b.kind≠4)(h1:b.kind=1->aBV b.expr=0):Ai b:=by
 unfold dQ at h;rw[AI,fO]at h;obtain⟨ho,hk⟩:=h;unfold xU at hk;have a6:b.kind=0∨b.kind=1∨b.kind=2∨b.kind=3∨b.kind=5∨b.kind=6:=by refine Classical.byContradiction fun hn=>?_;rw[Zx (by omega),Zx (by omega),Zx (by omega),Zx (by omega),Zx h4,Zx (by omega),Zx (by omega)]at hk;cases hk
 refine⟨ho,a6,fun k=>?_,fun k=>aKQ (h1 k),fun k=>?_,fun k=>?_,fun k=>?_,fun k=>?_⟩
 ·rw[Zy k]at hk;exact aSh hk
 ·rw[Zx (by omega),Zx (by omega),Zy k]at hk;simp only[AI,eG]at hk;obtain⟨wx,_,Az⟩:=hk;refine⟨by simp at wx;omega,fun n hn=>?_⟩;have:=AO.1 Az n hn;simp only[aUP,eG]at this;exact this.1
 ·rw[Zx (by omega),Zx (by omega),Zx (by omega),Zy k]at hk;simp only[AI,eG]at hk;obtain⟨⟨hl,_⟩,hr⟩:=hk;refine⟨qJ hl,fun r hm=>?_⟩;have:=AO.1 hr r hm;simp only[aUQ,AI,eG]at this;exact qJ this.2.1.1
 ·rw[Zx (by omega),Zx (by omega),Zx (by omega),Zx (by omega),Zx (by omega),Zy k]at hk;simp only[aUO,AI,eG]at hk;obtain⟨⟨hl,_⟩,hr⟩:=hk;refine⟨qJ hl,fun hd hm=>?_⟩;have:=AO.1 hr hd hm;simp only[aKL,AI,eG]at this;refine⟨qJ this.2.1.1,fun bar sk=>?_⟩;have:=AO.1 this.2.2 bar sk;simp only[aT9,AI,eG]at this;refine⟨qJ this.1.1,fun n hn=>?_⟩;have:=AO.1 this.2 n hn;simp only[aGv,AI,eG]at this;exact⟨this.1.1.1,this.1.1.2,this.1.2.1,this.1.2.2,this.2.1,this.2.2⟩
 rw[Zx (by omega),Zx (by omega),Zx (by omega),Zx (by omega),Zx (by omega),Zx (by omega),Zy k]at hk;simp only[AI,eG]at hk;exact qJ hk.1.1
section
variable {A:af}{g:SN}{tB tP:Nat}
def aH3:LA:=[vi 0,vi 1,vi 2,vi 3,vi 5,vi 6]
def aH4(g:SN):LA:=[("ca","cN"),("cc","cL"),("cd","cO"),("ce","cP"),("cf","cQ"),("cb","cM")].map fun p=>.agg [.fn (g p.1) [] [],.fn (g p.2) [] []]
theorem aVd{base o v:Nat}{H:LO}:aDR base H (.mp o v)=match H[o]? with
  |some (.map v' es)=>if v'=v/\base<=o then Qr (.fmp (es.map EM) (es.map GQ),H.set o (.gone v),[o])else Qr (.mp o v,H,[])
  |_=>Qr (.mp o v,H,[]):=rfl
theorem aQe(h:Has A g "by" (aCB g))(H:LO):aG A (g "by") [] H=Qr (.fmp aH3 (aH4 g),H,[]):=by refine h.call ?_;simp only[aCB];simp only[go_sem,↓aB,seval,aVd,AQ];rw[qQ (by rfl),aD8];exact⟨rfl,rfl,rfl⟩
structure og(A:af)(g:SN)(tB tP:Nat):Prop where
 form:lu A g
 wrt:rj A g tB tP
 B9:aBk A g
 ways:Has A g "by" (aCB g)
 w1:Has A g "ca" (aDC g)
 w3:Has A g "cc" (aDD g)
 w4:Has A g "cd" (aDE g)
 w6:Has A g "ce" (aDF g)
 w8:Has A g "cf" (aDG g)
 w10:Has A g "cb" (aBY g)
 text:Has A g "bQ" (aH2 g)
theorem aYc(F:og A g tB tP)(b:Block)(hb:b.Ok)(h:dQ b=Qt)(h1:b.kind=1->aBV b.expr=0):b.kind≠4 ->∃j,j<6/\aH3[j]? = Qr (vi b.kind)/\∃f1 f2,(aH4 g)[j]? = Qr (.agg [.fn f1 [] [],.fn f2 [] []])/\∀H,aG A f1 [.agg (aE b)] H=Qr (.str (wB b),H,[]):=by
 intro h4;have hk:xU b=true:=by unfold dQ at h;simp only[AI]at h;exact h.2
 obtain⟨op,n,ks,mn⟩:∃op n ks,b.expr=Expr.mk op n ks:=by cases b.expr;exact⟨_,_,_,rfl⟩
 have vt:aF b.expr=[vi op,vi n,.sl Qu (ks.map aF)]:=by rw[mn,aF,aZ]
 have ig:aE b=[vi b.kind,.sl Qu (b.runs.map cZ),vi op,vi n,.sl Qu (ks.map aF),vi b.dn,.sl Qu (b.eg.map bF),.sl Qu (b.cd.map bY),vi b.w,vi b.h,.sl Qu (b.aw.map aH),.sl Qu (b.bo.map bS),.sl Qu (b.lines.map aN)]:=by unfold aE;rw[vt];rfl
 unfold xU at hk;by_cases k0:b.kind=0
 ·refine⟨0,by decide,by rw[k0];rfl,_,_,rfl,fun H=>?_⟩;have hw:wB b=aHA 0 b.runs:=by unfold wB;rw[Zy k0]
  have hr:=aHK F.wrt.toWrtFns b.runs hb.vw (fun r hr=>(hb.runs r hr).text) H;rw[hw,ig];refine F.w1.call ?_;simp only[aDC];simp only[go_sem,↓aB,seval,hr,AB,AD,AA,AE,AJ]
 by_cases k1:b.kind=1
 ·refine⟨1,by decide,by rw[k1];rfl,_,_,rfl,fun H=>?_⟩;have hw:wB b=wX b.expr:=by unfold wB;rw[Zx k0,Zy k1]
  have hr:=aJt F.form F.B9 b.expr hb.expr hb.size (h1 k1) H;rw[vt]at hr;rw[hw,ig];refine F.w3.call ?_;simp only[aDD];simp only[go_sem,↓aB,seval,hr,AB,AD,AA,AE,AJ]
 by_cases k2:b.kind=2
 ·refine⟨2,by decide,by rw[k2];rfl,_,_,rfl,fun H=>?_⟩;rw[Zx k0,Zx k1,Zy k2]at hk;simp only[AI,eG]at hk;obtain⟨wx,_,Az⟩:=hk;have hw:wB b=aWn b.dn b.eg:=by unfold wB;rw[Zx k0,Zx k1,Zy k2]
  have hr:=aJD F.wrt.toWrtFns b.dn b.eg (by simp at wx;omega) hb.tj (fun n hn=>by
   have:=AO.1 Az n hn;simp only[aUP,eG]at this;exact this) H
  rw[hw,ig];refine F.w4.call ?_;simp only[aDE];simp only[go_sem,↓aB,seval,hr,AB,AD,AA,AE,AJ]
 by_cases k3:b.kind=3
 ·refine⟨3,by decide,by rw[k3];rfl,_,_,rfl,fun H=>?_⟩;have hw:wB b=aRX b.cd:=by unfold wB;rw[Zx k0,Zx k1,Zx k2,Zy k3]
  have hr:=aHM F.wrt b.cd hb.uu hb.cd H;rw[hw,ig];refine F.w6.call ?_;simp only[aDF];simp only[go_sem,↓aB,seval,hr,AB,AD,AA,AE,AJ]
 by_cases k5:b.kind=5
 ·refine⟨4,by decide,by rw[k5];rfl,_,_,rfl,fun H=>?_⟩;rw[Zx k0,Zx k1,Zx k2,Zx k3,Zx h4,Zy k5]at hk;simp only[aUO,AI,eG]at hk;obtain⟨_,hH⟩:=hk;have hw:wB b=aJm b.bo:=by unfold wB;rw[Zx k0,Zx k1,Zx k2,Zx k3,Zy k5]
  have hr:=aFs F.wrt.toMelFns b.bo hb.uv (fun x hx=>⟨(hb.bo x hx).1,fun bar sk=>⟨((hb.bo x hx).2 bar sk).1,fun nt Fw=>by
   have h1:=AO.1 hH x hx;simp only[aKL,AI]at h1;have h2:=AO.1 h1.2.2 bar sk;simp only[aT9,AI]at h2;exact AO.1 h2.2 nt Fw⟩⟩) H
  rw[hw,ig];refine F.w8.call ?_;simp only[aDG];simp only[go_sem,↓aB,seval,hr,AB,AD,AA,AE,AJ]
 by_cases k6:b.kind=6
 ·refine⟨5,by decide,by rw[k6];rfl,_,_,rfl,fun H=>?_⟩;have hw:wB b=aPJ b.lines:=by unfold wB;rw[Zx k0,Zx k1,Zx k2,Zx k3,Zx k5]
  have hr:=aH1 F.wrt.toWrtFns b.lines (by have:=hb.vz;omega) hb.lines H;rw[hw,ig];refine F.w10.call ?_;simp only[aBY];simp only[go_sem,↓aB,seval,hr,AB,AD,AA,AE,AJ]
 rw[Zx k0,Zx k1,Zx k2,Zx k3,Zx h4,Zx k5,Zx k6]at hk;cases hk
theorem aSi{k:Int}{v:AV}:∀j<6,aH3[j]? = Qr (vi k)->(aH4 g)[j]? = Qr v->iB (vi k) (aH3.zip (aH4 g)) 0=Qr (Qr (j,v)):=by
 intro j hj h1 h2;rcases j with _ | _ | _ | _ | _ | _ | j
 all_goals first
  |omega
  | (simp only[aH3,BG,CT,AG,AV.int.injEq,true_and]at h1;subst h1;simp only[aH4,BI,BG,CT,AG]at h2;subst h2;rfl)
end
def tH(g:SN)(b:Int)(n:String):AV:=.agg [vi b,.fn (g n) [] []]
def aMi(g:SN):LA:=[tH g (-1) "cv",tH g 3 "cw",tH g 4 "cx",tH g 4 "cy",tH g 4 "cz",
 tH g 5 "cA",tH g 6 "cB"]
def aSj(g:SN):LA:=[.fmp [vi 0,vi 1,vi 2,vi 3,vi 4,vi 5,vi 6] (aMi g)]
def wG(g:SN):bw:=⟨18,[],[.tmp 4],qS [qx 2 2 0,qmc 4 (.bool Qu)]<|qS [qf 5 0 2,ql 6 1 5,qm 7 1,qb 8 .eql 6 7,qm 9 8,qF 10 9 (of 0 2),qF 11 9 (ol 1 10),qF 12 9 (obi .lss 11 0),qF 13 9 (om 12),qT 14 13 (om 1),qT 15 13 (obi .neq 14 4),qF 16 9 (op 13 15),qq 17 (.pick (u 9) uT (u 16)),qm 4 17]<|.ret⟩
def aC0(g:SN):bw:=⟨14,[],[.tmp 2],qS [qx 1 13 0,qmc 2 z0]<|.seq (qS [qf 3 7 1,qf 4 0 3,ql 5 1 4,qn 6 5,qbi 7 .eql 6 0]<|qC 7 (qS [qmc 2 z0]<|.ret) (.skip))<|qS [qf 8 7 1,qf 9 0 8,ql 10 1 9,qq 11 (.iaV (u 10) (ui 0) 1),ql 12 1 11,qn 13 12,qm 2 13]<|.ret⟩
def aH5(g:SN):bw:=⟨14,[],[.tmp 2],qS [qx 1 13 0,qmc 2 z0]<|.seq (qS [qf 3 11 1,qf 4 0 3,ql 5 1 4,qn 6 5,qbi 7 .eql 6 0]<|qC 7 (qS [qmc 2 z0]<|.ret) (.skip))<|qS [qf 8 11 1,qf 9 0 8,ql 10 1 9,qq 11 (.iaV (u 10) (ui 0) 1),ql 12 1 11,qn 13 12,qm 2 13]<|.ret⟩
def wH(g:SN):bw:=⟨4,[],[.tmp 2],qS [qx 1 13 0,qmc 2 .bx]<|qS [qc 3 (g "t") [ui 1,ui 1],qm 2 3]<|.ret⟩
abbrev aBB(g:SN):List ae:=[qf 3 7 1,⟨Qr 4,of 0 3,Qs,[0]⟩,⟨Qr 5,ol 1 4,Qs,[1,0]⟩,⟨Qr 6,on 5,Qs,[2,1,0]⟩,qla 7 13 1,⟨Qr 8,oc (g "cu") [u 7],Qs,[4]⟩,⟨Qr 9,oc (g "t") [u 6,u 8],Qs,[3,2,1,0,5,4]⟩,⟨Qr 2,om 9,Qs,[6,3,2,1,0,5,4]⟩]
abbrev pQ:LN:=[2,5]
def wI(g:SN):bw:=⟨10,[],[.tmp 2],qS [qx 1 13 0,qmc 2 .bx]<|.seq (.region Qt (aBB g))<|.ret⟩
def wJ(g:SN):bw:=⟨5,[],[.tmp 2],qS [qx 1 13 0,qmc 2 .bx]<|qS [qla 3 13 1,qc 4 (g "aX") [u 3,ui 2],qm 2 4]<|.ret⟩
def wK(g:SN):bw:=⟨5,[],[.tmp 2],qS [qx 1 13 0,qmc 2 .bx]<|qS [qla 3 13 1,qc 4 (g "aX") [u 3,ui 3],qm 2 4]<|.ret⟩
def wL(g:SN):bw:=⟨5,[],[.tmp 2],qS [qx 1 13 0,qmc 2 .bx]<|qS [qla 3 13 1,qc 4 (g "aX") [u 3,ui 4],qm 2 4]<|.ret⟩
abbrev aBC(g:SN):List ae:=[qla 3 13 1,⟨Qr 4,oc (g "ct") [u 3],Qs,[0]⟩,qf 5 11 1,⟨Qr 6,of 0 5,Qs,[2]⟩,⟨Qr 7,ol 1 6,Qs,[3,2]⟩,⟨Qr 8,on 7,Qs,[4,3,2]⟩,⟨Qr 9,oc (g "t") [u 4,u 8],Qs,yq5⟩,⟨Qr 2,om 9,Qs,yq6⟩]
abbrev pR:LN:=[1,4]
def wM(g:SN):bw:=⟨10,[],[.tmp 2],qS [qx 1 13 0,qmc 2 .bx]<|.seq (.region Qt (aBC g))<|.ret⟩
def wN(g:SN):bw:=⟨7,[],[.tmp 2],qS [qx 1 13 0,qmc 2 .bx]<|qS [qf 3 12 1,ql 4 1 3,qn 5 4,qc 6 (g "t") [u 5,ui 1],qm 2 6]<|.ret⟩
structure ke(A:af)(g:SN):Prop where
 noY:sn A
 has:Has A g "bV" (wG g)
 cd:Has A g "t" (aGW g)
 za:Has A g "B" (yR g)
 aw:Has A g "aX" (aDr g)
 uy:Has A g "aY" (rG g)
 I8:Has A g "cu" (aC0 g)
 bars:Has A g "ct" (aH5 g)
 f1:Has A g "cv" (wH g)
 f2:Has A g "cw" (wI g)
 f3:Has A g "cx" (wJ g)
 f4:Has A g "cy" (wK g)
 f5:Has A g "cz" (wL g)
 f6:Has A g "cA" (wM g)
 f7:Has A g "cB" (wN g)
def lJ(b kind:Int):Bool:=(b==kind) || (decide (b<0)&&(kind != 4))
section
variable {A:af}{g:SN}
theorem eW(b:Block):∃(op n:Int) (ks:List Expr),aE b=[vi b.kind,.sl Qu (b.runs.map cZ),vi op,vi n,.sl Qu (ks.map aF),vi b.dn,.sl Qu (b.eg.map bF),.sl Qu (b.cd.map bY),vi b.w,vi b.h,.sl Qu (b.aw.map aH),.sl Qu (b.bo.map bS),.sl Qu (b.lines.map aN)]:=by
 obtain⟨op,n,ks,mn⟩:∃op n ks,b.expr=Expr.mk op n ks:=by cases b.expr;exact⟨_,_,_,rfl⟩
 refine⟨op,n,ks, ?_⟩;unfold aE;rw[mn,aF,aZ];rfl
theorem aL9(F:ke A g)(b kind:Int)(n:String)(H:LO):aG A (g "bV") [tH g b n,vi kind] H=Qr (.bool (lJ b kind),H,[]):=by
 refine F.has.call ?_;simp only[wG,lJ,tH];cases e1:(b==kind)with
 |true=>simp only[go_sem,↓aB,seval,e1,CE,EP]
 |false=>cases e2:decide (b<0)with
  |false=>simp only[go_sem,↓aB,seval,e1,e2,Zz,BB,II,BQ]
  |true=>simp only[go_sem,↓aB,seval,e1,e2,Zz,II,BR]
theorem aDH(F:ke A g)(n m:Nat)(H:LO):aG A (g "t") [vi n,vi m] H=Qr (.fn (g "B") [] [.ep [vi n] 0,.ep [vi m] 0],H,[]):=by refine F.cd.call ?_;simp only[aGW];simp only[go_sem,↓aB,seval,AJ]
theorem aCC(F:ke A g)(b:Block)(kind:Int)(H:LO):aG A (g "aX") [.agg (aE b),vi kind] H=Qr (.fn (g "aY") [] [.ep (aE b) 0,.ep [vi kind] 0],H,[]):=by refine F.aw.call ?_;simp only[aDr];obtain⟨c2,c3,c4,ig⟩:=eW b;rw[ig];simp only[go_sem,↓aB,seval,AJ];rw[jG (AQ _)];exact⟨rfl,rfl,rfl⟩
def aFt(b:Block):Nat:=(b.cd.headD []).length
def aFu(b:Block):Nat:=(b.bo.headD []).length
theorem aLa(F:ke A g)(b:Block)(H:LO):aG A (g "cu") [.agg (aE b)] H=Qr (vi (aFt b),H,[]):=by
 refine F.I8.call ?_;simp only[aC0];obtain⟨c2,c3,c4,ig⟩:=eW b;rw[ig];cases hg:b.cd with
 |nil=>simp only[go_sem,↓aB,seval,aFt,hg,AJ,AB,AD,AA,AE,BY,AZ,OW]
 |cons r rs=>
  have hz:(((rs.length+1:Nat):Int)==0)=false:=by simp;omega
  simp only[go_sem,↓aB,seval,aFt,hg,hz,AJ,AB,AD,AA,AE,AF,ON,BI,BG,bY]
theorem aQf(F:ke A g)(b:Block)(H:LO):aG A (g "ct") [.agg (aE b)] H=Qr (vi (aFu b),H,[]):=by
 refine F.bars.call ?_;simp only[aH5];obtain⟨c2,c3,c4,ig⟩:=eW b;rw[ig];cases hg:b.bo with
 |nil=>simp only[go_sem,↓aB,seval,aFu,hg,AJ,AB,AD,AA,AE,BY,AZ,OW]
 |cons r rs=>
  have hz:(((rs.length+1:Nat):Int)==0)=false:=by simp;omega
  simp only[go_sem,↓aB,seval,aFu,hg,hz,AJ,AB,AD,AA,AE,AF,ON,BI,BG,bS]
def aWq(b:Block):Nat->aEw
 |0=>qA 1 1
 |1=>qA b.cd.length (aFt b)
 |2=>iI b.aw 2 b.aw.length b.aw.length
 |3=>iI b.aw 3 b.aw.length b.aw.length
 |4=>iI b.aw 4 b.aw.length b.aw.length
 |5=>qA (aFu b) b.bo.length
 |_=>qA b.lines.length 1
def aBp:Nat->Int
 |0 => -1
 |1=>3
 |2=>4
 |3=>4
 |4=>4
 |5=>5
 |_=>6
def aVe:Nat->String
 |0=> "cv"
 |1=> "cw"
 |2=> "cx"
 |3=> "cy"
 |4=> "cz"
 |5=> "cA"
 |_=> "cB"
theorem aJE{α:Type}{l:List (List α)}{n:Nat}(h:∀r∈l,r.length<=n):(l.headD []).length<=n:=by
 cases l with
 |nil=>exact FF _
 |cons r rs=>exact h r HD
theorem aSk(F:ke A g)(b:Block)(hb:b.Ok)(k:Nat)(hk:k<7):∃f ay,jc ay/\aV7 A f ay (aWq b k)/\∀H:LO,aG A (g (aVe k)) [.agg (aE b)] H=Qr (.fn f [] ay,H,[]):=by
 have hc:aFt b<=16:=aJE fun r hr=>(hb.cd r hr).1;have Ix:aFu b<=16:=aJE fun r hr=>(hb.bo r hr).1;have hg:=hb.uu;have hs:=hb.fg;have hh:=hb.uv;have hl:=hb.vz;have cg:∀n m:Nat,jc [.ep [vi n] 0,.ep [vi m] 0]:=fun n m=>(cQ.ep _ _).ep _ _;have cs:∀k:Int,jc [.ep (aE b) 0,.ep [vi k] 0]:=fun k=>(cQ.ep _ _).ep _ _;obtain⟨c2,c3,c4,ig⟩:=eW b
 match k,hk with
 |0,_=>refine⟨_,_,cg 1 1,aDt F.za (by omega) (by omega),fun H=>?_⟩;have h1:aG A (g "t") [vi 1,vi 1] H=Qr (.fn (g "B") [] [.ep [vi 1] 0,.ep [vi 1] 0],H,[]):=aDH F 1 1 H;refine F.f1.call ?_;simp only[wH];rw[ig];simp only[go_sem,↓aB,seval,h1,AJ,BC]
 |1,_=>refine⟨_,_,cg b.cd.length (aFt b),aDt F.za (by omega) (by omega),fun H=>?_⟩;have h1:aG A (g "t") [vi b.cd.length,vi (aFt b)] H=Qr (.fn (g "B") [] [.ep [vi b.cd.length] 0,.ep [vi (aFt b)] 0],H,[]):=aDH F b.cd.length (aFt b) H;have h2:=aLa F b H;rw[ig]at h2;refine F.f2.call ?_;simp only[wI];rw[ig];simp only[go_sem,↓aB,seval];refine aY (aq:=pQ) (by rfl) (by rfl) ?_;simp only[go_sem,↓aB,seval,pQ,h1,h2,AJ,AB,AD,AA,AE,AF,BC,Zz,eH,dG,aL]
 |2,_=>refine⟨_,_,cs 2,aCw F.uy b 2 (by omega),fun H=>?_⟩;have h1:=aCC F b 2 H;rw[ig]at h1;refine F.f3.call ?_;simp only[wJ];rw[ig];simp only[go_sem,↓aB,seval,h1,AJ,AD,AA,AE,BC];rw[jG (AQ _)];exact⟨rfl,rfl,rfl⟩
 |3,_=>refine⟨_,_,cs 3,aCw F.uy b 3 (by omega),fun H=>?_⟩;have h1:=aCC F b 3 H;rw[ig]at h1;refine F.f4.call ?_;simp only[wK];rw[ig];simp only[go_sem,↓aB,seval,h1,AJ,AD,AA,AE,BC];rw[jG (AQ _)];exact⟨rfl,rfl,rfl⟩
 |4,_=>refine⟨_,_,cs 4,aCw F.uy b 4 (by omega),fun H=>?_⟩;have h1:=aCC F b 4 H;rw[ig]at h1;refine F.f5.call ?_;simp only[wL];rw[ig];simp only[go_sem,↓aB,seval,h1,AJ,AD,AA,AE,BC];rw[jG (AQ _)];exact⟨rfl,rfl,rfl⟩
 |5,_=>refine⟨_,_,cg (aFu b) b.bo.length,aDt F.za (by omega) (by omega),fun H=>?_⟩;have h1:aG A (g "t") [vi (aFu b),vi b.bo.length] H=Qr (.fn (g "B") [] [.ep [vi (aFu b)] 0,.ep [vi b.bo.length] 0],H,[]):=aDH F (aFu b) b.bo.length H;have h2:=aQf F b H;rw[ig]at h2;refine F.f6.call ?_;simp only[wM];rw[ig];simp only[go_sem,↓aB,seval];refine aY (aq:=pR) (by rfl) (by rfl) ?_;simp only[go_sem,↓aB,seval,pR,h1,h2,AJ,AB,AD,AA,AE,AF,BC,Zz,eH,dG,aL]
 |6,_=>refine⟨_,_,cg b.lines.length 1,aDt F.za (by omega) (by omega),fun H=>?_⟩;have h1:aG A (g "t") [vi b.lines.length,vi 1] H=Qr (.fn (g "B") [] [.ep [vi b.lines.length] 0,.ep [vi 1] 0],H,[]):=aDH F b.lines.length 1 H;refine F.f7.call ?_;simp only[wN];rw[ig];simp only[go_sem,↓aB,seval,h1,AJ,AB,AD,AA,AE,AF,BC]
end
def aAQ(g:SN):ag:=.block 2 (.dz (.tmp 24) [25,26] (.seq (qS [qm 8 25]<|.region Qu [qm 9 26])<|.block 3 (qR [ql 27 1 5,ql 28 1 6,ql 29 1 3,qm 30 8,qm 31 9,qq 32 (.build [z0,z0,z0,z0] [(0,1,(.tmp 28)),(1,1,(.tmp 29)),(2,1,(.tmp 30)),(3,1,(.tmp 31))]),qq 33 (.bsl 4 [z0,z0,z0,z0] 1 [(0,(.tmp 32))]),qa 34 4 32 27 33,qs 1 5 34])))
abbrev aH6(g:SN):ag:=qS [qbi 11 .lss 10 7]<|.seq (qC 11 (.skip) (.exit 0))<|.seq (.block 1 (qS [qm 12 10,qq 6 (.alloc [z0]),qs 1 6 12]<|qS [qq 13 (.load 1 Qu (uc (.ep (aSj g) 0))),ql 14 1 6,qq 15 (.look (.agg [z0,.bx]) (u 13) (u 14) Qu),qq 7 (.alloc [z0,.bx]),qs 2 7 15]<|.seq (qS [qla 16 2 7,qf 17 0 2,ql 18 1 17,qc 19 (g "bV") [u 16,u 18],qq 20 (.un .not (u 19))]<|qC 20 (.exit 1) (.skip))<|qS [qf 21 1 7,ql 22 1 21,qla 23 13 2,qq 24 (.dm (u 22) [(.tmp 23)])]<|aAQ g))<|.region Qu [qbi 35 .add 10 1,qm 10 35]
def oZ(g:SN):bw:=⟨37,[5,6,7,25,34],[.tmp 4],qS [qx 2 13 0,qx 3 1 1,qmc 4 (.sl Qt [])]<|qS [qq 5 (.alloc [(.sl Qt [])])]<|.seq (qS [qmc 10 z0]<|.block 0 (.loop (aH6 g)))<|qS [ql 36 1 5,qm 4 36]<|.ret⟩
def aF8(b:Block)(at':Int)(k:Nat):List Fact:=if lJ (aBp k) b.kind then (aWq b k).map fun p=>⟨k,at',p.1,p.2⟩ else []
def nO(b:Block)(at':Int)(n:Nat):List Fact:=(GZ n).flatMap (aF8 b at')
def eM(b:Block)(at':Int):List Fact:=nO b at' 7
theorem aAR{b:Block}{at':Int}{n:Nat}:nO b at' (n+1)=nO b at' n++aF8 b at' n:=by unfold nO;rw[LQ,JK];simp
theorem aNk{b:Block}(hb:b.Ok)(k:Nat):(aWq b k).length<=256:=by
 have hc:aFt b<=16:=aJE fun r hr=>(hb.cd r hr).1;have Ix:aFu b<=16:=aJE fun r hr=>(hb.bo r hr).1;have hs:∀kind,(iI b.aw kind b.aw.length b.aw.length).length<=256:=fun kind=>by
  have h1:=List.length_filter_le (fun p:Nat×Nat=>aGY b.aw kind p.1 p.2) (qA b.aw.length b.aw.length);rw[rH]at h1;have h2:b.aw.length*b.aw.length<=16*16:=JL hb.fg hb.fg;unfold iI;omega
 unfold aWq;split
 ·rw[rH];decide
 ·rw[rH];exact JL hb.uu hc
 ·exact hs _
 ·exact hs _
 ·exact hs _
 ·rw[rH];exact JL Ix hb.uv
 rw[rH];have:=hb.vz;omega
theorem yT{b:Block}(hb:b.Ok){at':Int}(n:Nat):(nO b at' n).length<=n*256:=by
 induction n with
 |zero=>exact AQ _
 |succ n ih=>
  rw[aAR,BA,JS];have:(aF8 b at' n).length<=256:=by
   unfold aF8;split
   ·rw[AF];exact aNk hb n
   exact FF _
  omega
def bBc(base:Nat)(w:AV)(x4:ah)(rows:List Fact):Prop:=(rows=[]/\w=.sl Qt [])∨(rows≠[]/\∃ver,w=.sr (base+4) ver rows.length/\x4=.vec ver 4 (rows.map aI))
abbrev bBd:ag:=.seq (qS [qm 8 25]<|.region Qu [qm 9 26])<|.block 3 (qR [ql 27 1 5,ql 28 1 6,ql 29 1 3,qm 30 8,qm 31 9,qq 32 (.build [z0,z0,z0,z0] [(0,1,(.tmp 28)),(1,1,(.tmp 29)),(2,1,(.tmp 30)),(3,1,(.tmp 31))]),qq 33 (.bsl 4 [z0,z0,z0,z0] 1 [(0,(.tmp 32))]),qa 34 4 32 27 33,qs 1 5 34])
abbrev bBe(base v:Nat)(l:LA):ah:=.rnd v base [5,6,7,25,34] [25,26] bBd l Qu Qs
def FI(H:LO)(k:Nat)(at':Int)(v v6:Nat)(x2:ah)(tail:LO)(pre:List Fact)(p:aEw)(X:LO):Prop:=∃w x4 l,X=H++(.box 1 [w]::.box v6 [vi k]::x2::bBe H.length v l::x4::tail)/\l.length=37 /\
 ck l 5=.ptr H.length 1 0/\ck l 6=.ptr (H.length+1) v6 0/\ck l 3=.ep [vi at'] 0/\bBc H.length w x4 (pre++p.map fun q=>⟨k,at',q.1,q.2⟩)
theorem aOo{b a1 a2 a3 a4 a5 o v t:Nat}(h:([a1,a2,a3,a4,a5].contains t)=Qu)(ht:t<YF):(⟨b,[a1,a2,a3,a4,a5,YF+o,YF+v]⟩:Ctx).site (Qr t)=none:=by
 unfold Ctx.site;dsimp only;rw[List.idxOf?_eq_none_iff.2]
 ·rfl
 rw[<- Bool.not_eq_true,List.contains_iff_mem]at h;simp only[BD,CC,or_false,not_or]at h ⊢;exact⟨h.1,h.2.1,h.2.2.1,h.2.2.2.1,h.2.2.2.2,by omega,by omega⟩
section
variable {A:af}{g:SN}
theorem aYd(hY:sn A)(H:LO)(k:Nat)(at':Int)(v v6:Nat)(x2:ah)(tail:LO)(pre:List Fact)(sd:pre.length<=10000):ux A (H.length+3) v H.length (H.length+5+tail.length) (FI H k at' v v6 x2 tail pre):=by
 refine⟨fun p X hX=>?_,fun p X Y a b hp ha hb hX=>?_⟩
 ·obtain⟨w,x4,l,rfl,_⟩:=hX;simp;omega
 obtain⟨w,x4,l,rfl,hl,h5,h6,h3,hw⟩:=hX;rw[CJ];simp only[DO];obtain⟨e,H',wr,h1,he,h2,h4⟩:=mT hY (K:=fun e H' wr=>e=.normal/\(∃H0,H'=H0++Y/\FI H k at' v v6 x2 tail pre (p++[(a,b)]) H0)/\∀x∈wr,H.length<=x) (N:=37) (l:=l) (xs:=[vi a,vi b]) (o:=H.length+3) (v:=v)
  (H:=H++(.box 1 [w]::.box v6 [vi k]::x2::bBe H.length v l::x4::(tail++Y))) (by rw[bX];rfl) rfl (by kernel_rfl) (by kernel_rfl) hl (by
   have hs:ck (dH l [25,26] [vi a,vi b])=upd (upd (ck l) 25 (vi a)) 26 (vi b):=by show ck ((l.set 25 (vi a)).set 26 (vi b))=_;rw[nG (by rw[List.length_set];omega),nG (by omega)]
   rw[hs];generalize hρ:ck l=ρ at *;simp only[DO,CW];simp only[go_sem,↓aB,seval];have Iy:(⟨H.length,[5,6,7,25,34,YF+(H.length+3),YF+v]⟩:Ctx).site (Qr 33)=none:=aOo (by rfl) (by decide);have fq:∀{w2:LN} {n:Nat},(∀x∈w2,H.length<=x)->∀x∈FM H.length n++(H.length+3)::w2,H.length<=x:=fun {w2 n} h x hx=>by
    rcases AY.1 hx with hx | hx
    ·rw[FC]at hx;exact hx.1
    rcases BD.1 hx with rfl | hx
    ·omega
    exact h x hx
   refine⟨_,_,_,_,_,rfl, ?_⟩;have y8:(pre++p.map fun q=>(⟨k,at',q.1,q.2⟩:Fact)).length<=20000:=by rw[BA,AF];omega
   have lv:(pre++(p++[(a,b)]).map fun q=>(⟨k,at',q.1,q.2⟩:Fact))=(pre++p.map fun q=>(⟨k,at',q.1,q.2⟩:Fact))++[⟨k,at',a,b⟩]:=by rw[DQ,CJ];rfl
   generalize hR:(pre++p.map fun q=>(⟨k,at',q.1,q.2⟩:Fact))=R at *;have Gk:4<tail.length+Y.length+1+1+1+1+1:=by omega
   rcases hw with⟨rfl,rfl⟩ | ⟨bl,ver,rfl,rfl⟩
   ·have hr:bP 1 32=true:=by decide
    simp only[go_sem,↓aB,seval,h5,h6,h3,Iy,AD,AB,AA,AE,eX,cG,dO,hr,AW,AZ,CW,AJ,Gk];exact⟨_,_,_,_,_,rfl,⟨_,(CJ H (_::_::_::_::_::tail) Y).symm,⟨_,_,l,rfl,hl,by rw[hρ];exact h5,by rw[hρ];exact h6,by rw[hρ];exact h3,by rw[lv];exact .inr ⟨by simp,_,rfl,rfl⟩⟩⟩,fq (by simp)⟩
   have hr:bP (R.length+1) 32=true:=by unfold bP;simp;omega
   simp only[go_sem,↓aB,seval,h5,h6,h3,Iy,AD,AB,AA,AE,eX,cG,dO,hr,AW,AZ,AF];exact⟨_,_,_,_,_,rfl,⟨_,(CJ H (_::_::_::_::_::tail) Y).symm,⟨_,_,l,rfl,hl,by rw[hρ];exact h5,by rw[hρ];exact h6,by rw[hρ];exact h3,by rw[lv];exact .inr ⟨by simp,ver,by rw[BA];rfl,by rw[DQ];rfl⟩⟩⟩,fq (by simp)⟩)
 subst he;obtain⟨H0,rfl,h2⟩:=h2;exact⟨H0,wr,h1,h2,h4⟩
theorem aNl{k:Nat}(hk:k<7):iB (vi k) ([vi 0,vi 1,vi 2,vi 3,vi 4,vi 5,vi 6].zip (aMi g)) 0=Qr (Qr (k,tH g (aBp k) (aVe k))):=by
 match k,hk with
 |0,_=>rfl
 |1,_=>rfl
 |2,_=>rfl
 |3,_=>rfl
 |4,_=>rfl
 |5,_=>rfl
 |6,_=>rfl
theorem aOp(F:ke A g)(h:Has A g "N" (oZ g))(b:Block)(hb:b.Ok)(at':Int)(H:LO):∃r,((eM b at'=[]/\r=.sl Qu [])∨(eM b at'≠[]/\r=.own 4 ((eM b at').map aI)))/\aG A (g "N") [.agg (aE b),vi at'] H=Qr (r,H,[]):=by
 obtain⟨r,H',ba,e1,rfl,rfl,e2⟩:=h.bp (args:=[.agg (aE b),vi at']) (H:=H) (K:=fun r H' wr=>wr=[]/\H'=H/\((eM b at'=[]/\r=.sl Qu [])∨(eM b at'≠[]/\r=.own 4 ((eM b at').map aI)))) (by
  obtain⟨op,n,ks,ig⟩:=eW b;have Bi:=fun k hk=>aSk F b hb k hk;simp only[oZ];rw[ig];rw[ig]at Bi;simp only[go_sem,↓aB,seval];refine bJ (id:=0) (fun k ρ1 H1 wr=>wr=[]/\ρ1 10=vi (k:Nat)/\∃w x1 x2 x3 x4 tail,H1=H++(.box 1 [w]::x1::x2::x3::x4::tail)/\bBc H.length w x4 (nO b at' k)) 7
   (fun ρ1 H1 wr=>wr=[]/\∃w x1 x2 x3 x4 tail,H1=H++(.box 1 [w]::x1::x2::x3::x4::tail)/\bBc H.length w x4 (eM b at')) (by kernel_rfl) rfl ⟨rfl,rfl,_,_,_,_,_,_,rfl,.inl ⟨rfl,rfl⟩⟩ ?_ ?_
  ·rintro k ρ1 H1 dc zp ⟨rfl,e10,w,x1,x2,x3,x4,tail,rfl,hw⟩ hf;have f2:ρ1 2=.ep [vi b.kind,.sl Qu (b.runs.map cZ),vi op,vi n,.sl Qu (ks.map aF),vi b.dn,.sl Qu (b.eg.map bF),.sl Qu (b.cd.map bY),vi b.w,vi b.h,.sl Qu (b.aw.map aH),.sl Qu (b.bo.map bS),.sl Qu (b.lines.map aN)] 0:=hf 2 rfl;have f3:ρ1 3=.ep [vi at'] 0:=hf 3 rfl;have f5:ρ1 5=.ptr H.length 1 0:=hf 5 rfl;simp only[go_sem,↓aB,seval,e10];refine aD (fun e3=>?_) (fun e3=>?_)
   ·have hlt:k<7:=by simp at e3;omega
    have dy:=wS (i:=k) (by omega);have wj:=aNl (g:=g) hlt;obtain⟨f,ay,cm,M5,az⟩:=Bi k hlt;have C0:=fun H=>aL9 F (aBp k) b.kind (aVe k) H;simp only[tH]at wj C0;have qe:1<tail.length+1+1+1+1+1:=by omega
    have iq:2<tail.length+1+1+1+1+1:=by omega
    simp only[go_sem,↓aB,seval,e10,f2,aSj,wj,qe,iq,AW,AJ,AB,AD,AA,AE,C0];cases hh:lJ (aBp k) b.kind with
    |false=>
     have hk:nO b at' (k+1)=nO b at' k:=by rw[aAR];unfold aF8;rw[hh];simp
     simp only[go_sem,↓aB,seval,e10,dy];exact⟨hlt,_,_,_,_,_,_,rfl,by rw[hk];exact hw⟩
    |true=>
     have hk:nO b at' (k+1)=nO b at' k++(aWq b k).map fun q=>⟨k,at',q.1,q.2⟩:=by rw[aAR];unfold aF8;rw[hh];rfl
     simp only[go_sem,↓aB,seval,f2,az,AJ,AB,AD,AA,AE];simp only[aAQ];simp only[go_sem,seval];have I9:=aNk hb k;have sd:(nO b at' k).length<=10000:=by have:=yT hb (at':=at') k;omega
     refine wC (id:=H.length+3) (v:=x3.ver+1) (X:=fun l=>H++(.box 1 [w]::.box (x1.ver+1) [vi k]::.box (x2.ver+1) [vi (aBp k),.fn (g (aVe k)) [] []]::bBe H.length (x3.ver+1) l::x4::tail)) (by rfl) (by rfl) (by simp) (fun _=>by rfl) (by unfold bH;rw[bX];rfl) (fun l=>by rw[sV];rfl) ?_;intro l hl he;obtain⟨H',X,en,j1,⟨w',x4',l',rfl,jl,j5,j6,j3,jw⟩,j4⟩:=M5 (H.length+3) (x3.ver+1) H.length (H.length+5+tail.length) (FI H k at' (x3.ver+1) (x1.ver+1) (.box (x2.ver+1) [vi (aBp k),.fn (g (aVe k)) [] []]) tail (nO b at' k)) _ (aYd F.noY H k at' _ _ _ tail _ sd) ⟨w,x4,l,rfl,hl,by rw[he];exact f5,by rw[he];rfl,by rw[he];exact f3,by rw[BY,AJ];exact hw⟩;rw[<- hk]at jw;refine⟨_,_,_,_,_,_,_,_,Qs,j1,by rw[CJ];simp only[DO];rw[bX];rfl, ?_⟩;rw[kH (fun x hx=>by rcases BD.1 hx with rfl | hx;exact EG _ _;exact j4 x hx),CJ];simp only[DO];rw[eS];show pP 2 _ _ .normal _ _ _;simp only[go_sem,↓aB,seval,e10,dy];exact⟨hlt,_,_,_,_,_,_,rfl,jw⟩
   have:k=7:=by simp at e3;omega
   subst this;simp only[go_sem,seval];exact⟨w,x1,x2,x3,x4,tail,rfl,hw⟩
  rintro ρ' H' ba ⟨rfl,w,x1,x2,x3,x4,tail,rfl,hw⟩ hf;have f5:ρ' 5=.ptr H.length 1 0:=hf 5 rfl;rcases hw with⟨e0,rfl⟩ | ⟨bl,ver,rfl,rfl⟩
  ·simp only[go_sem,↓aB,seval,f5,AD,AA,AE];exact .inl e0
  have hd:gG ((eM b at').map aI)=true:=aC eL _;simp only[go_sem,↓aB,seval,f5,AD,AA,AE,aT hd,aA hd,AF];exact .inr bl)
 exact⟨r,e2,e1⟩
end
def aQg:LA:=[[99,104,111,105,99,101],[99,111,117,110,116],[111,112,101,110]].map AV.str
abbrev sD(g:SN):ag:=qS [qb 29 .lss 28 27]<|.seq (qC 29 (.skip) (.exit 0))<|.seq (.block 1 (qS [qi 30 26 28 1,ql 31 1 30,qm 5 31]<|qS [qm 32 0,qc 33 (g "d") [u 32,uc (.str [110,101,101,100])]]<|.region Qu [qm 34 0,qm 35 5,qq 36 (.bsl 1 [z0] 1 [(0,(.tmp 35))]),qc 37 (g "m") [u 34,u 36]]))<|.region Qu [qbi 38 .add 28 1,qm 28 38]
abbrev sE:LN:=[29,30,31,5,32,33,34,35,36,37,38,28]
abbrev sF(g:SN):ag:=qS [qb 47 .lss 46 45]<|.seq (qC 47 (.skip) (.exit 2))<|.seq (.block 3 (qS [qm 48 46,qi 49 44 46 1,ql 50 1 49,qm 6 48,qm 7 50]<|qS [qm 51 0,qc 52 (g "d") [u 51,uc (.str [111,112,116,105,111,110])]]<|qS [qm 53 0,qm 54 7,qc 55 (g "w") [u 53,u 54]]<|.region Qu [qm 56 0,qf 57 6 3,ql 58 1 57,qm 59 6,qi 60 58 59 1,ql 61 1 60,qc 62 (g "w") [u 56,u 61]]))<|.region Qu [qbi 63 .add 46 1,qm 46 63]
abbrev sG:LN:=[47,48,49,50,6,7,51,52,53,54,55,56,57,58,59,60,61,62,63,46]
def eN(g:SN):bw:=⟨64,[3],[],qS [qx 3 7 1]<|qS [qm 8 0,qc 9 (g "d") [u 8,uc (.str [97,115,107])]]<|qS [qm 10 0,qf 11 0 3,ql 12 1 11,qq 13 (.iaA 3 1 (uc (.ep aQg 0)) (u 12)),ql 14 1 13,qc 15 (g "q") [u 10,u 14]]<|qS [qm 16 0,qf 17 5 3,ql 18 1 17,qq 19 (.bsl 1 [z0] 1 [(0,(.tmp 18))]),qc 20 (g "m") [u 16,u 19]]<|qS [qm 21 0,qf 22 4 3,ql 23 1 22,qc 24 (g "w") [u 21,u 23]]<|.seq (qS [qf 25 3 3,ql 26 1 25,qn 27 26,qmc 28 z0]<|.block 0 (.loop (sD g)))<|qS [qm 39 0,qf 40 1 3,ql 41 1 40,qc 42 (g "aB") [u 39,u 41]]<|qS [qf 43 2 3,ql 44 1 43,qn 45 44,qmc 46 z0]<|.block 2 (.loop (sF g))⟩
theorem aSl{k:Int}(h0:0<=k)(h1:k<=2):∃w:Str,w.length<=6/\(aQg.drop k.toNat).take 1=[.str w]/\k.toNat+1<=aQg.length:=by
 have:∀i<3,∃w:Str,w.length<=6/\(aQg.drop i).take 1=[.str w]/\i+1<=aQg.length:=by
  intro i hi
  match i,hi with
  |0,_=>exact⟨_,by decide,rfl,by decide⟩
  |1,_=>exact⟨_,by decide,rfl,by decide⟩
  |2,_=>exact⟨_,by decide,rfl,by decide⟩
 exact this _ (by omega)
section
variable {A:af}{g:SN}{tB tP:Nat}
theorem aLb(F:BlockPrt A g tB tP)(h:Has A g "aA" (eN g))(q:Question)(hq:q.Ok)(hb:aWp q=Qt):aNb A (g "aA") [.agg (gR q)] 150000:=by
 refine h.prt rfl (by simp[eN]) (fun n=>by kernel_rfl) ?_;intro H ty o v o2 v2 T c hT Aw;unfold aWp aGx at hb;simp only[AI,eG]at hb;obtain⟨⟨⟨⟨⟨⟨⟨⟨b1,b2⟩,b3⟩,b4⟩,⟨b5,b6⟩⟩,⟨b7,b8⟩⟩,⟨b9,b10⟩⟩,b11⟩,b12,b13⟩:=hb;rw[AO]at b10;have b2':q.kind<3:=by omega
 have b4':q.options.length=q.dv.length:=by simp at b4;omega
 obtain⟨w,dy,gn,pr⟩:=aSl b1 b2;have c':∀y:ah,gf (H++[y]).length o o2:=fun y=>c.mono (by simp);have tx:∀{s:Str},lI s->s.length<=1000:=fun h=>h;have hr:∀r∈q.lk,r.text.length<=200 /\ -1000000<r.gg/\r.gg<1000000:=fun r hr=>by
  have h1:=b3.2.2;rw[AO]at h1;have:=h1 r hr;unfold aUL vP at this;simp only[AI,eG]at this;exact⟨by omega,by omega,by omega⟩
 have Mb:=mS F.toOutFns [q.points] Qu (by simp) (by simp;omega);simp only[eN];simp only[go_sem,↓aB,seval,gR,mO c,aFE c,iZ];refine bI (fQ F.toOutFns [97,115,107] (by decide)) (c' _) hT (by show T.length+4<=_;omega) ?_;rintro T1 dc k1 k2 k3;have k2:T1.length<=T.length+4:=k2;simp only[go_sem,↓aB,seval,mO c,AD,AA,AE,b1,b2',gn,pr,BC,FK];refine bI (pY F.toOutFns w (by omega)) (c' _) k1 (by omega) ?_;rintro T2 en m1 m2 m3;simp only[go_sem,↓aB,seval,mO c,AB,AD,AA,AE];refine bI Mb (c' _) m1 (by simp;omega) ?_;rintro T3 wr3 n1 n2 n3;have n2:T3.length<=T2.length+9:=n2;simp only[go_sem,↓aB,seval,mO c,AB,AD,AA,AE];have Y2:q.key.length<=1000:=hq.key;refine bI (sZ F.toTextFns q.key Y2) (c' _) n1 (by omega) ?_;rintro T4 wr4 p1 p2 p3;simp only[go_sem,↓aB,seval,mO c,AB,AD,AA,AE,AF];generalize hx:ah.box _ [vi q.kind,AV.sl Qu (q.lk.map cZ),.sl Qu (q.options.map aN),.sl Qu (q.cy.map bF),.str q.key,vi q.points,.sl Qu (q.dv.map aN)]=x;refine kU (fun L wr=>L=[x]/\Wr2 o o2 wr) 0 1 28 27 29 38 q.cy.length 20 (W:=sE) (by rfl) (by kernel_rfl) rfl rfl rfl (by omega) p1 ⟨rfl,bZ (bZ (bZ (bZ kT k3) m3) n3) p3⟩ ?_ ?_
 ·rintro i ρ1 L1 T5 wr5 hlt e8 hf ⟨rfl,g3⟩ g1 g2;have e6:ρ1 26=.sl Qu (q.cy.map bF):=hf 26 rfl;have e0:ρ1 0=.ptr o v 0:=hf 0 rfl;have cj:=mgE bF hlt;have a1:=b10 _ (AS hlt);generalize q.cy[i]=nd at *;unfold aOl at a1;rw[eG]at a1;have I0:=mS F.toOutFns [nd] Qu (by simp) (by simp;omega);have dp:i*20+20<=q.cy.length*20:=by omega
  simp only[go_sem,↓aB,seval,e8,e6,e0,AU,AT,cj,bF];refine bI (fQ F.toOutFns [110,101,101,100] (by decide)) (c' _) g1 (by show T5.length+5<=_;omega) ?_;rintro T6 wr6 r1 r2 r3;have r2:T6.length<=T5.length+5:=r2;simp only[go_sem,↓aB,seval,e0];refine bI I0 (c' _) r1 (by simp;omega) ?_;rintro T7 wr7 s1 s2 s3;have s2:T7.length<=T6.length+9:=s2;simp only[go_sem,↓aB,seval];exact⟨rfl,_,T7,⟨rfl,bZ (bZ g3 r3) s3⟩,s1,by omega,rfl⟩
 rintro ρ2 L2 T5 wr5 ⟨rfl,g3⟩ g1 g2 hf;have e0:ρ2 0=.ptr o v 0:=hf 0 rfl;have e3:ρ2 3=.ptr H.length 1 0:=hf 3 rfl;have xd:q.cy.length*20<=160:=by omega
 subst hx;simp only[go_sem,↓aB,seval,e0,e3,mO c,AB,AD,AA,AE];refine bI (aNc F.toTextFns F.runs q.lk hq.fg hr) (c' _) g1 (by have:=hq.fg;omega) ?_;rintro T6 wr6 r1 r2 r3;have r2:T6.length<=T5.length+6720:=by have:=hq.fg;omega
 simp only[go_sem,↓aB,seval,e3,mO c,AB,AD,AA,AE,AF];generalize hx:ah.box _ [vi q.kind,AV.sl Qu (q.lk.map cZ),.sl Qu (q.options.map aN),.sl Qu (q.cy.map bF),.str q.key,vi q.points,.sl Qu (q.dv.map aN)]=x;refine kU (fun L wr=>L=[x]/\Wr2 o o2 wr) 2 3 46 45 47 63 q.options.length 5000 (W:=sG) (by rfl) (by kernel_rfl) rfl rfl rfl (by omega) r1 ⟨rfl,bZ g3 r3⟩ ?_ ?_
 ·rintro i ρ1 L1 T7 wr7 hlt e8 cq ⟨rfl,j3⟩ j1 j2;have f44:ρ1 44=.sl Qu (q.options.map aN):=cq 44 rfl;have f0:ρ1 0=.ptr o v 0:=(cq 0 rfl).trans e0;have f3:ρ1 3=.ptr H.length 1 0:=(cq 3 rfl).trans e3;have cj:=mgE aN hlt;have Bj:i<q.dv.length:=by omega
  have Bk:=mgE aN Bj;have a1:=hq.options _ (AS hlt);have a2:=hq.dv _ (AS Bj);generalize q.options[i]=s1 at *;generalize q.dv[i]=s2 at *;have a1:s1.length<=1000:=a1;have a2:s2.length<=1000:=a2;have dp:i*5000+5000<=q.options.length*5000:=by omega
  have D3:q.options.length*5000<=30000:=by omega
  simp only[go_sem,↓aB,seval,e8,f44,f0,AU,AT,cj,aN];refine bI (fQ F.toOutFns [111,112,116,105,111,110] (by decide)) (c' _) j1 (by show T7.length+7<=_;omega) ?_;rintro T8 wr8 l1 l2 l3;have l2:T8.length<=T7.length+7:=l2;simp only[go_sem,↓aB,seval,f0];refine bI (sZ F.toTextFns s1 a1) (c' _) l1 (by omega) ?_;rintro T9 wr9 t1 t2 t3;subst hx;simp only[go_sem,↓aB,seval,f0,f3,mO c,AU,AT,Bk,aN,AB,AD,AA,AE];refine bI (sZ F.toTextFns s2 a2) (c' _) t1 (by omega) ?_;rintro T10 wr10 u1 u2 u3;simp only[go_sem,↓aB,seval];exact⟨rfl,_,T10,⟨rfl,bZ (bZ (bZ j3 l3) t3) u3⟩,u1,by omega,rfl⟩
 rintro ρ3 L3 T7 wr7 ⟨rfl,j3⟩ j1 j2 cq;have D3:q.options.length*5000<=30000:=by omega
 simp only[go_sem,seval];exact⟨rfl,[x],T7,j1,by omega,rfl,j3⟩
end
structure oh(A:af)(g:SN)(tB:Nat):Prop where
 val:kc A g tB
 fact:Has A g "af" (yQ g)
 ask:Has A g "ai" (oH g)
 Gl:Has A g "aj" (jI g)
 Bl:Has A g "aA" (eN g)
theorem aSm{k:Int}(h0:0<=k)(h1:k<=6):∃w:Str,w.length<=6/\(aQ0.drop k.toNat).take 1=[.str w]/\k.toNat+1<=aQ0.length:=by
 have:∀i<7,∃w:Str,w.length<=6/\(aQ0.drop i).take 1=[.str w]/\i+1<=aQ0.length:=by
  intro i hi
  match i,hi with
  |0,_=>exact⟨_,by decide,rfl,by decide⟩
  |1,_=>exact⟨_,by decide,rfl,by decide⟩
  |2,_=>exact⟨_,by decide,rfl,by decide⟩
  |3,_=>exact⟨_,by decide,rfl,by decide⟩
  |4,_=>exact⟨_,by decide,rfl,by decide⟩
  |5,_=>exact⟨_,by decide,rfl,by decide⟩
  |6,_=>exact⟨_,by decide,rfl,by decide⟩
 exact this _ (by omega)
section
variable {A:af}{g:SN}{tB:Nat}
theorem aVf(h:oh A g tB)(x:Item)(hx:x.Ok)(H:LO):aG A (g "ag") [.agg (aO x)] H=Qr (.bool (aGU x),H,[]):=by
 refine h.val.item.call ?_;have hw:=kO h.val.blk.within;have hl:∀{n:Nat},n<=16->n<4611686018427387904:=fun h=>by omega
 have h0:=fun H=>aGw h.val.name h.val.M3 h.val.M4 h.val.blk.sj hw x.name H (by have:x.name.length<=1000:=hx.name;omega);have h1:=fun H=>h.val.R9.spec hw bT cQ (l:=x.blocks) (H:=H) (f1:=g "aQ") (q:=dQ) (lo:=0) (hi:=8) (hl hx.zq) fun _ b hb=>aEX h.val.blk b (hx.blocks b hb) H;have h2:=fun H=>h.val.B6.spec hw lF cQ (l:=x.facts) (H:=H) (f1:=g "af") (q:=aHJ) (lo:=0) (hi:=8) (hl hx.B1) fun _ b _=>aMe h.fact hw b H;have h3:=fun H=>h.val.S0.spec hw aY1 cQ (l:=x.ask) (H:=H) (f1:=g "ai") (q:=aWp) (lo:=0) (hi:=4) (hl hx.tj) fun _ b hb=>aGV h.ask h.Gl h.val.blk b (hx.ask b hb) H;simp only[yO,aGU];cases e0:aO7 x.name with
 |false=>simp only[go_sem,↓aB,seval,aO,h0,e0,BQ,BB]
 |true=>cases e1:(wi x.blocks.length 0 8&&x.blocks.all dQ)with
  |false=>simp only[go_sem,↓aB,seval,aO,h0,h1,e0,e1,BQ,BR,Zz,BB]
  |true=>cases e2:(wi x.facts.length 0 8&&x.facts.all aHJ)with
   |false=>simp only[go_sem,↓aB,seval,aO,h0,h1,h2,e0,e1,e2,BQ,BR,Zz,BB]
   |true=>simp only[go_sem,↓aB,seval,aO,h0,h1,h2,h3,e0,e1,e2,BR,Zz]
theorem yU{b:Block}(h:dQ b=Qt):xU b=true:=by unfold dQ at h;simp only[AI]at h;exact h.2
theorem aSn{i n m:Nat}(h:i<n):i*m+m<=n*m:=by rw[<- JS];exact BO _ h
theorem aVg(F:uw A g tB)(Mc:Has A g "aA" (eN g))(x:jm)(hx:x.Ok)(hn:x.items.length<=12)(hi:∀i∈x.items,aGU i=Qt)(H:LO):∃s:Str,s.length<=100000000/\aG A (g "bG") [dE x] H=Qr (.str s,H,[]):=by
 obtain⟨v',H',ba,h1,rfl,rfl,s,rfl,hs⟩:=F.source.bp (args:=[dE x]) (H:=H) (K:=fun v H' wr=>wr=[]/\H'=H/\∃s:Str,v=.str s/\s.length<=100000000) (by
  have hf:=aIA F.toOutFns (H:=H++[.cw 1 143 [.nilPtr,.ar],.gone 0,.gone 0,.gone 0,.gone 0]) (o:=H.length) (v:=1) (s:=[101,120,97,109]) (by simp) (by simp) (by decide);rw[show (H++[ah.cw 1 143 [.nilPtr,.ar],.gone 0,.gone 0,.gone 0,.gone 0]).length=H.length+5 by simp,aBe,List.set_cons_zero,CJ]at hf;have c':∀{L:LO},L.length=6->gf (H++L).length H.length (H.length+5):=fun h=>⟨by simp;omega,by simp;omega,by omega⟩;have gy:=fun(T:Str) (b c d e:ah)=>aNe (H:=H) (ty:=143) (v:=1) (v2:=1) (T:=T) (a:=.gone 0) (b:=b) (c:=c) (d:=d) (e:=e) (f:=.gone 0);rw[show [ah.cw 1 143 [.ptr H.length 1 0,.sr (H.length+5) 1 ([101,120,97,109]:Str).length],ah.gone 0,.gone 0,.gone 0,.gone 0]++[.gl 1 5 1 (rb [101,120,97,109])]=[.cw 1 143 [.ptr H.length 1 0,.sr (H.length+5) 1 ([101,120,97,109]:Str).length],.gone 0,.gone 0,.gone 0,.gone 0,.gl 1 5 1 (rb [101,120,97,109])] from rfl,gy]at hf;have od:∀{w:LN},Wr2 H.length (H.length+5) w->bE H.length [] w=[]:=fun {w} h=>by
   induction w with
   |nil=>rfl
   |cons x r ih=>
    have hx:H.length<=x:=by rcases h x (by simp)with e | e<;>omega
    unfold bE;rw[Zx (by intro hh;simp at hh;omega)];exact ih fun y hy=>h y (by simp[hy])
  have m1:∀{i:Nat} {X:LO} {T:Str},i≠0->i≠5->(PSt X 143 H.length 1 (H.length+5) 1 T)[H.length+i]? = X[H.length+i]? := fun h h'=>aKX h h';have n1:∀{X:LO} {T:Str},(PSt X 143 H.length 1 (H.length+5) 1 T)[H.length+1]? = X[H.length+1]? := m1 (by decide) (by decide);have S3:x.title.length<=1000:=hx.title;simp only[yM];simp only[go_sem,↓aB,seval,dE,hf];refine bI (sZ F.toTextFns x.title S3) (c' rfl) (by simp) (by show 4+_<=_;omega) ?_;rintro T1 dc a1 a2 a3;have a2:T1.length<=4+(2*x.title.length+3):=a2;simp only[go_sem,↓aB,seval,od a3,AB,AD,AA,AE,AF];refine kU (fun L wr=>L.length=6/\wr=[]) 0 1 23 22 24 80 x.items.length 5600000 (W:=zQ) (by rfl) (by kernel_rfl) rfl (by rfl) (by rfl) (by omega) a1 ⟨rfl,rfl⟩ ?_ ?_
  ·rintro i ρ1 L1 T2 en hlt e23 cq ⟨hL,rfl⟩ g1 g2;obtain⟨x0,x1,x2,x3,x4,x5,rfl⟩:=uI hL;have e3:ρ1 3=.ptr H.length 1 0:=cq 3 rfl;have e21:ρ1 21=.sl Qu (x.items.map aO):=cq 21 rfl;have cj:=mgE aO hlt;have W5:=hi _ (AS hlt);have kh:=hx.items _ (AS hlt);have Y0:=aSn (m:=5600000) hlt;generalize x.items[i]=it at *;have hN:x.items.length*5600000<=67200000:=BO 5600000 hn;unfold aGU at W5;simp only[AI,eG,AO]at W5;obtain⟨⟨⟨b1,⟨b2,b3⟩,b4⟩,⟨b5,b6⟩,b7⟩,⟨b8,b9⟩,b10⟩:=W5;have W6:it.name.length<=1000:=kh.name;have Iz:it.blocks.length<=8:=by omega
   have Ja:it.facts.length<=8:=by omega
   have Jb:it.ask.length<=4:=by omega
   have n2:∀{X:LO} {T:Str} {x:ah},(PSt X 143 H.length 1 (H.length+5) 1 T).set (H.length+1) x=PSt (X.set (H.length+1) x) 143 H.length 1 (H.length+5) 1 T:=aCr (by decide) (by decide);have n3:∀{X:LO} {T:Str},bH (PSt X 143 H.length 1 (H.length+5) 1 T) (H.length+1)=bH X (H.length+1):=aEr (by decide) (by decide);have n4:∀{X:LO} {T:Str} {mk:Nat->ah},make (PSt X 143 H.length 1 (H.length+5) 1 T) (H.length+1) mk=PSt (make X (H.length+1) mk) 143 H.length 1 (H.length+5) 1 T:=aBl (by decide) (by decide);simp only[go_sem,↓aB,seval,e23,e21,e3,iZ,n1,n2,AU,AT,cj,aO];refine bI (fQ F.toOutFns [105,116,101,109] (by decide)) (c' rfl) g1 (by show T2.length+5<=_;omega) ?_;rintro T3 wr3 b1 b2 b3;have b2:T3.length<=T2.length+5:=b2;simp only[go_sem,↓aB,seval,od b3,e3,n1,AD,AA,AE];refine bI (pY F.toOutFns it.name (by omega)) (c' rfl) b1 (by omega) ?_;rintro T4 wr4 d1 d2 d3;simp only[go_sem,↓aB,seval,od d3,n1,AB,AD,AA,AE,AF];refine kU (fun L wr=>L.length=6/\wr=[]/\L[1]? = Qr (.box (x1.ver+1) [.str it.name,.sl Qu (it.blocks.map aE),.sl Qu (it.facts.map aI),.sl Qu (it.ask.map gR)])) 2 3 36 35 37 43 it.blocks.length 600000 (W:=zN) (by rfl) (by kernel_rfl) rfl (by rfl) (by rfl) (by omega) d1 ⟨rfl,rfl,rfl⟩ ?_ ?_
   ·rintro j ρ2 L2 T5 wr5 jlt f36 im ⟨yx,rfl,I1⟩ p1 p2;obtain⟨y0,y1,y2,y3,y4,y5,rfl⟩:=uI yx;have f3:ρ2 3=.ptr H.length 1 0:=(im 3 rfl).trans e3;have f34:ρ2 34=.sl Qu (it.blocks.map aE):=im 34 rfl;have fh:=mgE aE jlt;have td:=kh.blocks _ (AS jlt);have dx:=yU (b4 _ (AS jlt));have u6:=aSn (m:=600000) jlt;generalize it.blocks[j]=b at *;have Md:it.blocks.length*600000<=4800000:=BO 600000 Iz;have m2:∀{X:LO} {T:Str} {x:ah},(PSt X 143 H.length 1 (H.length+5) 1 T).set (H.length+2) x=PSt (X.set (H.length+2) x) 143 H.length 1 (H.length+5) 1 T:=aCr (by decide) (by decide);have m1':∀{X:LO} {T:Str},(PSt X 143 H.length 1 (H.length+5) 1 T)[H.length+2]? = X[H.length+2]? := m1 (by decide) (by decide);have m3:∀{X:LO} {T:Str},bH (PSt X 143 H.length 1 (H.length+5) 1 T) (H.length+2)=bH X (H.length+2):=aEr (by decide) (by decide);have m4:∀{X:LO} {T:Str} {mk:Nat->ah},make (PSt X 143 H.length 1 (H.length+5) 1 T) (H.length+2) mk=PSt (make X (H.length+2) mk) 143 H.length 1 (H.length+5) 1 T:=aBl (by decide) (by decide);have iz:(aE b).all AV.ak=true:=bQ (bG b);simp only[go_sem,↓aB,seval,f36,f34,f3,iZ,m1',m2,AU,AT,fh,cF,bT.take,aS (bG b),aK (bG b),iz,AD,AW,AZ];refine bI (aKV F.toBlockPrt b dx td) (c' rfl) p1 (by omega) ?_;rintro T6 wr6 q1 q2 q3;simp only[go_sem,↓aB,seval,od q3];exact⟨rfl,[y0,y1,.box (y2.ver+1) (aE b),y3,y4,y5],T6,⟨rfl,rfl,I1⟩,q1,by omega,rfl⟩
   rintro ρ' L' T' ba ⟨k0,rfl,k3⟩ k1 k2 I3;obtain⟨y0,y1,y2,y3,y4,y5,rfl⟩:=uI k0;have h5:ρ' 5=.ptr (H.length+1) (x1.ver+1) 0:=I3 5 rfl;have h3:ρ' 3=.ptr H.length 1 0:=(I3 3 rfl).trans e3;have Md:it.blocks.length*600000<=4800000:=BO 600000 Iz;simp only[CT,BG,AG]at k3;subst k3;simp only[go_sem,↓aB,seval,h5,n1,AB,AD,AA,AE,AF];refine kU (fun L wr=>L.length=6/\wr=[]/\L[1]? = Qr (.box (x1.ver+1) [.str it.name,.sl Qu (it.blocks.map aE),.sl Qu (it.facts.map aI),.sl Qu (it.ask.map gR)])) 4 5 47 46 48 68 it.facts.length 60 (W:=zO) (by rfl) (by kernel_rfl) rfl (by rfl) (by rfl) (by omega) k1 ⟨rfl,rfl,rfl⟩ ?_ ?_
   ·rintro j ρ2 L2 T5 wr5 jlt f47 im ⟨yx,rfl,I1⟩ p1 p2;obtain⟨y0,y1,y2,y3,y4,y5,rfl⟩:=uI yx;have f3:ρ2 3=.ptr H.length 1 0:=(im 3 rfl).trans h3;have f45:ρ2 45=.sl Qu (it.facts.map aI):=im 45 rfl;have fh:=mgE aI jlt;have W7:=b7 _ (AS jlt);have u6:=aSn (m:=60) jlt;generalize it.facts[j]=f at *;have Me:it.facts.length*60<=480:=BO 60 Ja;unfold aHJ at W7;simp only[AI,eG]at W7;obtain⟨⟨⟨⟨v1,v2⟩,v3,v4⟩,v5,v6⟩,v7,v8⟩:=W7;obtain⟨w,dy,gn,pr⟩:=aSm v1 v2;have v2':f.kind<7:=by omega
    have Gm:=mS F.toOutFns [f.block,f.a,f.b] Qu (by simp) (by simp;omega);have r1:∀{X:LO} {T:Str},(PSt X 143 H.length 1 (H.length+5) 1 T)[H.length+3]? = X[H.length+3]? := m1 (by decide) (by decide);have r2:∀{X:LO} {T:Str} {x:ah},(PSt X 143 H.length 1 (H.length+5) 1 T).set (H.length+3) x=PSt (X.set (H.length+3) x) 143 H.length 1 (H.length+5) 1 T:=aCr (by decide) (by decide);have r3:∀{X:LO} {T:Str},bH (PSt X 143 H.length 1 (H.length+5) 1 T) (H.length+3)=bH X (H.length+3):=aEr (by decide) (by decide);have r4:∀{X:LO} {T:Str} {mk:Nat->ah},make (PSt X 143 H.length 1 (H.length+5) 1 T) (H.length+3) mk=PSt (make X (H.length+3) mk) 143 H.length 1 (H.length+5) 1 T:=aBl (by decide) (by decide);simp only[go_sem,↓aB,seval,f47,f45,f3,iZ,r1,r2,AU,AT,fh,aI];refine bI (fQ F.toOutFns [102,97,99,116] (by decide)) (c' rfl) p1 (by show T5.length+5<=_;omega) ?_;rintro T6 wr6 q1 q2 q3;have q2:T6.length<=T5.length+5:=q2;simp only[go_sem,↓aB,seval,od q3,f3,r1,AD,AA,AE,v1,v2',gn,pr,BC,FK];refine bI (pY F.toOutFns w (by omega)) (c' rfl) q1 (by omega) ?_;rintro T7 wr7 s1 s2 s3;simp only[go_sem,↓aB,seval,od s3,f3,r1,AB,AD,AA,AE];refine bI Gm (c' rfl) s1 (by simp;omega) ?_;rintro T8 wr8 t1 t2 t3;have t2:T8.length<=T7.length+27:=t2;simp only[go_sem,↓aB,seval,od t3];exact⟨rfl,[y0,y1,y2,.box (y3.ver+1) (aI f),y4,y5],T8,⟨rfl,rfl,I1⟩,t1,by omega,rfl⟩
   rintro ρ'' L'' T'' wr'' ⟨q0,rfl,q3⟩ q1 q2 Cv;obtain⟨z0,z1,z2,z3,z4,z5,rfl⟩:=uI q0;have Fy:ρ'' 5=.ptr (H.length+1) (x1.ver+1) 0:=(Cv 5 rfl).trans h5;have D9:ρ'' 3=.ptr H.length 1 0:=(Cv 3 rfl).trans h3;have Me:it.facts.length*60<=480:=BO 60 Ja;simp only[CT,BG,AG]at q3;subst q3;simp only[go_sem,↓aB,seval,Fy,n1,AB,AD,AA,AE,AF];refine kU (fun L wr=>L.length=6/\wr=[]) 6 7 72 71 73 79 it.ask.length 150000 (W:=zP) (by rfl) (by kernel_rfl) rfl (by rfl) (by rfl) (by omega) q1 ⟨rfl,rfl⟩ ?_ ?_
   ·rintro j ρ2 L2 T5 wr5 jlt f72 im ⟨yx,rfl⟩ p1 p2;obtain⟨y0,y1,y2,y3,y4,y5,rfl⟩:=uI yx;have f3:ρ2 3=.ptr H.length 1 0:=by rw[im 3 (by rfl)];exact D9
    have f70:ρ2 70=.sl Qu (it.ask.map gR):=im 70 rfl;have fh:=mgE gR jlt;have J0:=kh.ask _ (AS jlt);have Mf:=b10 _ (AS jlt);have u6:=aSn (m:=150000) jlt;generalize it.ask[j]=q at *;have Mg:it.ask.length*150000<=600000:=BO 150000 Jb;have r1:∀{X:LO} {T:Str},(PSt X 143 H.length 1 (H.length+5) 1 T)[H.length+4]? = X[H.length+4]? := m1 (by decide) (by decide);have r2:∀{X:LO} {T:Str} {x:ah},(PSt X 143 H.length 1 (H.length+5) 1 T).set (H.length+4) x=PSt (X.set (H.length+4) x) 143 H.length 1 (H.length+5) 1 T:=aCr (by decide) (by decide);have r3:∀{X:LO} {T:Str},bH (PSt X 143 H.length 1 (H.length+5) 1 T) (H.length+4)=bH X (H.length+4):=aEr (by decide) (by decide);have r4:∀{X:LO} {T:Str} {mk:Nat->ah},make (PSt X 143 H.length 1 (H.length+5) 1 T) (H.length+4) mk=PSt (make X (H.length+4) mk) 143 H.length 1 (H.length+5) 1 T:=aBl (by decide) (by decide);have p0:=aLb F.toBlockPrt Mc q J0 Mf;simp only[gR]at p0;simp only[go_sem,↓aB,seval,f72,f70,f3,iZ,r1,r2,AU,AT,fh,gR];refine bI p0 (c' rfl) p1 (by omega) ?_;rintro T6 wr6 s1 s2 s3;simp only[go_sem,↓aB,seval,od s3];exact⟨rfl,[y0,y1,y2,y3,.box (y4.ver+1) (gR q),y5],T6,⟨rfl,rfl⟩,s1,by omega,rfl⟩
   rintro ρ3 L3 T3' wr3' ⟨r0,rfl⟩ r1 r2 Lv;have Mg:it.ask.length*150000<=600000:=BO 150000 Jb;simp only[go_sem,seval];exact⟨rfl,L3,T3',⟨r0,rfl⟩,r1,by omega,rfl⟩
  rintro ρ' L' T' ba ⟨k0,rfl⟩ k1 k2 hf;have hN:x.items.length*5600000<=67200000:=BO 5600000 hn;have h3:ρ' 3=.ptr H.length 1 0:=hf 3 rfl;obtain⟨wr8,w1,w2⟩:=tX F.wb F.cc (ty:=143) (v:=1) (v2:=1) (T:=T') (b:=10) (c' k0) (by omega);have w1:aG A (g "D") [.ptr H.length 1 0,.int .u8 10] (PSt (H++L') 143 H.length 1 (H.length+5) 1 T')=Qr (.bj,PSt (H++L') 143 H.length 1 (H.length+5) 1 (T'++[10]),wr8):=w1;have bd:=aCs F.str (ty:=143) (v:=1) (v2:=1) (T:=T'++[10]) (c' k0) (by simp) (by simp;omega);have pk:((PSt (H++L') 143 H.length 1 (H.length+5) 1 (T'++[10])).set (H.length+5) (.gone 1)).take H.length=H:=by rw[List.take_set_of_le (by omega),aNf]
  simp only[go_sem,↓aB,seval,h3,w1,bd,od w2,qQ,pk];exact⟨T'++[10],rfl,by simp;omega⟩)
 exact⟨s,hs,h1⟩
end
section
variable {A:af}{g:SN}{tB:Nat}
theorem aTh(h:oh A g tB)(x:jm)(hx:x.Ok)(H:LO):∃e:Int,aG A (g "e") [dE x] H=Qr (vi e,H,[])/\(e=0->∀i∈x.items,aGU i=Qt):=by
 have hw:=kO h.val.blk.within;have h0:=fun H=>qW h.val.blk.text h.val.blk.wg h.val.blk.sj hw x.title 0 100 H (by have:x.title.length<=1000:=hx.title;omega);have h1:=fun H=>h.val.allI.spec hw aJl cQ (l:=x.items) (H:=H) (f1:=g "ag") (q:=aGU) (lo:=0) (hi:=12) (by have:=hx.G8;show x.items.length<_;omega) fun _ i hi=>aVf h i (hx.items i hi) H;cases e0:vP 0 100 x.title with
 |false=>refine⟨1, ?_,fun h=>by cases h⟩;refine h.val.valid.call ?_;simp only[mZ];simp only[go_sem,↓aB,seval,dE,h0,e0,AD,AA,AE,CE,AJ]
 |true=>
  cases e1:(wi x.items.length 0 12&&x.items.all aGU)with
  |false=>refine⟨1, ?_,fun h=>by cases h⟩;refine h.val.valid.call ?_;simp only[mZ];simp only[go_sem,↓aB,seval,dE,h0,h1,e0,e1,AB,AD,AA,AE,Zz,AJ]
  |true=>
   have e1':=e1;simp only[AI,eG,AO]at e1';obtain⟨s,lq,nu⟩:=aVg h.val.src h.Bl x hx (by omega) e1'.2 H;refine⟨if decide ((s.length:Int)>8192)then 4 else 0, ?_,fun _=>e1'.2⟩;refine h.val.valid.call ?_;simp only[mZ];simp only[dE]at nu ⊢;simp only[go_sem,↓aB,seval,h0,h1,e0,e1,nu,AB,AD,AA,AE,Zz,AJ];refine aD (fun dp=>?_) (fun dp=>?_)
   ·simp only[go_sem,↓aB,seval,dp]
   rw[dp];simp only[go_sem,↓aB,seval]
abbrev aCD(A:af)(g:SN)(E:Int->Int->List Shape->Int):Prop:=∀(w hh:Int) (l:List Shape),1<=w/\w<=1000->1<=hh/\hh<=1000->l.length<=8->(∀s∈l,vQ s=Qt)->∀H:LO,aG A (g "u") [.agg (aDn w hh l)] H=Qr (vi (E w hh l),H,[])
noncomputable def nU(E:Int->Int->List Shape->Int)(b:Block):Int:=if dQ b then (if b.kind=1 then aBV b.expr else if b.kind=4 then E b.w b.h b.aw else 0)else 1
theorem aTi(h:kc A g tB)(b:Block)(hb:b.Ok)(H:LO):aG A (g "e") [dE (aKW b)] H=Qr (vi (if dQ b then 0 else 1),H,[]):=by
 obtain⟨e,h1,h2,h3⟩:=aOj h b hb H;rw[h1];cases hB:dQ b with
 |true=>rw[h3 hB];rfl
 |false=>have:=h2;rw[show e=1 from h2 hB];rfl
theorem aMj{E:Int->Int->List Shape->Int}(hE:aCD A g E)(hv:kc A g tB)(hf:lu A g)(hc:Has A g "C" (tE g))(b:Block)(hb:b.Ok)(H:LO):aG A (g "C") [.agg (aE b)] H=Qr (vi (nU E b),H,[]):=by
 have h0:=aTi hv b hb H;obtain⟨op,n,ks,mn⟩:∃op n ks,b.expr=Expr.mk op n ks:=by cases b.expr;exact⟨_,_,_,rfl⟩
 have vt:aF b.expr=[vi op,vi n,.sl Qu (ks.map aF)]:=by rw[mn,aF,aZ]
 have ig:aE b=[vi b.kind,.sl Qu (b.runs.map cZ),vi op,vi n,.sl Qu (ks.map aF),vi b.dn,.sl Qu (b.eg.map bF),.sl Qu (b.cd.map bY),vi b.w,vi b.h,.sl Qu (b.aw.map aH),.sl Qu (b.bo.map bS),.sl Qu (b.lines.map aN)]:=by unfold aE;rw[vt];rfl
 have yp:=aCp hf b.expr hb.expr hb.size H;rw[vt]at yp;simp only[dE,aKW,BI,BY,aO,ig]at h0;refine hc.call ?_;rw[ig];simp only[tE,nU];cases hB:dQ b with
 |false=>rw[hB]at h0;simp only[go_sem,↓aB,seval,h0,AJ]
 |true=>
  rw[hB]at h0;simp only[go_sem,↓aB,seval,h0];simp only[aAJ];by_cases k1:b.kind=1
  ·simp only[go_sem,↓aB,seval,k1,AB,AD,AA,AE,yp,AJ]
  have b1:(b.kind==1)=false:=by simpa using k1
  by_cases k4:b.kind=4
  ·have hk:xU b=true:=by unfold dQ at hB;simp only[AI]at hB;exact hB.2
   unfold xU at hk;rw[Zx (by omega),Zx (by omega),Zx (by omega),Zx (by omega),Zy k4]at hk;simp only[AI,eG]at hk;obtain⟨⟨hw,hh⟩,⟨_,Iv⟩,hS⟩:=hk;have Gn:=hE b.w b.h b.aw hw hh (by omega) (AO.1 hS) H;simp only[go_sem,↓aB,seval,k4,AB,AD,AA,AE,Gn,AJ]
  have b4:(b.kind==4)=false:=by simpa using k4
  simp only[go_sem,↓aB,seval,b1,b4,k1,k4]
end
abbrev aFv(g:SN):ag:=qS [qb 15 .lss 14 13]<|.seq (qC 15 (.skip) (.exit 0))<|.seq (.block 1 (qS [qm 16 14,qi 17 12 14 13,qla 18 13 17,qq 5 (.alloc [z0,(.sl Qt []),z0,z0,(.sl Qt []),z0,(.sl Qt []),(.sl Qt []),z0,z0,(.sl Qt []),(.sl Qt []),(.sl Qt [])]),qm 4 16,qs 13 5 18]<|.region Qu [qm 19 3,qla 20 13 5,qm 21 4,qc 22 (g "N") [u 20,u 21],qa 23 4 32 19 22,qm 3 23]))<|.region Qu [qbi 24 .add 14 1,qm 14 24]
def yV(g:SN):bw:=⟨26,[5,23],[.tmp 2],qS [qx 1 4 0,qmc 2 (.sl Qt [])]<|.seq (qS [qla 6 4 1,qq 7 (.bsl 4 [(.str []),(.sl Qu []),(.sl Qu []),(.sl Qu [])] 1 [(0,(.tmp 6))]),qq 8 (.build [(.str []),(.sl Qt [])] [(0,1,(.const (.str [120]))),(1,1,(.tmp 7))]),qc 9 (g "e") [u 8],qbi 10 .neq 9 0]<|qC 10 (qS [qmc 2 (.sl Qt [])]<|.ret) (.skip))<|qS [qmc 3 (.sl Qt [])]<|.seq (qS [qf 11 1 1,ql 12 1 11,qn 13 12,qmc 14 z0]<|.block 0 (.loop (aFv g)))<|qS [qm 25 3,qm 2 25]<|.ret⟩
def aSo(R:List Fact):AV:=if R.isEmpty then .sl Qu [] else .own 4 (R.map aI)
theorem aLc{A:af}{g:SN}(F:ke A g)(h:Has A g "N" (oZ g))(b:Block)(hb:b.Ok)(at':Int)(H:LO):aG A (g "N") [.agg (aE b),vi at'] H=Qr (aSo (eM b at'),H,[]):=by
 obtain⟨r,h1,h2⟩:=aOp F h b hb at' H;rw[h2];unfold aSo;rcases h1 with⟨e,rfl⟩ | ⟨bl,rfl⟩
 ·rw[e];rfl
 cases he:eM b at' with
 |nil=>exact Zw he bl
 |cons a r=>rfl
theorem aFF:aSo []=.sl Qu []:=rfl
theorem aDI{f:Fact}{r:List Fact}:aSo (f::r)=.own 4 ((f::r).map aI):=rfl
theorem aVh{R:List Fact}(h:R≠[]):aSo R=.own 4 (R.map aI):=by
 cases R with
 |nil=>exact Zw rfl h
 |cons f r=>rfl
def mI(l:List Block)(n:Nat):List Fact:=(GZ n).flatMap fun(k:Nat)=>match l[k]? with
 |some b=>eM b (k:Int)
 |none=>[]
def tI(x:Item):List Fact:=mI x.blocks x.blocks.length
theorem yW{l:List Block}{n:Nat}(h:n<l.length):mI l (n+1)=mI l n++eM l[n] n:=by unfold mI;rw[LQ,JK];simp[AP h]
theorem aEA{l:List Block}(hl:∀b∈l,b.Ok):∀n,n<=l.length->(mI l n).length<=n*1792
 |0,_=>FF _
 |n+1,h=>by
  have h1:=aEA hl n (by omega);have h2:=yT (hl _ (AS (by omega:n<l.length))) (at':=(n:Int)) 7;rw[yW (by omega),BA];have:(eM l[n] (n:Int)).length<=7*256:=h2;omega
def bC6(o:Nat)(w:AV)(x:ah)(rows:List Fact):Prop:=(rows=[]/\w=.sl Qt [])∨(rows≠[]/\∃ver,w=.sr o ver rows.length/\x=.vec ver 4 (rows.map aI))
section
variable {A:af}{g:SN}{tB:Nat}
theorem aH7(F:ke A g)(hf:Has A g "N" (oZ g))(h:Has A g "aW" (yV g))(x:Item)(hx:x.Ok){P P':Prop} (hV:∀H,∃e:Int,aG A (g "e") [dE ⟨[120],[x]⟩] H=Qr (vi e,H,[])/\(e=0->P)/\(P'->e=0)) (H:LO):∃R,aG A (g "aW") [.agg (aO x)] H=Qr (aSo R,H,[])/\((R=[]/\¬P')∨(P/\R=tI x)):=by
 obtain⟨r,H',ba,e1,rfl,rfl,R,rfl,e2⟩:=h.bp (args:=[.agg (aO x)]) (H:=H) (K:=fun r H' wr=>wr=[]/\H'=H/\∃R,r=aSo R/\((R=[]/\¬P')∨(P/\R=tI x))) (by
  simp only[yV];obtain⟨e,h1,h2,h3⟩:=hV (H++[.gone 0,.gone 0]);simp only[dE,aO,BI,BY]at h1;cases z:(e != 0)with
  |true=>
   have hz:e≠0:=by simpa using z
   simp only[go_sem,↓aB,seval,aO,h1,z,AJ,AB,AD,AA,AE];exact⟨[],rfl,.inl ⟨rfl,fun hp=>hz (h3 hp)⟩⟩
  |false=>
  have hz:e=0:=by simpa using z
  have hP:=h2 hz;simp only[go_sem,↓aB,seval,aO,h1,z,AJ,AB,AD,AA,AE,AF];refine bJ (id:=0) (fun k ρ1 H1 wr=>wr=[]/\ρ1 14=vi (k:Nat)/\∃x0 x1,H1=H++[x0,x1]/\bC6 (H.length+1) (ρ1 3) x1 (mI x.blocks k)) x.blocks.length
   (fun ρ1 H1 wr=>wr=[]/\∃x0 x1,H1=H++[x0,x1]/\bC6 (H.length+1) (ρ1 3) x1 (tI x)) (by kernel_rfl) rfl ⟨rfl,rfl,_,_,rfl,.inl ⟨rfl,rfl⟩⟩ ?_ ?_
  ·rintro k ρ1 H1 dc zp ⟨rfl,e14,x0,x1,rfl,hw⟩ cq;have f12:ρ1 12=.sl Qu (x.blocks.map aE):=cq 12 rfl;have f13:ρ1 13=vi (x.blocks.length:Nat):=cq 13 rfl;simp only[go_sem,↓aB,seval,e14,f13];refine aD (fun e3=>?_) (fun e3=>?_)
   ·have hlt:k<x.blocks.length:=by simp at e3;omega
    have dy:AR.wrap ((k:Int)+1)=((k+1:Nat):Int):=by rw[wrap_i64 (by omega) (by have:=hx.zq;omega)];omega
    have cj:=mgE aE hlt;have td:=hx.blocks _ (AS hlt);have C7:=yW hlt;have R6:=aEA hx.blocks (k+1) hlt;have Bm:=hx.zq;generalize x.blocks[k]=b at *;have az:=fun H=>aLc F hf b td k H;have iz:(aE b).all AV.ak=true:=bQ (bG b);rw[C7,BA]at R6;cases hR:eM b k with
    |nil=>
     rw[hR,AJ]at C7;simp only[hR]at az;rcases hw with⟨e0,e3'⟩ | ⟨bl,ver,e3',rfl⟩
     ·simp only[go_sem,↓aB,seval,e14,dy,f12,AU,AT,hlt,cj,cF,bT.take,aS (bG b),aK (bG b),iz,AD,AW,AZ,az,aFF,e3',eX,cG,dO];exact⟨_,_,rfl,by rw[C7];exact .inl ⟨e0,rfl⟩⟩
     have hr:bP (mI x.blocks k).length 32=true:=by unfold bP;simp;omega
     simp only[go_sem,↓aB,seval,e14,dy,f12,AF,AU,AT,hlt,cj,cF,bT.take,aS (bG b),aK (bG b),iz,AD,AW,AZ,az,aFF,e3',eX,cG,dO,hr];exact⟨_,_,rfl,by rw[C7];exact .inr ⟨bl,ver,rfl,rfl⟩⟩
    |cons f r=>
     rw[hR]at C7 R6;simp only[hR]at az;have hd:gG ((f::r).map aI)=true:=aC eL _;rcases hw with⟨e0,e3'⟩ | ⟨bl,ver,e3',rfl⟩
     ·have hr:bP (r.length+1) 32=true:=by unfold bP;simp at R6 ⊢;omega
      simp only[go_sem,↓aB,seval,e14,dy,f12,AF,AU,AT,hlt,cj,cF,bT.take,aS (bG b),aK (bG b),iz,AD,AW,AZ,az,aDI,e3',eX,cG,dO,hr,BI,aI];exact⟨_,_,rfl,by rw[C7,e0,CW];exact .inr ⟨by simp,_,rfl,rfl⟩⟩
     have hr:bP ((mI x.blocks k).length+(r.length+1)) 32=true:=by unfold bP;simp at R6 ⊢;omega
     simp only[go_sem,↓aB,seval,e14,dy,f12,AF,AU,AT,hlt,cj,cF,bT.take,aS (bG b),aK (bG b),iz,AD,AW,AZ,az,aDI,e3',eX,cG,dO,hr,BI,aI];exact⟨_,_,rfl,by rw[C7];exact .inr ⟨by simp,ver,by rw[BA];rfl,by rw[DQ];rfl⟩⟩
   have:k=x.blocks.length:=by simp at e3;omega
   subst this;simp only[go_sem,seval];exact⟨x0,x1,rfl,hw⟩
  rintro ρ' H' ba ⟨rfl,x0,x1,rfl,hw⟩ cq;rcases hw with⟨e0,e3⟩ | ⟨bl,ver,e3,rfl⟩
  ·simp only[go_sem,↓aB,seval,e3];exact⟨[],rfl,.inr ⟨hP,e0.symm⟩⟩
  have hd:gG ((tI x).map aI)=true:=aC eL _;simp only[go_sem,↓aB,seval,e3,aT hd,aA hd,AF];exact⟨_,(aVh bl).symm,.inr ⟨hP,rfl⟩⟩)
 exact⟨R,e1,e2⟩
end
end Go.AM
end
section

end
section
namespace Go.AM
open Go
abbrev aH8(A:af)(g:SN):Prop:=∀(n:Nat) (H:LO),n<1000000->aG A (g "F") [vi n] H=Qr (.str (dec n),H,[])
theorem kinds(k:Int):k=0∨k=1∨k=2∨(k≠0/\k≠1/\k≠2):=by omega
theorem aF9{a b:Int}(h:a≠b):(a==b)=false:=by simpa using h
abbrev aA1(g:SN):List ae:=[qm 10 0,⟨Qr 11,obi .quo 10 10,Qs,[0]⟩,⟨Qr 12,oc (g "F") [u 11],Qs,[1,0]⟩,qm 13 0,⟨Qr 14,obi .rem 13 10,Qs,[3]⟩,⟨Qr 15,.bin .add .no (ui 48) (u 14),Qs,[4,3]⟩,⟨Qr 16,.conv (.toInt .u8) (u 15),Qs,[5,4,3]⟩,⟨Qr 17,.bsl 1 [(.int .u8 0)] 1 [(0,(.tmp 16))],Qs,[6,5,4,3]⟩,⟨Qr 18,.conv .b2s (u 17),Qs,[7,6,5,4,3]⟩,⟨Qr 19,ob .add 12 18,Qs,[2,1,0,8,7,6,5,4,3]⟩,⟨Qr 2,om 19,Qs,[9,2,1,0,8,7,6,5,4,3]⟩]
def mV(g:SN):bw:=⟨20,[],[.tmp 2],qS [qmc 2 (.str [])]<|.seq (qS [qm 3 0,qbi 4 .lss 3 10]<|qC 4 (qS [qm 5 0,qq 6 (.bin .add .no (ui 48) (u 5)),qq 7 (.conv (.toInt .u8) (u 6)),qq 8 (.bsl 1 [(.int .u8 0)] 1 [(0,(.tmp 7))]),qq 9 (.conv .b2s (u 8)),qm 2 9]<|.ret) (.skip))<|.seq (.region Qt (aA1 g))<|.ret⟩
def nP(g:SN):bw:=⟨15,[],[.tmp 4],qS [qmc 4 z0]<|.seq (qS [qm 5 0,qbi 6 .lss 5 0]<|qC 6 (qR [qm 7 0,qbi 8 .add 7 1,qq 9 (.un .neg (u 8)),qm 0 9]) (.skip))<|.seq (qS [qm 10 1,qbi 11 .lss 10 1]<|qC 11 (qS [qmc 4 z0]<|.ret) (.skip))<|qS [qm 12 0,qm 13 1,qb 14 .rem 12 13,qm 4 14]<|.ret⟩
def oQ(g:SN):bw:=⟨21,[],[.tmp 6],qS [qmc 6 z0]<|.seq (qS [qm 7 1,qbi 8 .lss 7 0,qm 9 8,qF 10 9 (om 1),qF 11 9 (om 0),qF 12 9 (on 11),qF 13 9 (ob .geq 10 12),qq 14 (.pick (u 9) uT (u 13))]<|qC 14 (qS [qmc 6 z0]<|.ret) (.skip))<|qS [qm 15 0,qm 16 1,qi 17 15 16 1,ql 18 1 17,qm 19 2,qc 20 (g "bh") [u 18,u 19],qm 6 20]<|.ret⟩
abbrev uK(g:SN):List ae:=[qm 12 0,⟨Qr 13,.cz (u 12),Qs,[0]⟩,⟨Qr 14,of 0 13,Qs,[1,0]⟩,⟨Qr 15,ol 1 14,Qs,[2,1,0]⟩,qm 16 0,⟨Qr 17,.cz (u 16),Qs,[4]⟩,⟨Qr 18,of 1 17,Qs,[5,4]⟩,⟨Qr 19,ol 1 18,Qs,[6,5,4]⟩,⟨Qr 20,obi .sub 19 1,Qs,[7,6,5,4]⟩,qm 21 1,⟨Qr 22,oc (g "ay") [u 15,u 20,u 21],Qs,[3,2,1,0,8,7,6,5,4,9]⟩,⟨Qr 4,om 22,Qs,[10,3,2,1,0,8,7,6,5,4,9]⟩]
def kC(g:SN):bw:=⟨23,[],[.tmp 4],qS [qmc 4 z0]<|qS [qm 5 0,qq 6 (.cz (u 5)),qf 7 1 6,ql 8 1 7,qbi 9 .add 8 1,qq 10 (.cz (u 5)),qf 11 1 10,qs 1 11 9]<|.seq (.region Qt (uK g))<|.ret⟩
def oI(g:SN):bw:=⟨15,[],[.tmp 2],qS [qmc 2 z0]<|.seq (qS [qm 3 0,qbi 4 .eql 3 0,qm 5 4,qF 6 5 (om 0),qF 7 5 (obi .eql 6 1),qq 8 (.pick (u 5) uT (u 7))]<|qC 8 (qS [qmc 2 z0]<|.ret) (.skip))<|.seq (qS [qm 9 0,qbi 10 .eql 9 2,qm 11 10,qF 12 11 (om 0),qF 13 11 (obi .eql 12 8),qq 14 (.pick (u 11) uT (u 13))]<|qC 14 (qS [qmc 2 (vi 1)]<|.ret) (.skip))<|qS [qmc 2 (vi 2)]<|.ret⟩
theorem aQh{n:Int}(h1:0<=n)(h2:n<=255):GA .u8 n=n:=by unfold GA IntKind.bits IntKind.signed;simp;omega
theorem aLd{A:af}{g:SN}(h:Has A g "F" (mV g)):aH8 A g:=by
 have key:∀(k n:Nat) (H:LO),n<k->n<1000000->aG A (g "F") [vi n] H=Qr (.str (dec n),H,[]):=by
  intro k
  induction k with
  |zero=>intro n H hk;omega
  |succ k ih=>
   intro n H hk hn;refine h.call ?_;simp only[mV];simp only[go_sem,seval];refine aD (fun hb=>?_) (fun hb=>?_)
   ·have hlt:n<10:=by simp at hb;omega
    have hw:AR.wrap (48+(n:Int))=((48+n:Nat):Int):=by rw[wrap_i64 (by omega) (by omega)];omega
    have hu:KD.wrap ((48+n:Nat):Int)=((48+n:Nat):Int):=aQh (by omega) (by omega);have hd:dec n=[CN (48+n)]:=by rw[dec,Zy hlt]
    simp only[go_sem,seval,hw,hu,pT,cM,hd]
   have nj:¬n<10:=by simp at hb;omega
   have hq:(n:Int).tdiv 10=((n / 10:Nat):Int):=rfl;have hr:(n:Int).tmod 10=((n % 10:Nat):Int):=rfl;have Bh:AR.wrap ((n / 10:Nat):Int)=((n / 10:Nat):Int):=wrap_i64 (by omega) (by omega);have hw:AR.wrap (48+((n % 10:Nat):Int))=((48+n % 10:Nat):Int):=by rw[wrap_i64 (by omega) (by omega)];omega
   have hu:KD.wrap ((48+n % 10:Nat):Int)=((48+n % 10:Nat):Int):=aQh (by omega) (by omega);have Mh:=fun H=>ih (n / 10) H (by omega) (by omega);have hd:dec n=dec (n / 10)++[CN (48+n % 10)]:=by rw[dec,Zx nj]
   have hl:(dec (n / 10)).length+1<=4611686018427387904:=by have:=aGn 5 (n / 10) (by omega);omega
   simp only[go_sem,seval];refine aY (aq:=[2,6,8]) (by rfl) (by rfl) ?_;simp only[go_sem,seval,aAl (b:=10) (by decide),tS (b:=10) (by decide),hq,hr,Bh,hw,hu,Mh,pT,cM,kE,hl,eH,dG,aL,hd]
 intro n H hn;exact key (n+1) n H (by omega) hn
def bu(n most:Int):Int:=if most<1 then 0 else (if n<0 then AR.wrap (0 - AR.wrap (n+1))else n).tmod most
abbrev qK(A:af)(g:SN):Prop:=∀(n m:Int) (H:LO),aG A (g "bh") [vi n,vi m] H=Qr (vi (bu n m),H,[])
theorem yX{A:af}{g:SN}(h:Has A g "bh" (nP g)):qK A g:=by
 intro n m H;refine h.call ?_;simp only[nP];simp only[go_sem,seval];refine aD (fun hb=>?_) (fun hb=>?_)
 ·have hn:n<0:=by simpa using hb
  simp only[go_sem,seval];refine aD (fun hb=>?_) (fun hb=>?_)
  ·have hm:m<1:=by simpa using hb
   simp only[go_sem,seval,bu,hm]
  have hm:¬m<1:=by simpa using hb
  simp only[go_sem,seval,bu,hm,hn,tS (show m≠0 by omega)]
 have hn:¬n<0:=by simpa using hb
 simp only[go_sem,seval];refine aD (fun hb=>?_) (fun hb=>?_)
 ·have hm:m<1:=by simpa using hb
  simp only[go_sem,seval,bu,hm]
 have hm:¬m<1:=by simpa using hb
 simp only[go_sem,seval,bu,hm,hn,tS (show m≠0 by omega)]
def atZ(l:List Int)(i most:Int):Int:=if i<0∨i ≥ l.length then 0 else bu (l.getD i.toNat 0) most
theorem aVi{A:af}{g:SN}(h:Has A g "ay" (oQ g))(ha:qK A g)(l:List Int)(i m:Int)(H:LO):aG A (g "ay") [.sl Qu (l.map bF),vi i,vi m] H=Qr (vi (atZ l i m),H,[]):=by
 refine h.call ?_;simp only[oQ];by_cases h0:i<0
 ·simp only[go_sem,seval,h0,atZ,true_or]
 by_cases h1:i ≥ l.length
 ·simp only[go_sem,seval,h0,h1,atZ,or_true]
 have hi:i.toNat<l.length:=by omega
 have h2:0<=i:=by omega
 have hg:(l.map bF)[i.toNat]? = Qr [vi (l.getD i.toNat 0)]:=by rw[BN,KV,AP hi];rfl
 simp only[go_sem,seval,h0,h1,h2,hg,ha,atZ,or_false]
abbrev aM(l:List Int)(i:Int):LA:=[.sl Qu (l.map bF),vi i]
abbrev fR(A:af)(g:SN):Prop:=∀(l:List Int) (i m:Int) (o v:Nat) (H:LO),H[o]? = Qr (.box v (aM l i)) ->
 aG A (g "a") [.ptr o v 0,vi m] H=Qr (vi (atZ l (AR.wrap (AR.wrap (i+1) - 1)) m),H.set o (.box v (aM l (AR.wrap (i+1)))),[o])
theorem aQi{A:af}{g:SN}(h:Has A g "a" (kC g))(ha:Has A g "ay" (oQ g))(hr:qK A g):fR A g:=by intro l i m o v H ho;have hlt:=getElem?_lt ho;refine h.call ?_;simp only[kC];simp only[go_sem,seval,ho,hlt];refine aY (aq:=[]) (by rfl) (by rfl) ?_;have jk:=fun H=>aVi ha hr l (AR.wrap (AR.wrap (i+1) - 1)) m H;simp only[go_sem,seval,hlt,jk,aF6,aA (aC aU _)]
def aZH(m:Nat):List UInt8:=if m=0 then [] else CN m::aZH (m / 256)
decreasing_by omega
def mag(n:Int):Nat:=if n<0 then (-1 - n).toNat else n.toNat
def bBf(n:Int)(d:UInt8):UInt8:=if n<0 then 255 - d else d
def bBg(n:Int):UInt8:=if n<0 then CN (127 - (aZH (mag n)).length)else CN (128+(aZH (mag n)).length)
def aNm(n:Int):List UInt8:=bBg n::(aZH (mag n)).reverse.map (bBf n)
def aQj(l:List Int):List UInt8:=aNm l.length++l.flatMap aNm
theorem bCD{a b:Nat}(h:a+b<=1000000000):bP (a+b) 1=true:=by unfold bP;simp;omega
mutual
def aLe:Expr->List UInt8
 |.mk op n kids=>aQj [op,n,kids.length]++aBq kids
def aBq:List Expr->List UInt8
 | []=>[]
 |e::r=>aLe e++aBq r
end
theorem aH9:∀l:List Expr,aBq l=l.flatMap aLe
 | []=>rfl
 |e::r=>by rw[aBq,aH9 r,HW]
theorem pA(e:Expr):(aF e).length=3:=by cases e;rfl
theorem bD:∀l:List Expr,gO l=l.map aF
 | []=>rfl
 |e::r=>by rw[gO,bD r];rfl
end Go.AM
end
section

end
section
namespace Go.AM
open Go
def fC(g:SN):bw:=⟨10,[],[.tmp 2],qS [qmc 2 (.str [])]<|qS [qq 4 (.bsl 1 [(.str [])] 12 [(0,(.const (.str [116,104,101,32,104,97,110,100]))),(1,(.const (.str [97]))),(2,(.const (.str [73,32,97,110,100,32,121,111,117]))),(3,(.const (.str [84,101,110,32,49,48]))),(4,(.const (.str [97,110,100]))),(5,(.const (.str [110,111,44,32,52,50,46]))),(6,(.const (.str [108,97,110,100]))),(7,(.const (.str [67,104,105,108,100]))),(8,(.const (.str [120]))),(9,(.const (.str [99,97,110,32,105,116]))),(10,(.const (.str [55,32,104,97,110,100,115]))),(11,(.const (.str [111,102,32,116,104,101])))]),qm 3 4]<|qS [qm 5 3,qm 6 0,qc 7 (g "a") [u 6,ui 12],qi 8 5 7 1,ql 9 1 8,qm 2 9]<|.ret⟩
abbrev uL(g:SN):ag:=.seq (qS [qm 14 6,qm 15 5,qb 16 .lss 14 15]<|qC 16 (.skip) (.exit 0))<|.seq (.block 1 (qR [qm 19 4,qm 20 3,qm 21 6,qb 22 .add 20 21,qbi 23 .rem 22 2,qm 24 0,qc 25 (g "j") [u 24],qq 26 (.build [z0,(.str [])] [(0,1,(.tmp 23)),(1,1,(.tmp 25))]),qq 27 (.bsl 2 [z0,(.str [])] 1 [(0,(.tmp 26))]),qa 28 2 24 19 27,qm 4 28]))<|.region Qu [qm 17 6,qbi 18 .add 17 1,qm 6 18]
def gB(g:SN):bw:=⟨30,[28],[.tmp 2],qS [qmc 2 (.sl Qt [])]<|qS [qm 7 0,qc 8 (g "a") [u 7,ui 2],qm 3 8]<|qS [qmc 4 (.sl Qt [])]<|qS [qq 9 (.bsl 1 [z0] 5 [(0,(.const (vi 1))),(1,(.const (vi 1))),(2,(.const (vi 1))),(3,(.const (vi 2))),(4,(.const (vi 3)))]),qm 10 0,qc 11 (g "a") [u 10,ui 5],qi 12 9 11 1,ql 13 1 12,qm 5 13]<|.seq (qS [qmc 6 z0]<|.block 0 (.loop (uL g)))<|qS [qm 29 4,qm 2 29]<|.ret⟩
abbrev sH(g:SN):ag:=.seq (qS [qm 11 6,qm 12 5,qb 13 .lss 11 12]<|qC 13 (.skip) (.exit 0))<|.seq (.block 1 (qR [qm 16 4,qm 17 3,qm 18 0,qc 19 (g "a") [u 18,ui 7],qi 20 17 19 1,ql 21 1 20,qq 22 (.bsl 1 [(.str [])] 1 [(0,(.tmp 21))]),qa 23 1 16 16 22,qm 4 23]))<|.region Qu [qm 14 6,qbi 15 .add 14 1,qm 6 15]
def fS(g:SN):bw:=⟨25,[23],[.tmp 2],qS [qmc 2 (.sl Qt [])]<|qS [qq 7 (.bsl 1 [(.str [])] 7 [(0,(.const (.str [105,102,32,120,32,60,32,51,32,123]))),(1,(.const (.str [32,32,121,32,61,32,123,49,44,32,50,125]))),(2,(.const (.str [125]))),(3,(.const (.str []))),(4,(.const (.str [32,32,32,32,114,101,116,117,114,110,32,65,91,105,93,32,43,32,34,115,34]))),(5,(.const (.str [102,111,114,32,105,32,58,61,32,48,59,32,105,32,60,32,49,48,59,32,105,43,43,32,123,32,116,111,116,97,108,32,61,32,116,111,116,97,108,32,43,32,118,97,108,117,101,115,91,105,93,32,42,32,50,32,125]))),(6,(.const (.str [32,97,92,98,32,126,32,99])))]),qm 3 7]<|qS [qmc 4 (.sl Qt [])]<|qS [qm 8 0,qc 9 (g "a") [u 8,ui 3],qq 10 (.bin .add .no (ui 1) (u 9)),qm 5 10]<|.seq (qS [qmc 6 z0]<|.block 0 (.loop (sH g)))<|qS [qm 24 4,qm 2 24]<|.ret⟩
abbrev jP(l:List Int):Prop:=∀a∈l,eA a
theorem kV{n m:Int}(hn:eA n)(hm:1<=m):0<=bu n m/\bu n m<m:=by
 obtain⟨h1,h2⟩:=hn;unfold bu;rw[Zx (by omega)];split
 ·rw[wrap_i64 (n:=n+1) (by omega) (by omega),wrap_i64 (by omega) (by omega)];exact⟨HV _ (by omega),GX _ (by omega)⟩
 exact⟨HV _ (by omega),GX _ (by omega)⟩
theorem aTj{l:List Int}(hl:jP l)(i:Int){m:Int}(hm:1<=m):0<=atZ l i m/\atZ l i m<m:=by
 unfold atZ;split
 ·omega
 rename_i h;refine kV ?_ hm;have hlt:i.toNat<l.length:=by omega
 rw[KV,AP hlt];exact hl _ (AS hlt)
abbrev dI(A:af)(f:Nat)(args:LA)(P:AV->Prop):Prop:=∀(l:List Int) (i:Int) (o v:Nat) (H:LO),jP l->H[o]? = Qr (.box v (aM l i)) ->
 ∃val i',aG A f (.ptr o v 0::args) H=Qr (val,H.set o (.box v (aM l i')),[o])/\P val
theorem bB{A:af}{f:Nat}{args:LA}{P:AV->Prop}(hs:dI A f args P){l:List Int}{i:Int}{o v:Nat}{H H2:LO}(hl:jP l)(ho:H[o]? = Qr (.box v (aM l i))){site:Option Nat}{q:Bool} {k:AV×LO×LN->Prop} {tg} (hk:∀val i',P val->bnd (dY site q H2 (Qr (val,H.set o (.box v (aM l i')),[o]))) k):aCi (dY site q H2 (aG A f (.ptr o v 0::args) H)) k tg:=by obtain⟨val,i',h1,h2⟩:=hs l i o v H hl ho;rw[h1];exact hk val i' h2
theorem eB{A:af}{f:Nat}{args:LA}{P:AV->Prop}(hs:dI A f args P){l:List Int}{i:Int}{o v:Nat}{H H2 H3:LO}(hl:jP l)(ho:H[o]? = Qr (.box v (aM l i))){site:Option Nat}{q:Bool} {k:AV×LO×LN×Option LN->Prop} {tg} (hk:∀val i',P val->bnd (oD H3 (dY site q H2 (Qr (val,H.set o (.box v (aM l i')),[o])))) k):aCi (oD H3 (dY site q H2 (aG A f (.ptr o v 0::args) H))) k tg:=by obtain⟨val,i',h1,h2⟩:=hs l i o v H hl ho;rw[h1];exact hk val i' h2
theorem Has.gen{A:af}{g:SN}{name:String}{fn:bw}(h:Has A g name fn){args:LA}{P:AV->Prop}(hN:args.length+1<=fn.ntmps)(hok:∀n,dK fn.ntmps ⟨n,fn.sites⟩ fn.body=Qt) (hw:∀(l:List Int) (i:Int) (o v:Nat) (H:LO),jP l->o<H.length->H[o]? = Qr (.box v (aM l i)) ->wc A fn.ntmps ⟨H.length,fn.sites⟩ fn.body (pO (.ptr o v 0::args)) (H++List.replicate fn.sites.length (.gone 0)) [] (aRz H.length fn.results (fun val H' wr=>(∃i',H'=H.set o (.box v (aM l i')))/\wr=[o]/\P val) ⟨⟩) ⟨⟩):dI A (g name) args P:=by intro l i o v H hl ho;obtain⟨val,H',wr,h1,⟨i',rfl⟩,rfl,h2⟩:=h.bp (args:=.ptr o v 0::args) (hw l i o v H hl (getElem?_lt ho) ho) (Nat.ble_eq_true_of_le (by simpa using hN)) (hok _);exact⟨val,i',h1,h2⟩
abbrev Below(m:Int)(v:AV):Prop:=∃x:Int,v=vi x/\0<=x/\x<m
theorem bA{A:af}{g:SN}(h:fR A g){m:Int}(hm:1<=m):dI A (g "a") [vi m] (Below m):=by intro l i o v H hl ho;exact⟨_,_,h l i m o v H ho,_,rfl,(aTj hl _ hm).1,(aTj hl _ hm).2⟩
theorem aQk(ns:List Int){x:Int}(h0:0<=x)(hx:x<ns.length):∃n∈ns,(ns.map bF)[x.toNat]? = Qr [vi n]:=by
 have hlt:x.toNat<ns.length:=by omega
 exact⟨ns[x.toNat],AS hlt,getElem?_map_of hlt⟩
theorem aQl(ns:List Str){x:Int}(h0:0<=x)(hx:x<ns.length):∃n∈ns,(ns.map aN)[x.toNat]? = Qr [.str n]:=by
 have hlt:x.toNat<ns.length:=by omega
 exact⟨ns[x.toNat],AS hlt,getElem?_map_of hlt⟩
abbrev aQm:List Str:=[[116,104,101,32,104,97,110,100],[97],[73,32,97,110,100,32,121,111,117],[84,101,110,32,49,48],[97,110,100],[110,111,44,32,52,50,46],[108,97,110,100],[67,104,105,108,100],[120],[99,97,110,32,105,116],[55,32,104,97,110,100,115],[111,102,32,116,104,101]]
abbrev aIG(v:AV):Prop:=∃s:Str,v=.str s/\s.length<=60
theorem aOq{A:af}{g:SN}(h:Has A g "j" (fC g))(ht:fR A g):dI A (g "j") [] aIG:=by
 refine h.gen (by simp[fC]) (fun n=>by kernel_rfl) ?_;intro l i o v H hl hlt ho;simp only[fC];simp only[go_sem,seval];refine bB (bA ht (m:=12) (by decide)) hl ho ?_;rintro val i' ⟨x,rfl,h0,hx⟩;obtain⟨s,hs,cx⟩:=aQl aQm h0 hx;simp only[DR,aN]at cx;simp only[go_sem,seval,hlt,h0,cx,aF6,aA (aC aU _)];refine⟨⟨i',rfl⟩,s,rfl, ?_⟩;have:∀s∈aQm,s.length<=60:=by decide
 exact this s hs
abbrev ROk(a:mr):Prop:=a.Ok/\a.text.length<=60
abbrev aQn(v:AV):Prop:=∃r:List mr,v=.own 2 (r.map cZ)/\1<=r.length/\r.length<=3/\∀a∈r,ROk a
theorem aSp{A:af}{g:SN}(h:Has A g "I" (gB g))(ht:fR A g)(hp:dI A (g "j") [] aIG):dI A (g "I") [] aQn:=by
 refine h.gen (by simp[gB]) (fun n=>by kernel_rfl) ?_;intro l i o v H hl hlt ho;simp only[gB];simp only[go_sem,seval];refine bB (bA ht (m:=2) (by decide)) hl (i:=i) (by simp only[go_sem,seval,eK,hlt,ho]) ?_;rintro val i1 ⟨x,rfl,jr,lz⟩;simp only[go_sem,seval,hlt,fN];refine bB (bA ht (m:=5) (by decide)) hl (i:=i1) (by simp only[go_sem,seval,aP,hlt]) ?_;rintro val i2 ⟨y,rfl,oj,tc⟩;obtain⟨n,hn,cx⟩:=aQk [1,1,1,2,3] oj tc;simp only[DR,bF]at cx;have Ck:1<=n/\n<=3:=by
  have:∀n∈([1,1,1,2,3]:List Int),1<=n/\n<=3:=by decide
  exact this n hn
 simp only[go_sem,seval,hlt,aR,oj,cx];refine bJ (id:=0) (fun j ρ1 H1 wr=>wr=[o]/\ρ1 6=vi j/\∃i' o1,∃r:List mr,H1=H.set o (.box v (aM l i'))++[o1]/\ew H.length 2 (r.map cZ) (ρ1 4) o1/\r.length=j/\∀a∈r,ROk a) n.toNat
  (fun ρ1 H1 wr=>wr=[o]/\∃i' o1,∃r:List mr,H1=H.set o (.box v (aM l i'))++[o1]/\ew H.length 2 (r.map cZ) (ρ1 4) o1/\r.length=n.toNat/\∀a∈r,ROk a)
  (by kernel_rfl) rfl ⟨by simp only[go_sem,seval],by simp only[go_sem,seval],i2,_,[],rfl,by simp only[go_sem,seval];exact .nil _,rfl,by simp⟩ ?_ ?_
 ·rintro j ρ1 H1 dc mo ⟨rfl,e6,i',o1,r,rfl,hg,gu,il⟩ hf;have e0:ρ1 0=.ptr o v 0:=by rw[hf 0 rfl];simp only[go_sem,seval]
  have e3:ρ1 3=vi x:=by rw[hf 3 rfl];simp only[go_sem,seval]
  have e5:ρ1 5=vi n:=by rw[hf 5 rfl];simp only[go_sem,seval]
  simp only[go_sem,seval,e5,e6];refine aD (fun hb=>?_) (fun hb=>?_)
  ·have cr:j<n.toNat:=by simp at hb;omega
   have hw:AR.wrap (x+j)=x+j:=wrap_i64 (by omega) (by omega);simp only[go_sem,seval,e0,e3,e6,tS (b:=2) (by decide),hw];refine bB hp hl (i:=i') (by simp only[go_sem,seval,aP,hlt]) ?_;rintro val i3 ⟨s,rfl,hs⟩;obtain⟨v',o',eu,db⟩:=hg.app (new:=[[vi ((x+j).tmod 2),.str s]]) (bytes:=24) (by simp) (by rfl) (by rw[AF,gu];simp;omega);rw[show r.map cZ++[[vi ((x+j).tmod 2),.str s]]=(r++[mr.mk ((x+j).tmod 2) s]).map cZ by simp[cZ]]at eu;have V9:=GX (x+j) (b:=2) (by decide);have Il:=HV 2 (a:=x+j) (by omega);simp only[go_sem,seval,hlt,aR,db];rw[dW (by omega)];refine⟨cr,rfl,i3,o',r++[mr.mk ((x+j).tmod 2) s],rfl,eu,by simp[gu], ?_⟩;intro a ha;rcases AY.1 ha with ha | ha
   ·exact il a ha
   have:a=mr.mk ((x+j).tmod 2) s:=by simpa using ha
   subst this;exact⟨⟨⟨by show -9223372036854775808<=(x+j).tmod 2;omega,by show (x+j).tmod 2<=9223372036854775807;omega⟩,by show s.length<=1000;omega⟩,hs⟩
  have cr:j=n.toNat:=by simp at hb;omega
  subst cr;simp only[go_sem,seval];exact⟨i',o1,r,rfl,hg,gu,il⟩
 rintro ρ2 H2 en ⟨rfl,i',o1,r,rfl,hg,gu,il⟩ hf;have bl:r.map cZ≠[]:=by intro h;have:=congrArg FN h;simp only[AF,gu,AZ]at this;omega
 obtain⟨ver,e4,rfl⟩:=hg.inv bl;simp only[go_sem,seval,e4,hlt,aT (aC cA _),aA (aC cA _),aA (aC aU _),aW];exact⟨⟨i',rfl⟩,r,rfl,by omega,by omega,il⟩
abbrev aQo(v:AV):Prop:=∃r:List Str,v=.own 1 (r.map aN)/\1<=r.length/\r.length<=3/\∀s∈r,s.length<=60
abbrev mq:List Str:=[[105,102,32,120,32,60,32,51,32,123],[32,32,121,32,61,32,123,49,44,32,50,125],[125],[],[32,32,32,32,114,101,116,117,114,110,32,65,91,105,93,32,43,32,34,115,34],[102,111,114,32,105,32,58,61,32,48,59,32,105,32,60,32,49,48,59,32,105,43,43,32,123,32,116,111,116,97,108,32,61,32,116,111,116,97,108,32,43,32,118,97,108,117,101,115,91,105,93,32,42,32,50,32,125],[32,97,92,98,32,126,32,99]]
theorem aQp{A:af}{g:SN}(h:Has A g "av" (fS g))(ht:fR A g):dI A (g "av") [] aQo:=by
 refine h.gen (by simp[fS]) (fun n=>by kernel_rfl) ?_;intro l i o v H hl hlt ho;simp only[fS];simp only[go_sem,seval];refine bB (bA ht (m:=3) (by decide)) hl (i:=i) (by simp only[go_sem,seval,eK,hlt,ho]) ?_;rintro val i1 ⟨x,rfl,jr,lz⟩;have wk:AR.wrap (1+x)=1+x:=wrap_i64 (by omega) (by omega);simp only[go_sem,seval,hlt,fN,wk];refine bJ (id:=0) (fun j ρ1 H1 wr=>wr=[o]/\ρ1 6=vi j/\∃i' o1,∃r:List Str,H1=H.set o (.box v (aM l i'))++[o1]/\ew H.length 1 (r.map aN) (ρ1 4) o1/\r.length=j/\∀a∈r,a.length<=60) (1+x).toNat
  (fun ρ1 H1 wr=>wr=[o]/\∃i' o1,∃r:List Str,H1=H.set o (.box v (aM l i'))++[o1]/\ew H.length 1 (r.map aN) (ρ1 4) o1/\r.length=(1+x).toNat/\∀a∈r,a.length<=60)
  (by kernel_rfl) rfl ⟨by simp only[go_sem,seval],by simp only[go_sem,seval],i1,_,[],rfl,by simp only[go_sem,seval];exact .nil _,rfl,by simp⟩ ?_ ?_
 ·rintro j ρ1 H1 dc mo ⟨rfl,e6,i',o1,r,rfl,hg,gu,il⟩ hf;have e0:ρ1 0=.ptr o v 0:=by rw[hf 0 rfl];simp only[go_sem,seval]
  have e3:ρ1 3=.sl Qt (mq.map aN):=by rw[hf 3 rfl];simp only[go_sem,seval,mq,aN]
  have e5:ρ1 5=vi (1+x):=by rw[hf 5 rfl];simp only[go_sem,seval]
  simp only[go_sem,seval,e5,e6];refine aD (fun hb=>?_) (fun hb=>?_)
  ·have cr:j<(1+x).toNat:=by simp at hb;omega
   simp only[go_sem,seval,e0,e3,e6];refine bB (bA ht (m:=7) (by decide)) hl (i:=i') (by simp only[go_sem,seval,aP,hlt]) ?_;rintro val i3 ⟨y,rfl,oj,tc⟩;obtain⟨s,hs,cx⟩:=aQl mq oj tc;have G6:s.length<=60:=by
    have:∀s∈mq,s.length<=60:=by decide
    exact this s hs
   obtain⟨v',o',eu,db⟩:=hg.app (new:=[[.str s]]) (bytes:=16) (by simp) (by rfl) (by rw[AF,gu];simp;omega);rw[show r.map aN++[[.str s]]=(r++[s]).map aN by simp[aN]]at eu;simp only[DR,aN]at cx;simp only[go_sem,seval,hlt,aR,aN,db,oj,cx];rw[dW (by omega)];refine⟨cr,rfl,i3,o',r++[s],rfl,eu,by simp[gu], ?_⟩;intro a ha;rcases AY.1 ha with ha | ha
   ·exact il a ha
   have:a=s:=by simpa using ha
   subst this;exact G6
  have cr:j=(1+x).toNat:=by simp at hb;omega
  subst cr;simp only[go_sem,seval];exact⟨i',o1,r,rfl,hg,gu,il⟩
 rintro ρ2 H2 en ⟨rfl,i',o1,r,rfl,hg,gu,il⟩ hf;have bl:r.map aN≠[]:=by intro h;have:=congrArg FN h;simp only[AF,gu,AZ]at this;omega
 obtain⟨ver,e4,rfl⟩:=hg.inv bl;simp only[go_sem,seval,e4,hlt,aT (aC bO _),aA (aC bO _),aA (aC aU _),aW];exact⟨⟨i',rfl⟩,r,rfl,by omega,by omega,il⟩
abbrev aDJ(g:SN):List ae:=[qm 12 0,qm 13 5,⟨Qr 14,oi 12 13 4,Qs,[0,1]⟩,⟨Qr 15,ola 4 14,Qs,[2,0,1]⟩,qla 16 4 3,⟨Qr 17,.bin .eql (.cells [.int,.int,.int,.int]) (u 15) (u 16),Qs,[3,2,0,1,4]⟩]
abbrev tJ:LN:=[]
abbrev aDK(g:SN):ag:=.seq (qS [qm 6 5,qm 7 0,qn 8 7,qb 9 .lss 6 8]<|qC 9 (.skip) (.exit 0))<|.seq (.block 1 (.seq (.region Qt (aDJ g))<|qC 17 (qS [qmc 4 (.bool Qt)]<|.ret) (.skip)))<|.region Qu [qm 10 5,qbi 11 .add 10 1,qm 5 11]
def rI(g:SN):bw:=⟨18,[3],[.tmp 4],qS [qx 3 4 1,qmc 4 (.bool Qu)]<|.seq (qS [qmc 5 z0]<|.block 0 (.loop (aDK g)))<|qS [qmc 4 (.bool Qu)]<|.ret⟩
abbrev jQ(g:SN):ag:=.seq (qS [qm 16 6,qm 17 1,qb 18 .lss 16 17]<|qC 18 (.skip) (.exit 0))<|.seq (.block 1 (qS [qm 21 0,qc 22 (g "a") [u 21,ui 2],qbi 23 .eql 22 0]<|qC 23 (qR [qf 24 3 5,ql 25 1 24,qm 26 6,qq 27 (.bsl 1 [z0] 1 [(0,(.tmp 26))]),qa 28 1 8 25 27,qf 29 3 5,qs 1 29 28]) (.skip)))<|.region Qu [qm 19 6,qbi 20 .add 19 1,qm 6 20]
abbrev pI:LN:=[16,17,18,21,22,23,24,25,26,27,28,29,19,20,6]
abbrev pJ(g:SN):List ae:=[qf 45 2 5,⟨Qr 46,ol 1 45,Qs,[0]⟩,qm 47 0,⟨Qr 48,oc (g "j") [u 47],Qs,[2]⟩,⟨Qr 49,.bsl 1 [(.str [])] 4 [(0,(.const (.str [121,101,115]))),(1,(.const (.str [110,111]))),(2,(.tmp 48)),(3,(.const (.str [52,50])))],Qs,[3,2]⟩,qm 50 8,qm 51 0,⟨Qr 52,oc (g "a") [u 51,ui 2],Qs,[6,3,2]⟩,⟨Qr 53,ob .add 50 52,Qs,[5,7,6,3,2]⟩,⟨Qr 54,obi .rem 53 4,Qs,[8,5,7,6,3,2]⟩,⟨Qr 55,oi 49 54 1,Qs,[4,9,8,5,7,6,3,2]⟩,⟨Qr 56,ol 1 55,Qs,[10,4,9,8,5,7,6,3,2]⟩,⟨Qr 57,.bsl 1 [(.str [])] 1 [(0,(.tmp 56))],Qs,[11,10,4,9,8,5,7,6,3,2]⟩,⟨Qr 58,oa 1 16 46 57,Qs,[1,0,12,11,10,4,9,8,5,7,6,3,2]⟩,⟨Qr 59,of 2 5,Qs,[13,1,0,12,11,10,4,9,8,5,7,6,3,2]⟩,⟨Qs,os 1 59 58,Qs,[14,13,1,0,12,11,10,4,9,8,5,7,6,3,2]⟩]
abbrev jR:LN:=[1,3,7]
abbrev pK(g:SN):List ae:=[qf 60 6 5,⟨Qr 61,ol 1 60,Qs,[0]⟩,qq 62 (.bsl 1 [(.str [])] 3 [(0,(.const (.str []))),(1,(.const (.str [105,116,32,108,111,111,107,115,32,115,111]))),(2,(.const (.str [97,32,115,108,105,112])))]),qm 63 0,⟨Qr 64,oc (g "a") [u 63,ui 3],Qs,[3]⟩,⟨Qr 65,oi 62 64 1,Qs,[2,4,3]⟩,⟨Qr 66,ol 1 65,Qs,[5,2,4,3]⟩,⟨Qr 67,.bsl 1 [(.str [])] 1 [(0,(.tmp 66))],Qs,[6,5,2,4,3]⟩,⟨Qr 68,oa 1 16 61 67,Qs,[1,0,7,6,5,2,4,3]⟩,⟨Qr 69,of 6 5,Qs,[8,1,0,7,6,5,2,4,3]⟩,⟨Qs,os 1 69 68,Qs,[9,8,1,0,7,6,5,2,4,3]⟩]
abbrev jS:LN:=[1,4]
abbrev jT(g:SN):ag:=.seq (qS [qm 40 8,qm 41 7,qb 42 .lss 40 41]<|qC 42 (.skip) (.exit 3))<|.seq (.block 4 (.seq (.region Qt (pJ g))<|.region Qt (pK g)))<|.region Qu [qm 43 8,qbi 44 .add 43 1,qm 8 44]
abbrev pL:LN:=[40,41,42,45,46,47,48,49,50,51,52,53,54,55,56,57,58,59,60,61,62,63,64,65,66,67,68,69,43,44,8]
def jU(g:SN):ag:=.block 2 (qS [qbi 36 .eql 31 0,qm 35 36]<|qC 35 (qS [qm 37 0,qc 38 (g "a") [u 37,ui 3],qq 39 (.bin .add .no (ui 2) (u 38)),qm 7 39]<|.seq (qS [qmc 8 z0]<|.block 3 (.loop (jT g)))<|.region Qu [qm 70 0,qm 71 7,qc 72 (g "a") [u 70,u 71],qc 73 (g "F") [u 72],qf 74 4 5,qs 1 74 73]) (qS [qbi 76 .eql 31 1,qm 75 76]<|qC 75 (qR [qm 77 0,qc 78 (g "a") [u 77,ui 200],qc 79 (g "F") [u 78],qf 80 4 5,qs 1 80 79]) (qR [qm 32 0,qc 33 (g "j") [u 32],qf 34 4 5,qs 1 34 33])))
def eT(g:SN):bw:=⟨82,[4,5,28,58,68],[.cell 4 7 Qt],qS [qq 4 (.alloc [z0,(.sl Qt []),(.sl Qt []),(.sl Qt []),(.str []),z0,(.sl Qt [])])]<|qS [qm 9 0,qc 10 (g "a") [u 9,ui 3],qm 11 0,qc 12 (g "I") [u 11],qm 13 0,qc 14 (g "a") [u 13,ui 9],qq 15 (.build [z0,(.sl Qt []),(.sl Qt []),(.sl Qt []),(.str []),z0,(.sl Qt [])] [(0,1,(.tmp 10)),(1,1,(.tmp 12)),(5,1,(.tmp 14))]),qq 5 (.alloc [z0,(.sl Qt []),(.sl Qt []),(.sl Qt []),(.str []),z0,(.sl Qt [])]),qs 7 5 15]<|.seq (qS [qmc 6 z0]<|.block 0 (.loop (jQ g)))<|.seq (qS [qf 30 0 5,ql 31 1 30]<|jU g)<|qS [qla 81 7 5,qs 7 4 81]<|.ret⟩
theorem aC1{a b:Fact}:lP [.int,.int,.int,.int] (aI a) (aI b)=Qr (eqv a b):=by rw[aRE];simp only[aI,lP,aCO,Zv,aKv];cases eqv a.kind b.kind<;>cases eqv a.block b.block<;>cases eqv a.a b.a<;>cases eqv a.b b.b<;>rfl
theorem aLf{ts:List Tag}{x y:LA}{b:Bool}(h:lP ts x y=Qr b):kJ .eql (.cells ts) (.agg x) (.agg y)=Qr (.bool b):=by simp[kJ,tN,h]
theorem aSq{A:af}{g:SN}(h:Has A g "v" (rI g))(l:List Fact)(hl:l.length<=1000)(f:Fact):∃b:Bool,∀H,aG A (g "v") [.sl Qu (l.map aI),.agg (aI f)] H=Qr (.bool b,H,[]):=by
 refine⟨l.any fun a=>eqv a f,fun H=>?_⟩;refine h.call ?_;simp only[rI];simp only[go_sem,seval,aI];refine aKt (fun i ρ1 H1 wr=>wr=[]/\ρ1 5=vi i/\H1=H++[.box 1 (aI f)]/\(l.any fun a=>eqv a f)=((l.drop i).any fun a=>eqv a f)) l.length (by kernel_rfl) rfl ⟨rfl,by simp only[go_sem,seval],by simp only[go_sem,seval,aI],rfl⟩ ?_;rintro i ρ1 H1 dc mg ⟨rfl,h5,rfl,hi⟩ hf;have f0:ρ1 0=.sl Qu (l.map aI):=by rw[hf 0 rfl];simp only[go_sem,seval]
 have f3:ρ1 3=.ptr H.length 1 0:=by rw[hf 3 rfl];simp only[go_sem,seval]
 simp only[go_sem,seval,f0,h5];refine aD (fun hb=>?_) (fun hb=>?_)
 ·have hlt:i<l.length:=by simpa using hb
  rw[FD hlt,List.any_cons]at hi;simp only[go_sem,seval];refine aY (aq:=tJ) (by rfl) (by rfl) ?_;have h4:∀a:Fact,(aI a).length=4:=fun _=>rfl;have ht:∀a:Fact,FW 4 (aI a)=aI a:=fun _=>rfl;simp only[go_sem,seval,tJ,f0,f3,h5,hlt,getElem?_map_of hlt,h4,ht,aLf aC1];refine aD (fun dp=>?_) (fun dp=>?_)
  ·rw[dp,EP]at hi;simp only[go_sem,seval,hi]
  rw[dp,II]at hi;simp only[go_sem,seval,h5];rw[dW (by omega)];exact⟨hlt,rfl,hi⟩
 have hlt:i=l.length:=by
  have:¬i<l.length:=by simpa using hb
  omega
 subst hlt;rw[DH (AQ _),List.any_nil]at hi;simp only[go_sem,seval,hi]
theorem aHa{n:Int}(h0:0<=n)(h1:n<=1000000):eA n:=by constructor<;>omega
structure jt(q:Question):Prop where
 ok:q.Ok
 lens:q.options.length<=4/\q.dv.length<=4/\q.cy.length<=10/\q.lk.length<=3
 lk:∀r∈q.lk,r.text.length<=60
abbrev aBr(v:AV):Prop:=∃q:Question,v=.agg (gR q)/\jt q
theorem aVj{A:af}{g:SN}(ht:fR A g){H:LO}{Q:bf->bN->LO->LN->Prop}{tg}{l:List Int}(hl:jP l){o v:Nat}(hlt:o<H.length) {i:Int} {o0 o2 o3 o4:ah} {vq:Nat} {c0 c1 c2 c4 c5 c6:AV} {m:Nat} (hm:m<=10) {ρ:bN} (e0:ρ 0=.ptr o v 0) (e1:ρ 1=vi m) (e5:ρ 5=.ptr (H.length+1) vq 0) (e6:ρ 6=vi 0) (hQ:∀ρ' i' o2 w (r:List Int),(∀t,pI.contains t=Qu->ρ' t=ρ t)->r.length<=10->(∀a∈r,eA a)->ew (H.length+2) 1 (r.map bF) w o2 ->Q (.exit 0) ρ' (H.set o (.box v (aM l i'))++[o0,.box vq [c0,c1,c2,w,c4,c5,c6],o2,o3,o4]) [o]):wl A 82 ⟨H.length,[4,5,28,58,68]⟩ (jQ g) ρ (H.set o (.box v (aM l i))++[o0,.box vq [c0,c1,c2,.sl Qt [],c4,c5,c6],o2,o3,o4]) [o] Q tg:=by
 refine bJ (fun j ρ1 H1 wr=>wr=[o]/\ρ1 6=vi j/\∃i' o2 w,∃r:List Int,H1=H.set o (.box v (aM l i'))++[o0,.box vq [c0,c1,c2,w,c4,c5,c6],o2,o3,o4]/\ew (H.length+2) 1 (r.map bF) w o2/\r.length<=j/\∀a∈r,eA a) m
  (fun ρ1 H1 wr=>wr=[o]/\∃i' o2 w,∃r:List Int,H1=H.set o (.box v (aM l i'))++[o0,.box vq [c0,c1,c2,w,c4,c5,c6],o2,o3,o4]/\ew (H.length+2) 1 (r.map bF) w o2/\r.length<=10/\∀a∈r,eA a)
  (by kernel_rfl) rfl ⟨rfl,e6,i,o2,.sl Qt [],[],rfl,.nil _,AQ _,by simp⟩ ?_ (by
   rintro ρ' H' ba ⟨rfl,i',o2,w,r,rfl,hg,gj,nv⟩ hf;exact hQ ρ' i' o2 w r hf gj nv hg)
 rintro j ρ1 H1 dc mo ⟨rfl,e6,i',o2,w,r,rfl,hg,gu,il⟩ hf;have f0:ρ1 0=.ptr o v 0:=(hf 0 rfl).trans e0;have f1:ρ1 1=vi m:=(hf 1 rfl).trans e1;have f5:ρ1 5=.ptr (H.length+1) vq 0:=(hf 5 rfl).trans e5;simp only[go_sem,seval,f1,e6];refine aD (fun hb=>?_) (fun hb=>?_)
 ·have cr:j<m:=by simpa using hb
  simp only[go_sem,seval,f0];refine bB (bA ht (m:=2) (by decide)) hl (i:=i') (by simp only[go_sem,seval,aP,hlt]) ?_;rintro val i3 ⟨x,rfl,jr,lz⟩;simp only[go_sem,seval,hlt,aR];refine aD (fun dp=>?_) (fun dp=>?_)
  ·obtain⟨v',o',eu,db⟩:=hg.app (new:=[[vi j]]) (bytes:=8) (by simp) (by rfl) (by simp only[AF,AW,AZ];omega);rw[show r.map bF++[[vi j]]=(r++[(j:Int)]).map bF by simp[bF]]at eu;simp only[go_sem,seval,f5,e6,db,eu.ak,eu.aj];rw[dW (by omega)];refine⟨cr,rfl,i3,o',v',r++[(j:Int)],rfl,eu,by simp;omega, ?_⟩;intro a ha;rcases AY.1 ha with ha | ha
   ·exact il a ha
   have:a=(j:Int):=by simpa using ha
   subst this;exact aHa (by omega) (by omega)
  simp only[go_sem,seval,e6];rw[dW (by omega)];exact⟨cr,rfl,i3,o2,w,r,rfl,hg,by omega,il⟩
 have cr:j=m:=by
  have:¬j<m:=by simpa using hb
  omega
 subst cr;simp only[go_sem,seval];exact⟨i',o2,w,r,rfl,hg,by omega,il⟩
theorem aQq{A:af}{g:SN}(ht:fR A g)(hp:dI A (g "j") [] aIG){H:LO}{Q:bf->bN->LO->LN->Prop}{tg}{l:List Int}(hl:jP l){o v:Nat}(hlt:o<H.length) {i:Int} {o0 o2 o3 o4:ah} {vq:Nat} {c0 c1 c3 c4 c5:AV} {n:Int} (gq:2<=n) (lx:n<=4) {ρ:bN} (e0:ρ 0=.ptr o v 0) (e5:ρ 5=.ptr (H.length+1) vq 0) (e7:ρ 7=vi n) (e8:ρ 8=vi 0) (hQ:∀ρ' i' o3 o4 w w' (r r':List Str),(∀t,pL.contains t=Qu->ρ' t=ρ t)->r.length<=4->(∀a∈r,a.length<=60)->r'.length<=4->(∀a∈r',a.length<=60) ->ew (H.length+3) 1 (r.map aN) w o3->ew (H.length+4) 1 (r'.map aN) w' o4 ->Q (.exit 3) ρ' (H.set o (.box v (aM l i'))++[o0,.box vq [c0,c1,w,c3,c4,c5,w'],o2,o3,o4]) [o]):wl A 82 ⟨H.length,[4,5,28,58,68]⟩ (jT g) ρ (H.set o (.box v (aM l i))++[o0,.box vq [c0,c1,.sl Qt [],c3,c4,c5,.sl Qt []],o2,o3,o4]) [o] Q tg:=by
 refine bJ (fun j ρ1 H1 wr=>wr=[o]/\ρ1 8=vi j/\∃i' o3 o4 w w',∃r r':List Str,H1=H.set o (.box v (aM l i'))++[o0,.box vq [c0,c1,w,c3,c4,c5,w'],o2,o3,o4] /\
   ew (H.length+3) 1 (r.map aN) w o3/\ew (H.length+4) 1 (r'.map aN) w' o4/\r.length=j/\r'.length=j/\(∀a∈r,a.length<=60)/\∀a∈r',a.length<=60) n.toNat
  (fun ρ1 H1 wr=>wr=[o]/\∃i' o3 o4 w w',∃r r':List Str,H1=H.set o (.box v (aM l i'))++[o0,.box vq [c0,c1,w,c3,c4,c5,w'],o2,o3,o4] /\
   ew (H.length+3) 1 (r.map aN) w o3/\ew (H.length+4) 1 (r'.map aN) w' o4/\r.length<=4/\r'.length<=4/\(∀a∈r,a.length<=60)/\∀a∈r',a.length<=60)
  (by kernel_rfl) rfl ⟨rfl,e8,i,o3,o4,.sl Qt [],.sl Qt [],[],[],rfl,.nil _,.nil _,rfl,rfl,by simp,by simp⟩ ?_ (by
   rintro ρ' H' ba ⟨rfl,i',o3,o4,w,w',r,r',rfl,hg,eu,h1,h2,h3,h4⟩ hf;exact hQ ρ' i' o3 o4 w w' r r' hf h1 h3 h2 h4 hg eu)
 rintro j ρ1 H1 dc mo ⟨rfl,e8,i',o3,o4,w,w',r,r',rfl,hg,hh,gu,Gp,il,Bn⟩ hf;have f0:ρ1 0=.ptr o v 0:=(hf 0 rfl).trans e0;have f5:ρ1 5=.ptr (H.length+1) vq 0:=(hf 5 rfl).trans e5;have f7:ρ1 7=vi n:=(hf 7 rfl).trans e7;simp only[go_sem,seval,f7,e8];refine aD (fun hb=>?_) (fun hb=>?_)
 ·have cr:j<n.toNat:=by simp at hb;omega
  have bl:(H.length+1==o)=false:=by simp;omega
  simp only[go_sem,seval];refine aY (aq:=jR) (by rfl) (by rfl) ?_;simp only[go_sem,seval,jR,f0,f5,e8];refine eB hp hl (i:=i') (by simp only[go_sem,seval,aP,hlt]) ?_;rintro val i3 ⟨s,rfl,hs⟩;simp only[go_sem,seval,hlt,aR];refine eB (bA ht (m:=2) (by decide)) hl (i:=i3) (by simp only[go_sem,seval,aP,hlt]) ?_;rintro val i4 ⟨y,rfl,oj,tc⟩;have zz:AR.wrap ((j:Int)+y)=j+y:=wrap_i64 (by omega) (by omega);have Cx:=HV 4 (a:=j+y) (by omega);have gj:=GX (j+y) (b:=4) (by decide);obtain⟨t,qt,cx⟩:=aQl [[121,101,115],[110,111],s,[52,50]] Cx gj;simp only[DR,aN]at cx;have tl:t.length<=60:=by
   simp only[BD,CC,or_false]at qt;rcases qt with rfl | rfl | rfl | rfl
   ·simp
   ·simp
   ·exact hs
   simp
  obtain⟨v',o',eu,db⟩:=hg.app (new:=[[.str t]]) (bytes:=16) (by simp) (by rfl) (by simp only[AF,AW,AZ];omega);rw[show r.map aN++[[.str t]]=(r++[t]).map aN by simp[aN]]at eu;simp only[go_sem,seval,hlt,aR,zz,tS (b:=4) (by decide),Cx,cx,db,eu.ak,eu.aj,eH,dG,bl,aL];refine aY (aq:=jS) (by rfl) (by rfl) ?_;simp only[go_sem,seval,jS,f0,f5];refine eB (bA ht (m:=3) (by decide)) hl (i:=i4) (by simp only[go_sem,seval,aP,hlt]) ?_;rintro val i5 ⟨z,rfl,me,rr⟩;obtain⟨u,Jc,wm⟩:=aQl [[],[105,116,32,108,111,111,107,115,32,115,111],[97,32,115,108,105,112]] me rr;simp only[DR,aN]at wm;have R6:u.length<=60:=by simp only[BD,CC,or_false]at Jc;rcases Jc with rfl | rfl | rfl<;>simp
  obtain⟨v2,o2',Cy,ll⟩:=hh.app (new:=[[.str u]]) (bytes:=16) (by simp) (by rfl) (by simp only[AF,AW,AZ];omega);rw[show r'.map aN++[[.str u]]=(r'++[u]).map aN by simp[aN]]at Cy;simp only[go_sem,seval,e8,hlt,aR,me,wm,ll,Cy.ak,Cy.aj,eH,dG,bl,aL];rw[dW (by omega)];refine⟨cr,rfl,i5,o',o2',v',v2,r++[t],r'++[u],rfl,eu,Cy,by simp[gu],by simp[Gp], ?_, ?_⟩
  ·intro a ha;rcases AY.1 ha with ha | ha
   ·exact il a ha
   have:a=t:=by simpa using ha
   subst this;exact tl
  intro a ha;rcases AY.1 ha with ha | ha
  ·exact Bn a ha
  have:a=u:=by simpa using ha
  subst this;exact R6
 have cr:j=n.toNat:=by simp at hb;omega
 subst cr;simp only[go_sem,seval];exact⟨i',o3,o4,w,w',r,r',rfl,hg,hh,by omega,by omega,il,Bn⟩
theorem uM:∀(H:LO) (a b:LN),dL H (a++b)=dL (dL H a) b
 |H,[],b=>rfl
 |H,o::r,b=>by simp only[DO,dL];exact uM _ r b
theorem aAS(n:Nat):∀(wr a b:LN),bE n wr (a++b)=bE n (bE n wr a) b
 |wr,[],b=>rfl
 |wr,o::r,b=>by
  simp only[DO,bE];split<;>exact aAS n _ r b
theorem aLg{A:af}{g:SN}(h:Has A g "R" (eT g))(ht:fR A g)(hp:dI A (g "j") [] aIG) (hr:dI A (g "I") [] aQn) (hd:aH8 A g) {m:Nat} (hm:m<=10):dI A (g "R") [vi m] aBr:=by
 refine h.gen (by simp[eT]) (fun n=>by kernel_rfl) ?_;intro l i o v H hl hlt ho;simp only[eT];simp only[go_sem,seval];refine bB (bA ht (m:=3) (by decide)) hl (i:=i) (by simp only[go_sem,seval,eK,hlt,ho]) ?_;rintro val i1 ⟨k,rfl,Pw,Ch⟩;simp only[go_sem,seval,hlt,fN];refine bB hr hl (i:=i1) (by simp only[go_sem,seval,aP,hlt]) ?_;rintro val i2 ⟨st,rfl,lq,nu,F1⟩;simp only[go_sem,seval,hlt,aR];refine bB (bA ht (m:=9) (by decide)) hl (i:=i2) (by simp only[go_sem,seval,aP,hlt]) ?_;rintro val i3 ⟨p,rfl,Mi,Oz⟩;simp only[go_sem,seval,hlt,aR];refine aVj ht hl hlt (m:=m) hm (by simp only[go_sem,seval]) (by simp only[go_sem,seval]) (by simp only[go_sem,seval]) (by simp only[go_sem,seval]) ?_;intro ρ2 i4 o2 w nd cq lx xh hg;have g0:ρ2 0=.ptr o v 0:=by rw[cq 0 rfl];simp only[go_sem,seval]
 have g4:ρ2 4=.ptr H.length 1 0:=by rw[cq 4 rfl];simp only[go_sem,seval]
 have g5:ρ2 5=.ptr (H.length+1) 1 0:=by rw[cq 5 rfl];simp only[go_sem,seval]
 obtain⟨f1,l1,o2',qe,iq,yz⟩:=hg.dw (aC aU _);have fin:∀(op rs:List Str) (key:Str),op.length<=4->(∀a∈op,a.length<=60)->rs.length<=4->(∀a∈rs,a.length<=60)->key.length<=1000 ->
   aBr (.agg [vi k,.sl Qu (st.map cZ),.sl Qu (op.map aN),.sl Qu (nd.map bF),.str key,vi p,.sl Qu (rs.map aN)]):=fun op rs key h1 h2 h3 h4 h5=>⟨⟨k,st,op,nd,key,p,rs⟩,rfl,⟨⟨aHa Pw (by show k<=1000000;omega),by show st.length<=16;omega,fun a h=>(F1 a h).1,by show op.length<=16;omega,fun s hs=>by have:=h2 s hs;show s.length<=1000;omega,by show nd.length<=16;omega,xh,h5,aHa Mi (by show p<=1000000;omega),by show rs.length<=16;omega,fun s hs=>by have:=h4 s hs;show s.length<=1000;omega⟩,⟨h1,h3,lx,nu⟩,fun a h=>(F1 a h).2⟩⟩
 have ru:k=0∨k=1∨k=2:=by omega
 simp only[go_sem,seval,g5];simp only[jU];rcases ru with rfl | rfl | rfl
 ·simp only[go_sem,seval,g0];refine bB (bA ht (m:=3) (by decide)) hl (i:=i4) (by simp only[go_sem,seval,aP,hlt]) ?_;rintro val i5 ⟨x,rfl,jr,lz⟩;have wk:AR.wrap (2+x)=2+x:=wrap_i64 (by omega) (by omega);simp only[go_sem,seval,hlt,aR,wk];refine aQq ht hp hl hlt (n:=2+x) (by omega) (by omega) (by simp only[go_sem,seval,g0]) (by simp only[go_sem,seval,g5]) (by simp only[go_sem,seval]) (by simp only[go_sem,seval]) ?_;intro ρ3 i6 o3 o4 w1 w2 op rs im a1 a2 a3 a4 D4 Aq;have k0:ρ3 0=.ptr o v 0:=by rw[im 0 rfl];simp only[go_sem,seval,g0]
  have k4:ρ3 4=.ptr H.length 1 0:=by rw[im 4 rfl];simp only[go_sem,seval,g4]
  have k5:ρ3 5=.ptr (H.length+1) 1 0:=by rw[im 5 rfl];simp only[go_sem,seval,g5]
  have k7:ρ3 7=vi (2+x):=by rw[im 7 rfl];simp only[go_sem,seval]
  obtain⟨f2,l2,o3',m1,m2,m3⟩:=D4.dw (aC bO _);obtain⟨f3,l3,o4',n1,n2,n3⟩:=Aq.dw (aC bO _);simp only[go_sem,seval,k0,k7];refine bB (bA ht (m:=2+x) (by omega)) hl (i:=i6) (by simp only[go_sem,seval,aP,hlt]) ?_;rintro val i7 ⟨y,rfl,oj,tc⟩;obtain⟨yn,rfl⟩:=DN oj;have Gq:=fun H=>hd yn H (by omega);have Ik:=aGn 5 yn (by omega);simp only[go_sem,seval,k4,k5,hlt,aR,Gq,hg.ak,D4.ak,Aq.ak,qe,iq,yz,m1,m2,m3,n1,n2,n3,uM,aAS,aW,aA (aC cA _),aA (aC bO _),aA (aC aU _)];exact⟨⟨i7,rfl⟩,fin op rs (dec yn) a1 a2 a3 a4 (by omega)⟩
 ·simp only[go_sem,seval,g0];refine bB (bA ht (m:=200) (by decide)) hl (i:=i4) (by simp only[go_sem,seval,aP,hlt]) ?_;rintro val i7 ⟨y,rfl,oj,tc⟩;obtain⟨yn,rfl⟩:=DN oj;have Gq:=fun H=>hd yn H (by omega);have Ik:=aGn 5 yn (by omega);simp only[go_sem,seval,g4,g5,hlt,aR,Gq,hg.ak,qe,iq,yz,aW,aA (aC cA _),aA (aC aU _)];exact⟨⟨i7,rfl⟩,fin [] [] (dec yn) (by simp) (by simp) (by simp) (by simp) (by omega)⟩
 simp only[go_sem,seval,g0];refine bB hp hl (i:=i4) (by simp only[go_sem,seval,aP,hlt]) ?_;rintro val i7 ⟨s,rfl,G6⟩;simp only[go_sem,seval,g4,g5,hlt,aR,hg.ak,qe,iq,yz,aW,aA (aC cA _),aA (aC aU _)];exact⟨⟨i7,rfl⟩,fin [] [] s (by simp) (by simp) (by simp) (by simp) (by omega)⟩
abbrev nD(g:SN):List ae:=[qla 11 4 3,qm 12 0,qm 13 5,⟨Qr 14,oi 12 13 4,Qs,[1,2]⟩,⟨Qr 15,ola 4 14,Qs,[3,1,2]⟩,⟨Qr 16,.bin .eql (.cells [.int,.int,.int,.int]) (u 11) (u 15),Qs,[0,4,3,1,2]⟩]
abbrev eE:LN:=[]
abbrev nE(g:SN):ag:=qS [qb 9 .lss 8 7]<|.seq (qC 9 (.skip) (.exit 0))<|.seq (.block 1 (qS [qm 10 8,qm 5 10]<|.seq (.region Qt (nD g))<|qC 16 (qS [qm 17 5,qm 4 17]<|.ret) (.skip)))<|.region Qu [qbi 18 .add 8 1,qm 8 18]
def dM(g:SN):bw:=⟨19,[],[.tmp 4],qS [qx 3 4 1,qmc 4 z0]<|.seq (qS [qm 6 0,qn 7 6,qmc 8 z0]<|.block 0 (.loop (nE g)))<|qS [qmc 4 (.int .i64 (-1))]<|.ret⟩
def eF(g:SN):bw:=⟨9,[],[.tmp 4],qS [qx 3 4 1,qmc 4 (.bool Qu)]<|qS [qm 5 0,qla 6 4 3,qc 7 (g "bd") [u 5,u 6],qbi 8 .geq 7 0,qm 4 8]<|.ret⟩
def tK(g:SN):ag:=.block 0 (qS [qbi 7 .eql 5 0,qm 6 7]<|qC 6 (qS [qm 8 0,qbi 9 .neq 8 4,qm 4 9]<|.ret) (qS [qbi 11 .eql 5 1,qm 10 11]<|qC 10 (qS [qm 12 0,qbi 13 .eql 12 3,qm 4 13]<|.ret) (.seq (qS [qbi 15 .eql 5 2,qm 14 15]<|qC 14 (.skip) (qS [qbi 16 .eql 5 3,qm 14 16]<|qC 14 (.skip) (qR [qbi 17 .eql 5 4,qm 14 17])))<|qC 14 (qS [qm 18 0,qbi 19 .eql 18 4,qm 4 19]<|.ret) (qS [qbi 21 .eql 5 5,qm 20 21]<|qC 20 (qS [qm 22 0,qbi 23 .eql 22 5,qm 4 23]<|.ret) (qS [qbi 25 .eql 5 6,qm 24 25]<|qC 24 (qS [qm 26 0,qbi 27 .eql 26 6,qm 4 27]<|.ret) (.skip))))))
def rJ(g:SN):bw:=⟨28,[],[.tmp 4],qS [qmc 4 (.bool Qu)]<|.seq (qS [qm 5 1]<|tK g)<|qS [qmc 4 (.bool Qu)]<|.ret⟩
def aFa(g:SN):bw:=⟨14,[3],[.tmp 4],qS [qx 2 13 0,qx 3 4 1,qmc 4 (.bool Qu)]<|qS [qla 6 13 2,qq 7 (.bsl 13 [z0,(.sl Qu []),z0,z0,(.sl Qu []),z0,(.sl Qu []),(.sl Qu []),z0,z0,(.sl Qu []),(.sl Qu []),(.sl Qu [])] 1 [(0,(.tmp 6))]),qq 8 (.build [(.str []),(.sl Qt []),(.sl Qt []),(.sl Qt [])] [(0,1,(.const (.str [97]))),(1,1,(.tmp 7))]),qc 9 (g "aW") [u 8],qm 5 9]<|qS [qf 10 1 3,qz (.store 1 (u 10) (ui 0))]<|qS [qm 11 5,qla 12 4 3,qc 13 (g "bK") [u 11,u 12],qm 4 13]<|.ret⟩
section
variable {A:af}{g:SN}{tB:Nat}
theorem aMk(h:Has A g "bd" (dM g))(l:List Fact)(s:Fact)(fl:Bool)(hl:l.length<=1000000000)(H:LO):aG A (g "bd") [.sl fl (l.map aI),.agg (aI s)] H=Qr (vi (aMW (fun x=>eqv s x) l),H,[]):=by
 refine h.call ?_;simp only[dM];simp only[go_sem,↓aB,seval,AF,lF.len,lF.still,lF.ga];refine bJ (id:=0) (fun i ρ1 H1 wr=>wr=[]/\H1=H/\ρ1 8=vi i/\∀j (hj:j<i) (hl:j<l.length),(eqv s l[j])=Qu) l.length
  (fun ρ1 H1 wr=>wr=[]/\H1=H/\∀j (hl:j<l.length),(eqv s l[j])=Qu)
  (by kernel_rfl) rfl ⟨rfl,by simp,rfl,fun j hj=>by omega⟩ ?_ ?_
 ·rintro i ρ1 H1 dc mg ⟨rfl,rfl,e8,hn⟩ hf;have e0:ρ1 0=.sl fl (l.map aI):=hf 0 rfl;have e3:ρ1 3=.ep (aI s) 0:=hf 3 rfl;have e7:ρ1 7=vi l.length:=hf 7 rfl;simp only[go_sem,↓aB,seval,e8,e7];refine aD (fun hb=>?_) (fun hb=>?_)
  ·have hlt:i<l.length:=by simpa using hb
   have hg:(l.map aI)[i]? = Qr (aI l[i]):=getElem?_map_of hlt;have gq:(0:Int)<=(i:Int):=by omega
   have lx:(i:Int)<(l.length:Int):=by omega
   have kx:((i:Int)).toNat=i:=by omega
   have zr:=wS (i:=i) (by omega);have D0:=aLf (aC1 (a:=s) (b:=l[i]));simp only[go_sem,↓aB,seval,e8];refine aY (aq:=eE) (by rfl) (by rfl) ?_;cases hc:(eqv s l[i])with
   |true=>rw[hc]at D0;simp only[go_sem,↓aB,seval,eE,e0,e3,hg,gq,kx,D0,AD,lF.len,lF.take];exact (aLT (p:=fun x=>eqv s x) hlt hc fun j hj=>hn j hj (by omega)).symm ▸ rfl
   |false=>
    rw[hc]at D0;simp only[go_sem,↓aB,seval,eE,e0,e3,e8,hg,gq,kx,D0,zr,AD,lF.len,lF.take];refine⟨hlt,fun j hj mo=>?_⟩;by_cases e:j=i
    ·subst e;exact hc
    exact hn j (by omega) mo
  have hi:i=l.length:=by simp at hb;omega
  subst hi;simp only[go_sem,seval];exact fun j hj=>hn j hj hj
 rintro ρ' H' ba ⟨rfl,rfl,hn⟩ hf;simp only[go_sem,↓aB,seval,aGq (p:=fun x=>eqv s x) hn]
theorem uN(h:Has A g "bK" (eF g))(hi:Has A g "bd" (dM g))(l:List Fact)(s:Fact)(fl:Bool)(hl:l.length<=1000000000)(H:LO):aG A (g "bK") [.sl fl (l.map aI),.agg (aI s)] H=Qr (.bool (l.any fun x=>eqv s x),H,[]):=by refine h.call ?_;simp only[eF];simp only[go_sem,↓aB,seval,fun H=>aMk hi l s Qu hl H,aLU,lF.len,lF.still,lF.ga,lF.take,AD,aS (eL s)]
def aHb(bk fk:Int):Bool:=if fk=0 then bk != 4 else if fk=1 then bk==3 else if fk=2∨fk=3∨fk=4 then bk==4 else if fk=5 then bk==5 else if fk=6 then bk==6 else Qu
theorem aJF(h:Has A g "bx" (rJ g))(bk fk:Int)(H:LO):aG A (g "bx") [vi bk,vi fk] H=Qr (.bool (aHb bk fk),H,[]):=by
 refine h.call ?_;simp only[rJ,tK,aHb];by_cases e0:fk=0
 ·simp only[go_sem,↓aB,seval,e0]
 have n0:(fk==0)=false:=by simpa using e0
 by_cases e1:fk=1
 ·simp only[go_sem,↓aB,seval,e1]
 have n1:(fk==1)=false:=by simpa using e1
 by_cases e2:fk=2
 ·simp only[go_sem,↓aB,seval,e2,true_or]
 have n2:(fk==2)=false:=by simpa using e2
 by_cases e3:fk=3
 ·simp only[go_sem,↓aB,seval,e3,true_or,or_true]
 have n3:(fk==3)=false:=by simpa using e3
 by_cases e4:fk=4
 ·simp only[go_sem,↓aB,seval,e4,or_true]
 have n4:(fk==4)=false:=by simpa using e4
 by_cases e5:fk=5
 ·simp only[go_sem,↓aB,seval,e5,or_self]
 have n5:(fk==5)=false:=by simpa using e5
 by_cases e6:fk=6
 ·simp only[go_sem,↓aB,seval,e6,or_self]
 have n6:(fk==6)=false:=by simpa using e6
 simp only[go_sem,↓aB,seval,e0,e1,e2,e3,e4,e5,e6,n0,n1,n2,n3,n4,n5,n6,or_self]
noncomputable def jY(b:Block):List Fact:=if dQ b then eM b 0 else []
theorem aHO{b:Block}(hb:b.Ok):(jY b).length<=1792:=by
 unfold jY;split
 ·exact yT hb 7
 exact FF _
structure lp(A:af)(g:SN)(tB:Nat):Prop where
 fam:ke A g
 facts:Has A g "N" (oZ g)
 usable:Has A g "aW" (yV g)
 valid:kc A g tB
 con:Has A g "bK" (eF g)
 ind:Has A g "bd" (dM g)
 holds:Has A g "bZ" (aFa g)
 possible:Has A g "bx" (rJ g)
theorem aVk(F:lp A g tB)(b:Block)(hb:b.Ok)(H:LO):aG A (g "aW") [.agg (aO ⟨[97],[b],[],[]⟩)] H=Qr (aSo (jY b),H,[]):=by
 obtain⟨R,h1,h2⟩:=aH7 F.fam F.facts F.usable ⟨[97],[b],[],[]⟩ ⟨(by show ([97]:Str).length<=1000;decide),by show ([b]:List Block).length<=16;simp,fun x hx=>by rw[CG.1 hx];exact hb,FF _,(fun _ h=>by cases h),FF _,(fun _ h=>by cases h)⟩ (P:=dQ b=Qt) (P':=dQ b=Qt)
  (fun H=>⟨if dQ b then 0 else 1,aTi F.valid b hb H,fun h=>by cases hB:dQ b<;>simp[hB]at h ⊢,fun h=>by rw[h];rfl⟩) H
 rw[h1];rcases h2 with⟨rfl,hn⟩ | ⟨hp,rfl⟩
 ·have:dQ b=false:=by simpa using hn
  simp[jY,this]
 have:tI ⟨[97],[b],[],[]⟩=eM b 0:=by show mI [b] 1=_;rw[yW (by simp)];simp[mI]
 rw[this];simp[jY,hp]
theorem aOr(F:lp A g tB)(b:Block)(hb:b.Ok)(f:Fact)(H:LO):aG A (g "bZ") [.agg (aE b),.agg (aI f)] H=Qr (.bool ((jY b).any fun x=>eqv { f with block:=0 } x),H,[]):=by
 refine F.holds.call ?_;have hu:=fun H=>aVk F b hb H;have ax:=aHO hb;have hc:=fun H=>uN F.con F.ind (jY b) { f with block:=0 } Qu (by omega) H;simp only[aFa];simp only[aO,BI,BY]at hu;simp only[aI]at hc ⊢;cases hR:jY b with
 |nil=>simp only[hR,aFF,BY]at hu hc;simp only[go_sem,↓aB,seval,hu,hc,bT.len,bT.still,bT.ga,bT.take,AD,AB,AA,AE,aS (bG b),AJ]
 |cons x r=>have hd:gG ((x::r).map aI)=true:=aC eL _;simp only[hR,aDI]at hu hc;generalize (x::r).map aI=rows at *;simp only[go_sem,↓aB,seval,hu,hc,bT.len,bT.still,bT.ga,bT.take,AD,AB,AA,AE,aS (bG b),AJ]
end
section
variable {A:af}{g:SN}{tB tP:Nat}
theorem aVl(F:og A g tB tP)(b:Block)(hb:b.Ok)(hB:dQ b=Qt)(hv:b.kind=1->aBV b.expr=0)(h4:b.kind≠4)(hc:∀H,aG A (g "C") [.agg (aE b)] H=Qr (vi 0,H,[]))(H:LO):aG A (g "bQ") [.agg (aE b)] H=Qr (.tup [.str (wB b),vi 0],H,[]):=by
 obtain⟨op,n,ks,ig⟩:=eW b;refine F.text.call ?_;have qv:=bG b;have zz:=fun X=>aQe F.ways (g:=g) X;simp only[aH2];simp only[go_sem,↓aB,seval,cF,bT.take,bT.still,bT.ga,aS qv,hc];refine aY (aq:=aBZ) (H0:=_) (by simp only[go_sem,seval,cS];rfl) (by rfl) ?_;have pk:FW 1 (aE b)=[vi b.kind]:=by rw[ig];rfl
 have hle:(1:Nat)<=13:=by decide
 obtain⟨j,hj,Mj,f1,f2,Ey,Mk⟩:=aYc F b hb hB hv h4;have Ml:=aSi j hj Mj Ey;simp only[go_sem,↓aB,seval,aBZ,zz,pk,hle,cF,AD,Ml,eH,dG,aL,bT.take,aS qv,aK qv,Mk]
end
theorem aCE{b:Block}{at':Int}{f:Fact}(h:f∈eM b at'):∃k,k<7/\lJ (aBp k) b.kind=Qt/\∃p∈aWq b k,f=⟨k,at',p.1,p.2⟩:=by
 unfold eM nO at h;obtain⟨k,hk,h⟩:=IM.1 h;unfold aF8 at h;split at h
 ·rename_i hh;obtain⟨p,hp,e⟩:=DB.1 h;exact⟨k,HE.1 hk,hh,p,hp,e.symm⟩
 cases h
theorem aVm{l:List Shape}{kind:Int}{p:Nat×Nat}{n m:Nat}(h:p∈iI l kind n m):p.1<n/\p.2<m:=aDs.1 (List.mem_filter.1 h).1
def aAT(g:SN):ag:=.block 0 (qS [qm 30 7,qbi 31 .neq 30 0,qm 29 31]<|qC 29 (qS [qm 32 7,qmc 4 (.str []),qm 5 32]<|.ret) (qS [qf 34 0 6,ql 35 1 34,qf 36 0 3,ql 37 1 36,qc 38 (g "bx") [u 35,u 37],qq 39 (.un .not (u 38)),qm 33 39]<|qC 33 (qS [qmc 4 (.str []),qmc 5 (vi 13)]<|.ret) (qS [qla 41 13 6,qla 42 4 3,qc 43 (g "bZ") [u 41,u 42],qq 44 (.un .not (u 43)),qm 40 44]<|qC 40 (qS [qmc 4 (.str []),qmc 5 (vi 5)]<|.ret) (.skip))))
abbrev aHc(g:SN):List ae:=[qf 55 7 6,⟨Qr 56,of 0 55,Qs,[0]⟩,⟨Qr 57,ol 1 56,Qs,[1,0]⟩,qf 58 2 3,⟨Qr 59,ol 1 58,Qs,[3]⟩,⟨Qr 60,oi 57 59 1,Qs,[2,1,0,4,3]⟩,⟨Qr 61,ol 1 60,Qs,[5,2,1,0,4,3]⟩,qf 62 3 3,⟨Qr 63,ol 1 62,Qs,[7]⟩,⟨Qr 64,oi 61 63 1,Qs,[6,5,2,1,0,4,3,8,7]⟩,⟨Qr 65,ol 1 64,Qs,[9,6,5,2,1,0,4,3,8,7]⟩,⟨Qr 4,om 65,Qs,[10,9,6,5,2,1,0,4,3,8,7]⟩,⟨Qr 5,omc z0,Qs,[11,10,9,6,5,2,1,0,4,3,8,7]⟩]
abbrev aAU:LN:=[]
abbrev aHd(g:SN):List ae:=[qf 68 11 6,⟨Qr 69,of 0 68,Qs,[0]⟩,⟨Qr 70,ol 1 69,Qs,[1,0]⟩,qf 71 3 3,⟨Qr 72,ol 1 71,Qs,[3]⟩,⟨Qr 73,oi 70 72 1,Qs,[2,1,0,4,3]⟩,⟨Qr 74,ol 1 73,Qs,[5,2,1,0,4,3]⟩,qf 75 2 3,⟨Qr 76,ol 1 75,Qs,[7]⟩,⟨Qr 77,oi 74 76 1,Qs,[6,5,2,1,0,4,3,8,7]⟩,⟨Qr 78,ol 1 77,Qs,[9,6,5,2,1,0,4,3,8,7]⟩,⟨Qr 79,oc (g "bz") [u 78],Qs,[10,9,6,5,2,1,0,4,3,8,7]⟩,⟨Qr 4,om 79,Qs,[11,10,9,6,5,2,1,0,4,3,8,7]⟩,⟨Qr 5,omc z0,Qs,[12,11,10,9,6,5,2,1,0,4,3,8,7]⟩]
abbrev aAV:LN:=[]
def aAW(g:SN):ag:=.block 1 (qS [qbi 48 .eql 46 0,qm 47 48]<|qC 47 (qS [qla 49 13 6,qc 50 (g "bQ") [u 49],qq 51 (.ext 0 (u 50)),qq 52 (.ext 1 (u 50)),qm 4 51,qm 5 52]<|.ret) (qS [qbi 54 .eql 46 1,qm 53 54]<|qC 53 (.seq (.region Qt (aHc g))<|.ret) (qS [qbi 67 .eql 46 5,qm 66 67]<|qC 66 (.seq (.region Qt (aHd g))<|.ret) (qS [qbi 81 .eql 46 6,qm 80 81]<|qC 80 (qS [qf 82 12 6,ql 83 1 82,qf 84 2 3,ql 85 1 84,qi 86 83 85 1,ql 87 1 86,qm 4 87,qmc 5 z0]<|.ret) (.skip)))))
def aAX(g:SN):bw:=⟨96,[6],[.tmp 4,.tmp 5],qS [qx 2 4 0,qx 3 4 1,qmc 4 (.str []),qmc 5 z0]<|.seq (qS [qf 10 1 3,ql 11 1 10,qbi 12 .lss 11 0,qm 13 12,qF 14 13 (of 1 3),qF 15 13 (ol 1 14),qF 16 13 (of 1 2),qF 17 13 (ol 1 16),qF 18 13 (on 17),qF 19 13 (ob .geq 15 18),qq 20 (.pick (u 13) uT (u 19))]<|qC 20 (qS [qmc 4 (.str []),qmc 5 (vi 12)]<|.ret) (.skip))<|qS [qf 21 1 2,ql 22 1 21,qf 23 1 3,ql 24 1 23,qi 25 22 24 13,qla 26 13 25,qq 6 (.alloc [z0,(.sl Qt []),z0,z0,(.sl Qt []),z0,(.sl Qt []),(.sl Qt []),z0,z0,(.sl Qt []),(.sl Qt []),(.sl Qt [])]),qs 13 6 26]<|.seq (qS [qla 27 13 6,qc 28 (g "C") [u 27],qm 7 28]<|aAT g)<|.seq (qS [qf 45 0 3,ql 46 1 45]<|aAW g)<|.seq (qS [qf 89 8 6,qla 90 3 89,qla 91 4 3,qc 92 (g "Z") [u 90,u 91],qm 88 92,qq 93 (.ext 0 (u 88)),qq 94 (.ext 1 (u 88)),qm 8 93,qm 9 94]<|qS [qm 95 8]<|qC 95 (qS [qmc 4 (.str [121,101,115]),qmc 5 z0]<|.ret) (.skip))<|qS [qmc 4 (.str [110,111]),qmc 5 z0]<|.ret⟩
structure yc(A:af)(g:SN)(E:Int->Int->List Shape->Int)(tB tP:Nat):Prop where
 hold:lp A g tB
 text:og A g tB tP
 check:Has A g "C" (tE g)
 fig:aCD A g E
 value:Has A g "f" (aAX g)
 ph:∀(b:Block) (f:Fact) (H:LO),b.Ok->(∀s∈b.aw,vQ s=Qt)->1<=b.w/\b.w<=1000->1<=b.h/\b.h<=1000->b.aw.length<=8->0<=f.a->0<=f.b->f.a<b.aw.length->f.b<b.aw.length->2<=f.kind->f.kind<=4 ->
  ∃(r:Bool) (e:Int),aG A (g "Z") [.agg (aDn b.w b.h b.aw),.agg (aI f)] H=Qr (.tup [.bool r,vi e],H,[])
structure Told(E:Int->Int->List Shape->Int)(x:Item)(f:Fact):Prop where
 b0:0<=f.block
 b1:f.block<x.blocks.length
 right:∀b,x.blocks[f.block.toNat]? = Qr b->dQ b=Qt/\nU E b=0/\f∈eM b f.block
theorem aVn{k:Nat}{b:Block}(hk:k<7)(h:lJ (aBp k) b.kind=Qt)(hb:0<=b.kind):aHb b.kind k=true:=by
 match k,hk with
 |0,_=>simp[lJ,aBp]at h;simp[aHb];omega
 |1,_=>simp[lJ,aBp]at h;simp[aHb];omega
 |2,_=>simp[lJ,aBp]at h;simp[aHb];omega
 |3,_=>simp[lJ,aBp]at h;simp[aHb];omega
 |4,_=>simp[lJ,aBp]at h;simp[aHb];omega
 |5,_=>simp[lJ,aBp]at h;simp[aHb];omega
 |6,_=>simp[lJ,aBp]at h;simp[aHb];omega
theorem aVo{k:Nat}{b:Block}(hk:k<7)(h:lJ (aBp k) b.kind=Qt):(k=0/\b.kind≠4)∨(0<k/\b.kind=aBp k):=by
 match k,hk with
 |0,_=>simp[lJ,aBp]at h;left;exact⟨rfl,by omega⟩
 |1,_=>simp[lJ,aBp]at h;right;exact⟨by decide,by simp[aBp];omega⟩
 |2,_=>simp[lJ,aBp]at h;right;exact⟨by decide,by simp[aBp];omega⟩
 |3,_=>simp[lJ,aBp]at h;right;exact⟨by decide,by simp[aBp];omega⟩
 |4,_=>simp[lJ,aBp]at h;right;exact⟨by decide,by simp[aBp];omega⟩
 |5,_=>simp[lJ,aBp]at h;right;exact⟨by decide,by simp[aBp];omega⟩
 |6,_=>simp[lJ,aBp]at h;right;exact⟨by decide,by simp[aBp];omega⟩
theorem aOs{b:Block}{f:Fact}{n m:Int}(h:f∈eM b n):({ f with block:=m }:Fact)∈eM b m:=by obtain⟨k,hk,hh,p,hp,rfl⟩:=aCE h;unfold eM nO;refine IM.2 ⟨k,HE.2 hk, ?_⟩;unfold aF8;rw[Zy hh];exact DB.2 ⟨p,hp,rfl⟩
abbrev aHP(g:SN):List ae:=[qm 37 7,qf 38 2 2,⟨Qr 39,ol 1 38,Qs,[1]⟩,qf 40 2 3,⟨Qr 41,ol 1 40,Qs,[3]⟩,⟨Qr 42,oi 39 41 2,Qs,[2,1,4,3]⟩,⟨Qr 43,ola 2 42,Qs,[5,2,1,4,3]⟩,qf 44 2 2,⟨Qr 45,ol 1 44,Qs,[7]⟩,qf 46 3 3,⟨Qr 47,ol 1 46,Qs,[9]⟩,⟨Qr 48,oi 45 47 2,Qs,[8,7,10,9]⟩,⟨Qr 49,ola 2 48,Qs,[11,8,7,10,9]⟩,⟨Qr 50,.dm (u 37) [(.tmp 43),(.tmp 49)],Qs,[0,6,5,2,1,4,3,12,11,8,7,10,9]⟩,⟨Qr 4,om 50,Qs,[13,0,6,5,2,1,4,3,12,11,8,7,10,9]⟩,⟨Qr 5,omc z0,Qs,[14,13,0,6,5,2,1,4,3,12,11,8,7,10,9]⟩]
abbrev jZ:LN:=[]
def aCF(g:SN):bw:=⟨51,[13],[.tmp 4,.tmp 5],qS [qx 2 3 0,qx 3 4 1,qmc 4 (.bool Qu),qmc 5 z0]<|.seq (qS [qla 8 3 2,qc 9 (g "u") [u 8],qm 6 9]<|qS [qm 10 6,qbi 11 .neq 10 0]<|qC 11 (qS [qm 12 6,qmc 4 (.bool Qu),qm 5 12]<|.ret) (.skip))<|qS [qq 13 (.jn),qz (.ins (u 13) (ui 2) (uf (g "x"))),qz (.ins (u 13) (ui 3) (uf (g "y"))),qz (.ins (u 13) (ui 4) (uf (g "z"))),qm 14 13,qf 15 0 3,ql 16 1 15,qq 17 (.look .bx (u 14) (u 16) Qu),qm 7 17]<|.seq (qS [qm 18 7,qq 19 (.bin .eql .func (u 18) (uc .bx))]<|qC 19 (qS [qmc 4 (.bool Qu),qmc 5 (vi 1)]<|.ret) (.skip))<|.seq (qS [qf 20 2 3,ql 21 1 20,qf 22 3 3,ql 23 1 22,qq 24 (.mm Qu [(.tmp 21),(.tmp 23)]),qbi 25 .lss 24 0,qm 26 25,qF 27 26 (of 2 3),qF 28 26 (ol 1 27),qF 29 26 (of 3 3),qF 30 26 (ol 1 29),qF 31 26 (.mm Qt [(.tmp 28),(.tmp 30)]),qF 32 26 (of 2 2),qF 33 26 (ol 1 32),qF 34 26 (on 33),qF 35 26 (ob .geq 31 34),qq 36 (.pick (u 26) uT (u 35))]<|qC 36 (qS [qmc 4 (.bool Qu),qmc 5 (vi 6)]<|.ret) (.skip))<|.seq (.region Qt (aHP g))<|.ret⟩
section
variable {A:af}{g:SN}{E:Int->Int->List Shape->Int}
theorem aSr(hE:aCD A g E) (hI:∀s t:Shape,s.points.length<=1000->t.points.length<=1000->∀H,∃r:Bool,aG A (g "x") [.agg (aH s),.agg (aH t)] H=Qr (.bool r,H,[])) (hL:∀s t:Shape,s.points.length<=1000->t.points.length<=1000->∀H,∃r:Bool,aG A (g "y") [.agg (aH s),.agg (aH t)] H=Qr (.bool r,H,[])) (hG:∀s t:Shape,s.points.length<=1000->t.points.length<=1000->∀H,∃r:Bool,aG A (g "z") [.agg (aH s),.agg (aH t)] H=Qr (.bool r,H,[])) (h:Has A g "Z" (aCF g)) (w hh:Int) (l:List Shape) (f:Fact) (H:LO) (hl:∀s∈l,vQ s=Qt) (hw:1<=w/\w<=1000) (Cw:1<=hh/\hh<=1000) (Mo:l.length<=8) (Bt:0<=f.a) (qw:0<=f.b) (ha:f.a<l.length) (hb:f.b<l.length) (z8:2<=f.kind) (Je:f.kind<=4):∃(r:Bool) (e:Int),aG A (g "Z") [.agg (aDn w hh l),.agg (aI f)] H=Qr (.tup [.bool r,vi e],H,[]):=by
 obtain⟨v,H',wr,h1,rfl,rfl,m,e,rfl⟩:=h.bp (args:=[.agg (aDn w hh l),.agg (aI f)]) (H:=H) (K:=fun v H' wr=>wr=[]/\H'=H/\∃(r:Bool) (e:Int),v=.tup [.bool r,vi e]) (by
  have hv:=fun H=>hE w hh l hw Cw Mo hl H;have l9:∀s∈l,s.points.length<=1000:=fun s hm=>by
   have q1:=hl s hm;unfold vQ at q1;simp only[AI,eG]at q1;omega
  simp only[aCF];simp only[aDn,aI]at hv ⊢;cases e1:(E w hh l != 0)with
  |true=>simp only[go_sem,↓aB,seval,hv,e1,AD,AA,AE];exact⟨_,_,rfl⟩
  |false=>
   have hk:f.kind=2∨f.kind=3∨f.kind=4:=by omega
   have Jg:f.a.toNat<l.length:=by omega
   have Cf:f.b.toNat<l.length:=by omega
   have Mp:(l.map aH)[f.a.toNat]? = Qr (aH l[f.a.toNat]):=by rw[BN,AP Jg];rfl
   have Gt:(l.map aH)[f.b.toNat]? = Qr (aH l[f.b.toNat]):=by rw[BN,AP Cf];rfl
   obtain⟨sa,Gu,ea⟩:∃s:Shape,s.points.length<=1000/\(l.map aH)[f.a.toNat]? = Qr (aH s):=⟨_,l9 _ (AS Jg),Mp⟩;obtain⟨sb,Gv,eb⟩:∃s:Shape,s.points.length<=1000/\(l.map aH)[f.b.toNat]? = Qr (aH s):=⟨_,l9 _ (AS Cf),Gt⟩;have fI:kJ JT vd.func (AV.fn (g "x") [] []) AV.bx=Qr (.bool Qu):=rfl;have fL:kJ JT vd.func (AV.fn (g "y") [] []) AV.bx=Qr (.bool Qu):=rfl;have fG:kJ JT vd.func (AV.fn (g "z") [] []) AV.bx=Qr (.bool Qu):=rfl;have c1:decide ((if f.b<f.a then f.b else f.a)<0)=false:=by simp;split<;>omega
   have c2:decide ((if f.a<f.b then f.b else f.a) ≥ (l.length:Int))=false:=by simp;split<;>omega
   rcases hk with hk | hk | hk
   ·rw[hk];obtain⟨r,hr⟩:=hI sa sb Gu Gv (H++[ah.map 1 [(AV.int AR 2,AV.fn (g "x") [] []),(AV.int AR 3,AV.fn (g "y") [] []),(AV.int AR 4,AV.fn (g "z") [] [])]]);simp only[aH]at ea eb hr;simp only[go_sem,↓aB,seval,hv,e1,fI,c1,c2,AF,Zz,AD,AA,AE,AB];refine aY (aq:=jZ) (by rfl) (by rfl) ?_;simp only[go_sem,↓aB,seval,jZ,ea,eb,hr,Bt,qw,AD,AA,AE,AB];exact⟨_,_,rfl⟩
   ·rw[hk];obtain⟨r,hr⟩:=hL sa sb Gu Gv (H++[ah.map 1 [(AV.int AR 2,AV.fn (g "x") [] []),(AV.int AR 3,AV.fn (g "y") [] []),(AV.int AR 4,AV.fn (g "z") [] [])]]);simp only[aH]at ea eb hr;simp only[go_sem,↓aB,seval,hv,e1,fL,c1,c2,AF,Zz,AD,AA,AE,AB];refine aY (aq:=jZ) (by rfl) (by rfl) ?_;simp only[go_sem,↓aB,seval,jZ,ea,eb,hr,Bt,qw,AD,AA,AE,AB];exact⟨_,_,rfl⟩
   rw[hk];obtain⟨r,hr⟩:=hG sa sb Gu Gv (H++[ah.map 1 [(AV.int AR 2,AV.fn (g "x") [] []),(AV.int AR 3,AV.fn (g "y") [] []),(AV.int AR 4,AV.fn (g "z") [] [])]]);simp only[aH]at ea eb hr;simp only[go_sem,↓aB,seval,hv,e1,fG,c1,c2,AF,Zz,AD,AA,AE,AB];refine aY (aq:=jZ) (by rfl) (by rfl) ?_;simp only[go_sem,↓aB,seval,jZ,ea,eb,hr,Bt,qw,AD,AA,AE,AB];exact⟨_,_,rfl⟩)
 exact⟨m,e,h1⟩
structure C2(A:af)(g:SN):Prop where
 fns:PlaneFns A g
 within:Has A g "ad" (oY g)
 con:aAA A (g "bb") 2 Qt
 in1:Has A g "aa" (oP g)
 inside:Has A g "x" (aAI g)
 box:Has A g "Y" (aDo g)
 left:Has A g "y" (aEv g)
 length:Has A g "ab" (tC g)
 S6:Has A g "z" (aAF g)
 holds:Has A g "Z" (aCF g)
theorem aVp(P:C2 A g)(hE:aCD A g E)(b:Block)(f:Fact)(H:LO)(hb:b.Ok)(hl:∀s∈b.aw,vQ s=Qt)(hw:1<=b.w/\b.w<=1000)(hh:1<=b.h/\b.h<=1000)(h8:b.aw.length<=8)(a0:0<=f.a)(b0:0<=f.b)(a1:f.a<b.aw.length)(b1:f.b<b.aw.length)(k2:2<=f.kind)(k4:f.kind<=4):∃(r:Bool) (e:Int),aG A (g "Z") [.agg (aDn b.w b.h b.aw),.agg (aI f)] H=Qr (.tup [.bool r,vi e],H,[]):=
 aSr hE (fun s t hs ht H=>aQ9 P.fns P.within P.con P.in1 P.inside s t hs ht H) (fun s t hs ht H=>aV5 P.box P.left s t hs ht H) (fun s t hs ht H=>aQ5 P.fns P.length P.S6 s t hs ht H) P.holds b.w b.h b.aw f H hl hw hh h8 a0 b0 a1 b1 k2 k4
end
theorem aII{n:Nat}:∀{l:LA},dJ n l=Qt->∀(i:Nat) a,l[i]? = Qr a->a.under n=Qt
 | [],_,i,a,h=>by simp at h
 |v::r,hu,i,a,h=>by
  simp only[dJ,AI]at hu;cases i with
  |zero=>simp at h;subst h;exact hu.1
  |succ i=>exact aII hu.2 i a (by simpa using h)
noncomputable def aFb(A:af)(f:Nat):aIP:=fun args _=>if dJ 0 args=Qt then
  match aG A f args []with
  |some (v,[],[])=>if v.atomic=Qt then Qr (v,[],[])else Qs
  |_=>Qs
 else Qs
theorem aQr{A:af}{f:Nat}{args:LA}{H:LO}{r}(h:aFb A f args H=Qr r):∃v,r=(v,[],[])/\v.atomic=Qt/\dJ 0 args=Qt/\aG A f args []=Qr (v,[],[]):=by
 unfold aFb at h;split at h
 ·rename_i hu;split at h
  ·rename_i v hc;split at h
   ·rename_i ha;cases h;exact⟨v,rfl,ha,hu,hc⟩
   cases h
  cases h
 cases h
theorem aQs{A:af}{f:Nat}{args:LA}{v:AV}(hu:dJ 0 args=Qt)(ha:v.atomic=Qt)(h:aG A f args []=Qr (v,[],[]))(H:LO):aFb A f args H=Qr (v,[],[]):=by unfold aFb;rw[Zy hu,h];dsimp only;rw[Zy ha]
theorem aSs{P:Program}{ab:cu}{A:af}(hA:Good P ab A)(B4:∀n row,ab.row n=Qr row->dJ 0 row=Qt){f:Nat} (hf:∃F,P.funcs[f]? = Qr F/\(F.name == "runtime.NumGoroutine")=Qu/\F.body.isNone=Qu):gS P ab fun f' args H=>if f'=f then (aFb A f args H).map (cT H)else none:=by
 refine oC hf fun args H v ws ns hp g w xs hw hg hx=>?_;obtain⟨v',e,jk,hu,hc⟩:=aQr hp;cases e;obtain⟨n,hc⟩:=oM hc;have od:WF (g.cut 0) [] w:=by
  refine⟨hw.perm,fun o l h=>by simp[G.cut]at h,fun o l h=>by simp[G.cut]at h,fun o x l _ h=>by simp[G.cut]at h,fun o l x h=>?_,fun o l x h=>?_,fun o o' l l' x x' h=>?_,⟨fun b y hy=>⟨(hw.whole.blocks b y hy).1,fun o l z hz=>?_⟩,hw.whole.io⟩⟩
  all_goals first
   | (have:=h.Pr;simp at this;done)
   | (have:=hz.Pr;simp at this;done)
 have Q6:bM P ab (g.cut 0):=⟨fun n row e=>by
  obtain⟨h1,h2⟩:=hg.row n row e;exact⟨h1.cut (by simpa [AV.under]using B4 n row e),h2⟩,hg.code⟩
 have jr:fU (g.cut 0) args xs:=⟨hx.1,fun i a x e1 e2=>(hx.2 i a x e1 e2).cut (aII hu i a e1)⟩;refine (((sU hA n).1 f args [] v [] [] hc (g.cut 0) w xs od Q6 jr).2).mono fun e w' he=>?_;cases e with
 |panicked c=>exact he
 |outgrown=>exact he
 |returned x=>
  obtain⟨g',hs,hr⟩:=he;have kh:w'.os=w.os/\w'.output=w.output:=by have e1:=hs.wf.whole.io;have e2:=hs.le.io;have e3:=hw.whole.io;rw[e2]at e1;have e4:(w.os,w.output)=(w'.os,w'.output):=e3.symm.trans e1;exact⟨(congrArg EM e4).symm,(congrArg GQ e4).symm⟩
  refine⟨g,by simpa [eU]using Step.nf hw hs.frame.1 (fun b hb=>hs.frame.2 b hb fun o ho=>by cases ho) kh, ?_⟩;cases v<;>first | (simp[AV.atomic,AV.atom]at jk;done) | exact ai.atomic hr jk
noncomputable def aNn(A:af)(f:Nat)(w hh:Int)(l:List Shape):Int:=match aG A f [.agg (aDn w hh l)] []with
 |some (.int .i64 e,_,_)=>e
 |_=>0
theorem aOt{A A1:af}{g:SN}(F:ij A1 g)(hp:A.bq (g "u")=Qr (aFb A1 (g "u"))):aCD A g (aNn A1 (g "u")):=by
 intro w hh l hw Cw hl hs H;obtain⟨e,he⟩:=aJz F w hh l hw Cw hl hs [];have h1:aNn A1 (g "u") w hh l=e:=by unfold aNn;rw[he]
 rw[h1];refine dT ?_;rw[hp];show aFb A1 _ _ H=_;refine aQs ?_ rfl he H;have hd:gG (l.map aH)=true:=aC bW _;have h2:eR 0 (l.map aH)=true:=aA hd;simp[dJ,AV.under,h2]
noncomputable def bFr(f:Nat):Option aIP:=match f with
 |84=>Qr (aFb AM1 84)
 |f=>aMX f
noncomputable def AM2:af:=⟨fnK,bFr⟩
theorem bFL:Good Go.Proofs.Tryz.prog aBx AM2:=aLW rfl (by kernel_rfl) rfl fun f p h=>by
 have h:bFr f=Qr p:=h;unfold bFr at h;split at h
 ·cases h;exact .inr (aSs aT6 aBi ⟨Go.Proofs.Tryz.f84,Go.Proofs.Tryz.func84,by kernel_rfl,by kernel_rfl⟩)
 exact .inr (aT6.bq f p h)
noncomputable def aVq(f:Nat):Option aIP:=match f with
 |7=>Qr (aFb AM2 7)
 |21=>Qr (aFb AM2 21)
 |f=>bFr f
noncomputable def AM0:af:=⟨fnK,aVq⟩
theorem bBh:Good Go.Proofs.Tryz.prog aBx AM0:=aLW rfl (by kernel_rfl) rfl fun f p h=>by
 have h:aVq f=Qr p:=h;unfold aVq at h;split at h
 ·cases h;exact .inr (aSs bFL aBi ⟨Go.Proofs.Tryz.f7,Go.Proofs.Tryz.func7,by kernel_rfl,by kernel_rfl⟩)
 ·cases h;exact .inr (aSs bFL aBi ⟨Go.Proofs.Tryz.f21,Go.Proofs.Tryz.func21,by kernel_rfl,by kernel_rfl⟩)
 exact .inr (bFL.bq f p h)
def bCJ:List Str:=[[116,101,120,116],[102,111,114,109,117,108,97],[99,111,108,117,109,110],[101,110,116,114,105,101,115],[100,114,97,119,105,110,103],[109,117,115,105,99],[108,105,115,116,105,110,103]]
def bDh:List Str:=[[99,104,111,105,99,101],[99,111,117,110,116],[111,112,101,110]]
def bEt(r:mr):Str:=82::CN (48+r.gg.toNat)::r.text
def bD6(b:Block):Str:=66::bCJ.getD b.kind.toNat []
def bE0(q:Question):List Str:=(81::bDh.getD q.kind.toNat [])::(q.lk.map bEt++q.options.map (79 :: ·))
def bDi(x:Item)(F:List Str):List Str:=((73::x.name)::x.blocks.map bD6)++(F.map (70 :: ·)++x.ask.flatMap bE0)
def bCL(items:List Item)(R:List (List Str)):List Str:=(List.zipWith bDi items R).flatten
def bDa(x:jm)(R:List (List Str)):List Str:=(84::x.title)::bCL x.items R
def bDG(m:UInt8)(s:Str):List Str:=if h:s=[] then [] else (m::s.take 59)::bDG 43 (s.drop 59)
termination_by s.length
decreasing_by
 have:0<s.length:=MY.2 h;simp;omega
def cH(s:Str):List Str:=bDG 61 s
theorem bE1(m:UInt8):bDG m []=[]:=by rw[bDG];rfl
theorem bDc{m:UInt8}{s:Str}(h:s≠[]):bDG m s=(m::s.take 59)::bDG 43 (s.drop 59):=by rw[bDG,dif_neg h]
def cB(l:List Str):List (List Str):=if h:l=[] then [] else l.take 50::cB (l.drop 50)
termination_by l.length
decreasing_by
 have:0<l.length:=MY.2 h;simp;omega
theorem bE2:cB []=[]:=by rw[cB];rfl
theorem bDR{l:List Str}(h:l≠[]):cB l=l.take 50::cB (l.drop 50):=by rw[cB,dif_neg h]
theorem bFb(l:List Str):(cB l).flatten=l:=by
 induction hn:l.length using KK generalizing l with
 |_ n ih=>
  by_cases h:l=[]
  ·rw[h,bE2];rfl
  have:0<l.length:=MY.2 h;rw[bDR h,List.flatten_cons,ih (l.drop 50).length (by simp;omega) _ rfl,IQ]
theorem bE3(l:List Str):(cB l).length=(l.length+49) / 50:=by
 induction hn:l.length using KK generalizing l with
 |_ n ih=>
  by_cases h:l=[]
  ·subst h;rw[bE2];simp at hn;subst hn;rfl
  have:0<l.length:=MY.2 h;rw[bDR h,AW,ih (l.drop 50).length (by simp;omega) _ rfl,NS];omega
theorem bEA(l:List Str):∀i,i<(cB l).length->(cB l)[i]? = Qr ((l.drop (50*i)).take 50):=by
 induction hn:l.length using KK generalizing l with
 |_ n ih=>
  intro i hi;by_cases h:l=[]
  ·rw[h,bE2]at hi;cases hi
  have:0<l.length:=MY.2 h;rw[bDR h]at hi ⊢;cases i with
  |zero=>rfl
  |succ i=>rw[CT,ih (l.drop 50).length (by simp;omega) _ rfl i (by simpa using hi),List.drop_drop];rw[show 50+50*i=50*(i+1)by omega]
theorem bEQ{l:List Str}{i:Nat}(h:i<(cB l).length):1<=((l.drop (50*i)).take 50).length/\((l.drop (50*i)).take 50).length<=50/\(i+1<(cB l).length->((l.drop (50*i)).take 50).length=50):=by rw[bE3]at h ⊢;rw[List.length_take,NS];omega
def bCP:Option (List Str×Bool)->Str->Option (List Str×Bool)
 |some (out,full),s=>if 2<=s.length/\s.length<=60 then
   (match s with
   |c::t=>if c=61 then Qr (out++[t],s.length==60)else if c=43/\full=Qt then Qr (out.dropLast++[out.getLastD []++t],s.length==60)else Qs
   | []=>Qs)else Qs
 |none,_=>Qs
theorem bDS(out:List Str)(f:Bool)(c:UInt8)(t:Str):bCP (Qr (out,f)) (c::t)=(if 2<=(c::t).length/\(c::t).length<=60 then (if c=61 then Qr (out++[t],(c::t).length==60)else if c=43/\f=Qt then Qr (out.dropLast++[out.getLastD []++t],(c::t).length==60)else Qs)else Qs):=rfl
def bD5(l:List Str):Option (List Str×Bool):=l.foldl bCP (Qr ([],Qu))
theorem bEg(l:List Str):l.foldl bCP Qs=none:=by
 induction l with
 |nil=>rfl
 |cons a r ih=>exact ih
theorem bFM(s:Str):∀(out:List Str) (t:Str) (f:Bool),(s≠[]->f=Qt)->∃f2,(bDG 43 s).foldl bCP (Qr (out++[t],f))=Qr (out++[t++s],f2):=by
 induction hn:s.length using KK generalizing s with
 |_ n ih=>
  intro out t f hf;by_cases h:s=[]
  ·subst h;rw[bE1,AJ];exact⟨f,rfl⟩
  have:0<s.length:=MY.2 h;rw[bDc h,OE,hf h];have e:bCP (Qr (out++[t],Qt)) (43::s.take 59)=Qr (out++[t++s.take 59],(43::s.take 59).length==60):=by rw[bDS,Zy (by simp;omega),Zx (by decide),Zy ⟨rfl,rfl⟩];simp
  rw[e];obtain⟨f2,h2⟩:=ih (s.drop 59).length (by simp;omega) (s.drop 59) rfl out (t++s.take 59) ((43::s.take 59).length==60) (fun bl=>by
   have:0<(s.drop 59).length:=MY.2 bl;simp at this ⊢;omega)
  refine⟨f2,h2.trans ?_⟩;rw[CJ,IQ]
theorem bG7{s:Str}(h:s≠[])(out:List Str)(f:Bool):∃f2,(cH s).foldl bCP (Qr (out,f))=Qr (out++[s],f2):=by
 have:0<s.length:=MY.2 h;unfold cH;rw[bDc h,OE];have e:bCP (Qr (out,f)) (61::s.take 59)=Qr (out++[s.take 59],(61::s.take 59).length==60):=by rw[bDS,Zy (by simp;omega),Zy rfl]
 rw[e];obtain⟨f2,h2⟩:=bFM (s.drop 59) out (s.take 59) ((61::s.take 59).length==60) (fun bl=>by
  have:0<(s.drop 59).length:=MY.2 bl;simp at this ⊢;omega)
 refine⟨f2,h2.trans ?_⟩;rw[IQ]
theorem bER:∀(ps out:List Str) (f:Bool),(∀p∈ps,p≠[])->∃f2,(ps.flatMap cH).foldl bCP (Qr (out,f))=Qr (out++ps,f2)
 | [],out,f,_=>⟨f,by simp⟩
 |p::ps,out,f,h=>by
  obtain⟨f1,h1⟩:=bG7 (h p (by simp)) out f;obtain⟨f2,h2⟩:=bER ps (out++[p]) f1 (fun q hq=>h q (BZ _ hq));refine⟨f2, ?_⟩;rw[HW,Bx,h1,h2,CJ];rfl
theorem bFB{ps:List Str}(h:∀p∈ps,p≠[]):∃f,bD5 (ps.flatMap cH)=Qr (ps,f):=bER ps [] Qu h
theorem bFc{a b:List Str}{r}(h:bD5 (a++b)=Qr r):∃r2,bD5 a=Qr r2:=by
 unfold bD5 at h ⊢;rw[Bx]at h;cases e:a.foldl bCP (Qr ([],Qu))with
 |none=>rw[e,bEg]at h;cases h
 |some r2=>exact⟨r2,rfl⟩
theorem bEh{out out2:List Str}{f f2:Bool}{s:Str}(h:bCP (Qr (out,f)) s=Qr (out2,f2)):(2<=s.length/\s.length<=60)/\f2=(s.length==60)/\∃c t,s=c::t/\((c=61/\out2=out++[t])∨(c≠61/\c=43/\f=Qt/\out2=out.dropLast++[out.getLastD []++t])):=by
 cases s with
 |nil=>simp[bCP]at h
 |cons c t=>
  have h':(if 2<=(c::t).length/\(c::t).length<=60 then (if c=61 then Qr (out++[t],(c::t).length==60)else if c=43/\f=Qt then Qr (out.dropLast++[out.getLastD []++t],(c::t).length==60)else Qs)else Qs)=Qr (out2,f2):=h;split at h'
  ·rename_i hl;split at h'
   ·rename_i hc;cases h';exact⟨hl,rfl,c,t,rfl,.inl ⟨hc,rfl⟩⟩
   rename_i hc;split at h'
   ·rename_i nc;cases h';exact⟨hl,rfl,c,t,rfl,.inr ⟨hc,nc.1,nc.2,rfl⟩⟩
   cases h'
  cases h'
theorem bFN{out:List Str}:∀{l:List Str},bD5 l=Qr (out,Qt)->out≠[]:=by
 have hs:∀(l:List Str) (r:List Str×Bool),(r.2=Qt->r.1≠[])->∀r2,l.foldl bCP (Qr r)=Qr r2->(r2.2=Qt->r2.1≠[]):=by
  intro l
  induction l with
  |nil=>intro r hr r2 h;cases h;exact hr
  |cons s l ih=>
   intro r hr r2 h;rw[OE]at h;cases e:bCP (Qr r) s with
   |none=>rw[e,bEg]at h;cases h
   |some r3=>rw[e]at h;obtain⟨_,_,c,t,_,h3⟩:=bEh (out:=r.1) (f:=r.2) (out2:=r3.1) (f2:=r3.2) e;refine ih r3 (fun _=>?_) r2 h;rcases h3 with⟨_,h3⟩ | ⟨_,_,_,h3⟩<;>rw[h3]<;>simp
 intro l h;exact hs l ([],Qu) (by simp) _ h rfl
def bCG(c:UInt8):Str:=if c=73 then [84,73,66,70,82,79] else if c=66 then [73,66] else if c=70 then [73,66,70] else if c=81 then [73,66,70,82,79] else if c=82 then [81,82] else if c=79 then [82,79] else []
def bEB(p:UInt8)(s:Str)(r:List Str):Prop:=∃c t,s=c::t/\p∈bCG c/\(c=66->t∈bCJ)/\(c=81->t∈bDh/\∃t2 r2,r=(82::t2)::r2)/\(c=82->∃d t2,t=d::t2/\(d=48∨d=49))
def bCY:UInt8->List Str->Prop
 |_,[]=>True
 |p,s::r=>bEB p s r/\bCY (s.headD 0) r
def bDb(p:UInt8)(l:List Str):UInt8:=l.foldl (fun _ s=>s.headD 0) p
theorem bEB.more{p:UInt8}{s:Str}{r:List Str}(h:bEB p s r)(b:List Str):bEB p s (r++b):=by obtain⟨c,t,h1,h2,h3,h4,h5⟩:=h;refine⟨c,t,h1,h2,h3,fun hc=>?_,h5⟩;obtain⟨k1,t2,r2,rfl⟩:=h4 hc;exact⟨k1,t2,r2++b,rfl⟩
theorem bCS:∀{p:UInt8} {a b:List Str},bCY p a->bCY (bDb p a) b->bCY p (a++b)
 |_,[],_,_,h=>h
 |_,_::_,b,h1,h2=>⟨h1.1.more b,bCS h1.2 h2⟩
theorem bES:∀{l:List Str} {p:UInt8} {q:Str} (_:bCY p l) (_:q.headD 0=p) {i:Nat} (hi:i<l.length),bEB (((q::l)[i]'(by simp;omega)).headD 0) l[i] (l.drop (i+1))
 |s::r,p,q,h,hq,0,hi=>by
  have:=h.1;rw[<- hq]at this;exact this
 |s::r,p,q,h,hq,i+1,hi=>bES (l:=r) (q:=s) h.2 rfl (by simpa using hi)
def bDM(out:List (List Str))(t:Str):List (List Str):=out.dropLast++[out.getLastD []++[t]]
theorem bE7(out:List (List Str))(r:List Str)(t:Str):bDM (out++[r]) t=out++[r++[t]]:=by simp[bDM]
def bDN(out:List (List Str))(s:Str):List (List Str):=match s with
 |c::t=>if c=73 then out++[[]] else if c=70 then bDM out t else out
 | []=>out
theorem bDf(p:UInt8)(a b:List Str):bDb p (a++b)=bDb (bDb p a) b:=by simp[bDb]
theorem bE4(p:UInt8)(s:Str)(l:List Str):bDb p (s::l)=bDb (s.headD 0) l:=rfl
theorem bDj{α:Type}{c:UInt8}{t:α->Str}(hc:c∈bCG c)(Ru:c≠81):∀{l:List α} {p:UInt8},(∀a∈l,(c=66->t a∈bCJ)/\(c=82->∃d t2,t a=d::t2/\(d=48∨d=49)))->p∈bCG c->bCY p (l.map fun a=>c::t a)
 | [],_,_,_=>trivial
 |a::l,p,h,hp=>⟨⟨c,t a,rfl,hp,(h a (by simp)).1,fun e=>Zw e Ru,(h a (by simp)).2⟩,bDj (l:=l) hc Ru (fun b hb=>h b (BZ _ hb)) hc⟩
theorem bDu{α:Type}{c:UInt8}{t:α->Str}:∀{l:List α} {p:UInt8},bDb p (l.map fun a=>c::t a)=if l=[] then p else c
 | [],_=>rfl
 |a::l,p=>by
  rw[BI,bE4,bDu (l:=l)];simp
theorem bEd{α:Type}{c:UInt8}{t:α->Str}(h1:c≠73)(h2:c≠70)(out:List (List Str)):∀{l:List α},(l.map fun a=>c::t a).foldl bDN out=out
 | []=>rfl
 |a::l=>by
  rw[BI,OE];have:bDN out (c::t a)=out:=by simp[bDN,h1,h2]
  rw[this];exact bEd h1 h2 out (l:=l)
theorem bEC(out:List (List Str)):∀{F:List Str} {r:List Str},(F.map (70 :: ·)).foldl bDN (out++[r])=out++[r++F]
 | [],r=>by simp
 |f::F,r=>by
  rw[BI,OE];have:bDN (out++[r]) (70::f)=out++[r++[f]]:=by unfold bDN;dsimp only;rw[Zx (by decide),Zy rfl,bE7]
  rw[this,bEC out,CJ];rfl
structure X0(q:Question):Prop where
 k0:0<=q.kind
 k1:q.kind<3
 ne:q.lk≠[]
 gg:∀r∈q.lk,r.gg=0∨r.gg=1
structure mu(x:Item):Prop where
 kinds:∀b∈x.blocks,0<=b.kind/\b.kind<7
 ask:∀q∈x.ask,X0 q
theorem bEi{k:Int}(h0:0<=k)(h1:k<7):bCJ.getD k.toNat []∈bCJ:=by
 have h:k.toNat<bCJ.length:=by show k.toNat<7;omega
 rw[KV,AP h];exact AS h
theorem bET{k:Int}(h0:0<=k)(h1:k<3):bDh.getD k.toNat []∈bDh:=by
 have h:k.toNat<bDh.length:=by show k.toNat<3;omega
 rw[KV,AP h];exact AS h
theorem bG8{q:Question}(h:X0 q){p:UInt8}(hp:p∈bCG 81):bCY p (bE0 q)/\bDb p (bE0 q)∈[82,79]:=by
 have bd:q.lk.map bEt=q.lk.map fun a=>(82:UInt8)::(CN (48+a.gg.toNat)::a.text):=rfl;have h1:bCY 81 (q.lk.map bEt):=by
  rw[bd];refine bDj (by decide) (by decide) (fun a ha=>⟨fun e=>Zw e (by decide),fun _=>⟨_,_,rfl, ?_⟩⟩) (by decide);rcases h.gg a ha with e | e<;>rw[e]
  ·exact .inl rfl
  exact .inr rfl
 have h2:bDb 81 (q.lk.map bEt)=82:=by rw[bd,bDu,Zx h.ne]
 have h3:bCY 82 (q.options.map (79 :: ·)):=bDj (t:=fun a=>a) (by decide) (by decide) (fun a _=>⟨fun e=>Zw e (by decide),fun e=>Zw e (by decide)⟩) (by decide);have h4:bDb 82 (q.options.map (79 :: ·))∈([82,79]:Str):=by rw[bDu (t:=fun a=>a)];split<;>simp
 refine⟨⟨⟨81,_,rfl,hp,fun e=>Zw e (by decide),fun _=>⟨bET h.k0 h.k1, ?_⟩,fun e=>Zw e (by decide)⟩, ?_⟩, ?_⟩
 ·cases hs:q.lk with
  |nil=>exact Zw hs h.ne
  |cons r rs=>exact⟨CN (48+r.gg.toNat)::r.text,rs.map bEt++q.options.map (79 :: ·),by simp[bEt]⟩
 ·exact bCS h1 (by show bCY (bDb 81 _) _;rw[h2];exact h3)
 unfold bE0;rw[bE4,bDf];show bDb (bDb 81 _) _∈_;rw[h2];exact h4
theorem bEU:∀{l:List Question},(∀q∈l,X0 q)->∀{p:UInt8},p∈bCG 81->bCY p (l.flatMap bE0)/\bDb p (l.flatMap bE0)∈bCG 81
 | [],_,p,hp=>⟨trivial,hp⟩
 |q::l,h,p,hp=>by
  obtain⟨h1,h2⟩:=bG8 (h q (by simp)) hp;have h3:bDb p (bE0 q)∈bCG 81:=by simp at h2;rcases h2 with e | e<;>rw[e]<;>decide
  obtain⟨h4,h5⟩:=bEU (fun q hq=>h q (BZ _ hq)) h3;rw[HW];exact⟨bCS h1 h4,by rw[bDf];exact h5⟩
theorem bFO{x:Item}(h:mu x)(F:List Str){p:UInt8}(hp:p∈bCG 73):bCY p (bDi x F)/\bDb p (bDi x F)∈bCG 73:=by
 have hb:x.blocks.map bD6=x.blocks.map fun b=>(66:UInt8)::bCJ.getD b.kind.toNat []:=rfl;have h1:bCY 73 (x.blocks.map bD6):=by rw[hb];exact bDj (by decide) (by decide) (fun b hb=>⟨fun _=>bEi (h.kinds b hb).1 (h.kinds b hb).2,fun e=>Zw e (by decide)⟩) (by decide)
 have h2:bDb 73 (x.blocks.map bD6)∈bCG 70:=by rw[hb,bDu];split<;>decide
 generalize e2:bDb 73 (x.blocks.map bD6)=p2 at *;have h3:bCY p2 (F.map (70 :: ·)):=bDj (t:=fun a=>a) (by decide) (by decide) (fun a _=>⟨fun e=>Zw e (by decide),fun e=>Zw e (by decide)⟩) h2;have h4:bDb p2 (F.map (70 :: ·))∈bCG 81:=by
  rw[bDu (t:=fun a=>a)];split
  ·have h2:p2∈([73,66,70]:Str):=h2;simp at h2;rcases h2 with e | e | e<;>rw[e]<;>decide
  decide
 obtain⟨h5,h6⟩:=bEU h.ask h4;have h7:∀c:UInt8,c∈bCG 81->c∈bCG 73:=fun c hc=>by
  have hc:c∈([73,66,70,82,79]:Str):=hc;show c∈([84,73,66,70,82,79]:Str);exact BZ _ hc
 refine⟨⟨⟨73,x.name,rfl,hp,fun e=>Zw e (by decide),fun e=>Zw e (by decide),fun e=>Zw e (by decide)⟩, ?_⟩, ?_⟩
 ·exact bCS h1 (by show bCY (bDb 73 _) _;rw[e2];exact bCS h3 h5)
 unfold bDi;rw[DO,bE4,bDf,bDf];show bDb (bDb (bDb 73 _) _) _∈_;rw[e2];exact h7 _ h6
theorem bEV:∀{items:List Item} {R:List (List Str)},(∀x∈items,mu x)->∀{p:UInt8},p∈bCG 73->bCY p (bCL items R)
 | [],R,_,_,_=>by unfold bCL;simp[bCY]
 |x::l,[],_,_,_=>by unfold bCL;simp[bCY]
 |x::l,F::R,h,p,hp=>by
  obtain⟨h1,h2⟩:=bFO (h x (by simp)) F hp;have h3:=bEV (R:=R) (fun y hy=>h y (BZ _ hy)) h2;have e:bCL (x::l) (F::R)=bDi x F++bCL l R:=by simp[bCL]
  rw[e];exact bCS h1 h3
theorem bFs(out:List (List Str)):∀{l:List Question},(l.flatMap bE0).foldl bDN out=out
 | []=>rfl
 |q::l=>by
  rw[HW,Bx];have h1:(bE0 q).foldl bDN out=out:=by unfold bE0;rw[OE,Bx];have e0:bDN out (81::bDh.getD q.kind.toNat [])=out:=rfl;have bd:q.lk.map bEt=q.lk.map fun a=>(82:UInt8)::(CN (48+a.gg.toNat)::a.text):=rfl;rw[e0,bd,bEd (c:=82) (by decide) (by decide)];exact bEd (c:=79) (t:=fun a=>a) (by decide) (by decide) out
  rw[h1];exact bFs out
theorem bG9(out:List (List Str))(x:Item)(F:List Str):(bDi x F).foldl bDN out=out++[F]:=by unfold bDi;have hb:x.blocks.map bD6=x.blocks.map fun b=>(66:UInt8)::bCJ.getD b.kind.toNat []:=rfl;rw[Bx,Bx,OE];have e0:bDN out (73::x.name)=out++[[]]:=rfl;rw[e0,hb,bEd (c:=66) (by decide) (by decide),bEC,bFs];rfl
theorem bFt:∀{items:List Item} {R:List (List Str)} (out:List (List Str)),R.length=items.length->(bCL items R).foldl bDN out=out++R
 | [],[],out,_=>by simp[bCL]
 | [],_::_,_,h=>by simp at h
 |_::_,[],_,h=>by simp at h
 |x::l,F::R,out,h=>by
  have e:bCL (x::l) (F::R)=bDi x F++bCL l R:=by simp[bCL]
  rw[e,Bx,bG9,bFt (out++[F]) (by simpa using h),CJ];rfl
theorem bFu{x:jm}{R:List (List Str)}:∀p∈bDa x R,p≠[]:=by
 have ha:∀q:Question,∀p∈bE0 q,p≠[]:=fun q p hp=>by
  simp only[bE0,bEt,BD,AY,DB]at hp;rcases hp with rfl | ⟨_,_,rfl⟩ | ⟨_,_,rfl⟩<;>simp
 have hi:∀(y:Item) (F:List Str),∀p∈bDi y F,p≠[]:=fun y F p hp=>by
  simp only[bDi,bD6,BD,AY,DB,IM]at hp;rcases hp with (rfl | ⟨_,_,rfl⟩) | ⟨_,_,rfl⟩ | ⟨q,_,h⟩
  ·simp
  ·simp
  ·simp
  exact ha q p h
 have hx:∀(items:List Item) (R:List (List Str)),∀p∈bCL items R,p≠[]:=by
  intro items
  induction items with
  |nil=>intro R p hp;simp[bCL]at hp
  |cons y l ih=>
   intro R p hp;cases R with
   |nil=>simp[bCL]at hp
   |cons F R=>
    have e:bCL (y::l) (F::R)=bDi y F++bCL l R:=by simp[bCL]
    rw[e,AY]at hp;exact hp.elim (hi y F p) (ih R p)
 intro p hp;rcases BD.1 hp with rfl | hp
 ·simp
 exact hx _ _ p hp
theorem bGq{out:List (List Str)}{p:UInt8}{s:Str}{r:List Str}(h:p=84∨out≠[])(hs:bEB p s r):(s.headD 0=70->out≠[])/\bDN out s≠[]:=by
 obtain⟨c,t,rfl,hp,_⟩:=hs;have bl:c≠73->out≠[]:=fun hc=>by
  rcases h with rfl | h
  ·exfalso;unfold bCG at hp;rw[Zx hc]at hp;split at hp
   ·revert hp;decide
   split at hp
   ·revert hp;decide
   split at hp
   ·revert hp;decide
   split at hp
   ·revert hp;decide
   split at hp
   ·revert hp;decide
   cases hp
  exact h
 refine⟨fun hc=>bl (by have hc:c=70:=hc;subst hc;decide), ?_⟩;unfold bDN;dsimp only;split
 ·simp
 rename_i hc;split
 ·simp[bDM]
 exact bl hc
abbrev bEH(g:SN):List ae:=[qm 20 0,qm 21 5,⟨Qr 22,.fm (u 20) (Qr (.tmp 21)) Qs,Qs,[0,1]⟩,qmc 4 (.str [43]),⟨Qr 0,om 22,Qs,[2,0,1,3]⟩]
abbrev bDT:LN:=[]
abbrev bEI(g:SN):ag:=.seq (qS [qm 6 0,qq 7 (.fg (u 6)),qbi 8 .gtr 7 0]<|qC 8 (.skip) (.exit 0))<|.block 1 (qS [qm 9 0,qq 10 (.fg (u 9)),qq 11 (.mm Qu [(.tmp 10),(.const (vi 59))]),qm 5 11]<|qS [qm 12 3,qm 13 4,qm 14 0,qm 15 5,qq 16 (.fm (u 14) Qs (Qr (.tmp 15))),qb 17 .add 13 16,qq 18 (.bsl 1 [(.str [])] 1 [(0,(.tmp 17))]),qa 19 1 16 12 18,qm 3 19]<|.region Qt (bEH g))
def bDk(g:SN):bw:=⟨24,[19],[.tmp 2],qS [qmc 2 (.sl Qt [])]<|qS [qmc 3 (.sl Qt [])]<|qS [qmc 4 (.str [61])]<|.seq (.block 0 (.loop (bEI g)))<|qS [qm 23 3,qm 2 23]<|.ret⟩
section
variable {A:af}{g:SN}
theorem bFC(h:Has A g "X" (bDk g))(s:Str)(bl:s≠[])(hl:s.length<=10000000)(H:LO):aG A (g "X") [.str s] H=Qr (.own 1 ((cH s).map aN),H,[]):=by
 obtain⟨r,H',ba,e1,rfl,rfl,rfl⟩:=h.bp (args:=[.str s]) (H:=H) (K:=fun r H' wr=>wr=[]/\H'=H/\r=.own 1 ((cH s).map aN)) (by
  simp only[bDk];simp only[go_sem,↓aB,seval];refine bJ (id:=0) (fun k ρ1 H1 wr=>wr=[]/\∃(x0:ah) (a:List Str) (m:UInt8) (r:Str),H1=H++[x0]/\cH s=a++bDG m r/\a.length=k/\ρ1 0=.str r/\ρ1 4=.str [m]/\ew H.length 1 (a.map aN) (ρ1 3) x0/\k+r.length<=s.length) s.length
   (fun ρ1 H1 wr=>wr=[]/\∃x0,H1=H++[x0]/\ew H.length 1 ((cH s).map aN) (ρ1 3) x0) (by kernel_rfl) rfl ⟨rfl,_,[],61,s,rfl,rfl,rfl,rfl,rfl,.nil _,by omega⟩ ?_ ?_
  ·rintro k ρ1 H1 dc zp ⟨rfl,x0,a,m,r,rfl,hp,j8,e0,e4,hG,Jd⟩ hf;by_cases hr:r=[]
   ·subst hr;rw[bE1,AJ]at hp;simp only[go_sem,↓aB,seval,e0,AZ];exact⟨x0,rfl,by rw[hp];exact hG⟩
   have kj:0<r.length:=MY.2 hr;have hd:decide ((r.length:Int)>0)=true:=by simp;omega
   have E3:(if (59:Int)<(r.length:Int)then (59:Int)else (r.length:Int))=((min r.length 59:Nat):Int):=by split<;>omega
   have fo:dU r.length Qs (Qr (vi ((min r.length 59:Nat):Int))) Qs=Qr (0,min r.length 59,r.length):=by unfold dU iL vi;dsimp only;rw[Zy ⟨by omega,by omega⟩];rfl
   have dp:dU r.length (Qr (vi ((min r.length 59:Nat):Int))) Qs Qs=Qr (min r.length 59,r.length,r.length):=aL6 (Nat.min_le_left _ _);obtain⟨v',o',Qj,Gx⟩:=hG.app (new:=[aN (m::r.take 59)]) (bytes:=16) (by simp) (by rfl) (by simp[j8];omega);have a7:=Gx (H++[x0]) Qt (by simp);rw[show (H++[x0]).set H.length o'=H++[o'] by simp]at a7;simp only[aN]at a7;have ji:kJ .add .no (.str [m]) (.str (r.take 59))=Qr (.str (m::r.take 59)):=kE (by simp;omega);have pk:r.take (min r.length 59)=r.take 59:=by
    rcases MH r.length 59 with h | h
    ·rw[Cb (by omega),DM,CH (by omega)]
    rw[Ca (by omega)]
   have Gg:r.drop (min r.length 59)=r.drop 59:=by
    rcases MH r.length 59 with h | h
    ·rw[Cb (by omega),List.drop_length,DH (by omega)]
    rw[Ca (by omega)]
   simp only[go_sem,↓aB,seval,e0,e4,hd,E3,fo,pk,ji,a7,AD];refine aY (aq:=bDT) (by rfl) (by rfl) ?_;simp only[go_sem,↓aB,seval,bDT,e0,dp,Gg,DM];have ow:k<s.length:=by omega
   refine⟨ow,_,a++[m::r.take 59],43,r.drop 59,rfl, ?_,by simp[j8],rfl,rfl, ?_,by simp;omega⟩
   ·rw[hp,bDc hr,CJ];rfl
   rw[DQ];exact Qj
  rintro ρ' H' ba ⟨rfl,x0,rfl,hG⟩ hf;have ya:(cH s).map aN≠[]:=by unfold cH;rw[bDc bl];simp
  have hd:gG ((cH s).map aN)=true:=aC bO _;generalize (cH s).map aN=rows at *;generalize hv:ρ' 3=v at *;cases hG with
  |nil=>exact Zw rfl ya
  |obj ver=>
   simp only[go_sem,↓aB,seval,hv,aT hd,aA hd])
 exact e1
end
theorem bFv{n:Int}(h:eA n):(dec n.toNat).length<=20:=aGn 19 n.toNat (by have:=h.2;show _<100000000000000000000;omega)
theorem bEW:∀l:List Int,(∀n∈l,eA n)->(aUN l).length<=21*l.length
 | [],_=>FF _
 |n::l,h=>by
  have h1:=bFv (h n (by simp));have h2:=bEW l (fun m hm=>h m (BZ _ hm));simp only[aUN,AW,BA];omega
theorem bGr(e:Expr)(h:e.Ok):(wX e).length<=24*gY e:=by
 induction h with
 |mk op n kids ho hn hl hk ih=>
  match kids,ih with
  | [],_=>
   have h1:=bFv hn;simp only[wX,gY,cP];split
   ·omega
   simp
  | [a],ih=>have h1:=ih a (by simp);have h2:=uE (e:=a) (L:=3) (s:=wX a);have h3:=uE (e:=a) (L:=1) (s:=wX a);simp only[wX,gY,cP];split<;>simp<;>omega
  | [a,b],ih=>have h1:=ih a (by simp);have h2:=ih b (by simp);have h3:=uE (e:=a) (L:=4) (s:=wX a);have h4:=uE (e:=b) (L:=3) (s:=wX b);have h5:=uE (e:=a) (L:=(max 1 (lev op))) (s:=wX a);have h6:=uE (e:=b) (L:=(lev op+1)) (s:=wX b);simp only[wX,gY,cP];split<;>simp<;>omega
  |_::_::_::_,_=>simp[wX]
theorem bEX:∀(l:List mr) (p:Int),(∀r∈l,r.Ok)->(aHA p l).length<=2002*l.length
 | [],_,_=>FF _
 |r::l,p,h=>by
  have h1:=bEX l r.gg (fun q hq=>h q (BZ _ hq));have h2:=yS r.text;have h3:r.text.length<=1000:=(h r (by simp)).text;simp only[aHA,BA,AW];split<;>simp<;>omega
theorem bGx{b:Block}(h:b.Ok):(wB b).length<=1000000:=by
 unfold wB;split
 ·have:=bEX b.runs 0 h.runs;have:=h.vw;omega
 split
 ·have:=bGr b.expr h.expr;have:=h.size;omega
 split
 ·have:=bEW b.eg h.eg;have:=h.tj;simp only[aWn,AW];omega
 split
 ·have h1:∀r∈b.cd,(sb [124] (r.map (esc mG))).length<=40000:=fun r hr=>by
   obtain⟨h2,h3⟩:=h.cd r hr;have:=aF7 (sep:=[124]) (M:=2000) (l:=r.map (esc mG)) (fun s hs=>by
    obtain⟨t,ht,rfl⟩:=DB.1 hs;have:=aSf t;have h4:t.length<=1000:=h3 t ht;omega)
   rw[AF]at this;have e:[(124:UInt8)].length=1:=rfl;rw[e]at this;omega
  have:=aF7 (sep:=[59]) (M:=40000) (l:=b.cd.map fun r=>sb [124] (r.map (esc mG))) (fun s hs=>by
   obtain⟨r,hr,rfl⟩:=DB.1 hs;exact h1 r hr)
  rw[AF]at this;have e:[(59:UInt8)].length=1:=rfl;rw[e]at this;have:=h.uu;unfold aRX;omega
 split
 ·have h1:∀r∈b.bo,(sb [124] (r.map aO9)).length<=2000:=fun r hr=>by
   obtain⟨h2,h3⟩:=h.bo r hr;have:=aF7 (sep:=[124]) (M:=80) (l:=r.map aO9) (fun s hs=>by
    obtain⟨t,ht,rfl⟩:=DB.1 hs;exact aSe (h3 t ht).1)
   rw[AF]at this;have e:[(124:UInt8)].length=1:=rfl;rw[e]at this;omega
  have:=aF7 (sep:=[47]) (M:=2000) (l:=b.bo.map fun h=>sb [124] (h.map aO9)) (fun s hs=>by
   obtain⟨r,hr,rfl⟩:=DB.1 hs;exact h1 r hr)
  rw[AF]at this;have e:[(47:UInt8)].length=1:=rfl;rw[e]at this;have:=h.uv;unfold aJm;omega
 have:=aF7 (sep:=[126,124]) (M:=2000) (l:=b.lines.map (esc mL)) (fun s hs=>by
  obtain⟨t,ht,rfl⟩:=DB.1 hs;have:=yS t;have h4:t.length<=1000:=h.lines t ht;omega)
 rw[AF]at this;have e:[(126:UInt8),124].length=2:=rfl;rw[e]at this;have:=h.vz;unfold aPJ;omega
theorem bFE(s:Str):∀m,(bDG m s).length<=s.length:=by
 induction hn:s.length using KK generalizing s with
 |_ n ih=>
  intro m;by_cases h:s=[]
  ·rw[h,bE1];exact FF _
  have:0<s.length:=MY.2 h;rw[bDc h,AW];have:=ih (s.drop 59).length (by simp;omega) (s.drop 59) rfl 43;simp at this;omega
theorem bDU{α β:Type}(f:α->List β){B:Nat}:∀l:List α,(∀a∈l,(f a).length<=B)->(l.flatMap f).length<=l.length*B
 | [],_=>FF _
 |a::l,h=>by
  have h1:=h a (by simp);have h2:=bDU f l (fun b hb=>h b (BZ _ hb));rw[HW,BA,AW,JS];omega
theorem bEj(s:Str):(cH s).length<=s.length:=bFE s 61
theorem bEk{ps:List Str}{B:Nat}(h:∀p∈ps,p.length<=B):(ps.flatMap cH).length<=ps.length*B:=
 bDU cH ps fun p hp=>HX (bEj p) (h p hp)
section
variable {A:af}{g:SN}{tB tP:Nat}{E:Int->Int->List Shape->Int}
theorem bGa(F:yc A g E tB tP)(x:Item)(hx:x.Ok)(f:Fact)(hf:Told E x f)(H:LO):∃s:Str,s.length<=1000000/\aG A (g "f") [.agg (aO x),.agg (aI f)] H=Qr (.tup [.str s,vi 0],H,[]):=by
 obtain⟨t0,t1,t2⟩:=hf;have hlt:f.block.toNat<x.blocks.length:=by omega
 have td:=hx.blocks _ (AS hlt);obtain⟨hB,hC,hm⟩:=t2 _ (AP hlt);have cj:(x.blocks.map aE)[f.block.toNat]? = Qr (aE x.blocks[f.block.toNat]):=by rw[BN,AP hlt];rfl
 generalize x.blocks[f.block.toNat]=b at *;have J1:decide (f.block<0)=false:=by simp;omega
 have nj:decide (f.block ≥ (x.blocks.length:Int))=false:=by simp;omega
 have Bo:∀H,aG A (g "C") [.agg (aE b)] H=Qr (vi 0,H,[]):=fun H=>by
  rw[aMj F.fig F.hold.valid F.text.form F.check b td H,hC]
 have qv:=bG b;have iz:(aE b).all AV.ak=true:=bQ qv;have hK:xU b=true:=yU hB;obtain⟨k,hk,hh,⟨pa,pb⟩,hp,D5⟩:=aCE hm;have dx:0<=b.kind:=by unfold xU at hK;by_cases k0:b.kind=0;omega;by_cases k1:b.kind=1;omega;by_cases k2:b.kind=2;omega;by_cases k3:b.kind=3;omega;by_cases k4:b.kind=4;omega;by_cases k5:b.kind=5;omega;by_cases k6:b.kind=6;omega;rw[Zx k0,Zx k1,Zx k2,Zx k3,Zx k4,Zx k5,Zx k6]at hK;cases hK
 have M6:=fun H=>aJF F.hold.possible b.kind f.kind H;have V3:aHb b.kind f.kind=true:=by rw[D5];exact aVn hk hh dx
 rw[V3]at M6;have C1:=fun H=>aOr F.hold b td f H;have mw:((jY b).any fun y=>eqv { f with block:=0 } y)=true:=by refine KS.2 ⟨{ f with block:=0 }, ?_,by simp[eqv]⟩;unfold jY;rw[Zy hB];exact aOs hm
 rw[mw]at C1;have S5:FW 1 (aE b)=[vi b.kind]:=by obtain⟨op,n,ks,ig⟩:=eW b;rw[ig];rfl
 obtain⟨r,H',ba,e1,rfl,rfl,s,G6,rfl⟩:=F.value.bp (args:=[.agg (aO x),.agg (aI f)]) (H:=H) (K:=fun r H' wr=>wr=[]/\H'=H/\∃s:Str,s.length<=1000000/\r=.tup [.str s,vi 0]) (by
  simp only[aAX];simp only[aI]at C1 ⊢;simp only[go_sem,↓aB,seval,aO,J1,nj,cj,Bo,t0,AF,cF,bT.take,bT.ga,aS qv,iz,AD,AB,AA,AE];simp only[aAT];simp only[go_sem,↓aB,seval,M6,C1,S5,cF,bT.take,bT.ga,aS qv,AD,AA,AE];simp only[aAW];have Gr:FW 1 (KW 7 (aE b))=[.sl Qu (b.cd.map bY)]:=by obtain⟨op,n,ks,ig⟩:=eW b;rw[ig];rfl
  have Bp:FW 1 (KW 11 (aE b))=[.sl Qu (b.bo.map bS)]:=by obtain⟨op,n,ks,ig⟩:=eW b;rw[ig];rfl
  have Bq:FW 1 (KW 12 (aE b))=[.sl Qu (b.lines.map aN)]:=by obtain⟨op,n,ks,ig⟩:=eW b;rw[ig];rfl
  have Gs:FW 3 (KW 8 (aE b))=[vi b.w,vi b.h,.sl Qu (b.aw.map aH)]:=by obtain⟨op,n,ks,ig⟩:=eW b;rw[ig];rfl
  have Br:f.a=(pa:Int):=by rw[D5]
  have W7:f.b=(pb:Int):=by rw[D5]
  have qo:f.kind=(k:Int):=by rw[D5]
  have Cz:=aVo hk hh;have pn:∀n:Nat,(0:Int)<=(n:Int):=fun n=>by omega
  by_cases c0:k=0
  ·subst c0;have h4:b.kind≠4:=by rcases Cz with⟨_,h⟩ | ⟨h,_⟩;exact h;omega
   have hv:b.kind=1->aBV b.expr=0:=fun h=>by unfold nU at hC;rw[Zy hB,Zy h]at hC;exact hC
   have Mm:=fun H=>aVl F.text b td hB hv h4 Bo H;have qo:f.kind=0:=qo;simp only[go_sem,↓aB,seval,qo,Mm,cF,bT.take,bT.ga,aS qv,AD,BC];exact⟨_,bGx td,rfl⟩
  have a6:b.kind=aBp k:=by rcases Cz with⟨h,_⟩ | ⟨_,h⟩;exact Zw h c0;exact h
  by_cases c1:k=1
  ·subst c1;have qo:f.kind=1:=qo;have hp:(pa,pb)∈qA b.cd.length (aFt b):=hp;obtain⟨g1,g2⟩:=aDs.1 hp;have a6:b.kind=3:=a6;unfold xU at hK;rw[Zx (by omega),Zx (by omega),Zx (by omega),Zy a6]at hK;simp only[AI,AO]at hK;have cn:=hK.2 _ (AS g1);have Th:=(td.cd _ (AS g1)).2;have fh:=mgE bY g1;generalize b.cd[pa]=r at *;have gu:pb<r.length:=by
    unfold aUQ at cn;simp only[AI]at cn;have:=cn.1;simp at this;have F5:aFt b=(b.cd.headD []).length:=rfl;have h2:(r.length:Int)=((b.cd.headD []).length:Int):=by simpa using cn.1
    omega
   have aIc:=mgE aN gu;simp only[go_sem,↓aB,seval,qo];refine aY (aq:=aAU) (by rfl) (by rfl) ?_;simp only[go_sem,↓aB,seval,aAU,Br,W7,Gr,fh,aIc,bY,aN,AU,AT,cF,AD,AB,AA,AE,BC];exact⟨_,HX (Th _ (AS gu)) (by decide),rfl⟩
  by_cases c5:k=5
  ·subst c5;have qo:f.kind=5:=qo;have hp:(pa,pb)∈qA (aFu b) b.bo.length:=hp;obtain⟨g1,g2⟩:=aDs.1 hp;have a6:b.kind=5:=a6;unfold xU at hK;rw[Zx (by omega),Zx (by omega),Zx (by omega),Zx (by omega),Zx (by omega),Zy a6]at hK;unfold aUO at hK;simp only[AI,AO]at hK;have cn:=hK.2 _ (AS g2);have il:=td.bo _ (AS g2);have fh:=mgE bS g2;generalize b.bo[pb]=r at *;unfold aKL at cn;simp only[AI,AO]at cn;have gu:pa<r.length:=by
    have F5:aFu b=(b.bo.headD []).length:=rfl;have h2:(r.length:Int)=((b.bo.headD []).length:Int):=by simpa using cn.1
    omega
   have sk:=cn.2.2 _ (AS gu);have Bs:=il.2 _ (AS gu);have aIc:=mgE gH gu;generalize r[pa]=br at *;unfold aT9 at sk;simp only[AI,AO]at sk;have Mn:=fun H=>aDB F.text.wrt.toMelFns br Bs.1 sk.2 H;simp only[go_sem,↓aB,seval,qo];refine aY (aq:=aAV) (by rfl) (by rfl) ?_;simp only[go_sem,↓aB,seval,aAV,Br,W7,Bp,fh,aIc,bS,gH,Mn,AU,AT,cF,AD,AB,AA,AE,BC];exact⟨_,HX (aSe Bs.1) (by decide),rfl⟩
  by_cases c6:k=6
  ·subst c6;have qo:f.kind=6:=qo;have hp:(pa,pb)∈qA b.lines.length 1:=hp;obtain⟨g1,g2⟩:=aDs.1 hp;have fh:=mgE aN g1;simp only[go_sem,↓aB,seval,qo,Br,Bq,fh,aN,AU,AT,cF,AD,AB,AA,AE,BC];exact⟨_,HX (td.lines _ (AS g1)) (by decide),rfl⟩
  have Jd:k=2∨k=3∨k=4:=by omega
  have Je:b.kind=4:=by rcases Jd with rfl | rfl | rfl<;>exact a6
  have xn:pa<b.aw.length/\pb<b.aw.length:=by rcases Jd with rfl | rfl | rfl<;>exact aVm (p:=(pa,pb)) hp
  unfold xU at hK;rw[Zx (by omega),Zx (by omega),Zx (by omega),Zx (by omega),Zy Je]at hK;simp only[AI,eG,AO]at hK;have n0:(f.kind==0)=false:=by rw[beq_eq_false_iff_ne];omega
  have n1:(f.kind==1)=false:=by rw[beq_eq_false_iff_ne];omega
  have n5:(f.kind==5)=false:=by rw[beq_eq_false_iff_ne];omega
  have n6:(f.kind==6)=false:=by rw[beq_eq_false_iff_ne];omega
  obtain⟨r,e,Jf⟩:=F.ph b f (H++[.box 1 (aE b)]) td hK.2.2 hK.1.1 hK.1.2 (by omega) (by omega) (by omega) (by omega) (by omega) (by omega) (by omega);simp only[aI]at Jf;simp only[go_sem,↓aB,seval,n0,n1,n5,n6,Gs,Jf,cF,AD,AA,AE,BC];cases r with
  |true=>simp only[go_sem,↓aB,seval];exact⟨_,by decide,rfl⟩
  |false=>simp only[go_sem,↓aB,seval];exact⟨_,by decide,rfl⟩)
 exact⟨s,G6,e1⟩
theorem bGs{x:Item}{f:Fact}(t0:0<=f.block)(t1:f.block<x.blocks.length){b:Block}(hb:x.blocks[f.block.toNat]? = Qr b)(hC:nU E b=0)(mw:((jY b).any fun y=>eqv { f with block:=0 } y)=Qt):Told E x f:=by
 have hB:dQ b=true:=by
  unfold nU at hC;cases h:dQ b with
  |true=>rfl
  |false=>rw[h]at hC;cases hC
 refine⟨t0,t1,fun c hc=>?_⟩;rw[hb]at hc;cases hc;refine⟨hB,hC, ?_⟩;obtain⟨y,hy,he⟩:=KS.1 mw;unfold jY at hy;rw[Zy hB]at hy;have Cm:({ f with block:=0 }:Fact)=y:=by simpa [eqv]using he
 have h3:=aOs (m:=f.block) hy;rw[<- Cm]at h3;exact h3
theorem bFQ(F:yc A g E tB tP)(x:Item)(hx:x.Ok)(f:Fact)(H:LO):∃(s:Str) (e:Int),s.length<=1000000/\aG A (g "f") [.agg (aO x),.agg (aI f)] H=Qr (.tup [.str s,vi e],H,[]):=by
 have E5:∀b1:Bool,decide (f.block<0)=b1->(b1=Qt∨decide (f.block ≥ (x.blocks.length:Int))=Qt)->∃(s:Str) (e:Int),s.length<=1000000/\aG A (g "f") [.agg (aO x),.agg (aI f)] H=Qr (.tup [.str s,vi e],H,[]):=fun b1 h1 h2=>by
  refine⟨[],12,by decide,F.value.call ?_⟩;simp only[aAX];simp only[aI];cases b1 with
  |true=>simp only[go_sem,↓aB,seval,aO,h1,AJ,AD,AB,AA,AE]
  |false=>
   have h2:decide (f.block ≥ (x.blocks.length:Int))=true:=by rcases h2 with h | h;cases h;exact h
   simp only[go_sem,↓aB,seval,aO,h1,h2,AF,AJ,AD,AB,AA,AE]
 by_cases t0':f.block<0
 ·exact E5 Qt (by simp;omega) (.inl rfl)
 by_cases t1':(x.blocks.length:Int)<=f.block
 ·exact E5 Qu (by simp;omega) (.inr (by simp;omega))
 have t0:0<=f.block:=by omega
 have t1:f.block<x.blocks.length:=by omega
 have hlt:f.block.toNat<x.blocks.length:=by omega
 have td:=hx.blocks _ (AS hlt);have Gt:=AP hlt;have cj:(x.blocks.map aE)[f.block.toNat]? = Qr (aE x.blocks[f.block.toNat]):=by rw[BN,Gt];rfl
 generalize x.blocks[f.block.toNat]=b at *;have J1:decide (f.block<0)=false:=by simp;omega
 have nj:decide (f.block ≥ (x.blocks.length:Int))=false:=by simp;omega
 have Bo:=fun H=>aMj F.fig F.hold.valid F.text.form F.check b td H;have qv:=bG b;have iz:(aE b).all AV.ak=true:=bQ qv;have M6:=fun H=>aJF F.hold.possible b.kind f.kind H;have C1:=fun H=>aOr F.hold b td f H;have S5:FW 1 (aE b)=[vi b.kind]:=by obtain⟨op,n,ks,ig⟩:=eW b;rw[ig];rfl
 cases z:(nU E b != 0)with
 |true=>
  refine⟨[],nU E b,by decide,F.value.call ?_⟩;simp only[aAX];simp only[aI]at C1 ⊢;simp only[go_sem,↓aB,seval,aO,J1,nj,cj,Bo,t0,AF,cF,bT.take,bT.ga,aS qv,iz,AJ,AD,AB,AA,AE]
  try simp only[aAT]
  simp only[go_sem,↓aB,seval,z,AJ]
 |false=>
 have hC:nU E b=0:=by simpa using z
 rw[hC]at Bo;cases hp:aHb b.kind f.kind with
 |false=>rw[hp]at M6;refine⟨[],13,by decide,F.value.call ?_⟩;simp only[aAX];simp only[aI]at C1 ⊢;simp only[go_sem,↓aB,seval,aO,J1,nj,cj,Bo,t0,AF,cF,bT.take,bT.ga,aS qv,iz,AJ,AD,AB,AA,AE];simp only[aAT];simp only[go_sem,↓aB,seval,M6,S5,cF,AJ,AD,AA,AE]
 |true=>
 rw[hp]at M6;cases ha:((jY b).any fun y=>eqv { f with block:=0 } y)with
 |true=>obtain⟨s,h1,h2⟩:=bGa F x hx f (bGs t0 t1 Gt hC ha) H;exact⟨s,0,h1,h2⟩
 |false=>rw[ha]at C1;refine⟨[],5,by decide,F.value.call ?_⟩;simp only[aAX];simp only[aI]at C1 ⊢;simp only[go_sem,↓aB,seval,aO,J1,nj,cj,Bo,t0,AF,cF,bT.take,bT.ga,aS qv,iz,AJ,AD,AB,AA,AE];simp only[aAT];simp only[go_sem,↓aB,seval,M6,C1,S5,cF,bT.take,bT.ga,aS qv,AJ,AD,AA,AE]
end
abbrev aHf(g:SN):ag:=qS [qb 23 .lss 22 21]<|.seq (qC 23 (.skip) (.exit 2))<|.seq (.block 3 (qS [qi 24 20 22 4,qla 25 4 24,qq 9 (.alloc [z0,z0,z0,z0]),qs 4 9 25]<|qS [qla 27 4 6,qla 28 4 9,qc 29 (g "f") [u 27,u 28],qm 26 29,qq 30 (.ext 0 (u 26)),qq 31 (.ext 1 (u 26)),qm 10 30,qm 11 31]<|.seq (qS [qm 32 11,qbi 33 .neq 32 0]<|qC 33 (qS [qm 34 11,qmc 2 (.sl Qt []),qm 3 34]<|.ret) (.skip))<|.region Qu [qm 35 7,qm 36 10,qq 37 (.bsl 1 [(.str [])] 1 [(0,(.tmp 36))]),qa 38 1 16 35 37,qm 7 38]))<|.region Qu [qbi 39 .add 22 1,qm 22 39]
abbrev aHg(g:SN):ag:=qS [qb 16 .lss 15 14]<|.seq (qC 16 (.skip) (.exit 0))<|.seq (.block 1 (qS [qi 17 13 15 4,qla 18 4 17,qq 6 (.alloc [(.str []),(.sl Qt []),(.sl Qt []),(.sl Qt [])]),qs 4 6 18]<|qS [qmc 7 (.sl Qt [])]<|.seq (qS [qf 19 2 6,ql 20 1 19,qn 21 20,qmc 22 z0]<|.block 2 (.loop (aHf g)))<|.seq (.frz [(0,7)])<|.region Qu [qm 40 4,qm 41 7,qq 42 (.bsl 1 [(.sl Qu [])] 1 [(0,(.tmp 41))]),qa 43 1 24 40 42,qm 4 43]))<|.region Qu [qbi 44 .add 15 1,qm 15 44]
def tM(g:SN):bw:=⟨46,[6,9,38,43],[.tmp 2,.tmp 3],qS [qx 1 2 0,qmc 2 (.sl Qt []),qmc 3 z0]<|qS [qmc 4 (.sl Qt [])]<|.seq (qS [qf 12 1 1,ql 13 1 12,qn 14 13,qmc 15 z0]<|.block 0 (.loop (aHg g)))<|qS [qm 45 4,qm 2 45,qmc 3 z0]<|.ret⟩
theorem aNo{id k:Nat}{rows:List LA}{v:AV}{o:ah}(h:ew id k rows v o)(hd:gG rows=Qt):∃f l o',∀H:LO,H[id]? = Qr o->dw H v=Qr (.sl f rows,l)/\dL H l=H.set id o'/\∀b wr,b<=id->bE b wr l=wr:=by
 obtain⟨f,l,o',h1,h2,h3⟩:=h.dw hd;refine⟨f,l,o',fun H ho=>⟨?_,h2 H ho,h3⟩⟩;have e:dw H v=aA2 H v:=by cases h<;>rfl
 rw[e,h1 H ho]
def hU(R:List (List Str)):List LA:=R.map fun r=>[AV.sl Qu (r.map aN)]
theorem aHh:∀R,gG (hU R)=Qt
 | []=>rfl
 |r::R=>by
  show (iX [AV.sl Qu (r.map aN)]&&gG (hU R))=Qt;rw[aHh R];have:=cU r;simp only[bY]at this;rw[this];rfl
noncomputable def bGF(A:af)(f:Nat)(x:Item)(y:Fact):Str×Int:=match aG A f [.agg (aO x),.agg (aI y)] []with
 |some (.tup [.str s,.int .i64 e],_,_)=>(s,e)
 |_=>([],0)
noncomputable def bFw(A:af)(f:Nat)(x:jm):Int:=match aG A f [dE x] []with
 |some (.int .i64 e,_,_)=>e
 |_=>0
abbrev bEK(A:af)(g:SN)(V:Item->Fact->Str×Int):Prop:=∀(x:Item),x.Ok->∀(f:Fact) (H:LO),aG A (g "f") [.agg (aO x),.agg (aI f)] H=Qr (.tup [.str (V x f).1,vi (V x f).2],H,[])/\(V x f).1.length<=1000000
abbrev bEl(A:af)(g:SN)(W:jm->Int):Prop:=∀(x:jm),x.Ok->∀(H:LO),aG A (g "e") [dE x] H=Qr (vi (W x),H,[])/\(W x=0->∀i∈x.items,aGU i=Qt)
theorem bFF{A A1:af}{g:SN}{E:Int->Int->List Shape->Int}{tB tP:Nat}(F:yc A1 g E tB tP)(hp:A.bq (g "f")=Qr (aFb A1 (g "f"))):bEK A g (bGF A1 (g "f")):=by
 intro x hx f H;obtain⟨s,e,hl,he⟩:=bFQ F x hx f [];have h1:bGF A1 (g "f") x f=(s,e):=by unfold bGF;rw[he]
 rw[h1];refine⟨dT ?_,hl⟩;rw[hp];show aFb A1 _ _ H=_;refine aQs ?_ rfl he H;have h2:dJ 0 (aO x)=true:=dC (dV x);have h3:dJ 0 (aI f)=true:=dC (eL f);simp[dJ,AV.under,h2,h3]
theorem bEY{A A1:af}{g:SN}{tB:Nat}(F:oh A1 g tB)(hp:A.bq (g "e")=Qr (aFb A1 (g "e"))):bEl A g (bFw A1 (g "e")):=by
 intro x hx H;obtain⟨e,he,h0⟩:=aTh F x hx [];have h1:bFw A1 (g "e") x=e:=by unfold bFw;rw[he]
 rw[h1];refine⟨dT ?_,h0⟩;rw[hp];show aFb A1 _ _ H=_;refine aQs ?_ rfl he H;have h2:gG (x.items.map aO)=true:=aC dV _;have h3:eR 0 (x.items.map aO)=true:=aA h2;simp[dE,dJ,AV.under,h3]
def bDq:List Int->Int
 | []=>0
 |e::r=>if e=0 then bDq r else e
theorem bEZ{a b:List Int}{e:Int}(h:∀x∈a,x=0)(he:e≠0):bDq (a++e::b)=e:=by
 induction a with
 |nil=>simp[bDq,he]
 |cons x a ih=>have hx:x=0:=h x (by simp);show (if x=0 then _ else _)=_;rw[Zy hx];exact ih fun y hy=>h y (BZ _ hy)
theorem bEL{a:List Int}(h:∀x∈a,x=0):bDq a=0:=by
 induction a with
 |nil=>rfl
 |cons x a ih=>show (if x=0 then _ else _)=_;rw[Zy (h x (by simp))];exact ih fun y hy=>h y (BZ _ hy)
def bCT(V:Item->Fact->Str×Int)(items:List Item):List Int:=items.flatMap fun it=>it.facts.map fun f=>(V it f).2
theorem bDV(V:Item->Fact->Str×Int)(a b:List Item):bCT V (a++b)=bCT V a++bCT V b:=JK
theorem bEm(V:Item->Fact->Str×Int)(x:Item)(l:List Item):bCT V (x::l)=(x.facts.map fun f=>(V x f).2)++bCT V l:=HW
def bD3(V:Item->Fact->Str×Int)(x:jm):Int:=bDq (bCT V x.items)
def bCV(V:Item->Fact->Str×Int)(x:jm):List (List Str):=x.items.map fun it=>it.facts.map fun f=>(V it f).1
theorem bFR{V:Item->Fact->Str×Int}{items:List Item}{k j:Nat}(hk:k<items.length)(hj:j<items[k].facts.length)(h1:∀e∈bCT V (items.take k),e=0)(h2:∀f∈items[k].facts.take j,(V items[k] f).2=0)(h3:(V items[k] items[k].facts[j]).2≠0):bDq (bCT V items)=(V items[k] items[k].facts[j]).2:=by
 have e1:items=items.take k++(items[k]::items.drop (k+1)):=by rw[<- FD hk,IQ]
 have e2:items[k].facts=items[k].facts.take j++(items[k].facts[j]::items[k].facts.drop (j+1)):=by rw[<- FD hj,IQ]
 have e3:bCT V items=(bCT V (items.take k)++(items[k].facts.take j).map fun f=>(V items[k] f).2)++((V items[k] items[k].facts[j]).2::(((items[k].facts.drop (j+1)).map fun f=>(V items[k] f).2)++bCT V (items.drop (k+1)))):=by
  have:bCT V items=bCT V (items.take k)++((items[k].facts.map fun f=>(V items[k] f).2)++bCT V (items.drop (k+1))):=by have h:=congrArg (bCT V) e1;rw[bDV,bEm]at h;exact h
  rw[this];have e4:(items[k].facts.map fun f=>(V items[k] f).2)=((items[k].facts.take j).map fun f=>(V items[k] f).2)++((V items[k] items[k].facts[j]).2::(items[k].facts.drop (j+1)).map fun f=>(V items[k] f).2):=by have h:=congrArg (DR fun f=>(V items[k] f).2) e2;rw[DQ,BI]at h;exact h
  rw[e4,CJ,CJ];rfl
 rw[e3];refine bEZ (fun x hx=>?_) h3;rcases AY.1 hx with hx | hx
 ·exact h1 x hx
 obtain⟨f,hf,rfl⟩:=DB.1 hx;exact h2 f hf
section
variable {A:af}{g:SN}{V:Item->Fact->Str×Int}
theorem bFx(F:bEK A g V)(h:Has A g "J" (tM g))(x:jm)(hx:x.Ok)(H:LO):aG A (g "J") [dE x] H=Qr (.tup [.sl Qu (if bD3 V x=0 then hU (bCV V x)else []),vi (bD3 V x)],H,[]):=by
 obtain⟨r,H',ba,e1,rfl,rfl,rfl⟩:=h.bp (args:=[dE x]) (H:=H) (K:=fun r H' wr=>wr=[]/\H'=H/\r=.tup [.sl Qu (if bD3 V x=0 then hU (bCV V x)else []),vi (bD3 V x)]) (by
  simp only[tM];simp only[go_sem,↓aB,seval,dE,AB,AD,AA,AE,AF];refine bJ (id:=0) (fun k ρ1 H1 wr=>wr=[]/\ρ1 15=vi (k:Nat)/\(∀e∈bCT V (x.items.take k),e=0)/\∃x0 x1 x2 x3,H1=H++[x0,x1,x2,x3]/\ew (H.length+3) 1 (hU ((x.items.take k).map fun it=>it.facts.map fun f=>(V it f).1)) (ρ1 4) x3) x.items.length
   (fun ρ1 H1 wr=>wr=[]/\(∀e∈bCT V x.items,e=0)/\∃x0 x1 x2 x3,H1=H++[x0,x1,x2,x3]/\ew (H.length+3) 1 (hU (bCV V x)) (ρ1 4) x3) (by kernel_rfl) rfl ⟨rfl,rfl,fun e he=>(by simp[bCT]at he),_,_,_,_,rfl,.nil _⟩ ?_ ?_
  ·rintro k ρ1 H1 dc zp ⟨rfl,e15,hz,x0,x1,x2,x3,rfl,hR⟩ hf;have f13:ρ1 13=.sl Qu (x.items.map aO):=hf 13 rfl;have f14:ρ1 14=vi (x.items.length:Nat):=hf 14 rfl;simp only[go_sem,↓aB,seval,e15,f14];refine aD (fun e3=>?_) (fun e3=>?_)
   ·have hlt:k<x.items.length:=by simp at e3;omega
    have Bm:=hx.G8;have dy:=wS (i:=k) (by omega);have cj:=mgE aO hlt;have kh:=hx.items _ (AS hlt);have pk:(x.items.take (k+1)).map (fun it=>it.facts.map fun f=>(V it f).1)=(x.items.take k).map (fun it=>it.facts.map fun f=>(V it f).1)++[x.items[k].facts.map fun f=>(V x.items[k] f).1]:=by rw[EW hlt,DQ];rfl
    have Ti:bCT V (x.items.take (k+1))=bCT V (x.items.take k)++x.items[k].facts.map fun f=>(V x.items[k] f).2:=by rw[EW hlt,bDV,bEm];show _++(_++[])=_;rw[AJ]
    have Ji:((x.items.take k).map fun it=>it.facts.map fun f=>(V it f).1).length<=16:=by simp;omega
    have Rv:=fun j (hj:j<x.items[k].facts.length)=>bFR (V:=V) hlt hj hz;generalize (x.items.take k).map (fun it=>it.facts.map fun f=>(V it f).1)=R at *;have Uo:bD3 V x=bDq (bCT V x.items):=rfl;generalize x.items[k]=it at *;have kr:=fun f H=>(F it kh f H).1;have k9:=kh.facts;have I9:=kh.B1;simp only[aO]at kr;simp only[go_sem,↓aB,seval,e15,f13,AF,AU,AT,hlt,cj,aO,AD,AB,AA,AE];refine bJ (id:=2) (fun j ρ2 H2 wr=>wr=[]/\ρ2 22=vi (j:Nat)/\(∀f∈it.facts.take j,(V it f).2=0)/\∃y1 y2,H2=H++[.box (x0.ver+1) [.str it.name,.sl Qu (it.blocks.map aE),.sl Qu (it.facts.map aI),.sl Qu (it.ask.map gR)],y1,y2,x3]/\ew (H.length+2) 1 (((it.facts.take j).map fun f=>(V it f).1).map aN) (ρ2 7) y2) it.facts.length
     (fun ρ2 H2 wr=>wr=[]/\(∀f∈it.facts,(V it f).2=0)/\∃y1 y2,H2=H++[.box (x0.ver+1) [.str it.name,.sl Qu (it.blocks.map aE),.sl Qu (it.facts.map aI),.sl Qu (it.ask.map gR)],y1,y2,x3]/\ew (H.length+2) 1 ((it.facts.map fun f=>(V it f).1).map aN) (ρ2 7) y2) (by kernel_rfl) rfl ⟨rfl,rfl,fun f hf=>(by simp at hf),_,_,rfl,.nil _⟩ ?_ ?_
    ·rintro j ρ2 H2 en mo ⟨rfl,e22,l7,y1,y2,rfl,hS⟩ cq;have f20:ρ2 20=.sl Qu (it.facts.map aI):=cq 20 rfl;have f21:ρ2 21=vi (it.facts.length:Nat):=cq 21 rfl;have f6:ρ2 6=.ptr H.length (x0.ver+1) 0:=cq 6 rfl;simp only[go_sem,↓aB,seval,e22,f21];refine aD (fun e4=>?_) (fun e4=>?_)
     ·have jlt:j<it.facts.length:=by simp at e4;omega
      have gn:=wS (i:=j) (by omega);have fh:=mgE aI jlt;have Rw:=Rv j jlt l7;have Tj:((it.facts.take (j+1)).map fun f=>(V it f).1).map aN=((it.facts.take j).map fun f=>(V it f).1).map aN++[aN (V it it.facts[j]).1]:=by rw[EW jlt,DQ,DQ];rfl
      have Tk:(V it it.facts[j]).2=0->∀f∈it.facts.take (j+1),(V it f).2=0:=fun h0 f hf=>by
       rw[EW jlt]at hf;rcases AY.1 hf with hf | hf
       ·exact l7 f hf
       rw[CG.1 hf];exact h0
      have Bu:((it.facts.take j).map fun f=>(V it f).1).length<=16:=by simp;omega
      generalize it.facts[j]=f at *;generalize (it.facts.take j).map (fun f=>(V it f).1)=S at *;have Da:=kr f (H++[.box (x0.ver+1) [.str it.name,.sl Qu (it.blocks.map aE),.sl Qu (it.facts.map aI),.sl Qu (it.ask.map gR)],.box (y1.ver+1) (aI f),y2,x3]);generalize (V it f).1=s at *;generalize (V it f).2=e at *;simp only[aI]at Da;cases z:(e != 0)with
      |true=>
       have bl:e≠0:=by simpa using z
       have Ov:bD3 V x=e:=Rw bl;simp only[go_sem,↓aB,seval,e22,f20,f6,AU,AT,jlt,fh,aI,AD,AB,AA,AE,Da,z];rw[Ov,Zx bl]
      |false=>
      have Hq:e=0:=by simpa using z
      obtain⟨v',o',Mr,Gx⟩:=hS.app (new:=[aN s]) (bytes:=16) (by simp) (by rfl) (by simp;omega);simp only[go_sem,↓aB,seval,e22,f20,f6,AU,AT,jlt,fh,aI,AD,AB,AA,AE,Da,z];have a7:=Gx (H++[.box (x0.ver+1) [.str it.name,.sl Qu (it.blocks.map aE),.sl Qu (it.facts.map aI),.sl Qu (it.ask.map gR)],.box (y1.ver+1) [vi f.kind,vi f.block,vi f.a,vi f.b],y2,x3]) Qt (by rw[bX];rfl);rw[eS]at a7;simp only[aN]at a7;simp only[go_sem,↓aB,seval,a7,gn,e22];exact⟨jlt,Tk Hq,_,_,rfl,by rw[Tj];exact Mr⟩
     have:j=it.facts.length:=by simp at e4;omega
     subst this;rw[DM]at l7 hS;simp only[go_sem,seval];exact⟨l7,y1,y2,rfl,hS⟩
    rintro ρ3 H3 wr3 ⟨rfl,l7,y1,y2,rfl,hS⟩ cq;have k4:ρ3 4=ρ1 4:=cq 4 rfl;have k15:ρ3 15=vi (k:Nat):=(cq 15 rfl).trans e15;have Bu:(it.facts.map fun f=>(V it f).1).length<=16:=by simp;omega
    generalize it.facts.map (fun f=>(V it f).1)=S at *;obtain⟨fl,l,o',D1⟩:=aNo hS (aC bO S);obtain⟨S7,C3,yd⟩:=D1 (H++[.box (x0.ver+1) [.str it.name,.sl Qu (it.blocks.map aE),.sl Qu (it.facts.map aI),.sl Qu (it.ask.map gR)],y1,y2,x3]) (by rw[bX];rfl);rw[eS]at C3;have yd:=fun wr=>yd H.length wr (by omega);obtain⟨v',o2,Ms,Gx⟩:=hR.app (new:=[[.sl Qu (S.map aN)]]) (bytes:=24) (by simp) (by rfl) (by simp[hU];omega);have a7:=Gx (H++[.box (x0.ver+1) [.str it.name,.sl Qu (it.blocks.map aE),.sl Qu (it.facts.map aI),.sl Qu (it.ask.map gR)],y1,o',x3]) Qt (by rw[bX];rfl);rw[eS]at a7;simp only[go_sem,↓aB,seval,S7,C3,yd,k4,k15,dy,a7];refine⟨hlt,fun e he=>?_,_,_,_,_,rfl, ?_⟩
    ·rw[Ti]at he;rcases AY.1 he with he | he
     ·exact hz e he
     obtain⟨f,hf,rfl⟩:=DB.1 he;exact l7 f hf
    have:hU (R++[S])=hU R++[[.sl Qu (S.map aN)]]:=by unfold hU;rw[DQ];rfl
    rw[pk,this];exact Ms
   have:k=x.items.length:=by simp at e3;omega
   subst this;rw[DM]at hz hR;simp only[go_sem,seval];exact⟨hz,x0,x1,x2,x3,rfl,hR⟩
  rintro ρ' H' ba ⟨rfl,hz,x0,x1,x2,x3,rfl,hR⟩ hf;have Ov:bD3 V x=0:=bEL hz;rw[Ov,Zy rfl];generalize bCV V x=R at *;obtain⟨fl,l,o',D1⟩:=aNo hR (aHh R);obtain⟨S7,C3,yd⟩:=D1 (H++[x0,x1,x2,x3]) (by rw[bX];rfl);rw[eS]at C3;have yd:=fun wr=>yd H.length wr (by omega);simp only[go_sem,↓aB,seval,S7,C3,yd,aBv];have hu:(AV.tup [AV.sl Qu (hU R),AV.int .i64 0]).under H.length=true:=by have:=aA (n:=H.length) (aHh R);simp[AV.under,dJ,this]
  rw[qQ hu,GU];exact⟨rfl,rfl,rfl⟩)
 exact e1
end
def bDr(g:SN):bw:=⟨2,[],[.tmp 0],qS [qmc 0 (.sl Qt [])]<|qS [qq 1 (.bsl 1 [(.str [])] 7 [(0,(.const (.str [116,101,120,116]))),(1,(.const (.str [102,111,114,109,117,108,97]))),(2,(.const (.str [99,111,108,117,109,110]))),(3,(.const (.str [101,110,116,114,105,101,115]))),(4,(.const (.str [100,114,97,119,105,110,103]))),(5,(.const (.str [109,117,115,105,99]))),(6,(.const (.str [108,105,115,116,105,110,103])))]),qm 0 1]<|.ret⟩
def bDW(g:SN):bw:=⟨2,[],[.tmp 0],qS [qmc 0 (.sl Qt [])]<|qS [qq 1 (.bsl 1 [(.str [])] 3 [(0,(.const (.str [99,104,111,105,99,101]))),(1,(.const (.str [99,111,117,110,116]))),(2,(.const (.str [111,112,101,110])))]),qm 0 1]<|.ret⟩
def bDd(g:SN):bw:=⟨6,[],[.tmp 4],qS [qx 2 2 0,qx 3 1 1,qmc 4 .bx]<|qS [qq 5 (.mkf (g "bq") [] [(.tmp 2),(.tmp 3)]),qm 4 5]<|.ret⟩
def bCU(g:SN):bw:=⟨17,[],[],.region Qu [ql 8 1 3,qm 9 8,qT 10 9 (ol 1 4),qT 11 9 (om 0),qT 12 9 (om 1),qT 13 9 (om 2),qT 14 9 (.build [(.str []),z0,z0] [(0,1,(.tmp 11)),(1,1,(.tmp 12)),(2,1,(.tmp 13))]),qT 15 9 (.dm (u 10) [(.tmp 14)]),qp 16 9 15,qs 1 3 16]⟩
abbrev bDy(g:SN):List ae:=[qm 45 5,qc 46 (g "W") [],qf 47 0 9,⟨Qr 48,ol 1 47,Qs,[2]⟩,⟨Qr 49,oi 46 48 1,Qs,[1,3,2]⟩,⟨Qr 50,ol 1 49,Qs,[4,1,3,2]⟩,⟨Qr 51,.bin .add .no (uc (.str [66])) (u 50),Qs,[5,4,1,3,2]⟩,qm 52 6,⟨Qr 53,.dm (u 45) [(.tmp 51),(.tmp 52),(.const (.int .i64 (-1)))],Qs,[0,6,5,4,3,2,7,1]⟩]
abbrev bD8:LN:=[1,3]
abbrev bDz(g:SN):ag:=qS [qb 42 .lss 41 40]<|.seq (qC 42 (.skip) (.exit 2))<|.seq (.block 3 (qS [qi 43 39 41 13,qla 44 13 43,qq 9 (.alloc [z0,(.sl Qt []),z0,z0,(.sl Qt []),z0,(.sl Qt []),(.sl Qt []),z0,z0,(.sl Qt []),(.sl Qt []),(.sl Qt [])]),qs 13 9 44]<|.region Qt (bDy g)))<|.region Qu [qbi 54 .add 41 1,qm 41 54]
abbrev bDA(g:SN):ag:=qS [qb 61 .lss 60 59]<|.seq (qC 61 (.skip) (.exit 4))<|.seq (.block 5 (qS [qm 62 60,qi 63 58 60 1,ql 64 1 63,qm 10 62,qm 11 64]<|.region Qu [qm 65 5,qm 66 11,qq 67 (.bin .add .no (uc (.str [70])) (u 66)),qm 68 6,qm 69 10,qq 70 (.dm (u 65) [(.tmp 67),(.tmp 68),(.tmp 69)])]))<|.region Qu [qbi 71 .add 60 1,qm 60 71]
abbrev bDB(g:SN):List ae:=[qm 79 5,qc 80 (g "V") [],qf 81 0 13,⟨Qr 82,ol 1 81,Qs,[2]⟩,⟨Qr 83,oi 80 82 1,Qs,[1,3,2]⟩,⟨Qr 84,ol 1 83,Qs,[4,1,3,2]⟩,⟨Qr 85,.bin .add .no (uc (.str [81])) (u 84),Qs,[5,4,1,3,2]⟩,qm 86 6,⟨Qr 87,.dm (u 79) [(.tmp 85),(.tmp 86),(.const (.int .i64 (-1)))],Qs,[0,6,5,4,3,2,7,1]⟩]
abbrev bD9:LN:=[1,3]
abbrev bDC(g:SN):ag:=qS [qb 92 .lss 91 90]<|.seq (qC 92 (.skip) (.exit 8))<|.seq (.block 9 (qS [qi 93 89 91 2,qla 94 2 93,qq 15 (.alloc [z0,(.str [])]),qs 2 15 94]<|.region Qu [qm 95 5,qf 96 0 15,ql 97 1 96,qq 98 (.bin .add .no (ui 48) (u 97)),qq 99 (.conv (.toInt .i32) (u 98)),qq 100 (.conv .i2s (u 99)),qq 101 (.bin .add .no (uc (.str [82])) (u 100)),qf 102 1 15,ql 103 1 102,qb 104 .add 101 103,qm 105 6,qq 106 (.dm (u 95) [(.tmp 104),(.tmp 105),(.const (.int .i64 (-1)))])]))<|.region Qu [qbi 107 .add 91 1,qm 91 107]
abbrev bDD(g:SN):ag:=qS [qb 112 .lss 111 110]<|.seq (qC 112 (.skip) (.exit 10))<|.seq (.block 11 (qS [qi 113 109 111 1,ql 114 1 113,qm 17 114]<|.region Qu [qm 115 5,qm 116 17,qq 117 (.bin .add .no (uc (.str [79])) (u 116)),qm 118 6,qq 119 (.dm (u 115) [(.tmp 117),(.tmp 118),(.const (.int .i64 (-1)))])]))<|.region Qu [qbi 120 .add 111 1,qm 111 120]
abbrev bDE(g:SN):ag:=qS [qb 76 .lss 75 74]<|.seq (qC 76 (.skip) (.exit 6))<|.seq (.block 7 (qS [qi 77 73 75 7,qla 78 7 77,qq 13 (.alloc [z0,(.sl Qt []),(.sl Qt []),(.sl Qt []),(.str []),z0,(.sl Qt [])]),qs 7 13 78]<|.seq (.region Qt (bDB g))<|.seq (qS [qf 88 1 13,ql 89 1 88,qn 90 89,qmc 91 z0]<|.block 8 (.loop (bDC g)))<|qS [qf 108 2 13,ql 109 1 108,qn 110 109,qmc 111 z0]<|.block 10 (.loop (bDD g))))<|.region Qu [qbi 121 .add 75 1,qm 75 121]
abbrev bDF(g:SN):ag:=qS [qb 28 .lss 27 26]<|.seq (qC 28 (.skip) (.exit 0))<|.seq (.block 1 (qS [qm 29 27,qi 30 25 27 4,qla 31 4 30,qq 7 (.alloc [(.str []),(.sl Qt []),(.sl Qt []),(.sl Qt [])]),qm 6 29,qs 4 7 31]<|qS [qm 32 5,qf 33 0 7,ql 34 1 33,qq 35 (.bin .add .no (uc (.str [73])) (u 34)),qm 36 6,qq 37 (.dm (u 32) [(.tmp 35),(.tmp 36),(.const (.int .i64 (-1)))])]<|.seq (qS [qf 38 1 7,ql 39 1 38,qn 40 39,qmc 41 z0]<|.block 2 (.loop (bDz g)))<|.seq (qS [ql 55 1 2,qm 56 6,qi 57 55 56 1,ql 58 1 57,qn 59 58,qmc 60 z0]<|.block 4 (.loop (bDA g)))<|qS [qf 72 3 7,ql 73 1 72,qn 74 73,qmc 75 z0]<|.block 6 (.loop (bDE g))))<|.region Qu [qbi 122 .add 27 1,qm 27 122]
def bDl(g:SN):bw:=⟨123,[4,7,9,13,15],[],qS [qx 3 1 0]<|qS [qq 4 (.alloc [(.bool Qu)]),qz (.store 1 (u 4) uT)]<|qS [qq 18 (.mkf (g "i") [] [(.tmp 4),(.tmp 3)]),qm 5 18]<|qS [qm 19 5,qf 20 0 1,ql 21 1 20,qq 22 (.bin .add .no (uc (.str [84])) (u 21)),qq 23 (.dm (u 19) [(.tmp 22),(.const z0),(.const (.int .i64 (-1)))])]<|qS [qf 24 1 1,ql 25 1 24,qn 26 25,qmc 27 z0]<|.block 0 (.loop (bDF g))⟩
section
variable {A:af}{g:SN}
theorem bE8(h:Has A g "W" (bDr g))(H:LO):aG A (g "W") [] H=Qr (.sl Qu (bCJ.map aN),H,[]):=by refine h.call ?_;simp only[bDr];simp only[go_sem,↓aB,seval,AJ,bCJ,aN,BI,BY]
theorem bED(h:Has A g "V" (bDW g))(H:LO):aG A (g "V") [] H=Qr (.sl Qu (bDh.map aN),H,[]):=by refine h.call ?_;simp only[bDW];simp only[go_sem,↓aB,seval,AJ,bDh,aN,BI,BY]
theorem bEn(h:Has A g "bp" (bDd g))(x:jm)(R:List (List Str))(H:LO):aG A (g "bp") [dE x,.sl Qu (hU R)] H = Qr (.fn (g "bq") [] [.ep [.str x.title,.sl Qu (x.items.map aO)] 0,.ep [.sl Qu (hU R)] 0],H,[]):=by refine h.call ?_;simp only[bDd];simp only[go_sem,↓aB,seval,dE,AJ];rw[jG (AQ _)];exact⟨rfl,rfl,rfl⟩
structure y9(A:af)(o v base n:Nat)(I:List Str->LO->Prop):Prop where
 le:base<=n
 inv:∀{ps X},I ps X->X.length=n/\∀(j:Nat) x,base<=j->X[j]? = Qr x->x.under n=Qt
 run:∀{ps X} (s:Str) (i k:Int) (y0 y1 y2 y3 y4:ah),I ps X->s≠[]->s.length<=2000000->ps.length<=20000 ->
  ∃X' wr,aG A YF [.own 0 [],.yld o v,.agg [.str s,vi i,vi k]] (X++[y0,y1,y2,y3,y4])=Qr (.bool Qt,X'++[y0,y1,y2,y3,y4],wr)/\I (ps++[s]) X'/\∀x∈wr,base<=x
variable {o v base n:Nat}{I:List Str->LO->Prop}
theorem bDs(h:Has A g "i" (bCU g))(hR:y9 A o v base n I){ps:List Str}{X:LO}(hI:I ps X)(s:Str)(i k:Int)(hs:s≠[])(hl:s.length<=2000000)(hp:ps.length<=20000)(y1 y2 y3 y4:ah):∃X' wr,aG A (g "i") [.str s,vi i,vi k,.ptr X.length 1 0,.ep [.yld o v] 0] (X++[.box 1 [.bool Qt],y1,y2,y3,y4])=Qr (.tup [],X'++[.box 1 [.bool Qt],y1,y2,y3,y4],wr)/\I (ps++[s]) X'/\X'.length=X.length/\∀x∈wr,base<=x:=by
 obtain⟨X',wr,h1,h2,h3⟩:=hR.run s i k (.box 1 [.bool Qt]) y1 y2 y3 y4 hI hs hl hp;have hn:=(hR.inv hI).1;have ze:=(hR.inv h2).1;have Sy:X.length=X'.length:=hn.trans ze.symm;have hb:=hR.le;have he:cX (aG A) (X++[.box 1 [.bool Qt],y1,y2,y3,y4]) Qs (.yld o v) [.agg [.str s,vi i,vi k]]=Qr (.bool Qt,X'++[.box 1 [.bool Qt],y1,y2,y3,y4],wr):=by rw[aGL];have:kA (X++[.box 1 [.bool Qt],y1,y2,y3,y4]) [.agg [.str s,vi i,vi k]]=Qr ([.agg [.str s,vi i,vi k]],[]):=rfl;rw[this];dsimp only;have e2:([AV.agg [.str s,vi i,vi k]]).map AV.strip=[.agg [.str s,vi i,vi k]]:=rfl;rw[e2,show dL (X++[.box 1 [.bool Qt],y1,y2,y3,y4]) []=(X++[.box 1 [.bool Qt],y1,y2,y3,y4])from rfl,h1];rfl
 obtain⟨r,H',ba,e1,rfl,rfl,e4⟩:=h.bp (args:=[.str s,vi i,vi k,.ptr X.length 1 0,.ep [.yld o v] 0]) (H:=X++[.box 1 [.bool Qt],y1,y2,y3,y4]) (K:=fun r H' w=>r=.tup []/\H'=X'++[.box 1 [.bool Qt],y1,y2,y3,y4]/\∀x∈w,base<=x) (by
  simp only[bCU];simp only[go_sem,↓aB,seval,AJ,AD,AA,AE,he];rw[Sy];simp only[go_sem,↓aB,seval,AD];rw[jG (by simp;omega)];exact⟨rfl,rfl,rB (rB (fun x hx=>(by cases hx)) h3) (fun x hx=>by rw[CG.1 hx];omega)⟩)
 exact⟨X',ba,e1,h2,Sy.symm,e4⟩
end
@[go_sem] theorem bGy{o v:Nat}:(AV.yld o v).strip=.yld o v:=(rfl)
@[go_sem] theorem bGz{o v:Nat}:(AV.yld o v).cells=[.yld o v]:=(rfl)
@[go_sem] theorem bGA{o v:Nat}:(AV.yld o v).still=true:=(rfl)
theorem bCZ{b n base:Nat}(hb:b=n):∀{l wr:LN},(∀x∈wr,base<=x/\x<n)->(∀x∈l,base<=x)->∀x∈bE b wr l,base<=x/\x<n
 | [],wr,h,_=>h
 |y::r,wr,h,hl=>by
  unfold bE;split
  ·rename_i hc;exact bCZ hb (fun z hz=>by
    rcases BD.1 hz with rfl | hz
    ·exact⟨hl _ HD,by omega⟩
    exact h z hz) fun z hz=>hl z (BZ _ hz)
  exact bCZ hb h fun z hz=>hl z (BZ _ hz)
theorem bFd{base:Nat}{v:AV}{X L:LO}{wr:LN}(hv:v.under X.length=Qt)(h:∀j∈wr,base<=j/\j<X.length)(hu:∀(j:Nat) x,base<=j->X[j]? = Qr x->x.under X.length=Qt):cJ X.length (v,X++L,wr)=(v,X,wr):=by
 unfold cJ;dsimp only;split
 ·rw[GU]
 rename_i hc;refine Zw ?_ hc;rw[AI];refine⟨hv,AO.2 fun j hj=>?_⟩;obtain⟨a,b⟩:=h j hj;rw[List.getElem?_append_left b];cases e:X[j]? with
 |none=>rfl
 |some x=>exact hu j x a e
theorem bFG{items:List Item}{R:List (List Str)}{k:Nat}(h1:k<items.length)(h2:k<R.length):bCL (items.take (k+1)) (R.take (k+1))=bCL (items.take k) (R.take k)++bDi items[k] R[k]:=by unfold bCL;rw[<- Ce,<- Ce,EW (by simp;omega),Bz];simp
theorem bFy{q:Question}(h:q.Ok):(bE0 q).length<=33:=by have:=h.fg;have:=h.Q3;simp[bE0];omega
theorem bFS{x:Item}(h:x.Ok){F:List Str}(hF:F.length<=16):(bDi x F).length<=561:=by have h1:=bDU bE0 (B:=33) x.ask (fun q hq=>bFy (h.ask q hq));have:=h.zq;have:=h.tj;simp only[bDi,BA,AW,AF];omega
theorem bEo{items:List Item}(h:∀i∈items,i.Ok):∀{R:List (List Str)},(∀r∈R,r.length<=16)->(bCL items R).length<=561*items.length:=by
 induction items with
 |nil=>intro R _;simp[bCL]
 |cons x l ih=>
  intro R hR;cases R with
  |nil=>simp[bCL]
  |cons r R=>
   have e:bCL (x::l) (r::R)=bDi x r++bCL l R:=by simp[bCL]
   have h1:=bFS (h x (by simp)) (hR r (by simp));have h2:=ih (fun i hi=>h i (BZ _ hi)) (R:=R) (fun q hq=>hR q (BZ _ hq));rw[e,BA,AW];omega
section
variable {A:af}{g:SN}{o v base n:Nat}{I:List Str->LO->Prop}
structure a8(A:af)(g:SN):Prop where
 blocks:Has A g "W" (bDr g)
 asks:Has A g "V" (bDW g)
 para:Has A g "bp" (bDd g)
 run:Has A g "bq" (bDl g)
 say:Has A g "i" (bCU g)
abbrev bEM(it:Item):LA:=[.str it.name,.sl Qu (it.blocks.map aE),.sl Qu (it.facts.map aI),.sl Qu (it.ask.map gR)]
theorem bFH(F:a8 A g)(hR:y9 A o v base n I)(x:jm)(hx:x.Ok)(hr:∀i∈x.items,mu i)(R:List (List Str))(J2:R.length=x.items.length)(y6:∀r∈R,r.length<=16/\∀s∈r,s.length<=1000000)(X:LO)(hI:I [] X):∃X' wr,aG A (g "bq") [.yld o v,.ep [.str x.title,.sl Qu (x.items.map aO)] 0,.ep [.sl Qu (hU R)] 0] X=Qr (.tup [],X',wr)/\I (bDa x R) X'/\∀y∈wr,base<=y:=by
 have Up:x.title.length<=1000:=hx.title;obtain⟨r,H',ba,e1,rfl,h2,h3⟩:=F.run.bp (args:=[.yld o v,.ep [.str x.title,.sl Qu (x.items.map aO)] 0,.ep [.sl Qu (hU R)] 0]) (H:=X) (K:=fun r H' wr=>r=.tup []/\I (bDa x R) H'/\∀y∈wr,base<=y) (by
  simp only[bDl];obtain⟨X1,w1,c1,c2,c3,c4⟩:=bDs F.say hR hI (84::x.title) 0 (-1) (by simp) (by simp;omega) (by simp) (.gone 0) (.gone 0) (.gone 0) (.gone 0);have ha:kJ .add .no (.str [84]) (.str x.title)=Qr (.str (84::x.title)):=kE (by simp;omega);simp only[go_sem,↓aB,seval,c1,ha,AJ,AD,AB,AA,AE];rw[<- c3];have dy:∀y∈bE X1.length [] w1,base<=y/\y<n:=bCZ (hR.inv c2).1 (fun y hy=>by cases hy) c4;generalize bE X1.length [] w1=wr0 at *
  try simp only[go_sem,↓aB,seval,AF,AJ,AD,AB,AA,AE]
  refine bJ (id:=0) (fun k ρ1 H1 wr=>(∀y∈wr,base<=y/\y<n)/\ρ1 27=vi (k:Nat)/\∃X2 y1 y2 y3 y4,H1=X2++[.box 1 [.bool Qt],y1,y2,y3,y4]/\X2.length=X1.length/\I ((84::x.title)::bCL (x.items.take k) (R.take k)) X2) x.items.length
   (fun ρ1 H1 wr=>(∀y∈wr,base<=y/\y<n)/\∃X2 y1 y2 y3 y4,H1=X2++[.box 1 [.bool Qt],y1,y2,y3,y4]/\X2.length=X1.length/\I (bDa x R) X2) (by kernel_rfl) rfl ⟨dy,rfl,X1,_,_,_,_,rfl,rfl,c2⟩ ?_ ?_
  ·rintro k ρ1 H1 dc zp ⟨gn,e27,X2,y1,y2,y3,y4,rfl,Rx,I6⟩ hf;have f25:ρ1 25=.sl Qu (x.items.map aO):=hf 25 rfl;have f26:ρ1 26=vi (x.items.length:Nat):=hf 26 rfl;have f5:ρ1 5=.fn (g "i") [] [.ptr X1.length 1 0,.ep [.yld o v] 0]:=hf 5 rfl;have f2:ρ1 2=.ep [.sl Qu (hU R)] 0:=hf 2 rfl;clear hf;rw[<- Rx]at f5 ⊢;simp only[go_sem,↓aB,seval,e27,f26];refine aD (fun e3=>?_) (fun e3=>?_)
   ·have hlt:k<x.items.length:=by simp at e3;omega
    have Bm:=hx.G8;have Ry:k<R.length:=by omega
    have pg:=wS (i:=k) (by omega);have cj:=mgE aO hlt;have Bk:(hU R)[k]? = Qr [.sl Qu (R[k].map aN)]:=by unfold hU;rw[BN,AP Ry];rfl
    have Ji:(hU R).length=x.items.length:=by unfold hU;rw[AF,J2]
    have kh:=hx.items _ (AS hlt);have Qk:=hr _ (AS hlt);obtain⟨Uq,Tl⟩:=y6 _ (AS Ry);have Rz:=bFG hlt Ry;have Ur:(bCL (x.items.take k) (R.take k)).length<=561*15:=by
     have:=bEo (items:=x.items.take k) (fun i hi=>hx.items i (FA hi)) (R:=R.take k) (fun q hq=>(y6 q (FA hq)).1);have h5:(x.items.take k).length<=15:=by simp;omega
     omega
    generalize hP:(84::x.title)::bCL (x.items.take k) (R.take k)=P at *;have Us:P.length<=8416:=by rw[<- hP];simp;omega
    have Z0:I (P++bDi x.items[k] R[k])=I ((84::x.title)::bCL (x.items.take (k+1)) (R.take (k+1))):=by rw[Rz,<- hP];rfl
    generalize x.items[k]=it at *;generalize R[k]=Fs at *;have W6:it.name.length<=1000:=kh.name;have M1:kJ .add .no (.str [73]) (.str it.name)=Qr (.str (73::it.name)):=kE (by simp;omega);obtain⟨X3,w3,d1,d2,d3,d4⟩:=bDs F.say hR I6 (73::it.name) k (-1) (by simp) (by simp;omega) (by omega) (.box (y1.ver+1) (bEM it)) y2 y3 y4;simp only[go_sem,↓aB,seval,e27,f25,f5,AU,AT,hlt,cj,aO,M1,d1,AD,AB,AA,AE];have pr:∀y∈bE X2.length dc w3,base<=y/\y<n:=bCZ (hR.inv I6).1 gn d4;generalize bE X2.length dc w3=wr3 at *;rw[<- d3]at f5 ⊢
    try simp only[go_sem,↓aB,seval,AF,AD,AB,AA,AE]
    refine bJ (id:=2) (fun j ρ2 H2 wr=>(∀y∈wr,base<=y/\y<n)/\ρ2 41=vi (j:Nat)/\∃X4 z2 z3 z4,H2=X4++[.box 1 [.bool Qt],.box (y1.ver+1) (bEM it),z2,z3,z4]/\X4.length=X3.length/\I (P++[73::it.name]++(it.blocks.take j).map bD6) X4) it.blocks.length
     (fun ρ2 H2 wr=>(∀y∈wr,base<=y/\y<n)/\∃X4 z2 z3 z4,H2=X4++[.box 1 [.bool Qt],.box (y1.ver+1) (bEM it),z2,z3,z4]/\X4.length=X3.length/\I (P++[73::it.name]++it.blocks.map bD6) X4) (by kernel_rfl) rfl ⟨pr,rfl,X3,_,_,_,rfl,rfl,by simpa using d2⟩ ?_ ?_
    ·rintro j ρ2 H2 en mo ⟨As,e41,X4,z2,z3,z4,rfl,Sb,Qx⟩ cq;have g39:ρ2 39=.sl Qu (it.blocks.map aE):=cq 39 rfl;have g40:ρ2 40=vi (it.blocks.length:Nat):=cq 40 rfl;have g5:ρ2 5=.fn (g "i") [] [.ptr X3.length 1 0,.ep [.yld o v] 0]:=(cq 5 rfl).trans f5;have g6:ρ2 6=vi (k:Nat):=cq 6 rfl;clear cq;rw[<- Sb]at g5 ⊢;simp only[go_sem,↓aB,seval,e41,g40];refine aD (fun e4=>?_) (fun e4=>?_)
     ·have jlt:j<it.blocks.length:=by simp at e4;omega
      have zo:=kh.zq;have Kj:=wS (i:=j) (by omega);have fh:=mgE aE jlt;obtain⟨k0,k7⟩:=Qk.kinds _ (AS jlt);have pk:(it.blocks.take (j+1)).map bD6=(it.blocks.take j).map bD6++[bD6 it.blocks[j]]:=by rw[EW jlt,DQ];rfl
      have y8:(P++[73::it.name]++(it.blocks.take j).map bD6).length<=20000:=by simp;omega
      generalize (it.blocks.take j).map bD6=Q at *;generalize it.blocks[j]=b at *;have qv:=bG b;have iz:(aE b).all AV.ak=true:=bQ qv;have S5:FW 1 (aE b)=[.int .i64 b.kind]:=by obtain⟨op,n,ks,ig⟩:=eW b;rw[ig];rfl
      have zp:b.kind.toNat<bCJ.length:=by show _<7;omega
      have Ut:b.kind<((bCJ.length:Nat):Int):=k7;have Qf:(bCJ.map aN)[b.kind.toNat]? = Qr [.str (bCJ.getD b.kind.toNat [])]:=by rw[BN,AP zp,KV,AP zp];rfl
      have Tm:(bCJ.getD b.kind.toNat []).length<=7:=by
       have:∀w∈bCJ,w.length<=7:=by decide
       exact this _ (bEi k0 k7)
      have Tn:bD6 b=66::bCJ.getD b.kind.toNat []:=rfl;generalize bCJ.getD b.kind.toNat []=wd at *;have R7:kJ .add .no (.str [66]) (.str wd)=Qr (.str (66::wd)):=kE (by simp;omega);obtain⟨X5,w5,q1,q2,q3,q4⟩:=bDs F.say hR Qx (66::wd) k (-1) (by simp) (by simp;omega) y8 (.box (y1.ver+1) (bEM it)) (.box (z2.ver+1) (aE b)) z3 z4;have ss:=fun H=>bE8 F.blocks H;have Rp:(X5++[ah.box 1 [.bool Qt],.box (y1.ver+1) (bEM it),.box (z2.ver+1) (aE b),z3,z4]).length=(X4++[ah.box 1 [.bool Qt],.box (y1.ver+1) (bEM it),.box (z2.ver+1) (aE b),z3,z4]).length:=by rw[BA,BA,q3]
      simp only[go_sem,↓aB,seval,e41,g39,AU,AT,jlt,fh,cF,bT.take,iz,AD,AB,AE,AW,AZ];refine aY (aq:=bD8) (by rfl) (by rfl) ?_;simp only[go_sem,↓aB,seval,bD8,cF,g5,g6,ss,S5,Qf,k0,R7,q1,Rp,eH,dG,aL,AD,AA,AE];have Au:∀y∈bE X4.length en w5,base<=y/\y<n:=bCZ (hR.inv Qx).1 As q4
      try simp only[go_sem,↓aB,seval,e41,Kj]
      refine⟨jlt,Au,X5,_,_,_,rfl,q3, ?_⟩;rw[pk,<- CJ,Tn];exact q2
     have:j=it.blocks.length:=by simp at e4;omega
     subst this;rw[DM]at Qx;simp only[go_sem,seval];exact⟨As,X4,_,_,_,rfl,rfl,Qx⟩
    rintro ρ3 H3 wr4 ⟨As,X4,z2,z3,z4,rfl,Sb,Qx⟩ cq;have g5:ρ3 5=.fn (g "i") [] [.ptr X3.length 1 0,.ep [.yld o v] 0]:=(cq 5 rfl).trans f5;have g6:ρ3 6=vi (k:Nat):=cq 6 rfl;have g2:ρ3 2=.ep [.sl Qu (hU R)] 0:=(cq 2 rfl).trans f2;have g7:ρ3 7=.ptr (X3.length+1) (y1.ver+1) 0:=cq 7 rfl;have g27:ρ3 27=vi (k:Nat):=(cq 27 rfl).trans e27;clear cq;rw[<- Sb]at g5 g7 ⊢;generalize Sz:P++[73::it.name]++it.blocks.map bD6=PB at *;have To:PB.length<=8433:=by rw[<- Sz];have:=kh.zq;simp;omega
    simp only[go_sem,↓aB,seval,g2,g6,Bk,AF,AU,AT,AD,AA,AE];refine bJ (id:=4) (fun j ρ2 H2 wr=>(∀y∈wr,base<=y/\y<n)/\ρ2 60=vi (j:Nat)/\∃X5,H2=X5++[.box 1 [.bool Qt],.box (y1.ver+1) (bEM it),z2,z3,z4]/\X5.length=X4.length/\I (PB++(Fs.take j).map (70 :: ·)) X5) Fs.length
     (fun ρ2 H2 wr=>(∀y∈wr,base<=y/\y<n)/\∃X5,H2=X5++[.box 1 [.bool Qt],.box (y1.ver+1) (bEM it),z2,z3,z4]/\X5.length=X4.length/\I (PB++Fs.map (70 :: ·)) X5) (by kernel_rfl) rfl ⟨As,rfl,X4,rfl,rfl,by simpa using Qx⟩ ?_ ?_
    ·rintro j ρ4 H4 wr5 mo ⟨Au,e60,X5,rfl,Sc,Qy⟩ im;have i58:ρ4 58=.sl Qu (Fs.map aN):=im 58 rfl;have i59:ρ4 59=vi (Fs.length:Nat):=im 59 rfl;have i5:ρ4 5=.fn (g "i") [] [.ptr X4.length 1 0,.ep [.yld o v] 0]:=(im 5 rfl).trans g5;have i6:ρ4 6=vi (k:Nat):=(im 6 rfl).trans g6;clear im;rw[<- Sc]at i5 ⊢;simp only[go_sem,↓aB,seval,e60,i59];refine aD (fun e4=>?_) (fun e4=>?_)
     ·have jlt:j<Fs.length:=by simp at e4;omega
      have Kj:=wS (i:=j) (by omega);have fh:(Fs.map aN)[j]? = Qr [.str Fs[j]]:=by rw[BN,AP jlt];rfl
      have G6:=Tl _ (AS jlt);have pk:(Fs.take (j+1)).map (70 :: ·)=(Fs.take j).map (70 :: ·)++[70::Fs[j]]:=by rw[EW jlt,DQ];rfl
      have y8:(PB++(Fs.take j).map (70 :: ·)).length<=20000:=by simp;omega
      generalize (Fs.take j).map (70 :: ·)=Q at *;generalize Fs[j]=s at *;have R7:kJ .add .no (.str [70]) (.str s)=Qr (.str (70::s)):=kE (by simp;omega);obtain⟨X6,w6,q1,q2,q3,q4⟩:=bDs F.say hR Qy (70::s) k j (by simp) (by simp;omega) y8 (.box (y1.ver+1) (bEM it)) z2 z3 z4;simp only[go_sem,↓aB,seval,e60,i58,i5,i6,AU,AT,jlt,fh,R7,q1,AD,AA,AE];have Lz:∀y∈bE X5.length wr5 w6,base<=y/\y<n:=bCZ (hR.inv Qy).1 Au q4;simp only[go_sem,seval,Kj];refine⟨Lz,X6,rfl,q3, ?_⟩;rw[pk,<- CJ];exact q2
     have:j=Fs.length:=by simp at e4;omega
     subst this;rw[DM]at Qy;simp only[go_sem,seval];exact⟨Au,X5,rfl,rfl,Qy⟩
    rintro ρ4 H4 wr5 ⟨Au,X5,rfl,Sc,Qy⟩ im;have i5:ρ4 5=.fn (g "i") [] [.ptr X4.length 1 0,.ep [.yld o v] 0]:=(im 5 rfl).trans g5;have i6:ρ4 6=vi (k:Nat):=(im 6 rfl).trans g6;have i7:ρ4 7=.ptr (X4.length+1) (y1.ver+1) 0:=(im 7 rfl).trans g7;have i27:ρ4 27=vi (k:Nat):=(im 27 rfl).trans g27;clear im;rw[<- Sc]at i5 i7 ⊢;generalize Ta:PB++Fs.map (70 :: ·)=PF at *;have Tp:PF.length<=8449:=by rw[<- Ta];simp;omega
    simp only[go_sem,↓aB,seval,i7,AF,AD,AB,AA,AE];refine bJ (id:=6) (fun j ρ2 H2 wr=>(∀y∈wr,base<=y/\y<n)/\ρ2 75=vi (j:Nat)/\∃X6 u1 u2 u3 u4,H2=X6++[.box 1 [.bool Qt],u1,u2,u3,u4]/\X6.length=X5.length/\I (PF++(it.ask.take j).flatMap bE0) X6) it.ask.length
     (fun ρ2 H2 wr=>(∀y∈wr,base<=y/\y<n)/\∃X6 u1 u2 u3 u4,H2=X6++[.box 1 [.bool Qt],u1,u2,u3,u4]/\X6.length=X5.length/\I (PF++it.ask.flatMap bE0) X6) (by kernel_rfl) rfl ⟨Au,rfl,X5,_,_,_,_,rfl,rfl,by simpa using Qy⟩ ?_ ?_
    ·rintro j ρ5 H5 wr6 mo ⟨Lz,e75,X6,u1,u2,u3,u4,rfl,Tb,Qo⟩ I3;have m73:ρ5 73=.sl Qu (it.ask.map gR):=I3 73 rfl;have m74:ρ5 74=vi (it.ask.length:Nat):=I3 74 rfl;have m5:ρ5 5=.fn (g "i") [] [.ptr X5.length 1 0,.ep [.yld o v] 0]:=(I3 5 rfl).trans i5;have m6:ρ5 6=vi (k:Nat):=(I3 6 rfl).trans i6;clear I3;rw[<- Tb]at m5 ⊢;simp only[go_sem,↓aB,seval,e75,m74];refine aD (fun e4=>?_) (fun e4=>?_)
     ·have jlt:j<it.ask.length:=by simp at e4;omega
      have j8:=kh.tj;have Kj:=wS (i:=j) (by omega);have fh:=mgE gR jlt;have Tq:=Qk.ask _ (AS jlt);have J0:=kh.ask _ (AS jlt);have pk:(it.ask.take (j+1)).flatMap bE0=(it.ask.take j).flatMap bE0++bE0 it.ask[j]:=by rw[EW jlt,JK];simp
      have Tr:(PF++(it.ask.take j).flatMap bE0).length<=8449+495:=by
       have h1:=bDU bE0 (B:=33) (it.ask.take j) (fun q hq=>bFy (kh.ask q (FA hq)));have h2:(it.ask.take j).length<=15:=by simp;omega
       rw[BA];omega
      generalize Ts:PF++(it.ask.take j).flatMap bE0=PQ at *;generalize it.ask[j]=q at *;obtain⟨k0,k3,Tt,Rh⟩:=Tq;have zp:q.kind.toNat<bDh.length:=by show _<3;omega
      have Ly:q.kind<((bDh.length:Nat):Int):=k3;have Qf:(bDh.map aN)[q.kind.toNat]? = Qr [.str (bDh.getD q.kind.toNat [])]:=by rw[BN,AP zp,KV,AP zp];rfl
      have Tm:(bDh.getD q.kind.toNat []).length<=7:=by
       have:∀w∈bDh,w.length<=7:=by decide
       exact this _ (bET k0 k3)
      have Tu:bE0 q=[81::bDh.getD q.kind.toNat []]++(q.lk.map bEt++q.options.map (79 :: ·)):=rfl;generalize bDh.getD q.kind.toNat []=wd at *;have R7:kJ .add .no (.str [81]) (.str wd)=Qr (.str (81::wd)):=kE (by simp;omega);obtain⟨X7,w7,q1,q2,q3,q4⟩:=bDs F.say hR Qo (81::wd) k (-1) (by simp) (by simp;omega) (by omega) u1 u2 (.box (u3.ver+1) (gR q)) u4;have ss:=fun H=>bED F.asks H;have Rp:(X7++[ah.box 1 [.bool Qt],u1,u2,.box (u3.ver+1) (gR q),u4]).length=(X6++[ah.box 1 [.bool Qt],u1,u2,.box (u3.ver+1) (gR q),u4]).length:=by rw[BA,BA,q3]
      simp only[gR]at q1 Rp fh;simp only[go_sem,↓aB,seval,e75,m73,AU,AT,jlt,fh,AD,AB,AA,AE,AW,AZ];refine aY (aq:=bD9) (by rfl) (by rfl) ?_;simp only[go_sem,↓aB,seval,bD9,m5,m6,ss,Qf,k0,R7,q1,Rp,eH,dG,aL,AD,AA,AE];have Tv:∀y∈bE X6.length wr6 w7,base<=y/\y<n:=bCZ (hR.inv Qo).1 Lz q4;generalize bE X6.length wr6 w7=wr7 at *;rw[<- q3]at m5 ⊢;have Tw:(PQ++[81::wd]).length<=8945:=by simp;omega
      generalize Tx:PQ++[81::wd]=PR at *
      try simp only[go_sem,↓aB,seval,AF,AD,AB,AA,AE]
      refine bJ (id:=8) (fun i ρ2 H2 wr=>(∀y∈wr,base<=y/\y<n)/\ρ2 91=vi (i:Nat)/\∃X8 t4,H2=X8++[.box 1 [.bool Qt],u1,u2,.box (u3.ver+1) [vi q.kind,.sl Qu (q.lk.map cZ),.sl Qu (q.options.map aN),.sl Qu (q.cy.map bF),.str q.key,vi q.points,.sl Qu (q.dv.map aN)],t4]/\X8.length=X7.length/\I (PR++(q.lk.take i).map bEt) X8) q.lk.length
       (fun ρ2 H2 wr=>(∀y∈wr,base<=y/\y<n)/\∃X8 t4,H2=X8++[.box 1 [.bool Qt],u1,u2,.box (u3.ver+1) [vi q.kind,.sl Qu (q.lk.map cZ),.sl Qu (q.options.map aN),.sl Qu (q.cy.map bF),.str q.key,vi q.points,.sl Qu (q.dv.map aN)],t4]/\X8.length=X7.length/\I (PR++q.lk.map bEt) X8) (by kernel_rfl) rfl ⟨Tv,rfl,X7,_,rfl,rfl,by simpa using q2⟩ ?_ ?_
      ·rintro i ρ6 H6 wr8 mg ⟨Lf,e91,X8,t4,rfl,Sd,Qz⟩ Cv;have n89:ρ6 89=.sl Qu (q.lk.map cZ):=Cv 89 rfl;have n90:ρ6 90=vi (q.lk.length:Nat):=Cv 90 rfl;have n5:ρ6 5=.fn (g "i") [] [.ptr X7.length 1 0,.ep [.yld o v] 0]:=(Cv 5 rfl).trans m5;have n6:ρ6 6=vi (k:Nat):=(Cv 6 rfl).trans m6;clear Cv;rw[<- Sd]at n5 ⊢;simp only[go_sem,↓aB,seval,e91,n90];refine aD (fun e6=>?_) (fun e6=>?_)
       ·have ilt:i<q.lk.length:=by simp at e6;omega
        have G6:=J0.fg;have V1:=wS (i:=i) (by omega);have iget:=mgE cZ ilt;have Ty:=Rh _ (AS ilt);have gu:q.lk[i].text.length<=1000:=(J0.lk _ (AS ilt)).text;have pk:(q.lk.take (i+1)).map bEt=(q.lk.take i).map bEt++[bEt q.lk[i]]:=by rw[EW ilt,DQ];rfl
        have y8:(PR++(q.lk.take i).map bEt).length<=20000:=by simp;omega
        generalize (q.lk.take i).map bEt=Q at *;generalize q.lk[i]=r at *;obtain⟨d,Oh,O9,Tz,Se⟩:∃d:UInt8,bEt r=82::d::r.text/\AR.wrap (48+r.gg)=(d.toNat:Int)/\Dd.wrap (d.toNat:Int)=(d.toNat:Int)/\∀H,pT H .i2s (.int .i32 (d.toNat:Int))=Qr (.str [d]):=by
         rcases Ty with e | e
         ·exact⟨48,by unfold bEt;rw[e];rfl,by rw[e];rfl,rfl,fun H=>rfl⟩
         exact⟨49,by unfold bEt;rw[e];rfl,by rw[e];rfl,rfl,fun H=>rfl⟩
        have Ua:∀H,pT H (.toInt .i32) (.int .i64 (d.toNat:Int))=Qr (.int .i32 (d.toNat:Int)):=fun H=>by show Qr (AV.int .i32 (Dd.wrap (d.toNat:Int)))=_;rw[Tz]
        have Ay:kJ .add .no (.str [82]) (.str [d])=Qr (.str [82,d]):=kE (by simp);have Mv:kJ .add .no (.str [82,d]) (.str r.text)=Qr (.str (82::d::r.text)):=kE (by simp;omega);obtain⟨X9,w9,p1,p2,p3,p4⟩:=bDs F.say hR Qz (82::d::r.text) k (-1) (by simp) (by simp;omega) y8 u1 u2 (.box (u3.ver+1) [vi q.kind,.sl Qu (q.lk.map cZ),.sl Qu (q.options.map aN),.sl Qu (q.cy.map bF),.str q.key,vi q.points,.sl Qu (q.dv.map aN)]) (.box (t4.ver+1) [vi r.gg,.str r.text]);simp only[go_sem,↓aB,seval,e91,n89,n5,n6,AU,AT,ilt,iget,cZ,O9,Se,Ua,Ay,Mv,p1,AD,AB,AA,AE];have zr:∀y∈bE X8.length wr8 w9,base<=y/\y<n:=bCZ (hR.inv Qz).1 Lf p4
        try simp only[go_sem,seval,V1]
        refine⟨zr,X9,_,rfl,p3, ?_⟩;rw[pk,<- CJ,Oh];exact p2
       have:i=q.lk.length:=by simp at e6;omega
       subst this;rw[DM]at Qz;simp only[go_sem,seval];exact⟨Lf,X8,_,rfl,rfl,Qz⟩
      rintro ρ6 H6 wr8 ⟨Lf,X8,t4,rfl,Sd,Qz⟩ Cv;have n5:ρ6 5=.fn (g "i") [] [.ptr X7.length 1 0,.ep [.yld o v] 0]:=(Cv 5 rfl).trans m5;have n6:ρ6 6=vi (k:Nat):=(Cv 6 rfl).trans m6;have n13:ρ6 13=.ptr (X7.length+3) (u3.ver+1) 0:=Cv 13 rfl;have n75:ρ6 75=vi (j:Nat):=(Cv 75 rfl).trans e75;clear Cv;rw[<- Sd]at n5 n13 ⊢;have Ub:(PR++q.lk.map bEt).length<=8961:=by have:=J0.fg;simp;omega
      generalize Uc:PR++q.lk.map bEt=PS at *;simp only[go_sem,↓aB,seval,n13,AF,AD,AB,AA,AE];refine bJ (id:=10) (fun i ρ2 H2 wr=>(∀y∈wr,base<=y/\y<n)/\ρ2 111=vi (i:Nat)/\∃X9 s1 s2 s3 s4,H2=X9++[.box 1 [.bool Qt],s1,s2,s3,s4]/\X9.length=X8.length/\I (PS++(q.options.take i).map (79 :: ·)) X9) q.options.length
       (fun ρ2 H2 wr=>(∀y∈wr,base<=y/\y<n)/\∃X9 s1 s2 s3 s4,H2=X9++[.box 1 [.bool Qt],s1,s2,s3,s4]/\X9.length=X8.length/\I (PS++q.options.map (79 :: ·)) X9) (by kernel_rfl) rfl ⟨Lf,rfl,X8,_,_,_,_,rfl,rfl,by simpa using Qz⟩ ?_ ?_
      ·rintro i ρ7 H7 wr9 mg ⟨zr,e111,X9,s1,s2,s3,s4,rfl,Tc,Qp⟩ Lv;have l109:ρ7 109=.sl Qu (q.options.map aN):=Lv 109 rfl;have l110:ρ7 110=vi (q.options.length:Nat):=Lv 110 rfl;have l5:ρ7 5=.fn (g "i") [] [.ptr X8.length 1 0,.ep [.yld o v] 0]:=(Lv 5 rfl).trans n5;have l6:ρ7 6=vi (k:Nat):=(Lv 6 rfl).trans n6;clear Lv;rw[<- Tc]at l5 ⊢;simp only[go_sem,↓aB,seval,e111,l110];refine aD (fun e6=>?_) (fun e6=>?_)
       ·have ilt:i<q.options.length:=by simp at e6;omega
        have G6:=J0.Q3;have V1:=wS (i:=i) (by omega);have iget:(q.options.map aN)[i]? = Qr [.str q.options[i]]:=by rw[BN,AP ilt];rfl
        have gu:q.options[i].length<=1000:=J0.options _ (AS ilt);have pk:(q.options.take (i+1)).map (79 :: ·)=(q.options.take i).map (79 :: ·)++[79::q.options[i]]:=by rw[EW ilt,DQ];rfl
        have y8:(PS++(q.options.take i).map (79 :: ·)).length<=20000:=by simp;omega
        generalize (q.options.take i).map (79 :: ·)=Q at *;generalize q.options[i]=s at *;have Mv:kJ .add .no (.str [79]) (.str s)=Qr (.str (79::s)):=kE (by simp;omega);obtain⟨X10,w10,p1,p2,p3,p4⟩:=bDs F.say hR Qp (79::s) k (-1) (by simp) (by simp;omega) y8 s1 s2 s3 s4;simp only[go_sem,↓aB,seval,e111,l109,l5,l6,AU,AT,ilt,iget,Mv,p1,AD,AA,AE];have Sf:∀y∈bE X9.length wr9 w10,base<=y/\y<n:=bCZ (hR.inv Qp).1 zr p4
        try simp only[go_sem,seval,V1]
        refine⟨Sf,X10,_,_,_,_,rfl,p3, ?_⟩;rw[pk,<- CJ];exact p2
       have:i=q.options.length:=by simp at e6;omega
       subst this;rw[DM]at Qp;simp only[go_sem,seval];exact⟨zr,X9,_,_,_,_,rfl,rfl,Qp⟩
      rintro ρ7 H7 wr9 ⟨zr,X9,s1,s2,s3,s4,rfl,Tc,Qp⟩ Lv;have l75:ρ7 75=vi (j:Nat):=(Lv 75 rfl).trans n75;clear Lv;simp only[go_sem,↓aB,seval,l75,Kj];have e:PF++(it.ask.take (j+1)).flatMap bE0=PS++q.options.map (79 :: ·):=by rw[pk,<- CJ,Ts,Tu,<- Uc,<- Tx];simp
      rw[<- e]at Qp;exact⟨jlt,zr,X9,_,_,_,_,rfl,by omega,Qp⟩
     have:j=it.ask.length:=by simp at e4;omega
     subst this;rw[DM]at Qo;simp only[go_sem,seval];exact⟨Lz,X6,_,_,_,_,rfl,rfl,Qo⟩
    rintro ρ5 H5 wr6 ⟨Lz,X6,u1,u2,u3,u4,rfl,Tb,Qo⟩ I3;have m27:ρ5 27=vi (k:Nat):=(I3 27 rfl).trans i27;clear I3;simp only[go_sem,↓aB,seval,m27,pg];refine⟨hlt,Lz,X6,_,_,_,_,rfl,by omega, ?_⟩;have e:PF++it.ask.flatMap bE0=P++bDi it Fs:=by rw[<- Ta,<- Sz];simp[bDi]
    rw[e,Z0]at Qo;exact Qo
   have:k=x.items.length:=by simp at e3;omega
   subst this;have Eg:(84::x.title)::bCL (x.items.take x.items.length) (R.take x.items.length)=bDa x R:=by rw[DM,<- J2,DM];rfl
   rw[Eg]at I6;simp only[go_sem,seval];exact⟨gn,X2,_,_,_,_,rfl,rfl,I6⟩
  rintro ρ' H' ba ⟨gn,X2,y1,y2,y3,y4,rfl,Rx,I6⟩ hf;rw[<- Rx];have xh:=(hR.inv I6).1;simp only[go_sem,↓aB,seval];rw[bFd rfl (base:=base) (fun j hj=>by obtain⟨a,b⟩:=gn j hj;exact⟨a,by omega⟩) (fun j x hj hx=>by rw[xh];exact (hR.inv I6).2 j x hj hx)];exact⟨rfl,I6,fun y hy=>(gn y hy).1⟩)
 exact⟨H',ba,e1,h2,h3⟩
end
def bCQ(g:SN):bw:=⟨9,[],[.tmp 4],qS [qx 2 1 0,qx 3 1 1,qmc 4 .bx]<|.seq (qS [ql 5 1 3,qbi 6 .lss 5 1]<|qC 6 (qR [qq 7 (.km 9 (uc (.str [99,97,110,110,111,116,32,98,101,32,108,101,115,115,32,116,104,97,110,32,49]))),qz (.bad)]) (.skip))<|qS [qq 8 (.mkf (g "E") [] [(.tmp 2),(.tmp 3)]),qm 4 8]<|.ret⟩
abbrev bD1(g:SN):List ae:=[ql 13 1 2,ql 14 1 1,qm 15 4,⟨Qr 16,.gw 1 (u 14) (Qr (.tmp 15)) Qs Qs,Qs,[1,2]⟩,⟨Qr 17,on 16,Qs,[3,1,2]⟩,⟨Qr 18,.mm Qu [(.tmp 13),(.tmp 17)],Qs,[0,4,3,1,2]⟩,⟨Qr 5,om 18,Qs,[5,0,4,3,1,2]⟩]
abbrev bCO:LN:=[]
abbrev bD2(g:SN):ag:=.seq (qS [qm 6 4,ql 7 1 1,qn 8 7,qb 9 .lss 6 8]<|qC 9 (.skip) (.exit 0))<|.seq (.block 1 (.seq (.region Qt (bD1 g))<|qS [qm 19 0,ql 20 1 1,qm 21 4,qm 22 4,qm 23 5,qb 24 .add 22 23,qm 25 4,qm 26 5,qb 27 .add 25 26,qq 28 (.gw 1 (u 20) (Qr (.tmp 21)) (Qr (.tmp 24)) (Qr (.tmp 27))),qq 29 (.dm (u 19) [(.tmp 28)]),qq 30 (.un .not (u 29))]<|qC 30 (.ret) (.skip)))<|.region Qu [qm 10 4,ql 11 1 2,qb 12 .add 10 11,qm 4 12]
def bCE(g:SN):bw:=⟨31,[],[],qS [qmc 4 z0]<|.block 0 (.loop (bD2 g))⟩
def bCI(g:SN):ag:=.block 0 (.dz (.tmp 6) [7] (qS [qm 5 7]<|.block 1 (qR [ql 8 1 2,qm 9 5,qq 10 (.bsl 1 [.ar] 1 [(0,(.tmp 9))]),qa 11 1 24 8 10,qs 1 2 11])))
def bCM(g:SN):bw:=⟨13,[2,7,11],[.tmp 4],qS [qx 2 1 0,qmc 4 .ar]<|.seq (qS [qm 6 1]<|bCI g)<|qS [ql 12 1 2,qm 4 12]<|.ret⟩
def bD4(g:SN):bw:=⟨5,[],[.tmp 2],qS [qmc 2 .ar]<|qS [qm 3 0,qc 4 (g "cD") [uc .ar,u 3],qm 2 4]<|.ret⟩
section
variable {A:af}{g:SN}{o v base n:Nat}{I:List (List Str)->LO->Prop}
structure Px(A:af)(o v base n:Nat)(I:List (List Str)->LO->Prop):Prop where
 len:∀{cs X},I cs X->X.length=n
 run:∀{cs X} (c:List Str),I cs X->cs.length<=10000000000 ->
  ∃X' wr,aG A YF [.own 0 [],.yld o v,.sl Qu (c.map aN)] X=Qr (.bool Qt,X',wr)/\I (cs++[c]) X'/\∀x∈wr,base<=x
abbrev bEe:ag:=qS [qm 5 7]<|.block 1 (qR [ql 8 1 2,qm 9 5,qq 10 (.bsl 1 [.ar] 1 [(0,(.tmp 9))]),qa 11 1 24 8 10,qs 1 2 11])
def bGG(H:LO)(cs:List (List Str))(X:LO):Prop:=∃w x3 l,X=H++[.box 1 [w],.rnd 1 H.length [2,7,11] [7] bEe l Qu Qs,x3]/\l.length=13/\ck l 2=.ptr H.length 1 0 /\
 ((cs=[]/\w=.ar)∨(cs≠[]/\∃ver,w=.sr (H.length+2) ver cs.length/\x3=.vec ver 1 (hU cs)))
theorem bFT(cs:List (List Str))(c:List Str):hU (cs++[c])=hU cs++[[.sl Qu (c.map aN)]]:=by unfold hU;rw[DQ];rfl
theorem bDX(cs:List (List Str)):(hU cs).length=cs.length:=by unfold hU;rw[AF]
theorem bFU(hY:sn A)(H:LO):Px A (H.length+1) 1 H.length (H.length+3) (bGG H) where
 len:=by rintro cs X ⟨w,x3,l,rfl,_⟩;simp
 run:=by
  rintro cs X c ⟨w,x3,l,rfl,hl,h2,hw⟩ kq;have key:∃(e:bf) (H':LO) (ba:LN),aG A YF [.own 0 [],.yld (H.length+1) 1,.sl Qu (c.map aN)] (H++[.box 1 [w],.rnd 1 H.length [2,7,11] [7] bEe l Qu Qs,x3])=Qr (.bool (decide (e=.normal)),H',ba)/\(e=.normal/\bGG H (cs++[c]) H'/\∀x∈ba,H.length<=x):=by
   refine mT hY (K:=fun e H' wr=>e=.normal/\bGG H (cs++[c]) H'/\∀x∈wr,H.length<=x) (N:=13) (l:=l) (by rw[bX];rfl) rfl (by kernel_rfl) (by kernel_rfl) hl ?_;have hs:ck (dH l [7] [.sl Qu (c.map aN)])=upd (ck l) 7 (.sl Qu (c.map aN)):=nG (by omega);rw[hs];generalize hρ:ck l=ρ at *;simp only[go_sem,↓aB,seval];have B8:(⟨H.length,[2,7,11,YF+(H.length+1),YF+1]⟩:Ctx).site (Qr 10)=none:=aIE (l:=[2,7,11]) (ys:=[YF+(H.length+1),YF+1]) (by rfl) (by decide) (fun y hy=>by simp at hy;omega);have fq:∀{w2:LN} {n:Nat},(∀x∈w2,H.length<=x)->∀x∈FM H.length n++(H.length+1)::w2,H.length<=x:=fun {w2 n} h x hx=>by
    rcases AY.1 hx with hx | hx
    ·rw[FC]at hx;exact hx.1
    rcases BD.1 hx with rfl | hx
    ·omega
    exact h x hx
   refine⟨_,_,_,_,_,rfl, ?_⟩;rcases hw with⟨rfl,rfl⟩ | ⟨bl,ver,rfl,rfl⟩
   ·have hr:bP 1 24=true:=by decide
    simp only[go_sem,↓aB,seval,h2,B8,AD,AA,AE,eX,cG,dO,hr,AW,AZ];exact⟨_,_,_,_,_,rfl,⟨_,_,l,rfl,hl,by rw[hρ];exact h2,.inr ⟨by simp,_,rfl,rfl⟩⟩,fq (by simp)⟩
   have hr:bP (cs.length+1) 24=true:=by unfold bP;simp;omega
   have nv:bP ((hU cs).length+1) 24=true:=by rw[bDX];exact hr
   simp only[go_sem,↓aB,seval,h2,B8,AD,AA,AE,eX,cG,dO,hr,bDX,AW,AZ];exact⟨_,_,_,_,_,rfl,⟨_,_,l,rfl,hl,by rw[hρ];exact h2,.inr ⟨by simp,ver,by rw[BA];rfl,by rw[bFT]⟩⟩,fq (by simp)⟩
  obtain⟨e,H',ba,h1,rfl,h3,h4⟩:=key;exact⟨H',ba,by simpa using h1,h3,h4⟩
theorem bGt{n l k:Nat}(h1:l<=k)(h2:k<=n):dU n (Qr (vi l)) (Qr (vi k)) (Qr (vi k))=Qr (l,k,k):=by unfold dU iL vi;dsimp only;rw[Zy ⟨by omega,by omega⟩];dsimp only;rw[Zy ⟨by omega,by omega⟩];dsimp only;rw[Zy ⟨by omega,by omega⟩];simp
theorem bFe(h:Has A g "E" (bCE g))(hR:Px A o v base n I)(l:List Str)(hl:l.length<=100000000000)(X:LO)(hI:I [] X):∃X' wr,aG A (g "E") [.yld o v,.ep [.sl Qu (l.map aN)] 0,.ep [vi 50] 0] X=Qr (.tup [],X',wr)/\I (cB l) X'/\∀y∈wr,base<=y:=by
 obtain⟨r,H',ba,e1,rfl,h2,h3⟩:=h.bp (args:=[.yld o v,.ep [.sl Qu (l.map aN)] 0,.ep [vi 50] 0]) (H:=X) (K:=fun r H' wr=>r=.tup []/\I (cB l) H'/\∀y∈wr,base<=y) (by
  simp only[bCE];have ax:=hR.len hI;have kq:=bE3 l;simp only[go_sem,↓aB,seval,AJ];refine bJ (id:=0) (fun k ρ1 H1 wr=>(∀y∈wr,base<=y)/\ρ1 4=vi ((50*k:Nat):Int)/\I ((cB l).take k) H1) (cB l).length
   (fun ρ1 H1 wr=>(∀y∈wr,base<=y)/\I (cB l) H1) (by kernel_rfl) rfl ⟨fun y hy=>(by cases hy),rfl,hI⟩ ?_ ?_
  ·rintro k ρ1 H1 dc zp ⟨hw,e4,yy⟩ hf;have f0:ρ1 0=.yld o v:=hf 0 rfl;have f1:ρ1 1=.ep [.sl Qu (l.map aN)] 0:=hf 1 rfl;have f2:ρ1 2=.ep [vi 50] 0:=hf 2 rfl;have qe:=hR.len yy;simp only[go_sem,↓aB,seval,e4,f1,AF,AD,AA,AE];refine aD (fun e3=>?_) (fun e3=>?_)
   ·have hlt:50*k<l.length:=by simp at e3;omega
    have Rq:k<(cB l).length:=by omega
    have Ri:=bEA l k Rq;have E8:(cB l)[k]=(l.drop (50*k)).take 50:=by rw[AP Rq]at Ri;exact DZ Ri
    have pk:(cB l).take (k+1)=(cB l).take k++[(l.drop (50*k)).take 50]:=by rw[EW Rq,E8]
    have fo:dU l.length (Qr (vi ((50*k:Nat):Int))) Qs Qs=Qr (50*k,l.length,l.length):=aL6 (by omega);have E3:(if (50:Int)<((l.length - 50*k:Nat):Int)then (50:Int)else ((l.length - 50*k:Nat):Int))=((min 50 (l.length - 50*k):Nat):Int):=by split<;>omega
    have Sg:(if ((l.length - 50*k:Nat):Int)<(50:Int)then ((l.length - 50*k:Nat):Int)else (50:Int))=((min 50 (l.length - 50*k):Nat):Int):=by split<;>omega
    have Td:AR.wrap (((50*k:Nat):Int)+((min 50 (l.length - 50*k):Nat):Int))=((50*k+min 50 (l.length - 50*k):Nat):Int):=by rw[wrap_i64 (by omega) (by omega)];omega
    have pg:AR.wrap (((50*k:Nat):Int)+50)=((50*(k+1):Nat):Int):=by rw[wrap_i64 (by omega) (by omega)];omega
    have dp:dU l.length (Qr (vi ((50*k:Nat):Int))) (Qr (vi ((50*k+min 50 (l.length - 50*k):Nat):Int))) (Qr (vi ((50*k+min 50 (l.length - 50*k):Nat):Int)))=Qr (50*k,50*k+min 50 (l.length - 50*k),50*k+min 50 (l.length - 50*k)):=bGt (by omega) (by omega);have Og:dF 1 (l.map aN)=true:=by cases l<;>rfl
    have Te:((l.map aN).take (50*k+min 50 (l.length - 50*k))).drop (50*k)=((l.drop (50*k)).take 50).map aN:=by
     rw[List.drop_take,List.map_take,List.map_drop];rcases MH 50 (l.length - 50*k)with h | h
     ·rw[Cb (by omega)];rw[show 50*k+50 - 50*k=50 by omega]
     rw[Ca h,CH (by simp<;>omega),CH (by simp<;>omega)]
    have Ik:((l.map aN).drop (50*k)).length=l.length - 50*k:=by simp
    have tl:(l.map aN).take l.length=l.map aN:=CH (by simp);generalize hC:(l.drop (50*k)).take 50=C at *;obtain⟨X',en,q1,q2,q3⟩:=hR.run C yy (by simp;omega);have he:∀f,cX (aG A) H1 Qs (.yld o v) [.sl f (C.map aN)]=Qr (.bool Qt,X',en):=fun f=>by
     rw[aGL];have:kA H1 [.sl f (C.map aN)]=Qr ([.sl f (C.map aN)],[]):=rfl;rw[this];dsimp only;have e2:([AV.sl f (C.map aN)]).map AV.strip=[.sl Qu (C.map aN)]:=rfl;rw[e2,show dL H1 []=H1 from rfl,q1];rfl
    simp only[go_sem,seval];refine aY (aq:=bCO) (by rfl) (by rfl) ?_;simp only[go_sem,↓aB,seval,bCO,e4,f1,f2,fo,Og,Sg,tl,Ik,Td,dp,Te,f0,he,pg,AF,AD,AA,AE]
    try simp only[go_sem,↓aB,seval,e4,f0,f1,f2,Td,dp,Og,Te,he,pg,AF,AD,AA,AE]
    have Sh:k<(cB l).length:=Rq;refine⟨Sh,rB hw q3, ?_⟩;rw[pk];exact q2
   have:k=(cB l).length:=by simp at e3;omega
   subst this;rw[DM]at yy;simp only[go_sem,seval];exact⟨hw,yy⟩
  rintro ρ' H' ba ⟨hw,yy⟩ hf;have qe:=hR.len yy;simp only[go_sem,↓aB,seval];rw[jG (by omega)];exact⟨rfl,yy,hw⟩)
 exact⟨H',ba,e1,h2,h3⟩
structure kl(A:af)(g:SN):Prop where
 yf:sn A
 chunk:Has A g "cE" (bCQ g)
 Qq:Has A g "E" (bCE g)
 app:Has A g "cD" (bCM g)
 Gb:Has A g "cF" (bD4 g)
theorem bFI(F:kl A g)(rows:List LA)(H:LO):aG A (g "cE") [.sl Qu rows,vi 50] H=Qr (.fn (g "E") [] [.ep [.sl Qu rows] 0,.ep [vi 50] 0],H,[]):=by refine F.chunk.call ?_;simp only[bCQ];simp only[go_sem,↓aB,seval,AJ,AD,AA,AE];rw[jG (AQ _)];exact⟨rfl,rfl,rfl⟩
theorem bFV(F:kl A g)(l:List Str)(bl:l≠[])(hl:l.length<=100000000000)(H:LO):aG A (g "cD") [.ar,.fn (g "E") [] [.ep [.sl Qu (l.map aN)] 0,.ep [vi 50] 0]] H=Qr (.own 1 (hU (cB l)),H,[]):=by
 obtain⟨r,H',ba,e1,rfl,rfl,rfl⟩:=F.app.bp (args:=[.ar,.fn (g "E") [] [.ep [.sl Qu (l.map aN)] 0,.ep [vi 50] 0]]) (H:=H) (K:=fun r H' wr=>wr=[]/\H'=H/\r=.own 1 (hU (cB l))) (by
  simp only[bCM];simp only[go_sem,↓aB,seval];simp only[bCI];simp only[go_sem,seval];refine wC (id:=H.length+1) (v:=1) (X:=fun l=>H++[.box 1 [.ar],.rnd 1 H.length [2,7,11] [7] bEe l Qu Qs,.gone 0]) (by rfl) (by rfl) (by simp) (fun _=>by rfl) (by unfold bH;rw[bX];rfl) (fun l=>by rw[sV];rfl) ?_;intro l2 iq he;have Lw:bGG H [] (H++[.box 1 [.ar],.rnd 1 H.length [2,7,11] [7] bEe l2 Qu Qs,.gone 0]):=⟨_,_,l2,rfl,iq,by rw[he];rfl,.inl ⟨rfl,rfl⟩⟩;obtain⟨H2,en,k1,k2,k3⟩:=bFe F.Qq (bFU F.yf H) l hl _ Lw;obtain⟨w,x3,l3,rfl,yz,_,hw⟩:=k2;refine⟨_,_,_,_,_,_,_,_,Qs,k1,by rw[bX];rfl, ?_⟩;rw[kH (fun x hx=>by rcases BD.1 hx with rfl | hx;exact EG _ _;exact k3 x hx),eS];show pP 0 _ _ .normal _ _ _;have Si:cB l≠[]:=by rw[bDR bl];simp
  rcases hw with⟨e,_⟩ | ⟨_,ver,rfl,rfl⟩
  ·exact Zw e Si
  have hd:=aHh (cB l);simp only[go_sem,↓aB,seval,AD,AA,AE,aT hd,aA hd,bDX])
 exact e1
theorem bEN(F:kl A g)(l:List Str)(bl:l≠[])(hl:l.length<=100000000000)(H:LO):aG A (g "cF") [.fn (g "E") [] [.ep [.sl Qu (l.map aN)] 0,.ep [vi 50] 0]] H=Qr (.sl Qu (hU (cB l)),H,[]):=by have mj:=fun H=>bFV F l bl hl H;refine F.Gb.call ?_;simp only[bD4];have hd:=aHh (cB l);simp only[go_sem,↓aB,seval,mj,AJ];rw[jG (AQ _)];exact⟨rfl,rfl,rfl⟩
end
abbrev bDe(g:SN):ag:=qS [qb 9 .lss 8 7]<|.seq (qC 9 (.skip) (.exit 0))<|.seq (.block 1 (qS [qm 10 8,qm 5 10]<|qS [qm 11 1,qm 12 0,qm 13 5,qi 14 12 13 1,ql 15 1 14,qb 16 .eql 11 15]<|qC 16 (qS [qm 17 5,qm 4 17]<|.ret) (.skip)))<|.region Qu [qbi 18 .add 8 1,qm 8 18]
def bCH(g:SN):bw:=⟨19,[],[.tmp 4],qS [qmc 4 z0]<|.seq (qS [qm 6 0,qn 7 6,qmc 8 z0]<|.block 0 (.loop (bDe g)))<|qS [qmc 4 (.int .i64 (-1))]<|.ret⟩
def bCK(g:SN):bw:=⟨9,[],[.tmp 4],qS [qmc 4 (.bool Qu)]<|qS [qm 5 0,qm 6 1,qc 7 (g "bO") [u 5,u 6],qbi 8 .geq 7 0,qm 4 8]<|.ret⟩
def cN(g:SN):bw:=⟨9,[],[.tmp 4],qS [qmc 4 (.bool Qu)]<|qS [qm 5 0,qm 6 1,qc 7 (g "bP") [u 5,u 6],qbi 8 .geq 7 0,qm 4 8]<|.ret⟩
abbrev bEu(g:SN):List ae:=[qm 67 4,qm 68 4,⟨Qr 69,on 68,Qs,[1]⟩,⟨Qr 70,obi .sub 69 1,Qs,[2,1]⟩,⟨Qr 71,oi 67 70 1,Qs,[0,3,2,1]⟩,⟨Qr 72,ol 1 71,Qs,[4,0,3,2,1]⟩,qm 73 9,⟨Qr 74,.fm (u 73) (Qr (.const (vi 1))) Qs,Qs,[6]⟩,⟨Qr 75,ob .add 72 74,Qs,[5,4,0,3,2,1,7,6]⟩,⟨Qr 76,oi 67 70 1,Qs,[8,5,4,0,3,2,1,7,6]⟩,⟨Qs,os 1 76 75,Qs,[9,8,5,4,0,3,2,1,7,6]⟩]
abbrev bDH:LN:=[]
def bDg(g:SN):ag:=.block 4 (qS [qm 52 9,qq 53 (.ixS (u 52) (ui 0)),qq 54 (.bin .eql .no (u 53) (uc (.int .u8 61))),qm 51 54]<|qC 51 (qR [qm 55 4,qm 56 9,qq 57 (.fm (u 56) (Qr (.const (vi 1))) Qs),qq 58 (.bsl 1 [(.str [])] 1 [(0,(.tmp 57))]),qa 59 1 16 55 58,qm 4 59]) (qS [qm 61 9,qq 62 (.ixS (u 61) (ui 0)),qq 63 (.bin .eql .no (u 62) (uc (.int .u8 43))),qm 64 63,qT 65 64 (om 5),qp 66 64 65,qm 60 66]<|qC 60 (.region Qt (bEu g)) (qS [qmc 2 (.sl Qt []),qmc 3 (.bool Qu)]<|.ret)))
abbrev bEv(g:SN):ag:=qS [qb 40 .lss 39 38]<|.seq (qC 40 (.skip) (.exit 2))<|.seq (.block 3 (qS [qi 41 37 39 1,ql 42 1 41,qm 9 42]<|.seq (qS [qm 43 9,qq 44 (.fg (u 43)),qbi 45 .lss 44 2,qm 46 45,qF 47 46 (om 9),qF 48 46 (.fg (u 47)),qF 49 46 (obi .gtr 48 60),qq 50 (.pick (u 46) uT (u 49))]<|qC 50 (qS [qmc 2 (.sl Qt []),qmc 3 (.bool Qu)]<|.ret) (.skip))<|.seq (bDg g)<|.region Qu [qm 77 9,qq 78 (.fg (u 77)),qbi 79 .eql 78 60,qm 5 79]))<|.region Qu [qbi 80 .add 39 1,qm 39 80]
abbrev bEw(g:SN):ag:=qS [qb 13 .lss 12 11]<|.seq (qC 13 (.skip) (.exit 0))<|.seq (.block 1 (qS [qm 14 12,qi 15 10 12 1,ql 16 1 15,qm 6 14,qm 7 16]<|.seq (qS [qm 17 7,qn 18 17,qbi 19 .lss 18 1,qm 20 19,qF 21 20 (om 7),qF 22 20 (on 21),qF 23 20 (obi .gtr 22 50),qq 24 (.pick (u 20) uT (u 23)),qm 25 24,qF 26 25 (om 6),qF 27 25 (om 0),qF 28 25 (on 27),qF 29 25 (obi .sub 28 1),qF 30 25 (ob .lss 26 29),qF 31 25 (om 30),qT 32 31 (om 7),qT 33 31 (on 32),qT 34 31 (obi .lss 33 50),qF 35 25 (op 31 34),qq 36 (.pick (u 25) uT (u 35))]<|qC 36 (qS [qmc 2 (.sl Qt []),qmc 3 (.bool Qu)]<|.ret) (.skip))<|qS [qm 37 7,qn 38 37,qmc 39 z0]<|.block 2 (.loop (bEv g))))<|.region Qu [qbi 81 .add 12 1,qm 12 81]
def bDP(g:SN):bw:=⟨86,[59],[.tmp 2,.tmp 3],qS [qmc 2 (.sl Qt []),qmc 3 (.bool Qu)]<|qS [qmc 4 (.sl Qt [])]<|qS [qmc 5 (.bool Qu)]<|.seq (qS [qm 10 0,qn 11 10,qmc 12 z0]<|.block 0 (.loop (bEw g)))<|qS [qm 82 4,qm 83 4,qn 84 83,qbi 85 .gtr 84 0,qm 2 82,qm 3 85]<|.ret⟩
section
variable {A:af}{g:SN}
theorem bGQ{α:Type}{e:α->LA}{u:AV}{q:α->Bool}(he:∀x,∃v,e x=[v]/\kJ .eql .no u v=Qr (.bool (q x))){nm:String}(h:Has A g nm (bCH g))(l:List α)(hl:l.length<=1000000000)(H:LO):aG A (g nm) [.sl Qu (l.map e),u] H=Qr (vi (aMW q l),H,[]):=by
 refine h.call ?_;simp only[bCH];simp only[go_sem,↓aB,seval,AF];refine bJ (id:=0) (fun i ρ1 H1 wr=>wr=[]/\H1=H/\ρ1 8=vi i/\∀j (hj:j<i) (hl:j<l.length),q l[j]=Qu) l.length
  (fun ρ1 H1 wr=>wr=[]/\H1=H/\∀j (hl:j<l.length),q l[j]=Qu)
  (by kernel_rfl) rfl ⟨rfl,by simp,rfl,fun j hj=>by omega⟩ ?_ ?_
 ·rintro i ρ1 H1 dc mg ⟨rfl,rfl,e8,hn⟩ hf;have e0:ρ1 0=.sl Qu (l.map e):=hf 0 rfl;have e1:ρ1 1=u:=hf 1 rfl;have e7:ρ1 7=vi l.length:=hf 7 rfl;simp only[go_sem,↓aB,seval,e8,e7];refine aD (fun hb=>?_) (fun hb=>?_)
  ·have hlt:i<l.length:=by simpa using hb
   obtain⟨v,qy,D7⟩:=he l[i];have hg:(l.map e)[i]? = Qr [v]:=by rw[<- qy];exact getElem?_map_of hlt
   have gq:(0:Int)<=(i:Int):=by omega
   have kx:((i:Int)).toNat=i:=by omega
   have zr:=wS (i:=i) (by omega);cases hc:q l[i]with
   |true=>rw[hc]at D7;simp only[go_sem,↓aB,seval,e0,e1,e8,hg,gq,kx,D7];exact (aLT (p:=q) hlt hc fun j hj=>hn j hj (by omega)).symm ▸ rfl
   |false=>
    rw[hc]at D7;simp only[go_sem,↓aB,seval,e0,e1,e8,hg,gq,kx,D7,zr];refine⟨hlt,fun j hj mo=>?_⟩;by_cases e:j=i
    ·subst e;exact hc
    exact hn j (by omega) mo
  have hi:i=l.length:=by simp at hb;omega
  subst hi;simp only[go_sem,↓aB,seval];exact fun j hj=>hn j hj hj
 rintro ρ' H' ba ⟨rfl,rfl,hn⟩ hf;simp only[go_sem,↓aB,seval,aGq (p:=q) hn]
theorem bEx(h:Has A g "bJ" (bCK g))(hi:Has A g "bO" (bCH g))(l:Str)(s:UInt8)(hs:s∈l)(hl:l.length<=1000000000)(H:LO):aG A (g "bJ") [.sl Qu (aJ l),.int .u8 (s.toNat:Int)] H=Qr (.bool Qt,H,[]):=by have mw:(l.any fun x:UInt8=>(s.toNat:Int)==(x.toNat:Int))=true:=KS.2 ⟨s,hs,by simp⟩;refine h.call ?_;rw[show aJ l=l.map aRV from rfl];simp only[bCK];simp only[go_sem,↓aB,seval,bGQ (e:=aRV) (u:=.int .u8 (s.toNat:Int)) (q:=fun x:UInt8=>(s.toNat:Int)==(x.toNat:Int)) (fun x=>⟨_,rfl,rfl⟩) hi l hl,aLU,mw]
theorem bDI(h:Has A g "bc" (cN g))(hi:Has A g "bP" (bCH g))(l:List Str)(s:Str)(hs:s∈l)(hl:l.length<=1000000000)(H:LO):aG A (g "bc") [.sl Qu (l.map aN),.str s] H=Qr (.bool Qt,H,[]):=by have mw:(l.any fun x=>s==x)=true:=KS.2 ⟨s,hs,by simp⟩;refine h.call ?_;simp only[cN];simp only[go_sem,↓aB,seval,bGQ (e:=aN) (u:=.str s) (q:=fun x=>s==x) (fun x=>⟨_,rfl,rfl⟩) hi l hl,aLU,mw]
theorem bE9{α:Type}(l:List (List α)){B:Nat}(h:∀p∈l,p.length<=B):(l.getLastD []).length<=B:=by
 rcases Cc l with rfl | ⟨a,b,rfl⟩
 ·simp
 rw[Cd]at h ⊢;simpa using h b (by simp)
theorem bF0{α:Type}{l:List α}{x:α}(h:x∈l.dropLast):x∈l:=(List.dropLast_sublist l).subset h
theorem bEE:∀(l:List Str) (B N:Nat) (r r2:List Str×Bool),(∀p∈r.1,p.length<=B)->r.1.length<=N->l.foldl bCP (Qr r)=Qr r2->(∀p∈r2.1,p.length<=B+60*l.length)/\r2.1.length<=N+l.length
 | [],B,N,r,r2,h1,h2,h=>by cases h;exact⟨by simpa using h1,by simpa using h2⟩
 |s::l,B,N,r,r2,h1,h2,h=>by
  rw[OE]at h;cases e:bCP (Qr r) s with
  |none=>rw[e,bEg]at h;cases h
  |some r3=>
   rw[e]at h;obtain⟨⟨_,hs⟩,_,c,t,rfl,h3⟩:=bEh (out:=r.1) (f:=r.2) (out2:=r3.1) (f2:=r3.2) e;have ht:t.length<=59:=by simpa using hs
   have h4:(∀p∈r3.1,p.length<=B+60)/\r3.1.length<=N+1:=by
    rcases h3 with⟨_,h3⟩ | ⟨_,_,_,h3⟩
    ·rw[h3];refine⟨fun p hp=>?_,by simp;omega⟩;rcases AY.1 hp with hp | hp
     ·have:=h1 p hp;omega
     rw[CG.1 hp];omega
    rw[h3];refine⟨fun p hp=>?_,by simp;omega⟩;rcases AY.1 hp with hp | hp
    ·have:=h1 p (bF0 hp);omega
    rw[CG.1 hp,BA];have:(r.1.getLastD []).length<=B:=bE9 r.1 h1;omega
   obtain⟨h5,h6⟩:=bEE l (B+60) (N+1) r3 r2 h4.1 h4.2 h;refine⟨fun p hp=>?_, ?_⟩
   ·have:=h5 p hp;rw[AW];omega
   rw[AW];omega
theorem bF1{l:List Str}{r:List Str×Bool}(h:bD5 l=Qr r)(s:Str):bD5 (l++[s])=bCP (Qr r) s:=by unfold bD5 at h ⊢;rw[Bx,h];rfl
theorem bFh(h:Has A g "bo" (bDP g))(L:List Str)(hL:L.length<=20000000000)(ps:List Str)(f:Bool)(hj:bD5 L=Qr (ps,f))(bl:ps≠[])(H:LO):aG A (g "bo") [.sl Qu (hU (cB L))] H=Qr (.tup [.sl Qu (ps.map aN),.bool Qt],H,[]):=by
 obtain⟨r,H',ba,e1,rfl,rfl,rfl⟩:=h.bp (args:=[.sl Qu (hU (cB L))]) (H:=H) (K:=fun r H' wr=>wr=[]/\H'=H/\r=.tup [.sl Qu (ps.map aN),.bool Qt]) (by
  have I9:=bFb L;have kq:=bE3 L;have tl:=bDX (cB L);simp only[bDP];simp only[go_sem,↓aB,seval,tl];refine bJ (id:=0) (fun k ρ1 H1 wr=>wr=[]/\ρ1 12=vi (k:Nat)/\∃x0,H1=H++[x0]/\∃(out:List Str) (fl:Bool),bD5 ((cB L).take k).flatten=Qr (out,fl)/\ρ1 5=.bool fl/\ew H.length 1 (out.map aN) (ρ1 4) x0) (cB L).length
   (fun ρ1 H1 wr=>wr=[]/\∃x0,H1=H++[x0]/\ew H.length 1 (ps.map aN) (ρ1 4) x0) (by kernel_rfl) rfl ⟨rfl,rfl,_,rfl,[],Qu,rfl,rfl,.nil _⟩ ?_ ?_
  ·rintro k ρ1 H1 dc zp ⟨rfl,e12,x0,rfl,out,fl,nh,e5,hG⟩ hf;have f0:ρ1 0=.sl Qu (hU (cB L)):=hf 0 rfl;have f10:ρ1 10=.sl Qu (hU (cB L)):=hf 10 rfl;have f11:ρ1 11=vi ((cB L).length:Nat):=hf 11 rfl;clear hf;simp only[go_sem,↓aB,seval,e12,f11];refine aD (fun e3=>?_) (fun e3=>?_)
   ·have hlt:k<(cB L).length:=by simp at e3;omega
    have pg:=wS (i:=k) (by omega);have L9:AR.wrap (((cB L).length:Int) - 1)=(((cB L).length - 1:Nat):Int):=by rw[wrap_i64 (by omega) (by omega)];omega
    have Ri:=bEA L k hlt;have cj:(hU (cB L))[k]? = Qr [.sl Qu (((L.drop (50*k)).take 50).map aN)]:=by unfold hU;rw[BN,Ri];rfl
    obtain⟨s1,s2,s3⟩:=bEQ hlt;have pk:((cB L).take (k+1)).flatten=((cB L).take k).flatten++(L.drop (50*k)).take 50:=by rw[List.take_add_one,Ri,Bz];simp
    have mz:∃rest,L=((cB L).take k).flatten++(L.drop (50*k)).take 50++rest:=⟨((cB L).drop (k+1)).flatten,by
     rw[<- pk,<- Bz,IQ,I9]⟩
    generalize hC:(L.drop (50*k)).take 50=C at *;have d1:decide ((C.length:Int)<1)=false:=by simp;omega
    have d2:decide ((C.length:Int)>50)=false:=by simp;omega
    have Se:decide (k<(cB L).length - 1)=Qu∨(decide (k<(cB L).length - 1)=Qt/\decide ((C.length:Int)<50)=Qu):=by
     by_cases h:k<(cB L).length - 1
     ·have:=s3 (by omega);exact .inr ⟨by simp;omega,by simp;omega⟩
     exact .inl (by simp;omega)
    generalize ((cB L).take k).flatten=P0 at *;obtain⟨rest,mz⟩:=mz;have Uu:P0.length+C.length<=20000000000:=by have:=congrArg FN mz;simp at this;omega
    simp only[go_sem,↓aB,seval,e12,f0,f10,cj,hlt,tl,d1,d2,AF,AU,Int.ofNat_lt,AT,L9,AD,AA,AE];rcases Se with hb | ⟨hb,d3⟩
    all_goals
     first | simp only[go_sem,↓aB,seval,hb,d3,AF] | simp only[go_sem,↓aB,seval,hb,AF]
     refine bJ (id:=2) (fun j ρ2 H2 wr=>wr=[]/\ρ2 39=vi (j:Nat)/\∃x1,H2=H++[x1]/\∃(out:List Str) (fl:Bool),bD5 (P0++C.take j)=Qr (out,fl)/\ρ2 5=.bool fl/\ew H.length 1 (out.map aN) (ρ2 4) x1) C.length
      (fun ρ2 H2 wr=>wr=[]/\∃x1,H2=H++[x1]/\∃(out:List Str) (fl:Bool),bD5 (P0++C)=Qr (out,fl)/\ρ2 5=.bool fl/\ew H.length 1 (out.map aN) (ρ2 4) x1) (by kernel_rfl) rfl ⟨rfl,rfl,x0,rfl,out,fl,by simpa using nh,e5,hG⟩ ?_ ?_
     ·rintro j ρ2 H2 en mo ⟨rfl,e39,x1,rfl,out2,fl2,Ey,e5',Ls⟩ cq;have g37:ρ2 37=.sl Qu (C.map aN):=cq 37 rfl;have g38:ρ2 38=vi (C.length:Nat):=cq 38 rfl;clear cq;simp only[go_sem,↓aB,seval,e39,g38];refine aD (fun e4=>?_) (fun e4=>?_)
      ·have jlt:j<C.length:=by simp at e4;omega
       have Kj:=wS (i:=j) (by omega);have fh:(C.map aN)[j]? = Qr [.str C[j]]:=by rw[BN,AP jlt];rfl
       have sh:P0++C.take (j+1)=P0++C.take j++[C[j]]:=by rw[EW jlt,CJ]
       obtain⟨⟨out3,fl3⟩,h3⟩:∃r,bD5 (P0++C.take (j+1))=Qr r:=bFc (b:=C.drop (j+1)++rest) (r:=(ps,f)) (by
        rw[CJ,<- CJ (C.take (j+1)),IQ,<- CJ,<- mz];exact hj)
       have D9:=h3;rw[sh,bF1 Ey]at D9;obtain⟨⟨l1,l2⟩,im,c,t,hs,r9⟩:=bEh D9;obtain⟨b1,b2⟩:=bEE (P0++C.take j) 0 0 ([],Qu) (out2,fl2) (fun p hp=>(by cases hp)) (AQ _) Ey;have Uv:(P0++C.take j).length<=20000000000:=by simp;omega
       have b2:out2.length<=20000000000:=by dsimp only at b2;omega
       have b1:∀p∈out2,p.length<=1200000000000:=fun p hp=>by have:=b1 p hp;omega
       generalize C[j]=s at *;have q1:decide ((s.length:Int)<2)=false:=by simp;omega
       have q2:decide ((s.length:Int)>60)=false:=by simp;omega
       have xu:s[0]? = Qr c:=by rw[hs];rfl
       have Fp:dU s.length (Qr (vi ((1:Nat):Int))) Qs Qs=Qr (1,s.length,s.length):=aL6 (by omega);have Fp:dU s.length (Qr (vi 1)) Qs Qs=Qr (1,s.length,s.length):=Fp;have Gg:s.drop 1=t:=by rw[hs];rfl
       have Tf:((s.length:Int)==60)=fl3:=by rw[im,Bool.eq_iff_iff,beq_iff_eq,beq_iff_eq];omega
       rcases r9 with⟨rfl,ho⟩ | ⟨hc,rfl,I9,ho⟩
       ·obtain⟨v',o',Qj,Gx⟩:=Ls.app (new:=[aN t]) (bytes:=16) (by simp) (by rfl) (by simp;omega);have a7:=Gx (H++[x1]) Qt (by simp);rw[show (H++[x1]).set H.length o'=H++[o'] by simp]at a7;simp only[aN]at a7;simp only[go_sem,↓aB,seval,e39,g37,AU,AT,jlt,fh,q1,q2,AD,AA,AE];simp only[bDg];simp only[go_sem,↓aB,seval,xu,Fp,Gg,a7,DM];simp only[go_sem,↓aB,seval,e39,Kj,Tf];exact⟨jlt,_,rfl,out3,fl3,h3,rfl,by rw[ho,DQ];exact Qj⟩
       have ud:=bFN (l:=P0++C.take j) (by rw[Ey,I9]);obtain⟨a,p,rfl⟩:∃a p,out2=a++[p]:=by
        rcases Cc out2 with e | ⟨a,p,e⟩
        ·exact Zw e ud
        exact⟨a,p,by rw[e,Cd]⟩
       have ho:out3=a++[p++t]:=by rw[ho];simp
       have y8:=b1 p (by simp);obtain⟨ver,Sj,rfl⟩:=Ls.inv (by simp);have j8:a.length<=20000000000:=by simp at b2;omega
       have Ba:AR.wrap (((a.length+1:Nat):Int) - 1)=(a.length:Int):=by rw[wrap_i64 (by omega) (by omega)];omega
       have Mb:kJ .add .no (.str p) (.str t)=Qr (.str (p++t)):=kE (by
        have:t.length<=60:=by rw[hs]at l2;simp at l2;omega
        omega)
       have gu:((a++[p]).map aN).length=a.length+1:=by simp
       have V8:((a++[p]).map aN)[a.length]? = Qr [.str p]:=by simp[aN]
       have bd:((a++[p]).map aN).set a.length [.str (p++t)]=(a++[p++t]).map aN:=by simp[aN]
       rw[gu]at Sj;have Qr:(a.length:Int)<((a.length+1:Nat):Int):=by omega
       have cr:a.length<a.length+1:=by omega
       have Sk:fl2=true:=I9;subst Sk;generalize Uw:(a++[p]).map aN=rows at *;simp only[go_sem,↓aB,seval,e39,g37,AU,AT,jlt,fh,q1,q2,AD,AA,AE];simp only[bDg];simp only[go_sem,↓aB,seval,xu,e5'];refine aY (aq:=bDH) (by rfl) (by rfl) ?_;simp only[go_sem,↓aB,seval,bDH,Sj,Ba,gu,V8,bd,Mb,Fp,Gg,Qr,AU,AT,DM,AD,AA,AE];simp only[go_sem,↓aB,seval,e39,Kj,Tf];refine⟨jlt,_,rfl,out3,fl3,h3,rfl, ?_⟩;rw[ho];have:(a++[p++t]).map aN=(a++[p++t]).map aN:=rfl;have Ud:a.length+1=((a++[p++t]).map aN).length:=by simp
       rw[Sj,Ud];exact ew.obj _ _
      have:j=C.length:=by simp at e4;omega
      subst this;rw[DM]at Ey;simp only[go_sem,seval];exact⟨x1,rfl,out2,fl2,Ey,e5',Ls⟩
     rintro ρ3 H3 wr3 ⟨rfl,x1,rfl,out2,fl2,Ey,e5',Ls⟩ cq;have g12:ρ3 12=vi (k:Nat):=(cq 12 rfl).trans e12;simp only[go_sem,↓aB,seval,g12,pg];exact⟨hlt,x1,rfl,out2,fl2,by rw[pk];exact Ey,e5',Ls⟩
   have:k=(cB L).length:=by simp at e3;omega
   subst this;rw[DM,I9,hj]at nh;cases nh;simp only[go_sem,seval];exact⟨x0,rfl,hG⟩
  rintro ρ' H' ba ⟨rfl,x0,rfl,hG⟩ hf;have ya:ps.map aN≠[]:=by simpa using bl
  have hd:gG (ps.map aN)=true:=aC bO _;have kj:0<(ps.map aN).length:=MY.2 ya;generalize ps.map aN=rows at *;generalize hv:ρ' 4=v at *;cases hG with
  |nil=>exact Zw rfl ya
  |obj ver=>
   have V8:decide ((rows.length:Int)>0)=true:=by simp;omega
   simp only[go_sem,↓aB,seval,hv,V8,aT hd,aA hd]
   done)
 exact e1
end
abbrev bF2(g:SN):List ae:=[qm 33 4,qm 34 8,⟨Qr 35,oi 33 34 1,Qs,[0,1]⟩,⟨Qr 36,ol 1 35,Qs,[2,0,1]⟩,⟨Qr 37,.ixS (u 36) (ui 0),Qs,[3,2,0,1]⟩,qm 38 4,qm 39 8,⟨Qr 40,oi 38 39 1,Qs,[5,6]⟩,⟨Qr 41,ol 1 40,Qs,[7,5,6]⟩,⟨Qr 42,.fm (u 41) (Qr (.const (vi 1))) Qs,Qs,[8,7,5,6]⟩,⟨Qr 9,om 37,Qs,[4,3,2,0,1]⟩,⟨Qr 10,om 42,Qs,[9,8,7,5,6,10,4,3,2,0,1]⟩]
abbrev bEa:LN:=[]
abbrev bF3(g:SN):List ae:=[qm 43 7,qm 44 9,⟨Qr 45,.look (.str []) (u 43) (u 44) Qu,Qs,[0,1]⟩,⟨Qr 46,.conv .s2b (u 45),Qs,[2,0,1]⟩,qm 47 4,qm 48 8,⟨Qr 49,obi .sub 48 1,Qs,[5]⟩,⟨Qr 50,oi 47 49 1,Qs,[4,6,5]⟩,⟨Qr 51,ol 1 50,Qs,[7,4,6,5]⟩,⟨Qr 52,.ixS (u 51) (ui 0),Qs,[8,7,4,6,5]⟩,⟨Qr 53,oc (g "bJ") [u 46,u 52],Qs,[3,2,0,1,9,8,7,4,6,5]⟩,⟨Qr 54,.un .not (u 53),Qs,[10,3,2,0,1,9,8,7,4,6,5]⟩]
abbrev bEb:LN:=[]
def bEc(g:SN):ag:=.block 2 (qS [qq 57 (.bin .eql .no (u 55) (uc (.int .u8 73))),qm 56 57]<|qC 56 (.seq (.frz [(1,6)])<|.region Qu [qm 58 6,qq 59 (.bsl 1 [.ar] 1 [(0,(.const .ar))]),qa 60 1 24 58 59,qm 6 60]) (qS [qq 62 (.bin .eql .no (u 55) (uc (.int .u8 70))),qm 61 62]<|qC 61 (qR [qm 63 6,qm 64 6,qn 65 64,qbi 66 .sub 65 1,qm 67 6,qm 68 6,qn 69 68,qbi 70 .sub 69 1,qi 71 67 70 1,ql 72 1 71,qm 73 10,qq 74 (.bsl 1 [(.str [])] 1 [(0,(.tmp 73))]),qa 75 1 16 72 74,qi 76 63 66 1,qs 1 76 75]) (qS [qq 78 (.bin .eql .no (u 55) (uc (.int .u8 66))),qm 77 78]<|qC 77 (qR [qm 79 5,qm 80 79,qT 81 80 (oc (g "W") []),qT 82 80 (om 10),qT 83 80 (oc (g "bc") [u 81,u 82]),qp 84 80 83,qm 5 84]) (qS [qq 86 (.bin .eql .no (u 55) (uc (.int .u8 81))),qm 85 86]<|qC 85 (qR [qm 87 5,qm 88 87,qT 89 88 (oc (g "V") []),qT 90 88 (om 10),qT 91 88 (oc (g "bc") [u 89,u 90]),qp 92 88 91,qm 93 92,qT 94 93 (om 8),qT 95 93 (obi .add 94 1),qT 96 93 (om 4),qT 97 93 (on 96),qT 98 93 (ob .lss 95 97),qp 99 93 98,qm 100 99,qT 101 100 (om 4),qT 102 100 (om 8),qT 103 100 (obi .add 102 1),qT 104 100 (oi 101 103 1),qT 105 100 (ol 1 104),qT 106 100 (.ixS (u 105) (ui 0)),qT 107 100 (.bin .eql .no (u 106) (uc (.int .u8 82))),qp 108 100 107,qm 5 108]) (qS [qq 110 (.bin .eql .no (u 55) (uc (.int .u8 82))),qm 109 110]<|qC 109 (qR [qm 111 5,qm 112 111,qT 113 112 (om 10),qT 114 112 (.fg (u 113)),qT 115 112 (obi .gtr 114 0),qp 116 112 115,qm 117 116,qT 118 117 (om 10),qT 119 117 (.ixS (u 118) (ui 0)),qT 120 117 (.bin .eql .no (u 119) (uc (.int .u8 48))),qT 121 117 (om 120),qF 122 121 (om 10),qF 123 121 (.ixS (u 122) (ui 0)),qF 124 121 (.bin .eql .no (u 123) (uc (.int .u8 49))),qT 125 117 (.pick (u 121) uT (u 124)),qp 126 117 125,qm 5 126]) (.skip))))))
abbrev bF4(g:SN):ag:=.seq (qS [qm 27 8,qm 28 4,qn 29 28,qb 30 .lss 27 29]<|qC 30 (.skip) (.exit 0))<|.seq (.block 1 (.seq (.region Qt (bF2 g))<|.seq (.seq (.region Qt (bF3 g))<|qC 54 (qS [qmc 2 .ar,qmc 3 (vi 2)]<|.ret) (.skip))<|.seq (qS [qm 55 9]<|bEc g)<|qS [qm 127 5,qq 128 (.un .not (u 127))]<|qC 128 (qS [qmc 2 .ar,qmc 3 (vi 2)]<|.ret) (.skip)))<|.region Qu [qm 31 8,qbi 32 .add 31 1,qm 8 32]
def bF5(g:SN):bw:=⟨130,[25,60,75],[.tmp 2,.tmp 3],qS [qmc 2 .ar,qmc 3 z0]<|qS [qm 12 0,qc 13 (g "bo") [u 12],qm 11 13,qq 14 (.ext 0 (u 11)),qq 15 (.ext 1 (u 11)),qm 4 14,qm 5 15]<|.seq (qS [qm 16 5,qq 17 (.un .not (u 16)),qm 18 17,qF 19 18 (om 4),qF 20 18 (.iaV (u 19) (ui 0) 1),qF 21 18 (ol 1 20),qF 22 18 (.ixS (u 21) (ui 0)),qF 23 18 (.bin .neq .no (u 22) (uc (.int .u8 84))),qq 24 (.pick (u 18) uT (u 23))]<|qC 24 (qS [qmc 2 .ar,qmc 3 (vi 2)]<|.ret) (.skip))<|qS [qmc 6 .ar]<|qS [qq 25 (.jn),qz (.ins (u 25) (uc (.int .u8 73)) (uc (.str [84,73,66,70,82,79]))),qz (.ins (u 25) (uc (.int .u8 66)) (uc (.str [73,66]))),qz (.ins (u 25) (uc (.int .u8 70)) (uc (.str [73,66,70]))),qz (.ins (u 25) (uc (.int .u8 81)) (uc (.str [73,66,70,82,79]))),qz (.ins (u 25) (uc (.int .u8 82)) (uc (.str [81,82]))),qz (.ins (u 25) (uc (.int .u8 79)) (uc (.str [82,79]))),qm 26 25,qm 7 26]<|.seq (qS [qmc 8 (vi 1)]<|.block 0 (.loop (bF4 g)))<|.seq (.seq (.frz [(0,6)])<|.region Qu [qm 129 6,qm 2 129,qmc 3 z0])<|.ret⟩
def fc(r:List Str):AV:=if r=[] then .ar else .sl Qu (r.map aN)
def bCF(R:List (List Str)):List LA:=R.map fun r=>[fc r]
theorem bDw(R:List (List Str))(r:List Str):bCF (R++[r])=bCF R++[[fc r]]:=by unfold bCF;rw[DQ];rfl
theorem bD0(R:List (List Str)):(bCF R).length=R.length:=by unfold bCF;rw[AF]
theorem bGB:fc []=.ar:=rfl
theorem bGb{r:List Str}(h:r≠[]):fc r=.sl Qu (r.map aN):=Zx h
theorem bDY(r:List Str):fc r=.ar∨∃rows,fc r=.sl Qu rows/\gG rows=true:=by
 by_cases h:r=[]
 ·rw[h];exact .inl rfl
 exact .inr ⟨_,bGb h,aC bO _⟩
theorem bGC(H:LO)(r:List Str):fix H (.agg [fc r])=Qr (.agg [fc r],H,[]):=by rcases bDY r with h | ⟨rows,h,_⟩<;>rw[h]<;>rfl
theorem bEf(H:LO)(rows:List LA):∀a:List (List Str),aLw H (bCF a++rows)=match aLw H rows with
  |some (r',H',l)=>Qr (bCF a++r',H',l)
  |none=>Qs
 | []=>by
  show aLw H rows=_;cases aLw H rows with
  |none=>rfl
  |some x=>rfl
 |r::a=>by
  have e:bCF (r::a)++rows=[fc r]::(bCF a++rows):=rfl;rw[e,aLw,bGC];dsimp only;rw[bEf H rows a];cases aLw H rows with
  |none=>rfl
  |some x=>rfl
theorem bEp(a:List (List Str)):(bCF a).all (fun r=>r.all AV.still)=true:=by unfold bCF;rw[AO];intro x hx;obtain⟨r,_,rfl⟩:=DB.1 hx;rcases bDY r with h | ⟨rows,h,_⟩<;>simp[h,AV.still]
theorem bE5(a:List (List Str)):(bCF a).all (fun r=>r.all AV.ak)=true:=by unfold bCF;rw[AO];intro x hx;obtain⟨r,_,rfl⟩:=DB.1 hx;rcases bDY r with h | ⟨rows,h,_⟩<;>simp[h,AV.ak]
theorem bFi(n:Nat)(a:List (List Str)):eR n (bCF a)=true:=by
 induction a with
 |nil=>rfl
 |cons r a ih=>
  show (dJ n [fc r]&&eR n (bCF a))=Qt;rw[ih];rcases bDY r with h | ⟨rows,h,hd⟩
  ·rw[h];rfl
  rw[h];simp[dJ,AV.under,aA hd]
def bGu(H:LO)(out:List (List Str))(t:AV)(x1 x2:ah):Prop:=(out=[]/\t=.ar)∨∃a r ver w,out=a++[r]/\t=.sr (H.length+1) ver (a.length+1)/\x1=.vec ver 1 (bCF a++[[w]]) /\
 ((r=[]/\w=.ar)∨(r≠[]/\∃ver2,w=.sr (H.length+2) ver2 r.length/\x2=.vec ver2 1 (r.map aN)))
theorem bGc{H:LO}{m x1 x2:ah}{out:List (List Str)}{t:AV}(h:bGu H out t x1 x2):∃x1' x2' l,pE (H++[m,x1,x2]) t=Qr (H++[m,x1',x2'],l)/\(∀y∈l,H.length<=y) /\ ((out=[]/\t=.ar)∨(out≠[]/\∃ver,t=.sr (H.length+1) ver out.length/\x1'=.vec ver 1 (bCF out))):=by
 rcases h with⟨rfl,rfl⟩ | ⟨a,r,ver,w,rfl,rfl,rfl,hw⟩
 ·exact⟨x1,x2,[],rfl,fun y hy=>(by cases hy),.inl ⟨rfl,rfl⟩⟩
 have ax:(bCF a++[[w]]).length=a.length+1:=by rw[BA,bD0];rfl
 have gz:(a++[r]).length=a.length+1:=by simp
 rcases hw with⟨rfl,rfl⟩ | ⟨hr,ver2,rfl,rfl⟩
 ·refine⟨.vec ver 1 (bCF (a++[[]])),x2,[H.length+1], ?_,fun y hy=>by rw[CG.1 hy];omega,.inr ⟨by simp,ver,by rw[gz],rfl⟩⟩;have e:bCF a++[[AV.ar]]=bCF (a++[[]]):=by rw[bDw];rfl
  rw[e]at ax ⊢;unfold pE;dsimp only;rw[bX];dsimp only[CT,BG];rw[Zy ⟨rfl,ax⟩];have:=bEf (H++[m,.vec ver 1 (bCF (a++[[]])),x2]) [] (a++[[]]);rw[AJ]at this;rw[this];simp only[aLw,AJ];rw[Zy ⟨rfl,bE5 _⟩,eS];rfl
 refine⟨.vec ver 1 (bCF (a++[r])),.gone ver2,[H.length+2,H.length+1], ?_,fun y hy=>by simp at hy;omega,.inr ⟨by simp,ver,by rw[gz],rfl⟩⟩;unfold pE;dsimp only;rw[bX];dsimp only[CT,BG];rw[Zy ⟨rfl,ax⟩,bEf];have bd:(r.map aN).all (fun r=>r.all AV.still)=true:=aT (aC bO r);have h1:fix (H++[m,.vec ver 1 (bCF a++[[.sr (H.length+2) ver2 r.length]]),.vec ver2 1 (r.map aN)]) (.agg [.sr (H.length+2) ver2 r.length])=Qr (.agg [.sl Qu (r.map aN)],H++[m,.vec ver 1 (bCF a++[[.sr (H.length+2) ver2 r.length]]),.gone ver2],[H.length+2]):=by simp[fix,dw,aIQ,aA2,bd,dL,AV.strip,AV.aj,ah.ver]
 simp only[aLw,h1];rw[<- bGb hr,<- bDw,Zy ⟨by simp,bE5 _⟩,eS];rfl
def bF6(out:List (List Str)):AV:=if out=[] then .ar else .sl Qu (bCF out)
theorem bGd{H:LO}{m x1 x2:ah}{out:List (List Str)}{t:AV}(h:bGu H out t x1 x2):∃x1' x2' l,aVH (H++[m,x1,x2]) t=Qr (bF6 out,H++[m,x1',x2'],l)/\∀y∈l,H.length<=y:=by
 rcases h with⟨rfl,rfl⟩ | ⟨a,r,ver,w,rfl,rfl,rfl,hw⟩
 ·exact⟨x1,x2,[],rfl,fun y hy=>(by cases hy)⟩
 have ax:(bCF a++[[w]]).length=a.length+1:=by rw[BA,bD0];rfl
 have kp:bF6 (a++[r])=.sl Qu (bCF (a++[r])):=Zx (by simp);rw[kp];rcases hw with⟨rfl,rfl⟩ | ⟨hr,ver2,rfl,rfl⟩
 ·have e:bCF a++[[AV.ar]]=bCF (a++[[]]):=by rw[bDw];rfl
  rw[e]at ax ⊢;refine⟨.gone ver,x2,[H.length+1], ?_,fun y hy=>by rw[CG.1 hy];omega⟩;have bd:=bEp (a++[[]]);simp[aVH,fix,dw,aA2,ax,bd,dL,AV.strip,AV.aj,ah.ver]
 refine⟨.gone ver,.gone ver2,[H.length+2,H.length+1,H.length+1], ?_,fun y hy=>by simp at hy;omega⟩;have bd:(r.map aN).all (fun r=>r.all AV.still)=true:=aT (aC bO r);have U7:(bCF a++[[AV.sr (H.length+2) ver2 r.length]]).all (fun r=>r.all AV.still)=false:=by rw[List.all_append];simp[AV.still]
 have h1:fix (H++[m,.vec ver 1 (bCF a++[[.sr (H.length+2) ver2 r.length]]),.vec ver2 1 (r.map aN)]) (.agg [.sr (H.length+2) ver2 r.length])=Qr (.agg [.sl Qu (r.map aN)],H++[m,.vec ver 1 (bCF a++[[.sr (H.length+2) ver2 r.length]]),.gone ver2],[H.length+2]):=by simp[fix,dw,aIQ,aA2,bd,dL,AV.strip,AV.aj,ah.ver]
 have h0:fix (H++[m,.vec ver 1 (bCF a++[[.sr (H.length+2) ver2 r.length]]),.vec ver2 1 (r.map aN)]) (.sr (H.length+1) ver (a.length+1))=none:=by simp[fix,dw,aA2,U7]
 unfold aVH;rw[h0];dsimp only;unfold aA3;dsimp only;rw[bX];dsimp only[CT,BG];rw[Zy ⟨rfl,ax⟩,bEf];simp only[aLw,h1];rw[<- bGb hr,<- bDw,Zy ⟨by simp,bE5 _⟩,eS];have Sl:=bEp (a++[r]);have Ax:(bCF (a++[r])).length=a.length+1:=by rw[bD0];simp
 simp[fix,dw,aA2,Ax,Sl,dL,AV.strip,AV.aj,ah.ver]
def bGN:List (AV×AV):=[(.int .u8 73,.str [84,73,66,70,82,79]),(.int .u8 66,.str [73,66]),(.int .u8 70,.str [73,66,70]),(.int .u8 81,.str [73,66,70,82,79]),(.int .u8 82,.str [81,82]),(.int .u8 79,.str [82,79])]
abbrev bGv:ah:=.map 1 bGN
section
variable {A:af}{g:SN}
structure j0(A:af)(g:SN):Prop where
 blocks:Has A g "W" (bDr g)
 asks:Has A g "V" (bDW g)
 Sm:Has A g "bJ" (bCK g)
 Sn:Has A g "bO" (bCH g)
 Bb:Has A g "bc" (cN g)
 Rj:Has A g "bP" (bCH g)
 join:Has A g "bo" (bDP g)
 read:Has A g "bX" (bF5 g)
theorem bFW{H:LO}{out:List (List Str)}{t:AV}{x1:ah}(h:(out=[]/\t=.ar)∨(out≠[]/\∃ver,t=.sr (H.length+1) ver out.length/\x1=.vec ver 1 (bCF out)))(hl:out.length<=20000000000)(m x2:ah):∃t' x1',eX (H++[m,x1,x2]) (Qr (H.length+1)) 1 24 t (.sl Qt [[.ar]])=Qr (t',H++[m,x1',x2],[H.length+1])/\bGu H (out++[[]]) t' x1' x2:=by
 have hr:bP (out.length+1) 24=true:=by unfold bP;simp;omega
 rcases h with⟨rfl,rfl⟩ | ⟨bl,ver,rfl,rfl⟩
 ·refine⟨_,_, ?_,.inr ⟨[],[],x1.ver+1,.ar,rfl,rfl,rfl,.inl ⟨rfl,rfl⟩⟩⟩;have gj:bP 1 24=true:=by decide
  simp[eX,cG,dO,dF,gj,bH,make,bCF]
 refine⟨_,_, ?_,.inr ⟨out,[],ver,.ar,rfl,rfl,rfl,.inl ⟨rfl,rfl⟩⟩⟩;simp[eX,cG,dO,dF,hr,bD0]
end
end Go.AM
end
