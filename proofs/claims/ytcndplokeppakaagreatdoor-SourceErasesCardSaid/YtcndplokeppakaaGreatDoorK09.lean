/- Part 9: lemmas for the last text. -/
import Derived.Test.YtcndplokeppakaaGreatDoorK03
import Derived.Test.YtcndplokeppakaaGreatDoorK07
import Derived.Test.YtcndplokeppakaaGreatDoorK08
import Derived.Lib.AtoiAll
set_option linter.unusedVariables false
set_option linter.unusedSimpArgs false
set_option maxHeartbeats 6400000
set_option maxRecDepth 100000
open Bool renaming and_eq_true -> AI, or_eq_false_iff -> MO, true_and -> BR, true_or -> EP, true_beq -> CE, false_or -> II, false_beq -> BB, false_and -> BQ, true -> QS, false -> QT
open Go.BinOp renaming eql -> JT
open Go.IntKind renaming i64 -> AR, wrap_i64 -> PW
open Int renaming tmod_nonneg -> HV, tmod_lt_of_pos -> GX, eq_ofNat_of_zero_le -> DN, le_trans -> Jo, tmod_eq_emod_of_nonneg -> Ai, toNat_natCast -> AT, natCast_nonneg -> AU
open List renaming map -> DR, mem_cons -> BD, not_mem_nil -> CC, length -> FN, take -> FW, take_of_length_le -> CH, length_map -> AF, range -> GZ, mem_flatMap -> IM, mem_range -> HE, mem_map -> DB, all_eq_true -> AO, replicate -> AX, length_cons -> AW, nodup_append -> NO, mem_singleton -> CG, any_eq_false -> KH, mem_of_getElem? -> AN, getElem?_eq_some_iff -> AH, getElem?_map -> BN, length_append -> BA, map_take -> Pu, append_nil -> AJ, map_cons -> BI, map_nil -> BY, getElem?_eq_getElem -> AP, headD_cons -> ON, mem_filter -> OK, length_replicate -> MI, drop -> KW, map_set -> ME, length_pos_iff -> MY, eq_of_mem_replicate -> OX, drop_zero -> AD, drop_succ_cons -> AB, take_succ_cons -> AA, take_zero -> AE, getElem_mem -> AS, any_eq_true -> KS, getElem?_cons_zero -> BG, getElem?_cons_succ -> CT, take_succ_eq_append_getElem -> EW, take_length -> DM, drop_eq_getElem_cons -> FD, mem_append -> AY, getElem_map -> Qf, mem_cons_of_mem -> BZ
open List.Nodup renaming sublist -> QF
open List.cons renaming injEq -> JG
open Nat renaming pow_succ -> PL, le_refl -> AQ, le_trans -> HX, zero_le -> FF, le_succ_of_le -> Is, zero_add -> BC
open Option renaming some -> QQ, none -> N2
open Option.some renaming injEq -> AG
section
namespace Go.AM
open Go
def gQ(g:SN):bw:=⟨47,[2],[.cell 2 2 QS],qS [qq 2 (.alloc [z0,(.sl QS [])])]<|qS [qq 6 (.bsl 1 [z0] 5 [(0,(.const (vi 3))),(1,(.const (vi 3))),(2,(.const (vi 4))),(3,(.const (vi 5))),(4,(.const (vi 6)))]),qm 7 0,qc 8 (g "a") [u 7,ui 5],qi 9 6 8 1,ql 10 1 9,qm 3 10]<|qS [qq 11 (.bsl 1 [z0] 6 [(0,(.const z0)),(1,(.const (vi 5))),(2,(.const (vi 99))),(3,(.const (vi 123))),(4,(.const (vi 1005))),(5,(.const (vi 47)))]),qm 12 0,qc 13 (g "a") [u 12,ui 6],qi 14 11 13 1,ql 15 1 14,qm 4 15]<|qS [qq 16 (.bsl 1 [z0] 6 [(0,(.const (vi 3))),(1,(.const (vi 9))),(2,(.const (vi 12))),(3,(.const (vi 58))),(4,(.const (vi 1))),(5,(.const (vi 70)))]),qm 17 0,qc 18 (g "a") [u 17,ui 6],qi 19 16 18 1,ql 20 1 19,qm 5 20]<|.seq (qS [qm 21 3,qbi 22 .eql 21 4]<|qC 22 (qS [qm 23 3,qm 24 4,qm 25 5,qb 26 .add 24 25,qm 27 5,qq 28 (.bsl 1 [z0] 2 [(0,(.tmp 26)),(1,(.tmp 27))]),qq 29 (.build [z0,(.sl QS [])] [(0,1,(.tmp 23)),(1,1,(.tmp 28))]),qs 2 2 29]<|.ret) (.skip))<|.seq (qS [qm 30 3,qbi 31 .eql 30 3,qm 32 31,qT 33 32 (om 0),qT 34 32 (oc (g "a") [u 33,ui 3]),qT 35 32 (obi .eql 34 0),qp 36 32 35]<|qC 36 (qS [qm 37 3,qm 38 4,qm 39 5,qq 40 (.bsl 1 [z0] 3 [(0,(.tmp 38)),(1,(.tmp 39)),(2,(.const (vi 808)))]),qq 41 (.build [z0,(.sl QS [])] [(0,1,(.tmp 37)),(1,1,(.tmp 40))]),qs 2 2 41]<|.ret) (.skip))<|qS [qm 42 3,qm 43 4,qm 44 5,qq 45 (.bsl 1 [z0] 2 [(0,(.tmp 43)),(1,(.tmp 44))]),qq 46 (.build [z0,(.sl QS [])] [(0,1,(.tmp 42)),(1,1,(.tmp 45))]),qs 2 2 46]<|.ret⟩
abbrev lY(g:SN):ag:=.seq (qS [qm 20 8,qm 21 5,qb 22 .lss 20 21]<|qC 22 (.skip) (.exit 2))<|.seq (.block 3 (qR [qm 25 7,qm 26 0,qc 27 (g "i") [u 26],qq 28 (.bsl 1 [(.str [])] 1 [(0,(.tmp 27))]),qa 29 1 16 25 28,qm 7 29]))<|.region QT [qm 23 8,qbi 24 .add 23 1,qm 8 24]
abbrev uP:LN:=[20,21,22,25,26,27,28,29,7,23,24,8]
abbrev uQ(g:SN):ag:=.seq (qS [qm 15 6,qm 16 4,qb 17 .lss 15 16]<|qC 17 (.skip) (.exit 0))<|.seq (.block 1 (qS [qmc 7 (.sl QS [])]<|.seq (qS [qmc 8 z0]<|.block 2 (.loop (lY g)))<|.region QT [qf 30 0 3,ql 31 1 30,qm 32 7,qq 33 (.bsl 1 [(.sl QT [])] 1 [(0,(.tmp 32))]),qa 34 1 24 31 33,qf 35 0 3,qs 1 35 34]))<|.region QT [qm 18 6,qbi 19 .add 18 1,qm 6 19]
def gC(g:SN):bw:=⟨37,[2,3,29,34],[.cell 2 1 QS],qS [qq 2 (.alloc [(.sl QS [])])]<|qS [qq 3 (.alloc [(.sl QS [])])]<|qS [qm 9 0,qc 10 (g "a") [u 9,ui 3],qq 11 (.bin .add .no (ui 1) (u 10)),qm 4 11]<|qS [qm 12 0,qc 13 (g "a") [u 12,ui 3],qq 14 (.bin .add .no (ui 1) (u 13)),qm 5 14]<|.seq (qS [qmc 6 z0]<|.block 0 (.loop (uQ g)))<|qS [qla 36 1 3,qs 1 2 36]<|.ret⟩
abbrev uR(g:SN):List ae:=[qf 39 2 7,⟨QQ 40,ol 1 39,N2,[0]⟩,qm 41 0,qm 42 1,⟨QQ 43,obi .sub 42 1,N2,[3]⟩,⟨QQ 44,oc (g "n") [u 41,u 43],N2,[2,4,3]⟩,⟨QQ 45,.bsl 3 [z0,z0,(.sl QT [])] 1 [(0,(.tmp 44))],N2,[5,2,4,3]⟩,⟨QQ 46,oa 3 40 40 45,N2,[1,0,6,5,2,4,3]⟩,⟨QQ 47,of 2 7,N2,[7,1,0,6,5,2,4,3]⟩,⟨N2,os 1 47 46,N2,[8,7,1,0,6,5,2,4,3]⟩]
abbrev lZ:LN:=[1,5]
abbrev uS(g:SN):ag:=.seq (qS [qm 33 8,qm 34 6,qc 35 (g "aG") [u 34],qb 36 .lss 33 35]<|qC 36 (.skip) (.exit 0))<|.seq (.block 1 (.region QS (uR g)))<|.region QT [qm 37 8,qbi 38 .add 37 1,qm 8 38]
def gD(g:SN):bw:=⟨49,[4,7,46],[.cell 4 3 QS],qS [qq 4 (.alloc [z0,z0,(.sl QS [])])]<|qS [qm 9 0,qc 10 (g "a") [u 9,ui 12],qm 5 10]<|.seq (qS [qm 11 1,qbi 12 .leq 11 0]<|qC 12 (qR [qm 13 5,qbi 14 .rem 13 3,qm 5 14]) (.skip))<|.seq (qS [qm 15 5,qbi 16 .lss 15 2]<|qC 16 (qS [qq 17 (.bsl 1 [z0] 6 [(0,(.const z0)),(1,(.const (vi 1))),(2,(.const (vi 7))),(3,(.const (vi 12))),(4,(.const (vi 100))),(5,(.const (vi 999999)))]),qm 18 0,qc 19 (g "a") [u 18,ui 6],qi 20 17 19 1,ql 21 1 20,qq 22 (.build [z0,z0,(.sl QS [])] [(0,1,(.const z0)),(1,1,(.tmp 21))]),qs 3 4 22]<|.ret) (.skip))<|.seq (qS [qm 23 5,qbi 24 .eql 23 2]<|qC 24 (qS [qm 25 0,qc 26 (g "a") [u 25,ui 4],qq 27 (.build [z0,z0,(.sl QS [])] [(0,1,(.const (vi 1))),(1,1,(.tmp 26))]),qs 3 4 27]<|.ret) (.skip))<|qS [qm 28 0,qc 29 (g "a") [u 28,ui 7],qq 30 (.bin .add .no (ui 2) (u 29)),qm 6 30]<|qS [qm 31 6,qq 32 (.build [z0,z0,(.sl QS [])] [(0,1,(.tmp 31))]),qq 7 (.alloc [z0,z0,(.sl QS [])]),qs 3 7 32]<|.seq (qS [qmc 8 z0]<|.block 0 (.loop (uS g)))<|qS [qla 48 3 7,qs 3 4 48]<|.ret⟩
abbrev uU(g:SN):List ae:=[qm 13 0,⟨QQ 14,oc (g "a") [u 13,ui 2],N2,[0]⟩,⟨QQ 15,.bin .add .no (ui 9) (u 14),N2,[1,0]⟩,qla 16 3 5,qm 17 0,qm 18 1,⟨QQ 19,obi .sub 18 1,N2,[5]⟩,⟨QQ 20,oc (g "n") [u 17,u 19],N2,[4,6,5,1,0]⟩,⟨QQ 21,.bsl 3 [z0,z0,(.sl QT [])] 2 [(0,(.tmp 16)),(1,(.tmp 20))],N2,[3,7,4,6,5,1,0]⟩,⟨QQ 22,.build [z0,z0,(.sl QS [])] [(0,1,(.tmp 15)),(2,1,(.tmp 21))],N2,[2,8,3,7,4,6,5,1,0]⟩,⟨N2,os 3 4 22,N2,[9,2,8,3,7,4,6,5,1,0]⟩]
abbrev mA:LN:=[1,3,7]
def gE(g:SN):bw:=⟨26,[4,5],[.cell 4 3 QS],qS [qq 4 (.alloc [z0,z0,(.sl QS [])])]<|.seq (qS [qm 6 0,qc 7 (g "a") [u 6,ui 4],qbi 8 .eql 7 0]<|qC 8 (qS [qm 9 0,qm 10 1,qbi 11 .sub 10 1,qc 12 (g "n") [u 9,u 11],qq 5 (.alloc [z0,z0,(.sl QS [])]),qs 3 5 12]<|.seq (.region QS (uU g))<|.ret) (.skip))<|qS [qm 23 0,qm 24 1,qc 25 (g "n") [u 23,u 24],qs 3 4 25]<|.ret⟩
abbrev bKu(op:Int)(a:List Int):Prop:=∃x y r,a=x::y::r/\(op≠3->r=[])/\(op=4->y<=x)/\y≠0
abbrev bIk(op:Int)(a:List Int):Prop:=(3<=op/\op<=6)/\(1<=a.length/\a.length<=3)/\(∀n∈a,0<=n/\n<=999999)/\bKu op a
abbrev aVw(v:AV):Prop:=∃(op:Int) (a:List Int),v=.agg [vi op,.sl QT (a.map bF)]/\bIk op a
theorem aVx{A:af}{g:SN}(h:Has A g "ay" (gQ g))(ht:fR A g):dI A (g "ay") [] aVw:=by
 refine h.gen (by simp[gQ]) (fun n=>bIv) ?_;intro l i o v H hl hlt ho;simp only[gQ];simp only[go_sem,seval];refine bB (bA ht (m:=5) deT) hl (i:=i) (by grind) ?_;rintro val i1 ⟨x,rfl,jr,lz⟩;obtain⟨op,Qx,cx⟩:=aQk [3,3,4,5,6] jr lz;simp only[DR,bF]at cx;have Bv:3<=op/\op<=6:=by have:∀n∈([3,3,4,5,6]:List Int),3<=n/\n<=6:=deT;grind
 simp only[go_sem,seval,hlt,fN,jr,cx];refine bB (bA ht (m:=6) deT) hl (i:=i1) (by simp only[go_sem,seval,aP,hlt]) ?_;rintro val i2 ⟨y,rfl,oj,tc⟩;obtain⟨a,ha,wm⟩:=aQk [0,5,99,123,1005,47] oj tc;simp only[DR,bF]at wm;have Pb:0<=a/\a<=1005:=by have:∀n∈([0,5,99,123,1005,47]:List Int),0<=n/\n<=1005:=deT;grind
 simp only[go_sem,seval,hlt,aR,oj,wm];refine bB (bA ht (m:=6) deT) hl (i:=i2) (by simp only[go_sem,seval,aP,hlt]) ?_;rintro val i3 ⟨z,rfl,me,rr⟩;obtain⟨b,hb,M8⟩:=aQk [3,9,12,58,1,70] me rr;simp only[DR,bF]at M8;have V5:1<=b/\b<=70:=by have:∀n∈([3,9,12,58,1,70]:List Int),1<=n/\n<=70:=deT;grind
 have hw:AR.wrap (a+b)=a+b:=wrap_i64 omT omT;have fin:∀ns:List Int,1<=ns.length/\ns.length<=3->(∀n∈ns,0<=n/\n<=999999)->bKu op ns->aVw (.agg [vi op,.sl QT (ns.map bF)]):=fun ns h1 h2 h3=>⟨op,ns,rfl,Bv,h1,h2,h3⟩;simp only[go_sem,seval,hlt,aR,me,M8];refine aD (fun Co=>?_) (fun Co=>?_)
 ·simp only[go_sem,seval,hlt,hw,aW,aA (aC aU _)];exact⟨⟨i3,rfl⟩,fin [a+b,b] siT (by intro n hn;simp only[BD,CC,or_false]at hn;grind) ⟨_,_,_,rfl,fun _=>rfl,fun _=>omT,omT⟩⟩
 have n4:op≠4:=by grind
 simp only[go_sem,seval,Co];refine aD (fun C4=>?_) (fun C4=>?_)
 ·simp only[go_sem,seval,C4];refine bB (bA ht (m:=3) deT) hl (i:=i3) (by simp only[go_sem,seval,aP,hlt]) ?_;rintro val i4 ⟨w,rfl,od,dy⟩;have S9:(op==3)=true:=by grind
  simp only[go_sem,seval,hlt,aR,S9];refine aD (fun Hb=>?_) (fun Hb=>?_)
  ·simp only[go_sem,seval,hlt,aW,aA (aC aU _)];exact⟨⟨i4,rfl⟩,fin [a,b,808] siT (by intro n hn;simp only[BD,CC,or_false]at hn;grind) ⟨_,_,_,rfl,fun h=>Zw (by grind) h,fun h=>Zw h n4,omT⟩⟩
  simp only[go_sem,seval,hlt,aW,aA (aC aU _)];exact⟨⟨i4,rfl⟩,fin [a,b] siT (by intro n hn;simp only[BD,CC,or_false]at hn;grind) ⟨_,_,_,rfl,fun _=>rfl,fun h=>Zw h n4,omT⟩⟩
 have S9:(op==3)=false:=by grind
 simp only[go_sem,seval,S9,hlt,aW,aA (aC aU _)];exact⟨⟨i3,rfl⟩,fin [a,b] siT (by intro n hn;simp only[BD,CC,or_false]at hn;grind) ⟨_,_,_,rfl,fun _=>rfl,fun h=>Zw h n4,omT⟩⟩
abbrev aIJ(r:List Str):Prop:=1<=r.length/\r.length<=3/\∀s∈r,s∈aQm
abbrev bHW(rows:List (List Str)):Prop:=1<=rows.length/\rows.length<=3/\(∀r∈rows,aIJ r)/\∃c:Nat,∀r∈rows,r.length=c
abbrev aTk(v:AV):Prop:=∃rows:List (List Str),v=.agg [.sl QT (rows.map bY)]/\bHW rows
theorem aSu{A:af}{g:SN}(hp:dI A (g "i") [] aIG){H:LO}{Q:bf->bN->LO->LN->Prop}{tg}{l:List Int}(hl:jP l){o v:Nat}(hlt:o<H.length) {i:Int} {o0 o1 o2 o3:ah} {c:Int} (jg:1<=c) (mj:c<=3) {ρ:bN} (e0:ρ 0=.ptr o v 0) (e5:ρ 5=vi c) (e7:ρ 7=.sl QS []) (e8:ρ 8=vi 0) (hQ:∀ρ' i' o2 (r:List Str),(∀t,uP.contains t=QT->ρ' t=ρ t)->aIJ r/\r.length=c.toNat->ew (H.length+2) 1 (r.map aN) (ρ' 7) o2->Q (.exit 2) ρ' (H.set o (.box v (aM l i'))++[o0,o1,o2,o3]) [o]):wl A 37 ⟨H.length,[2,3,29,34]⟩ (lY g) ρ (H.set o (.box v (aM l i))++[o0,o1,o2,o3]) [o] Q tg:=by
 refine bJ (fun j ρ1 H1 wr=>wr=[o]/\ρ1 8=vi j/\∃i' o2,∃r:List Str,H1=H.set o (.box v (aM l i'))++[o0,o1,o2,o3]/\ew (H.length+2) 1 (r.map aN) (ρ1 7) o2/\r.length=j/\∀a∈r,a∈aQm) c.toNat
  (fun ρ1 H1 wr=>wr=[o]/\∃i' o2,∃r:List Str,H1=H.set o (.box v (aM l i'))++[o0,o1,o2,o3]/\ew (H.length+2) 1 (r.map aN) (ρ1 7) o2/\aIJ r/\r.length=c.toNat)
  bIv rfl ⟨rfl,e8,i,o2,[],rfl,by rw[e7];exact .nil _,rfl,siT⟩ ?_ (by
   rintro ρ' H' ba ⟨rfl,i',o2,r,rfl,hg,hr⟩ hf;exact hQ ρ' i' o2 r hf hr hg)
 rintro j ρ1 H1 dc mo ⟨rfl,e8,i',o2,r,rfl,hg,gu,il⟩ hf;have f0:ρ1 0=.ptr o v 0:=(hf 0 rfl).trans e0;have f5:ρ1 5=vi c:=(hf 5 rfl).trans e5;simp only[go_sem,seval,f5,e8];refine aD (fun hb=>?_) (fun hb=>?_)
 ·have cr:j<c.toNat:=by grind
  simp only[go_sem,seval,f0,e8];refine bB hp hl (i:=i') (by grind) ?_;rintro val i3 ⟨s,rfl,hs⟩;obtain⟨v',o',eu,db⟩:=hg.app (new:=[[.str s]]) (bytes:=16) siT rfT (by grind);rw[show r.map aN++[[.str s]]=(r++[s]).map aN by simp[aN]]at eu;simp only[go_sem,seval,hlt,aR,db];rw[dW omT];grind
 have cr:j=c.toNat:=by grind
 subst cr;simp only[go_sem,seval];grind
theorem aSv{A:af}{g:SN}(h:Has A g "av" (gC g))(ht:fR A g)(hp:dI A (g "i") [] aIG):dI A (g "av") [] aTk:=by
 refine h.gen (by simp[gC]) (fun n=>bIv) ?_;intro l i o v H hl hlt ho;simp only[gC];simp only[go_sem,seval];refine bB (bA ht (m:=3) deT) hl (i:=i) (by grind) ?_;rintro val i1 ⟨x,rfl,jr,lz⟩;have wk:AR.wrap (1+x)=1+x:=wrap_i64 omT omT;simp only[go_sem,seval,hlt,fN,wk];refine bB (bA ht (m:=3) deT) hl (i:=i1) (by grind) ?_;rintro val i2 ⟨y,rfl,oj,tc⟩;have zz:AR.wrap (1+y)=1+y:=wrap_i64 omT omT;simp only[go_sem,seval,hlt,aR,zz];refine bJ (id:=0) (fun j ρ1 H1 wr=>wr=[o]/\ρ1 6=vi j/\∃i' o2 o3 w,∃rows:List (List Str),H1=H.set o (.box v (aM l i'))++[.box 1 [.sl QS []],.box 1 [w],o2,o3]/\ew (H.length+3) 1 (rows.map bY) w o3/\rows.length=j/\∀a∈rows,aIJ a/\a.length=(1+y).toNat) (1+x).toNat
  (fun ρ1 H1 wr=>wr=[o]/\∃i' o2 o3 w,∃rows:List (List Str),H1=H.set o (.box v (aM l i'))++[.box 1 [.sl QS []],.box 1 [w],o2,o3]/\ew (H.length+3) 1 (rows.map bY) w o3/\rows.length=(1+x).toNat/\∀a∈rows,aIJ a/\a.length=(1+y).toNat)
  bIv rfl ⟨by grind,by simp only[go_sem,seval],i2,.gone 0,.gone 0,.sl QS [],[],rfl,.nil _,rfl,siT⟩ ?_ ?_
 ·rintro j ρ1 H1 dc mo ⟨rfl,e6,i',o2,o3,w,rows,rfl,hg,gu,il⟩ hf;have e0:ρ1 0=.ptr o v 0:=by rw[hf 0 rfl];simp only[go_sem,seval]
  have e3:ρ1 3=.ptr (H.length+1) 1 0:=by rw[hf 3 rfl];simp only[go_sem,seval]
  have e4:ρ1 4=vi (1+x):=by rw[hf 4 rfl];simp only[go_sem,seval]
  have e5:ρ1 5=vi (1+y):=by rw[hf 5 rfl];simp only[go_sem,seval]
  simp only[go_sem,seval,e4,e6];refine aD (fun hb=>?_) (fun hb=>?_)
  ·have cr:j<(1+x).toNat:=by grind
   simp only[go_sem,seval];refine aSu hp hl hlt (c:=1+y) omT omT (by simp only[go_sem,seval,e0]) (by simp only[go_sem,seval,e5]) (by simp only[go_sem,seval]) (by simp only[go_sem,seval]) ?_;intro ρ2 i4 o2' r cq hr qu;have g3:ρ2 3=.ptr (H.length+1) 1 0:=by rw[cq 3 rfl];simp only[go_sem,seval,e3]
   have g6:ρ2 6=vi j:=by rw[cq 6 rfl];simp only[go_sem,seval,e6]
   obtain⟨ff,lf,o2'',D1,D4,T0⟩:=qu.dw (aC bO _);have hle:∀H',H'[H.length+2]? = QQ o2'->dw H' (ρ2 7)=QQ (.sl ff (r.map aN),lf):=by
    intro H' hh;have:=D1 H' hh;obtain⟨ver,h7,_⟩:=qu.inv (by
     intro Hc;have:=congrArg FN Hc;grind)
    rw[h7]at this ⊢;exact this
   obtain⟨v',o',eu,db⟩:=hg.app (new:=[[.sl QT (r.map aN)]]) (bytes:=24) siT rfT (by grind);rw[show rows.map bY++[[.sl QT (r.map aN)]]=(rows++[r]).map bY by simp[bY]]at eu;simp only[go_sem,seval,g3,g6,hle,D4,T0,db,eu.aj,eu.ak];rw[dW omT];refine⟨cr,rfl,i4,o2'',o',v',rows++[r],rfl,eu,by simp[gu], ?_⟩;exact pS il hr
  have cr:j=(1+x).toNat:=by grind
  subst cr;simp only[go_sem,seval];exact⟨i',o2,o3,w,rows,rfl,hg,gu,il⟩
 rintro ρ2 H2 en ⟨rfl,i',o2,o3,w,rows,rfl,hg,gu,il⟩ hf;have e2:ρ2 2=.ptr H.length 1 0:=by rw[hf 2 rfl];simp only[go_sem,seval]
 have e3:ρ2 3=.ptr (H.length+1) 1 0:=by rw[hf 3 rfl];simp only[go_sem,seval]
 have bl:rows.map bY≠[]:=by intro h;have:=congrArg FN h;grind
 obtain⟨ver,e4,rfl⟩:=hg.inv bl;simp only[go_sem,seval,e2,e3,e4,hlt,aT (aC cU _),aA (aC cU _),aA (aC aU _),aW];exact⟨⟨i',rfl⟩,rows,rfl,omT,omT,fun r hr=>(il r hr).1,_,fun r hr=>(il r hr).2⟩
inductive Deep:Bool->Nat->Expr->Prop where
 |mk (c:Bool) (d:Nat) (op n:Int) (kids:List Expr):(∀e∈kids,Deep QT d e)->(kids.length=0/\(op=0/\0<=n/\n<=999999∨op=1/\0<=n/\n<=25)∨n=0/\(kids.length=1/\(op=2∨op=8)∨kids.length=2/\(3<=op/\op<=7∨c=QS/\9<=op/\op<=10)))->Deep c (d+1) (.mk op n kids)
theorem Deep.top{d:Nat}{e:Expr}(h:Deep QT d e):Deep QS d e:=by
 cases h with
 |mk _ d op n kids h4 h5=>refine .mk _ _ _ _ _ h4 ?_;grind
theorem bF1{d:Nat}{c:Bool}{op n:Int}{kids:List Expr}(h:Deep c d (.mk op n kids)):kids.length<=2:=by cases h;omega
theorem Deep.ok:∀{d:Nat} {c:Bool} {e:Expr},Deep c d e->e.Ok/\gY e<=2 ^ d - 1
 |0,_,e,h=>by cases h
 |d+1,c,.mk op n kids,h=>by
  have h3:=bF1 h;cases h with
  |mk _ _ _ _ _ h4 h5=>
   refine⟨.mk _ _ _ (by grind) (by grind) omT fun e he=>(Deep.ok (h4 e he)).1, ?_⟩;have hk:cP kids<=2*(2 ^ d - 1):=by
    match kids,h3,h4 with
    | [],_,_=>simp[cP]
    | [a],_,h4=>have:=(Deep.ok (h4 a siT)).2;simp only[cP];omega
    | [a,b],_,h4=>have h5:=(Deep.ok (h4 a siT)).2;have h6:=(Deep.ok (h4 b siT)).2;simp only[cP];omega
    |_::_::_::_,h3,_=>simp at h3
   grind [Nat.one_le_two_pow,gY,PL]
abbrev aFd(c:Bool)(d:Nat)(v:AV):Prop:=∃e:Expr,v=.agg (aF e)/\Deep c d e
def arity(op:Int):Int:=if op=0 then 0 else if op=1 then 0 else if op=2 then 1 else if op=8 then 1 else 2
theorem aOv{A:af}{g:SN}(h:Has A g "aG" (oI g))(op:Int)(H:LO):aG A (g "aG") [vi op] H=QQ (vi (arity op),H,[]):=by
 refine h.call ?_;simp only[oI];by_cases h0:op=0
 ·subst h0;simp only[go_sem,seval,arity]
 by_cases h1:op=1
 ·subst h1;simp only[go_sem,seval,arity]
 by_cases h2:op=2
 ·subst h2;simp only[go_sem,seval,arity]
 by_cases h8:op=8
 ·subst h8;simp only[go_sem,seval,arity]
 simp only[go_sem,seval,arity,aF9 h0,aF9 h1,aF9 h2,aF9 h8,h0,h1,h2,h8]
theorem aSw(op:Int):0<=arity op/\arity op<=2:=by grind [arity]
theorem aQw{op:Int}(h1:2<=op)(h2:op<=8):(arity op).toNat=1/\(op=2∨op=8)∨(arity op).toNat=2/\3<=op/\op<=7:=by unfold arity;grind
theorem aNp{A:af}{g:SN}(h:Has A g "n" (gD g))(ht:fR A g) (Db:∀(op:Int) (H:LO),aG A (g "aG") [vi op] H=QQ (vi (arity op),H,[])):∀d:Nat,d<=3->dI A (g "n") [vi d] (aFd QT (d+1))
 |d,hd=>by
  have ih:∀d',d=d'+1->dI A (g "n") [vi d'] (aFd QT (d'+1)):=fun d' V0=>aNp h ht Db d' omT;refine h.gen (by simp[gD]) (fun n=>bIv) ?_;intro l i o v H hl hlt ho;have leaf:∀op n:Int,(op=0/\0<=n/\n<=999999∨op=1/\0<=n/\n<=25)->aFd QT (d+1) (.agg [vi op,vi n,.sl QT []]):=fun op n h=>⟨.mk op n [],rfl,.mk _ _ _ _ _ siT (.inl ⟨rfl,h⟩)⟩;simp only[gD];simp only[go_sem,seval];refine bB (bA ht (m:=12) deT) hl (i:=i) (by grind) ?_;rintro val i1 ⟨k,rfl,Rj,Ch⟩;cases d with
  |zero=>
   have Pc:0<=k.tmod 3/\k.tmod 3<3:=⟨HV _ Rj,GX _ deT⟩;simp only[go_sem,seval,hlt,fN,tS (b:=3) deT,Int.cast_ofNat_Int];refine aD (fun hb=>?_) (fun hb=>?_)
   ·simp only[go_sem,seval];refine bB (bA ht (m:=6) deT) hl (i:=i1) (by grind) ?_;rintro val i2 ⟨x,rfl,jr,lz⟩;obtain⟨n,hn,cx⟩:=aQk [0,1,7,12,100,999999] jr lz;simp only[DR,bF]at cx;have yh:0<=n/\n<=999999:=by
     have:∀n∈([0,1,7,12,100,999999]:List Int),0<=n/\n<=999999:=deT;grind
    simp only[go_sem,seval,hlt,aR,jr,cx,aW,aA (aC aU _)];exact⟨⟨i2,rfl⟩,leaf 0 n (.inl ⟨rfl,yh⟩)⟩
   simp only[go_sem,seval];refine aD (fun dp=>?_) (fun dp=>?_)
   ·simp only[go_sem,seval];refine bB (bA ht (m:=4) deT) hl (i:=i1) (by grind) ?_;rintro val i2 ⟨x,rfl,jr,lz⟩;simp only[go_sem,seval,hlt,aR,aW,aA (aC aU _)];exact⟨⟨i2,rfl⟩,leaf 1 x (.inr ⟨rfl,jr,omT⟩)⟩
   exfalso;grind
  |succ d'=>
   have Cr:decide ((((d'+1:Nat):Int))<=0)=false:=by grind
   have q9:(((d'+1:Nat):Int))=(d':Int)+1:=rfl;simp only[go_sem,seval,hlt,fN,Cr];refine aD (fun hb=>?_) (fun hb=>?_)
   ·simp only[go_sem,seval];refine bB (bA ht (m:=6) deT) hl (i:=i1) (by grind) ?_;rintro val i2 ⟨x,rfl,jr,lz⟩;obtain⟨n,hn,cx⟩:=aQk [0,1,7,12,100,999999] jr lz;simp only[DR,bF]at cx;have yh:0<=n/\n<=999999:=by
     have:∀n∈([0,1,7,12,100,999999]:List Int),0<=n/\n<=999999:=deT;grind
    simp only[go_sem,seval,hlt,aR,jr,cx,aW,aA (aC aU _)];exact⟨⟨i2,rfl⟩,leaf 0 n (.inl ⟨rfl,yh⟩)⟩
   simp only[go_sem,seval];refine aD (fun dp=>?_) (fun dp=>?_)
   ·simp only[go_sem,seval];refine bB (bA ht (m:=4) deT) hl (i:=i1) (by grind) ?_;rintro val i2 ⟨x,rfl,jr,lz⟩;simp only[go_sem,seval,hlt,aR,aW,aA (aC aU _)];exact⟨⟨i2,rfl⟩,leaf 1 x (.inr ⟨rfl,jr,omT⟩)⟩
   simp only[go_sem,seval];refine bB (bA ht (m:=7) deT) hl (i:=i1) (by grind) ?_;rintro val i2 ⟨x,rfl,jr,lz⟩;have wk:AR.wrap (2+x)=2+x:=wrap_i64 omT omT;simp only[go_sem,seval,hlt,aR,wk];have j8:=aSw (2+x);refine bJ (id:=0) (fun j ρ1 H1 wr=>wr=[o]/\ρ1 8=vi j/\∃i' o2 w,∃kids:List Expr,H1=H.set o (.box v (aM l i'))++[.box 1 [vi 0,vi 0,.sl QS []],.box 1 [vi (2+x),vi 0,w],o2]/\ew (H.length+2) 3 (kids.map aF) w o2/\kids.length=j/\∀a∈kids,Deep QT (d'+1) a) (arity (2+x)).toNat
    (fun ρ1 H1 wr=>wr=[o]/\∃i' o2 w,∃kids:List Expr,H1=H.set o (.box v (aM l i'))++[.box 1 [vi 0,vi 0,.sl QS []],.box 1 [vi (2+x),vi 0,w],o2]/\ew (H.length+2) 3 (kids.map aF) w o2/\kids.length=(arity (2+x)).toNat/\∀a∈kids,Deep QT (d'+1) a)
    bIv rfl ⟨by grind,by simp only[go_sem,seval],i2,.gone 0,.sl QS [],[],by grind,.nil _,rfl,siT⟩ ?_ ?_
   ·rintro j ρ1 H1 dc mo ⟨rfl,e8,i',o2,w,kids,rfl,hg,zp,p9⟩ hf;have e0:ρ1 0=.ptr o v 0:=by rw[hf 0 rfl];simp only[go_sem,seval]
    have e1:ρ1 1=vi ((d':Int)+1):=by rw[hf 1 rfl];simp only[go_sem,seval];rfl
    have e6:ρ1 6=vi (2+x):=by rw[hf 6 rfl];simp only[go_sem,seval]
    have e7:ρ1 7=.ptr (H.length+1) 1 0:=by rw[hf 7 rfl];simp only[go_sem,seval]
    simp only[go_sem,seval,e6,e8,Db];refine aD (fun D3=>?_) (fun D3=>?_)
    ·have cr:j<(arity (2+x)).toNat:=by grind
     have F3:AR.wrap ((d':Int)+1 - 1)=(d':Int):=by rw[wrap_i64 omT omT];omega
     have bl:(H.length+1==o)=false:=soT;simp only[go_sem,seval];refine aY (aq:=lZ) rfT rfT ?_;simp only[go_sem,seval,lZ,e0,e1,e7,F3];refine eB (ih d' rfl) hl (i:=i') (by simp only[go_sem,seval,aP,hlt]) ?_;rintro val i3 ⟨e,rfl,he⟩;obtain⟨w',o',eu,db⟩:=hg.app (new:=[aF e]) (bytes:=40) siT (by rw[aCj,pA];rfl) (by grind);rw[show kids.map aF++[aF e]=(kids++[e]).map aF by simp]at eu;simp only[go_sem,seval,hlt,e8,aR,pA,aK (aV _),bR (aV _),db,eu.ak,eu.aj,eH,dG,bl,aL];rw[dW omT];refine⟨cr,rfl,i3,o',w',kids++[e],rfl,eu,by simp[zp], ?_⟩;grind
    have cr:j=(arity (2+x)).toNat:=by simp at D3;omega
    subst cr;simp only[go_sem,seval];grind
   rintro ρ2 H2 en ⟨rfl,i',o2,w,kids,rfl,hg,zp,p9⟩ hf;have e4:ρ2 4=.ptr H.length 1 0:=by rw[hf 4 rfl];simp only[go_sem,seval]
   have e7:ρ2 7=.ptr (H.length+1) 1 0:=by rw[hf 7 rfl];simp only[go_sem,seval]
   obtain⟨ff,lf,o2'',D1,D4,T0⟩:=hg.dw (aC aV _);simp only[go_sem,seval,e4,e7,hlt,hg.ak,D1,D4,T0,aA (aC aV _),aA (aC aU _),aW];exact⟨⟨i',rfl⟩,.mk (2+x) 0 kids,by rw[aF,bD],.mk _ _ _ _ _ p9 (.inr ⟨rfl,by rw[zp];have:=aQw (op:=2+x) omT omT;omega⟩)⟩
abbrev rL(g:SN):List ae:=[qf 7 2 3,⟨QQ 8,ol 1 7,N2,[0]⟩,qm 9 0,⟨QQ 10,oc (g "a") [u 9,ui 4],N2,[2]⟩,⟨QQ 11,.bin .add .no (ui 24) (u 10),N2,[3,2]⟩,qm 12 0,⟨QQ 13,oc (g "a") [u 12,ui 9],N2,[5,3,2]⟩,⟨QQ 14,.bin .add .no (ui 30) (u 13),N2,[6,5,3,2]⟩,⟨QQ 15,oc (g "O") [ui 2,ui 2,u 11,u 14],N2,[4,7,6,5,3,2]⟩,⟨QQ 16,.build [z0,(.sl QS [])] [(0,1,(.const (vi 2))),(1,1,(.tmp 15))],N2,[8,4,7,6,5,3,2]⟩,⟨QQ 17,.bsl 2 [z0,(.sl QT [])] 1 [(0,(.tmp 16))],N2,[9,8,4,7,6,5,3,2]⟩,⟨QQ 18,oa 2 32 8 17,N2,[1,0,10,9,8,4,7,6,5,3,2]⟩,⟨QQ 19,of 2 3,N2,[11,1,0,10,9,8,4,7,6,5,3,2]⟩,⟨N2,os 1 19 18,N2,[12,11,1,0,10,9,8,4,7,6,5,3,2]⟩]
abbrev kW:LN:=[1,3,6,8]
abbrev rM(g:SN):List ae:=[qf 23 2 3,⟨QQ 24,ol 1 23,N2,[0]⟩,qm 25 0,⟨QQ 26,oc (g "a") [u 25,ui 5],N2,[2]⟩,⟨QQ 27,.bin .add .no (ui 10) (u 26),N2,[3,2]⟩,qm 28 0,⟨QQ 29,oc (g "a") [u 28,ui 8],N2,[5,3,2]⟩,⟨QQ 30,.bin .add .no (ui 12) (u 29),N2,[6,5,3,2]⟩,⟨QQ 31,.build [z0,z0] [(0,1,(.tmp 27)),(1,1,(.tmp 30))],N2,[4,7,6,5,3,2]⟩,⟨QQ 32,.bsl 2 [z0,z0] 1 [(0,(.tmp 31))],N2,[8,4,7,6,5,3,2]⟩,⟨QQ 33,.build [z0,(.sl QS [])] [(0,1,(.const z0)),(1,1,(.tmp 32))],N2,[9,8,4,7,6,5,3,2]⟩,⟨QQ 34,.bsl 2 [z0,(.sl QT [])] 1 [(0,(.tmp 33))],N2,[10,9,8,4,7,6,5,3,2]⟩,⟨QQ 35,oa 2 32 24 34,N2,[1,0,11,10,9,8,4,7,6,5,3,2]⟩,⟨QQ 36,of 2 3,N2,[12,1,0,11,10,9,8,4,7,6,5,3,2]⟩,⟨N2,os 1 36 35,N2,[13,12,1,0,11,10,9,8,4,7,6,5,3,2]⟩]
abbrev kX:LN:=[1,3,6]
abbrev rN(g:SN):List ae:=[qf 43 2 3,⟨QQ 44,ol 1 43,N2,[0]⟩,qm 45 4,⟨QQ 46,.build [z0,z0] [(0,1,(.tmp 45)),(1,1,(.const (vi 4)))],N2,[2]⟩,qm 47 4,⟨QQ 48,obi .add 47 8,N2,[4]⟩,qm 49 0,⟨QQ 50,oc (g "a") [u 49,ui 6],N2,[6]⟩,⟨QQ 51,.bin .add .no (ui 10) (u 50),N2,[7,6]⟩,⟨QQ 52,.build [z0,z0] [(0,1,(.tmp 48)),(1,1,(.tmp 51))],N2,[5,4,8,7,6]⟩,qm 53 4,⟨QQ 54,.build [z0,z0] [(0,1,(.tmp 53)),(1,1,(.const (vi 30)))],N2,[10]⟩,⟨QQ 55,.bsl 2 [z0,z0] 3 [(0,(.tmp 46)),(1,(.tmp 52)),(2,(.tmp 54))],N2,[3,2,9,5,4,8,7,6,11,10]⟩,⟨QQ 56,.build [z0,(.sl QS [])] [(0,1,(.const (vi 1))),(1,1,(.tmp 55))],N2,[12,3,2,9,5,4,8,7,6,11,10]⟩,⟨QQ 57,.bsl 2 [z0,(.sl QT [])] 1 [(0,(.tmp 56))],N2,[13,12,3,2,9,5,4,8,7,6,11,10]⟩,⟨QQ 58,oa 2 32 44 57,N2,[1,0,14,13,12,3,2,9,5,4,8,11,10,7,6]⟩,⟨QQ 59,of 2 3,N2,[15,1,0,14,13,12,3,2,9,5,4,8,11,10,7,6]⟩,⟨N2,os 1 59 58,N2,[16,15,1,0,14,13,12,3,2,9,5,4,8,11,10,7,6]⟩]
abbrev kY:LN:=[1,7]
abbrev rO(g:SN):List ae:=[qf 60 2 3,⟨QQ 61,ol 1 60,N2,[0]⟩,qm 62 4,qm 63 0,⟨QQ 64,oc (g "a") [u 63,ui 12],N2,[3]⟩,⟨QQ 65,.bin .add .no (ui 12) (u 64),N2,[4,3]⟩,⟨QQ 66,oc (g "O") [u 62,ui 5,ui 10,u 65],N2,[2,5,4,3]⟩,⟨QQ 67,.build [z0,(.sl QS [])] [(0,1,(.const (vi 2))),(1,1,(.tmp 66))],N2,[6,2,5,4,3]⟩,⟨QQ 68,.bsl 2 [z0,(.sl QT [])] 1 [(0,(.tmp 67))],N2,[7,6,2,5,4,3]⟩,⟨QQ 69,oa 2 32 61 68,N2,[1,0,8,7,6,2,5,4,3]⟩,⟨QQ 70,of 2 3,N2,[9,1,0,8,7,6,2,5,4,3]⟩,⟨N2,os 1 70 69,N2,[10,9,1,0,8,7,6,2,5,4,3]⟩]
abbrev kZ:LN:=[1,4,6]
abbrev rP(g:SN):List ae:=[qf 74 2 3,⟨QQ 75,ol 1 74,N2,[0]⟩,qq 76 (.build [z0,z0] [(0,1,(.const (vi 36))),(1,1,(.const (vi 44)))]),qm 77 0,⟨QQ 78,oc (g "a") [u 77,ui 20],N2,[3]⟩,⟨QQ 79,.bin .add .no (ui 36) (u 78),N2,[4,3]⟩,⟨QQ 80,.build [z0,z0] [(0,1,(.tmp 79)),(1,1,(.const (vi 44)))],N2,[5,4,3]⟩,⟨QQ 81,.bsl 2 [z0,z0] 2 [(0,(.tmp 76)),(1,(.tmp 80))],N2,[2,6,5,4,3]⟩,⟨QQ 82,.build [z0,(.sl QS [])] [(0,1,(.const (vi 1))),(1,1,(.tmp 81))],N2,[7,2,6,5,4,3]⟩,⟨QQ 83,.bsl 2 [z0,(.sl QT [])] 1 [(0,(.tmp 82))],N2,[8,7,2,6,5,4,3]⟩,⟨QQ 84,oa 2 32 75 83,N2,[1,0,9,8,7,2,6,5,4,3]⟩,⟨QQ 85,of 2 3,N2,[10,1,0,9,8,7,2,6,5,4,3]⟩,⟨N2,os 1 85 84,N2,[11,10,1,0,9,8,7,2,6,5,4,3]⟩]
abbrev lA:LN:=[1,4,7,9]
abbrev rQ(g:SN):List ae:=[qf 90 2 3,⟨QQ 91,ol 1 90,N2,[0]⟩,qm 92 5,⟨QQ 93,oi 91 92 2,N2,[1,0,2]⟩,⟨QQ 94,of 1 93,N2,[3,1,0,2]⟩,⟨QQ 95,ol 1 94,N2,[4,3,1,0,2]⟩,qf 96 2 3,⟨QQ 97,ol 1 96,N2,[6]⟩,qm 98 5,⟨QQ 99,oi 97 98 2,N2,[7,6,8]⟩,⟨QQ 100,of 1 99,N2,[9,7,6,8]⟩,⟨QQ 101,ol 1 100,N2,[10,9,7,6,8]⟩,⟨QQ 102,.iaV (u 101) (ui 1) 2,N2,[11,10,9,7,6,8]⟩,⟨QQ 103,of 0 102,N2,[12,11,10,9,7,6,8]⟩,⟨QQ 104,ol 1 103,N2,[13,12,11,10,9,7,6,8]⟩,⟨QQ 105,obi .add 104 3,N2,[14,13,12,11,10,9,7,6,8]⟩,⟨QQ 106,.iaV (u 95) (ui 1) 2,N2,[5,4,3,1,0,2,15,14,13,12,11,10,9,7,6,8]⟩,⟨QQ 107,of 0 106,N2,[16,5,4,3,1,0,2,15,14,13,12,11,10,9,7,6,8]⟩,⟨N2,os 1 107 105,N2,[17,16,5,4,3,1,0,2,15,14,13,12,11,10,9,7,6,8]⟩]
abbrev lB:LN:=[]
def fD(g:SN):bw:=⟨109,[81,83,2,3,18,35,58,69,84],[.cell 2 3 QS],qS [qq 2 (.alloc [z0,z0,(.sl QS [])])]<|qS [qq 6 (.build [z0,z0,(.sl QS [])] [(0,1,(.const (vi 60))),(1,1,(.const (vi 50)))]),qq 3 (.alloc [z0,z0,(.sl QS [])]),qs 3 3 6]<|.seq (.region QS (rL g))<|.seq (qS [qm 20 0,qc 21 (g "a") [u 20,ui 3],qbi 22 .gtr 21 0]<|qC 22 (.region QS (rM g)) (.skip))<|qS [qm 37 0,qc 38 (g "a") [u 37,ui 4],qq 39 (.bin .add .no (ui 36) (u 38)),qm 4 39]<|.seq (qS [qm 40 0,qc 41 (g "a") [u 40,ui 2],qbi 42 .eql 41 0]<|qC 42 (.region QS (rN g)) (.region QS (rO g)))<|.seq (qS [qm 71 0,qc 72 (g "a") [u 71,ui 3],qbi 73 .eql 72 0]<|qC 73 (.seq (.region QS (rP g))<|qS [qf 86 2 3,ql 87 1 86,qn 88 87,qbi 89 .sub 88 1,qm 5 89]<|.region QS (rQ g)) (.skip))<|.seq (.seq (.frz [(1,94)])<|.region QT [qla 108 3 3,qs 3 2 108])<|.ret⟩
def rR(g:SN):bw:=⟨30,[],[.tmp 8],qS [qmc 8 (.sl QS [])]<|qS [qm 9 0,qm 10 1,qq 11 (.build [z0,z0] [(0,1,(.tmp 9)),(1,1,(.tmp 10))]),qm 12 0,qm 13 2,qb 14 .add 12 13,qm 15 1,qq 16 (.build [z0,z0] [(0,1,(.tmp 14)),(1,1,(.tmp 15))]),qm 17 0,qm 18 2,qb 19 .add 17 18,qm 20 1,qm 21 3,qb 22 .add 20 21,qq 23 (.build [z0,z0] [(0,1,(.tmp 19)),(1,1,(.tmp 22))]),qm 24 0,qm 25 1,qm 26 3,qb 27 .add 25 26,qq 28 (.build [z0,z0] [(0,1,(.tmp 24)),(1,1,(.tmp 27))]),qq 29 (.bsl 2 [z0,z0] 4 [(0,(.tmp 11)),(1,(.tmp 16)),(2,(.tmp 23)),(3,(.tmp 28))]),qm 8 29]<|.ret⟩
theorem aSx{A:af}{g:SN}(h:Has A g "at" (gE g))(ht:fR A g) (qt:∀d:Nat,d<=3->dI A (g "n") [vi d] (aFd QT (d+1))):dI A (g "at") [vi 3] (aFd QS 4):=by
 refine h.gen (by simp[gE]) (fun n=>bIv) ?_;intro l i o v H hl hlt ho;have h2:dI A (g "n") [vi 2] (aFd QT 3):=qt 2 deT;have h3:dI A (g "n") [vi 3] (aFd QT 4):=qt 3 deT;have gn:AR.wrap 2=2:=wrap_i64 deT deT;simp only[gE];simp only[go_sem,seval];refine bB (bA ht (m:=4) deT) hl (i:=i) (by grind) ?_;rintro val i1 ⟨x,rfl,jr,lz⟩;simp only[go_sem,seval,hlt,fN];refine aD (fun hb=>?_) (fun hb=>?_)
 ·simp only[go_sem,seval,hlt,gn];refine bB h2 hl (i:=i1) (by grind) ?_;rintro val i2 ⟨a,rfl,ha⟩;simp only[go_sem,seval,hlt,aR,pA,bQ (aV _)];refine aY (aq:=mA) rfT rfT ?_;simp only[go_sem,seval,mA];refine eB (bA ht (m:=2) deT) hl (i:=i2) (by grind) ?_;rintro val i3 ⟨y,rfl,oj,tc⟩;have zz:AR.wrap (9+y)=9+y:=wrap_i64 omT omT;have pk:∀e:Expr,FW 3 (aF e)=aF e:=fun e=>CH (by rw[pA];grind);have bl:(H.length+1==o)=false:=soT;simp only[go_sem,seval,hlt,aR,zz,gn,pA,pk,aK (aV _),bR (aV _)];refine eB h2 hl (i:=i3) (by grind) ?_;rintro val i4 ⟨b,rfl,dp⟩;simp only[go_sem,seval,hlt,aR,pA,aK (aV _),bR (aV _),eH,dG,bl,aL,aW,dC (aV _),aA (aC aU _)];refine⟨⟨i4,rfl⟩,.mk (9+y) 0 [a,b],rfl,.mk _ _ _ _ _ ?_ (.inr ⟨rfl,.inr ⟨rfl,.inr ⟨rfl,omT,omT⟩⟩⟩)⟩;grind
 simp only[go_sem,seval];refine bB h3 hl (i:=i1) (by grind) ?_;rintro val i2 ⟨a,rfl,ha⟩;have pk:FW 3 (aF a)=aF a:=CH (by rw[pA];exact AQ _);simp only[go_sem,seval,hlt,aR,pA,bQ (aV _),pk,aS (aV _),aK (aV _),aW,dC (aV _),aA (aC aU _)];exact⟨⟨i2,rfl⟩,a,rfl,ha.top⟩
abbrev lC(g:SN):ag:=.seq (qS [qm 32 11,qm 33 10,qb 34 .lss 32 33]<|qC 34 (.skip) (.exit 4))<|.seq (.block 5 (qS [qm 37 0,qc 38 (g "a") [u 37,ui 21],qq 39 (.bin .add .no (ui 14) (u 38)),qm 40 0,qc 41 (g "a") [u 40,ui 5],qq 42 (.bsl 1 [z0] 5 [(0,(.const z0)),(1,(.const z0)),(2,(.const z0)),(3,(.const (.int .i64 (-1)))),(4,(.const (vi 1)))]),qm 43 0,qc 44 (g "a") [u 43,ui 5],qi 45 42 44 1,ql 46 1 45,qq 47 (.build [z0,z0,z0] [(0,1,(.tmp 39)),(1,1,(.tmp 41)),(2,1,(.tmp 46))]),qq 12 (.alloc [z0,z0,z0]),qs 3 12 47]<|.seq (qS [qm 48 0,qc 49 (g "a") [u 48,ui 6],qbi 50 .eql 49 0]<|qC 50 (qR [qf 51 1 12,ql 52 1 51,qq 53 (.build [z0,z0,z0] [(0,1,(.const (.int .i64 (-1)))),(1,1,(.tmp 52))]),qs 3 12 53]) (.skip))<|.region QT [qm 54 9,qla 55 3 12,qq 56 (.bsl 3 [z0,z0,z0] 1 [(0,(.tmp 55))]),qa 57 3 24 54 56,qm 9 57]))<|.region QT [qm 35 11,qbi 36 .add 35 1,qm 11 36]
abbrev rS:LN:=[32,33,34,37,38,39,40,41,42,43,44,45,46,47,12,48,49,50,51,52,53,54,55,56,57,9,35,36,11]
abbrev lD(g:SN):ag:=.seq (qS [qm 24 8,qm 25 5,qb 26 .lss 24 25]<|qC 26 (.skip) (.exit 2))<|.seq (.block 3 (qS [qmc 9 (.sl QS [])]<|qS [qm 29 0,qc 30 (g "a") [u 29,ui 4],qq 31 (.bin .add .no (ui 1) (u 30)),qm 10 31]<|.seq (qS [qmc 11 z0]<|.block 4 (.loop (lC g)))<|.region QT [qm 58 7,qm 59 9,qq 60 (.bsl 1 [(.sl QT [])] 1 [(0,(.tmp 59))]),qa 61 1 24 58 60,qm 7 61]))<|.region QT [qm 27 8,qbi 28 .add 27 1,qm 8 28]
abbrev rT:LN:=[24,25,26,9,29,30,31,10,11,32,33,34,37,38,39,40,41,42,43,44,45,46,47,12,48,49,50,51,52,53,54,55,56,57,9,35,36,11,58,59,60,61,7,27,28,8]
abbrev rU(g:SN):ag:=.seq (qS [qm 19 6,qm 20 4,qb 21 .lss 19 20]<|qC 21 (.skip) (.exit 0))<|.seq (.block 1 (qS [qmc 7 (.sl QS [])]<|.seq (qS [qmc 8 z0]<|.block 2 (.loop (lD g)))<|.region QT [qf 62 0 3,ql 63 1 62,qm 64 7,qq 65 (.bsl 1 [(.sl QT [])] 1 [(0,(.tmp 64))]),qa 66 1 24 63 65,qf 67 0 3,qs 1 67 66]))<|.region QT [qm 22 6,qbi 23 .add 22 1,qm 6 23]
def fE(g:SN):bw:=⟨69,[2,3,12,57,61,66],[.cell 2 1 QS],qS [qq 2 (.alloc [(.sl QS [])])]<|qS [qq 3 (.alloc [(.sl QS [])])]<|qS [qm 13 0,qc 14 (g "a") [u 13,ui 2],qq 15 (.bin .add .no (ui 1) (u 14)),qm 4 15]<|qS [qm 16 0,qc 17 (g "a") [u 16,ui 3],qq 18 (.bin .add .no (ui 1) (u 17)),qm 5 18]<|.seq (qS [qmc 6 z0]<|.block 0 (.loop (rU g)))<|qS [qla 68 1 3,qs 1 2 68]<|.ret⟩
abbrev bGG(n:ct):Prop:=(-1<=n.step/\n.step<=48)/\(0<=n.length/\n.length<=4)/\(-1<=n.alter/\n.alter<=1)/\(0<=n.step∨n.alter=0)
theorem bGG.ok{n:ct}(h:bGG n):n.Ok:=by obtain⟨h1,h2,h3⟩:=h;constructor<;>(grind)
abbrev aZI(b:List ct):Prop:=1<=b.length/\b.length<=4/\∀n∈b,bGG n
abbrev aOw(h:List (List ct)):Prop:=1<=h.length/\h.length<=3/\∀b∈h,aZI b
abbrev bIl(m:List (List (List ct))):Prop:=1<=m.length/\m.length<=2/\(∀h∈m,aOw h)/\∃c:Nat,∀h∈m,h.length=c
abbrev aNq(v:AV):Prop:=∃m:List (List (List ct)),v=.agg [.sl QT (m.map bS)]/\bIl m
theorem ew.M9{id k:Nat}{rows:List LA}{v:AV}{o:ah}(h:ew id k rows v o)(bl:rows≠[])(hd:gG rows=QS):∃l o',(∀H,H[id]? = QQ o->aA2 H v=QQ (.sl QT rows,l))/\(∀H,H[id]? = QQ o->Go.AM.dw H v=QQ (.sl QT rows,l))/\(∀H,H[id]? = QQ o->dL H l=H.set id o')/\(∀b wr,b<=id->bE b wr l=wr):=by
 obtain⟨ver,rfl,rfl⟩:=h.inv bl;obtain⟨f,l,o',h1,h2,h3⟩:=h.dw hd;cases h with
 |obj=>
  have key:∀H:LO,H[id]? = QQ (.vec ver k rows)->aA2 H (.sr id ver rows.length)=QQ (.sl QT rows,[id]):=by
   intro H ho;show (match H[id]? with
    |some (.vec v' _ bt)=>if v'=ver/\bt.length=rows.length/\bt.all (fun r=>r.all AV.still)then QQ (AV.sl QT bt,[id])else N2
    |_=>N2)=_
   rw[ho];simp only[aT hd,and_self,Zv]
  refine⟨[id],.gone ver,key,key,fun H ho=>?_,fun b wr hb=>?_⟩
  ·simp only[dL,ho];rfl
  unfold bE;rw[Zx omT];rfl
theorem aHk{α β:Type}{f:α->β}{l:List α}(h:1<=l.length):l.map f≠[]:=by intro hn;simp_all
theorem aJI{A:af}{g:SN}(ht:fR A g){H:LO}{Q:bf->bN->LO->LN->Prop}{tg}{l:List Int}(hl:jP l){o v:Nat}(hlt:o<H.length) {i:Int} {o0 o1 o2 o3 o4 o5:ah} {c:Int} (jg:1<=c) (mj:c<=4) {ρ:bN} (e0:ρ 0=.ptr o v 0) (e10:ρ 10=vi c) (e9:ρ 9=.sl QS []) (e11:ρ 11=vi 0) (hQ:∀ρ' i' o2 o3 (r:List ct),(∀t,rS.contains t=QT->ρ' t=ρ t)->aZI r->ew (H.length+3) 3 (r.map bV) (ρ' 9) o3->Q (.exit 4) ρ' (H.set o (.box v (aM l i'))++[o0,o1,o2,o3,o4,o5]) [o]):wl A 69 ⟨H.length,[2,3,12,57,61,66]⟩ (lC g) ρ (H.set o (.box v (aM l i))++[o0,o1,o2,o3,o4,o5]) [o] Q tg:=by
 refine bJ (fun j ρ1 H1 wr=>wr=[o]/\ρ1 11=vi j/\∃i' o2 o3,∃r:List ct,H1=H.set o (.box v (aM l i'))++[o0,o1,o2,o3,o4,o5]/\ew (H.length+3) 3 (r.map bV) (ρ1 9) o3/\r.length=j/\∀a∈r,bGG a) c.toNat
  (fun ρ1 H1 wr=>wr=[o]/\∃i' o2 o3,∃r:List ct,H1=H.set o (.box v (aM l i'))++[o0,o1,o2,o3,o4,o5]/\ew (H.length+3) 3 (r.map bV) (ρ1 9) o3/\aZI r)
  bIv rfl ⟨rfl,e11,i,o2,o3,[],rfl,by rw[e9];exact .nil _,rfl,siT⟩ ?_ (by
   rintro ρ' H' ba ⟨rfl,i',o2,o3,r,rfl,hg,hr⟩ hf;exact hQ ρ' i' o2 o3 r hf hr hg)
 rintro j ρ1 H1 dc mo ⟨rfl,e11,i',o2,o3,r,rfl,hg,gu,il⟩ hf;have f0:ρ1 0=.ptr o v 0:=(hf 0 rfl).trans e0;have f10:ρ1 10=vi c:=(hf 10 rfl).trans e10;simp only[go_sem,seval,f10,e11];refine aD (fun hb=>?_) (fun hb=>?_)
 ·have cr:j<c.toNat:=by grind
  simp only[go_sem,seval,f0];refine bB (bA ht (m:=21) deT) hl (i:=i') (by grind) ?_;rintro val i2 ⟨x,rfl,jr,lz⟩;have wk:AR.wrap (14+x)=14+x:=wrap_i64 omT omT;simp only[go_sem,seval,hlt,aR,wk];refine bB (bA ht (m:=5) deT) hl (i:=i2) (by grind) ?_;rintro val i3 ⟨y,rfl,oj,tc⟩;simp only[go_sem,seval,hlt,aR];refine bB (bA ht (m:=5) deT) hl (i:=i3) (by grind) ?_;rintro val i4 ⟨z,rfl,me,rr⟩;obtain⟨n,hn,cx⟩:=aQk [0,0,0,-1,1] me rr;simp only[DR,bF]at cx;have yh : -1<=n/\n<=1:=by have:∀n∈([0,0,0,-1,1]:List Int),-1<=n/\n<=1:=deT;grind
  simp only[go_sem,seval,hlt,aR,me,cx];refine bB (bA ht (m:=6) deT) hl (i:=i4) (by grind) ?_;rintro val i5 ⟨w,rfl,od,dy⟩;simp only[go_sem,seval,hlt,aR];refine aD (fun dp=>?_) (fun dp=>?_)
  ·obtain⟨v',o',eu,db⟩:=hg.app (new:=[[vi (-1),vi y,vi 0]]) (bytes:=24) siT rfT (by grind);rw[show r.map bV++[[vi (-1),vi y,vi 0]]=(r++[ct.mk (-1) y 0]).map bV by simp[bV]]at eu;simp only[go_sem,seval,db,e11];rw[dW omT];grind
  obtain⟨v',o',eu,db⟩:=hg.app (new:=[[vi (14+x),vi y,vi n]]) (bytes:=24) siT rfT (by grind);rw[show r.map bV++[[vi (14+x),vi y,vi n]]=(r++[ct.mk (14+x) y n]).map bV by simp[bV]]at eu;simp only[go_sem,seval,db,e11];rw[dW omT];refine⟨cr,rfl,i5,_,o',r++[ct.mk (14+x) y n],rfl,eu,by simp[gu], ?_⟩;grind
 have cr:j=c.toNat:=by grind
 subst cr;simp only[go_sem,seval];grind
theorem aLi{A:af}{g:SN}(ht:fR A g){H:LO}{Q:bf->bN->LO->LN->Prop}{tg}{l:List Int}(hl:jP l){o v:Nat}(hlt:o<H.length) {i:Int} {o0 o1 o2 o3 o4 o5:ah} {c:Int} (jg:1<=c) (mj:c<=3) {ρ:bN} (e0:ρ 0=.ptr o v 0) (e5:ρ 5=vi c) (e7:ρ 7=.sl QS []) (e8:ρ 8=vi 0) (hQ:∀ρ' i' o2 o3 o4 (r:List (List ct)),(∀t,rT.contains t=QT->ρ' t=ρ t)->aOw r/\r.length=c.toNat->ew (H.length+4) 1 (r.map gH) (ρ' 7) o4->Q (.exit 2) ρ' (H.set o (.box v (aM l i'))++[o0,o1,o2,o3,o4,o5]) [o]):wl A 69 ⟨H.length,[2,3,12,57,61,66]⟩ (lD g) ρ (H.set o (.box v (aM l i))++[o0,o1,o2,o3,o4,o5]) [o] Q tg:=by
 refine bJ (fun j ρ1 H1 wr=>wr=[o]/\ρ1 8=vi j/\∃i' o2 o3 o4,∃r:List (List ct),H1=H.set o (.box v (aM l i'))++[o0,o1,o2,o3,o4,o5]/\ew (H.length+4) 1 (r.map gH) (ρ1 7) o4/\r.length=j/\∀a∈r,aZI a) c.toNat
  (fun ρ1 H1 wr=>wr=[o]/\∃i' o2 o3 o4,∃r:List (List ct),H1=H.set o (.box v (aM l i'))++[o0,o1,o2,o3,o4,o5]/\ew (H.length+4) 1 (r.map gH) (ρ1 7) o4/\aOw r/\r.length=c.toNat)
  bIv rfl ⟨rfl,e8,i,o2,o3,o4,[],rfl,by rw[e7];exact .nil _,rfl,siT⟩ ?_ (by
   rintro ρ' H' ba ⟨rfl,i',o2,o3,o4,r,rfl,hg,hr⟩ hf;exact hQ ρ' i' o2 o3 o4 r hf hr hg)
 rintro j ρ1 H1 dc mo ⟨rfl,e8,i',o2,o3,o4,r,rfl,hg,gu,il⟩ hf;have f0:ρ1 0=.ptr o v 0:=(hf 0 rfl).trans e0;have f5:ρ1 5=vi c:=(hf 5 rfl).trans e5;simp only[go_sem,seval,f5,e8];refine aD (fun hb=>?_) (fun hb=>?_)
 ·have cr:j<c.toNat:=by grind
  simp only[go_sem,seval,f0];refine bB (bA ht (m:=4) deT) hl (i:=i') (by grind) ?_;rintro val i2 ⟨x,rfl,jr,lz⟩;have wk:AR.wrap (1+x)=1+x:=wrap_i64 omT omT;simp only[go_sem,seval,hlt,aR,wk];refine aJI ht hl hlt (c:=1+x) omT omT (by simp only[go_sem,seval,f0]) (by simp only[go_sem,seval]) (by simp only[go_sem,seval]) (by simp only[go_sem,seval]) ?_;intro ρ2 i4 o2' o3' b cq dp qu;have g7:ρ2 7=ρ1 7:=by rw[cq 7 rfl];simp only[go_sem,seval]
  have g8:ρ2 8=vi j:=by rw[cq 8 rfl];simp only[go_sem,seval,e8]
  obtain⟨lf,o3'',h1,h2,D4,T0⟩:=qu.M9 (aHk dp.1) (aC aD9 _);obtain⟨v',o',eu,db⟩:=hg.app (new:=[[.sl QT (b.map bV)]]) (bytes:=24) siT rfT (by grind);rw[show r.map gH++[[.sl QT (b.map bV)]]=(r++[b]).map gH by simp[gH]]at eu;simp only[go_sem,seval,g7,g8,h2,D4,T0,db];rw[dW omT];refine⟨cr,rfl,i4,o2',o3'',o',r++[b],rfl,eu,by simp[gu], ?_⟩;exact pS il dp
 have cr:j=c.toNat:=by grind
 subst cr;simp only[go_sem,seval];grind
theorem aOx{A:af}{g:SN}(h:Has A g "ax" (fE g))(ht:fR A g):dI A (g "ax") [] aNq:=by
 refine h.gen (by simp[fE]) (fun n=>bIv) ?_;intro l i o v H hl hlt ho;simp only[fE];simp only[go_sem,seval];refine bB (bA ht (m:=2) deT) hl (i:=i) (by grind) ?_;rintro val i1 ⟨x,rfl,jr,lz⟩;have wk:AR.wrap (1+x)=1+x:=wrap_i64 omT omT;simp only[go_sem,seval,hlt,fN,wk];refine bB (bA ht (m:=3) deT) hl (i:=i1) (by grind) ?_;rintro val i2 ⟨y,rfl,oj,tc⟩;have zz:AR.wrap (1+y)=1+y:=wrap_i64 omT omT;simp only[go_sem,seval,hlt,aR,zz];refine bJ (id:=0) (fun j ρ1 H1 wr=>wr=[o]/\ρ1 6=vi j/\∃i' o2 o3 o4 o5 w,∃rows:List (List (List ct)),H1=H.set o (.box v (aM l i'))++[.box 1 [.sl QS []],.box 1 [w],o2,o3,o4,o5]/\ew (H.length+5) 1 (rows.map bS) w o5/\rows.length=j/\∀a∈rows,aOw a/\a.length=(1+y).toNat) (1+x).toNat
  (fun ρ1 H1 wr=>wr=[o]/\∃i' o2 o3 o4 o5 w,∃rows:List (List (List ct)),H1=H.set o (.box v (aM l i'))++[.box 1 [.sl QS []],.box 1 [w],o2,o3,o4,o5]/\ew (H.length+5) 1 (rows.map bS) w o5/\rows.length=(1+x).toNat/\∀a∈rows,aOw a/\a.length=(1+y).toNat)
  bIv rfl ⟨by grind,by simp only[go_sem,seval],i2,.gone 0,.gone 0,.gone 0,.gone 0,.sl QS [],[],rfl,.nil _,rfl,siT⟩ ?_ ?_
 ·rintro j ρ1 H1 dc mo ⟨rfl,e6,i',o2,o3,o4,o5,w,rows,rfl,hg,gu,il⟩ hf;have e0:ρ1 0=.ptr o v 0:=by rw[hf 0 rfl];simp only[go_sem,seval]
  have e3:ρ1 3=.ptr (H.length+1) 1 0:=by rw[hf 3 rfl];simp only[go_sem,seval]
  have e4:ρ1 4=vi (1+x):=by rw[hf 4 rfl];simp only[go_sem,seval]
  have e5:ρ1 5=vi (1+y):=by rw[hf 5 rfl];simp only[go_sem,seval]
  simp only[go_sem,seval,e4,e6];refine aD (fun hb=>?_) (fun hb=>?_)
  ·have cr:j<(1+x).toNat:=by simp at hb;omega
   simp only[go_sem,seval];refine aLi ht hl hlt (c:=1+y) omT omT (by simp only[go_sem,seval,e0]) (by simp only[go_sem,seval,e5]) (by simp only[go_sem,seval]) (by simp only[go_sem,seval]) ?_;intro ρ2 i4 o2' o3' o4' r cq hr qu;have g3:ρ2 3=.ptr (H.length+1) 1 0:=by rw[cq 3 rfl];simp only[go_sem,seval,e3]
   have g6:ρ2 6=vi j:=by rw[cq 6 rfl];simp only[go_sem,seval,e6]
   obtain⟨lf,o4'',h1,h2,D4,T0⟩:=qu.M9 (aHk hr.1.1) (aC aFA _);obtain⟨v',o',eu,db⟩:=hg.app (new:=[[.sl QT (r.map gH)]]) (bytes:=24) siT rfT (by rw[AF,gu];simp;omega);rw[show rows.map bS++[[.sl QT (r.map gH)]]=(rows++[r]).map bS by simp[bS]]at eu;simp only[go_sem,seval,g3,g6,h2,D4,T0,db,eu.aj,eu.ak];rw[dW omT];refine⟨cr,rfl,i4,o2',o3',o4'',o',v',rows++[r],rfl,eu,by simp[gu], ?_⟩;exact pS il hr
  have cr:j=(1+x).toNat:=by simp at hb;omega
  subst cr;simp only[go_sem,seval];exact⟨i',o2,o3,o4,o5,w,rows,rfl,hg,gu,il⟩
 rintro ρ2 H2 en ⟨rfl,i',o2,o3,o4,o5,w,rows,rfl,hg,gu,il⟩ hf;have e2:ρ2 2=.ptr H.length 1 0:=by rw[hf 2 rfl];simp only[go_sem,seval]
 have e3:ρ2 3=.ptr (H.length+1) 1 0:=by rw[hf 3 rfl];simp only[go_sem,seval]
 obtain⟨ver,e4,rfl⟩:=hg.inv (aHk omT);simp only[go_sem,seval,e2,e3,e4,hlt,aT (aC cR _),aA (aC cR _),aA (aC aU _),aW];exact⟨⟨i',rfl⟩,rows,rfl,omT,omT,fun r hr=>(il r hr).1,_,fun r hr=>(il r hr).2⟩
def lK(g:SN):ag:=.block 0 (qS [qbi 13 .eql 8 0,qm 12 13]<|qC 12 (qR [qm 14 0,qc 15 (g "M") [u 14],qf 16 1 5,qs 1 16 15]) (qS [qbi 18 .eql 8 1,qm 17 18]<|qC 17 (qR [qm 19 0,qc 20 (g "at") [u 19,ui 3],qf 21 2 5,qs 3 21 20]) (qS [qbi 23 .eql 8 2,qm 22 23]<|qC 22 (qR [qm 24 0,qc 25 (g "ay") [u 24],qf 26 5 5,qs 2 26 25]) (qS [qbi 28 .eql 8 3,qm 27 28]<|qC 27 (qR [qm 29 0,qc 30 (g "av") [u 29],qf 31 7 5,qs 1 31 30]) (qS [qbi 33 .eql 8 4,qm 32 33]<|qC 32 (qR [qm 34 0,qc 35 (g "au") [u 34],qf 36 8 5,qs 3 36 35]) (qS [qbi 38 .eql 8 5,qm 37 38]<|qC 37 (qR [qm 39 0,qc 40 (g "ax") [u 39],qf 41 11 5,qs 1 41 40]) (qR [qm 9 0,qc 10 (g "aw") [u 9],qf 11 12 5,qs 1 11 10])))))))
def fT(g:SN):bw:=⟨43,[4,5],[.cell 4 13 QS],qS [qq 4 (.alloc [z0,(.sl QS []),z0,z0,(.sl QS []),z0,(.sl QS []),(.sl QS []),z0,z0,(.sl QS []),(.sl QS []),(.sl QS [])])]<|qS [qm 6 1,qq 7 (.build [z0,(.sl QS []),z0,z0,(.sl QS []),z0,(.sl QS []),(.sl QS []),z0,z0,(.sl QS []),(.sl QS []),(.sl QS [])] [(0,1,(.tmp 6))]),qq 5 (.alloc [z0,(.sl QS []),z0,z0,(.sl QS []),z0,(.sl QS []),(.sl QS []),z0,z0,(.sl QS []),(.sl QS []),(.sl QS [])]),qs 13 5 7]<|.seq (qS [qm 8 1]<|lK g)<|qS [qla 42 13 5,qs 13 4 42]<|.ret⟩
abbrev P4(x y w h:Int):List (Int×Int):=[(x,y),(x+w,y),(x+w,y+h),(x,y+h)]
abbrev bHQ(n m:Nat)(f:Int->Int->Shape):List Shape:=(GZ n).flatMap fun(i:Nat)=>(GZ m).map fun(j:Nat)=>f i j
theorem bEo{n m:Nat}{f:Int->Int->Shape}{x y:Int}(hx:0<=x)(lz:x<n)(hy:0<=y)(tc:y<m):f x y∈bHQ n m f:=by obtain⟨i,rfl⟩:=DN hx;obtain⟨j,rfl⟩:=DN hy;exact IM.2 ⟨i,HE.2 (show i<n by omega),DB.2 ⟨j,HE.2 (show j<m by omega),rfl⟩⟩
def bE7:List Shape:=bHQ 4 9 (fun x y=>⟨2,P4 2 2 (24+x) (30+y)⟩)++(bHQ 5 8 (fun x y=>⟨0,[(10+x,12+y)]⟩)++(bHQ 4 6 (fun x y=>⟨1,[(36+x,4),(36+x+8,10+y),(36+x,30)]⟩) ++
 (bHQ 4 12 (fun x y=>⟨2,P4 (36+x) 5 10 (12+y)⟩)++bHQ 20 1 (fun x y=>⟨1,[(36,44),(36+x+3,44)]⟩))))
def bIm(a:Shape):Bool:=decide (0<=a.kind)&&decide (a.kind<=2)&&decide (1<=a.points.length)&&decide (a.points.length<=4)&&a.points.all fun p=>decide (0<=p.1)&&decide (p.1<=60)&&decide (0<=p.2)&&decide (p.2<=50)
theorem bGH:bE7.all bIm=true:=bIv
theorem bEp{a:Shape}(h:a∈bE7):(0<=a.kind/\a.kind<=2)/\(1<=a.points.length/\a.points.length<=4)/\∀p∈a.points,(0<=p.1/\p.1<=60)/\0<=p.2/\p.2<=50:=by have:=AO.1 bGH a h;simp only[bIm,AI,decide_eq_true_eq,AO]at this;grind
theorem bHr{a:Shape}(h:a∈bE7):a.Ok:=by obtain⟨h1,h2,h3⟩:=bEp h;exact⟨by grind,omT,fun p hp=>by grind⟩
def bHs(s:List Shape):Prop:=(∀a∈s,a∈bE7)/\∃a r,s=a::r/\a.kind=2
theorem bHs.app{s:List Shape}(h:bHs s){a:Shape}(ha:a∈bE7):bHs (s++[a]):=by obtain⟨h1,b,r,rfl,h2⟩:=h;exact⟨fun x hx=>by grind,b,r++[a],rfl,h2⟩
abbrev bGI(s:List Shape):Prop:=(2<=s.length/\s.length<=4)/\bHs s
abbrev aNr(v:AV):Prop:=∃s:List Shape,v=.agg [vi 60,vi 50,.sl QT (s.map aH)]/\bGI s
def cV(k:Int):Block:=⟨k,[],.mk 0 0 [],0,[],[],0,0,[],[],[]⟩
theorem aCH:eA 0:=by grind
theorem aQx:(Expr.mk 0 0 []).Ok:=.mk _ _ _ aCH aCH siT siT
theorem oJ{k:Int}(hk:eA k):(cV k).Ok:=by constructor<;>first | exact hk | exact aCH | exact aQx | (simp[cV,gY,cP];done)
inductive kf:Block->Prop where
 |text {r:List mr}:bGD r->kf { cV 0 with runs:=r }
 |form {e:Expr}:Deep QS 4 e->kf { cV 1 with expr:=e }
 |col {op:Int} {a:List Int}:bIk op a->kf { cV 2 with dn:=op,eg:=a }
 |cd {g:List (List Str)}:bHW g->kf { cV 3 with cd:=g }
 |fig {s:List Shape}:bGI s->kf { cV 4 with w:=60,h:=50,aw:=s }
 |mel {m:List (List (List ct))}:bIl m->kf { cV 5 with bo:=m }
 |lst {l:List Str}:bHc l->kf { cV 6 with lines:=l }
theorem bGJ{s:Str}(h:s∈mq):s.length<=60:=(by decide:∀s∈mq,s.length<=60) s h
theorem kf.ok{b:Block}(hb:kf b):b.Ok:=by
 have z8:∀k:Int,0<=k->k<=60->eA k:=fun k h0 h1=>by grind
 have hk:∀k:Int,0<=k->k<=6->eA k:=fun k h0 h1=>z8 k h0 omT;cases hb with
 |text h=>exact { oJ (hk 0 deT deT)with vw:=HX h.2.1 deT,runs:=fun a ha=>(h.2.2.1 a ha).1 }
 |form h=>exact { oJ (hk 1 deT deT)with expr:=h.ok.1,size:=HX h.ok.2 deT }
 |col h=>exact { oJ (hk 2 deT deT)with dn:=z8 _ (Jo deT h.1.1) (Jo h.1.2 deT),tj:=HX h.2.1.2 deT,eg:=fun n hn=>by grind }
 |cd h=>exact { oJ (hk 3 deT deT)with uu:=HX h.2.1 deT,cd:=fun x hx=>⟨by grind,fun s hs=>by grind [bDR]⟩ }
 |fig h=>exact { oJ (hk 4 deT deT)with w:=z8 60 deT deT,h:=z8 50 deT deT,fg:=HX h.1.2 deT,aw:=fun a ha=>bHr (h.2.1 a ha) }
 |mel h=>exact { oJ (hk 5 deT deT)with uv:=HX h.2.1 deT,bo:=fun x hx=>⟨by have:=(h.2.2.1 x hx).2.1;omega,fun y hy=>⟨by have:=((h.2.2.1 x hx).2.2 y hy).2.1;omega,fun n hn=>(((h.2.2.1 x hx).2.2 y hy).2.2 n hn).ok⟩⟩ }
 |lst h=>exact { oJ (hk 6 deT deT)with vz:=HX h.2.1 deT,lines:=fun s hs=>by have:=bGJ (h.2.2 s hs);grind }
abbrev aMn(k:Int)(v:AV):Prop:=∃b:Block,v=.agg (aE b)/\b.kind=k/\kf b
theorem aQy{A:af}{g:SN}(h:Has A g "W" (fT g)) (hr:dI A (g "M") [] aQn) (he:dI A (g "at") [vi 3] (aFd QS 4)) (hs:dI A (g "ay") [] aVw) (hg:dI A (g "av") [] aTk) (hf:dI A (g "au") [] aNr) (hm:dI A (g "ax") [] aNq) (hn:dI A (g "aw") [] aQo) {k:Int} (Rj:0<=k) (Ch:k<7):dI A (g "W") [vi k] (aMn k):=by
 refine h.gen (by simp[fT]) (fun n=>bIv) ?_;intro l i o v H hl hlt ho;have ru:k=0∨k=1∨k=2∨k=3∨k=4∨k=5∨k=6:=omT;simp only[fT,lK];rcases ru with rfl | rfl | rfl | rfl | rfl | rfl | rfl
 ·simp only[go_sem,seval];refine bB hr hl (i:=i) (by grind) ?_;rintro val i1 ⟨r,rfl,hM⟩;simp only[go_sem,seval,hlt,fN,aW,aA (aC cA _),aA (aC aU _)];exact⟨⟨i1,rfl⟩,{ cV 0 with runs:=r },by simp[aE,cV,aF,gO],rfl,.text hM⟩
 ·simp only[go_sem,seval];refine bB he hl (i:=i) (by grind) ?_;rintro val i1 ⟨⟨op,n,kids⟩,rfl,hd⟩;simp only[aF,bD];simp only[go_sem,seval,hlt,fN,aW,aA (aC aV _),aA (aC aU _)];exact⟨⟨i1,rfl⟩,{ cV 1 with expr:=.mk op n kids },by simp[aE,cV,aF,bD],rfl,.form hd⟩
 ·simp only[go_sem,seval];refine bB hs hl (i:=i) (by grind) ?_;rintro val i1 ⟨op,a,rfl,hM⟩;simp only[go_sem,seval,hlt,fN,aW,aA (aC aU _)];exact⟨⟨i1,rfl⟩,{ cV 2 with dn:=op,eg:=a },by simp[aE,cV,aF,gO],rfl,.col hM⟩
 ·simp only[go_sem,seval];refine bB hg hl (i:=i) (by grind) ?_;rintro val i1 ⟨r,rfl,hM⟩;simp only[go_sem,seval,hlt,fN,aW,aA (aC cU _),aA (aC aU _)];exact⟨⟨i1,rfl⟩,{ cV 3 with cd:=r },by simp[aE,cV,aF,gO],rfl,.cd hM⟩
 ·simp only[go_sem,seval];refine bB hf hl (i:=i) (by grind) ?_;rintro val i1 ⟨s,rfl,hM⟩;simp only[go_sem,seval,hlt,fN,aW,aA (aC bW _),aA (aC aU _)];exact⟨⟨i1,rfl⟩,{ cV 4 with w:=60,h:=50,aw:=s },by simp[aE,cV,aF,gO],rfl,.fig hM⟩
 ·simp only[go_sem,seval];refine bB hm hl (i:=i) (by grind) ?_;rintro val i1 ⟨m,rfl,hM⟩;simp only[go_sem,seval,hlt,fN,aW,aA (aC cR _),aA (aC aU _)];exact⟨⟨i1,rfl⟩,{ cV 5 with bo:=m },by simp[aE,cV,aF,gO],rfl,.mel hM⟩
 simp only[go_sem,seval];refine bB hn hl (i:=i) (by simp only[go_sem,seval,eK,hlt,ho]) ?_;rintro val i1 ⟨r,rfl,hM⟩;simp only[go_sem,seval,hlt,fN,aW,aA (aC bO _),aA (aC aU _)];exact⟨⟨i1,rfl⟩,{ cV 6 with lines:=r },by simp[aE,cV,aF,gO],rfl,.lst hM⟩
noncomputable def aNn(A:af)(f:Nat)(w hh:Int)(l:List Shape):Int:=match aG A f [.agg (aDn w hh l)] []with
 |some (.int .i64 e,_,_)=>e
 |_=>0
noncomputable def shV(A:af)(f:Nat)(s:Shape):Bool:=match aG A f [.agg (aH s)] []with
 |some (.bool b,_,_)=>b
 |_=>QT
theorem bF2{A A1:af}{f:Nat}(h:∀s:Shape,s.points.length<=1000->0<=s.kind/\s.kind<=2->∃r:Bool,aG A1 f [.agg (aH s)] []=QQ (.bool r,[],[]))(hp:A.bq f=QQ (aFb A1 f)):bEZ A f (shV A1 f):=by
 intro s hs hk H;obtain⟨r,hr⟩:=h s hs hk;have h1:shV A1 f s=r:=by unfold shV;rw[hr]
 rw[h1];refine dT ?_;rw[hp];show aFb A1 _ _ H=_;refine aQs ?_ rfl hr H;have h2:dJ 0 (aH s)=true:=dC (bW s);simp[dJ,AV.under,h2]
structure Rp(A:af)(g:SN):Prop extends PlaneFns A g where
 shaped:Has A g "m" (aAz g)
 simple:Has A g "l" (tA g)
theorem bF3{A A1:af}{g:SN}(F:Rp A1 g)(h4:A.bq (g "m")=QQ (aFb A1 (g "m")))(h6:A.bq (g "l")=QQ (aFb A1 (g "l"))):bEZ A (g "m") (shV A1 (g "m"))/\bEZ A (g "l") (shV A1 (g "l")):=⟨bF2 (fun s hs hk=>aQ4 F.toPlaneFns F.shaped s hs hk []) h4,bF2 (fun s hs _=>aQ3 F.toPlaneFns F.simple s hs []) h6⟩
theorem bIf{A1:af}{g:SN}{q4 q6:Shape->Bool}(F:ij A1 g q4 q6)(h:∀a∈bE7,q4 a=QS/\q6 a=QS)(s:List Shape)(hs:bGI s):aNn A1 (g "k") 60 50 s=0:=by
 obtain⟨e,he,h0⟩:=aJz F 60 50 s deT deT (by have:=hs.1;omega) (fun a ha=>by
  obtain⟨a1,a2,a3⟩:=bEp (hs.2.1 a ha);simp only[vQ,aKG,AI,AO,eG];exact⟨a1,omT,fun p hp=>by have:=a3 p hp;omega⟩) []
 unfold aNn;rw[he];exact h0 fun a ha=>by
  obtain⟨a1,a2,a3⟩:=bEp (hs.2.1 a ha);exact⟨h a (hs.2.1 a ha),omT,a3⟩
theorem aOt{A A1:af}{g:SN}{q4 q6:Shape->Bool}(F:ij A1 g q4 q6)(hp:A.bq (g "k")=QQ (aFb A1 (g "k"))):aCD A g (aNn A1 (g "k")):=by
 intro w hh l hw Cw hl hs H;obtain⟨e,he,_⟩:=aJz F w hh l hw Cw hl hs [];have h1:aNn A1 (g "k") w hh l=e:=by unfold aNn;rw[he]
 rw[h1];refine dT ?_;rw[hp];show aFb A1 _ _ H=_;refine aQs ?_ rfl he H;have hd:gG (l.map aH)=true:=aC bW _;have h2:eR 0 (l.map aH)=true:=aA hd;simp[dJ,AV.under,h2]
noncomputable def bGO(f:Nat):Option aIP:=match f with
 |131=>QQ (aFb AK 131)
 |135=>QQ (aFb AK 135)
 |f=>aMX f
noncomputable def AMs:af:=⟨fnK,bGO⟩
theorem bHY:Good Go.Proofs.Tryz.prog aBx AMs:=aLW rfl bIv rfl fun f p h=>by
 have h:bGO f=QQ p:=h;unfold bGO at h;split at h
 ·cases h;exact .inr (aSs aRS aBi ⟨Go.Proofs.Tryz.f131,Go.Proofs.Tryz.func131,bIv,bIv⟩)
 ·cases h;exact .inr (aSs aRS aBi ⟨Go.Proofs.Tryz.f135,Go.Proofs.Tryz.func135,bIv,bIv⟩)
 exact .inr (aT6.bq f p h)
noncomputable def bFK(f:Nat):Option aIP:=match f with
 |78=>QQ (aFb AMs 78)
 |f=>bGO f
noncomputable def AM2:af:=⟨fnK,bFK⟩
theorem bHe:Good Go.Proofs.Tryz.prog aBx AM2:=aLW rfl bIv rfl fun f p h=>by
 have h:bFK f=QQ p:=h;unfold bFK at h;split at h
 ·cases h;exact .inr (aSs bHY aBi ⟨Go.Proofs.Tryz.f78,Go.Proofs.Tryz.func78,bIv,bIv⟩)
 exact .inr (bHY.bq f p h)
noncomputable def aVq(f:Nat):Option aIP:=match f with
 |68=>QQ (aFb AM2 68)
 |f=>bFK f
noncomputable def AM0:af:=⟨fnK,aVq⟩
theorem bBh:Good Go.Proofs.Tryz.prog aBx AM0:=aLW rfl bIv rfl fun f p h=>by
 have h:aVq f=QQ p:=h;unfold aVq at h;split at h
 ·cases h;exact .inr (aSs bHe aBi ⟨Go.Proofs.Tryz.f68,Go.Proofs.Tryz.func68,bIv,bIv⟩)
 exact .inr (bHe.bq f p h)
abbrev uV(g:SN):List ae:=[qq 20 (.bsl 1 [z0] 2 [(0,(.const (vi 3))),(1,(.const (vi 4)))]),qm 21 0,⟨QQ 22,oc (g "a") [u 21,ui 2],N2,[1]⟩,⟨QQ 23,oi 20 22 1,N2,[0,2,1]⟩,⟨QQ 24,ol 1 23,N2,[3,0,2,1]⟩,qm 25 2,qm 26 8,qm 27 8,⟨QQ 28,obi .add 27 1,N2,[7]⟩,qm 29 0,qm 30 7,⟨QQ 31,obi .sub 30 1,N2,[10]⟩,⟨QQ 32,oc (g "a") [u 29,u 31],N2,[9,11,10,2,1]⟩,⟨QQ 33,ob .add 28 32,N2,[8,7,12,9,11,10,2,1]⟩,qm 34 7,⟨QQ 35,ob .rem 33 34,N2,[13,8,7,12,9,11,10,2,1,14]⟩,⟨QQ 36,.build [z0,z0,z0,z0] [(0,1,(.tmp 24)),(1,1,(.tmp 25)),(2,1,(.tmp 26)),(3,1,(.tmp 35))],N2,[4,3,0,5,6,15,13,8,7,12,9,11,10,2,1,14]⟩,qq 9 (.alloc [z0,z0,z0,z0]),⟨N2,os 4 9 36,N2,[16,4,3,0,5,6,15,13,8,7,12,9,11,10,2,1,14,17]⟩]
abbrev mB:LN:=[2,4,12,17]
abbrev uW(g:SN):List ae:=[qm 56 2,qm 57 0,qf 58 7 4,⟨QQ 59,of 0 58,N2,[2]⟩,⟨QQ 60,ol 1 59,N2,[3,2]⟩,⟨QQ 61,on 60,N2,[4,3,2]⟩,⟨QQ 62,oc (g "a") [u 57,u 61],N2,[1,5,4,3,2]⟩,qm 63 0,qf 64 7 4,⟨QQ 65,of 0 64,N2,[8]⟩,⟨QQ 66,ol 1 65,N2,[9,8]⟩,⟨QQ 67,.iaV (u 66) (ui 0) 1,N2,[10,9,8]⟩,⟨QQ 68,ol 1 67,N2,[11,10,9,8]⟩,⟨QQ 69,on 68,N2,[12,11,10,9,8]⟩,⟨QQ 70,oc (g "a") [u 63,u 69],N2,[7,13,12,11,10,9,8,6,1,5,4,3,2]⟩,⟨QQ 71,.build [z0,z0,z0,z0] [(0,1,(.const (vi 1))),(1,1,(.tmp 56)),(2,1,(.tmp 62)),(3,1,(.tmp 70))],N2,[0,14,7,13,12,11,10,9,8,6,1,5,4,3,2]⟩,⟨N2,os 4 6 71,N2,[15,0,14,7,13,12,11,10,9,8,6,1,5,4,3,2]⟩]
abbrev mC:LN:=[6,10,12]
abbrev uX(g:SN):List ae:=[qm 80 2,qm 81 0,qf 82 11 4,⟨QQ 83,of 0 82,N2,[2]⟩,⟨QQ 84,ol 1 83,N2,[3,2]⟩,⟨QQ 85,.iaV (u 84) (ui 0) 1,N2,[4,3,2]⟩,⟨QQ 86,ol 1 85,N2,[5,4,3,2]⟩,⟨QQ 87,on 86,N2,[6,5,4,3,2]⟩,⟨QQ 88,oc (g "a") [u 81,u 87],N2,[1,7,6,5,4,3,2]⟩,qm 89 0,qf 90 11 4,⟨QQ 91,of 0 90,N2,[10]⟩,⟨QQ 92,ol 1 91,N2,[11,10]⟩,⟨QQ 93,on 92,N2,[12,11,10]⟩,⟨QQ 94,oc (g "a") [u 89,u 93],N2,[9,13,12,11,10,8,1,7,6,5,4,3,2]⟩,⟨QQ 95,.build [z0,z0,z0,z0] [(0,1,(.const (vi 5))),(1,1,(.tmp 80)),(2,1,(.tmp 88)),(3,1,(.tmp 94))],N2,[0,14,9,13,12,11,10,8,1,7,6,5,4,3,2]⟩,⟨N2,os 4 6 95,N2,[15,0,14,9,13,12,11,10,8,1,7,6,5,4,3,2]⟩]
abbrev mD:LN:=[8,12]
def gF(g:SN):bw:=⟨113,[4,6,9],[.cell 6 4 QS],qS [qx 4 13 1,qq 6 (.alloc [z0,z0,z0,z0])]<|.seq (qS [qf 10 0 4,ql 11 1 10,qbi 12 .eql 11 4]<|qC 12 (qS [qf 13 8 4,qf 14 2 13,ql 15 1 14,qn 16 15,qm 7 16]<|qS [qm 17 0,qm 18 7,qc 19 (g "a") [u 17,u 18],qm 8 19]<|.seq (.region QS (uV g))<|.seq (qS [qm 37 0,qc 38 (g "a") [u 37,ui 3],qbi 39 .eql 38 0,qm 40 39,qT 41 40 (om 8),qT 42 40 (obi .gtr 41 0),qp 43 40 42]<|qC 43 (qS [qm 44 2,qm 45 8,qq 46 (.build [z0,z0,z0,z0] [(0,1,(.const (vi 2))),(1,1,(.tmp 44)),(2,1,(.tmp 45))]),qs 4 6 46]<|.ret) (.skip))<|qS [qla 47 4 9,qs 4 6 47]<|.ret) (.skip))<|.seq (qS [qf 48 0 4,ql 49 1 48,qbi 50 .eql 49 3,qm 51 50,qT 52 51 (om 0),qT 53 51 (oc (g "a") [u 52,ui 3]),qT 54 51 (obi .gtr 53 0),qp 55 51 54]<|qC 55 (.seq (.region QS (uW g))<|.ret) (.skip))<|.seq (qS [qf 72 0 4,ql 73 1 72,qbi 74 .eql 73 5,qm 75 74,qT 76 75 (om 0),qT 77 75 (oc (g "a") [u 76,ui 3]),qT 78 75 (obi .gtr 77 0),qp 79 75 78]<|qC 79 (.seq (.region QS (uX g))<|.ret) (.skip))<|.seq (qS [qf 96 0 4,ql 97 1 96,qbi 98 .eql 97 6,qm 99 98,qT 100 99 (om 0),qT 101 99 (oc (g "a") [u 100,ui 3]),qT 102 99 (obi .gtr 101 0),qp 103 99 102]<|qC 103 (qS [qm 104 2,qm 105 0,qf 106 12 4,ql 107 1 106,qn 108 107,qc 109 (g "a") [u 105,u 108],qq 110 (.build [z0,z0,z0,z0] [(0,1,(.const (vi 6))),(1,1,(.tmp 104)),(2,1,(.tmp 109))]),qs 4 6 110]<|.ret) (.skip))<|qS [qm 111 2,qq 112 (.build [z0,z0,z0,z0] [(0,1,(.const z0)),(1,1,(.tmp 111))]),qs 4 6 112]<|.ret⟩
def bFo(b:Block)(at':Int)(f:Fact):Prop:=f.block=at'/\(
 f.kind=0/\b.kind≠4/\f.a=0/\f.b=0 ∨
 f.kind=1/\b.kind=3/\(0<=f.a/\f.a<b.cd.length)/\0<=f.b/\f.b<(b.cd.headD []).length ∨
 f.kind=2/\b.kind=4/\(0<f.a/\f.a<b.aw.length)/\f.b=0 ∨
 (f.kind=3∨f.kind=4)/\b.kind=4/\(0<=f.a/\f.a<b.aw.length)/\(0<=f.b/\f.b<b.aw.length)/\f.a≠f.b ∨
 f.kind=5/\b.kind=5/\(0<=f.a/\f.a<(b.bo.headD []).length)/\0<=f.b/\f.b<b.bo.length ∨
 f.kind=6/\b.kind=6/\(0<=f.a/\f.a<b.lines.length)/\f.b=0)
abbrev aLj(b:Block)(at':Int)(v:AV):Prop:=∃f:Fact,v=.agg (aI f)/\bFo b at' f
structure Sj(b:Block):Prop where
 lens:b.aw.length<=4/\b.cd.length<=3/\b.bo.length<=2/\b.lines.length<=3
 ye:b.kind=4->2<=b.aw.length
 cd:b.kind=3->1<=b.cd.length/\∀r∈b.cd,aIJ r
 L7:b.kind=5->1<=b.bo.length/\∀h∈b.bo,aOw h
 mq:b.kind=6->1<=b.lines.length
 kind:0<=b.kind/\b.kind<=6
theorem kf.lens{b:Block}(hb:kf b):Sj b:=by
 cases hb with
 |text h=>exact⟨⟨FF _,FF _,FF _,FF _⟩,(fun h=>Zw h (by show ¬(0:Int)=4;decide)),(fun h=>Zw h (by show ¬(0:Int)=3;decide)),(fun h=>Zw h (by show ¬(0:Int)=5;decide)),(fun h=>Zw h (by show ¬(0:Int)=6;decide)),by show (0:Int)<=0/\(0:Int)<=6;decide⟩
 |form h=>exact⟨⟨FF _,FF _,FF _,FF _⟩,(fun h=>Zw h (by show ¬(1:Int)=4;decide)),(fun h=>Zw h (by show ¬(1:Int)=3;decide)),(fun h=>Zw h (by show ¬(1:Int)=5;decide)),(fun h=>Zw h (by show ¬(1:Int)=6;decide)),by show (0:Int)<=1/\(1:Int)<=6;decide⟩
 |col h=>exact⟨⟨FF _,FF _,FF _,FF _⟩,(fun h=>Zw h (by show ¬(2:Int)=4;decide)),(fun h=>Zw h (by show ¬(2:Int)=3;decide)),(fun h=>Zw h (by show ¬(2:Int)=5;decide)),(fun h=>Zw h (by show ¬(2:Int)=6;decide)),by show (0:Int)<=2/\(2:Int)<=6;decide⟩
 |cd h=>exact⟨⟨FF _,h.2.1,FF _,FF _⟩,(fun h=>Zw h (by show ¬(3:Int)=4;decide)),fun _=>⟨h.1,h.2.2.1⟩,(fun h=>Zw h (by show ¬(3:Int)=5;decide)),(fun h=>Zw h (by show ¬(3:Int)=6;decide)),by show (0:Int)<=3/\(3:Int)<=6;decide⟩
 |fig h=>exact⟨⟨h.1.2,FF _,FF _,FF _⟩,fun _=>h.1.1,(fun h=>Zw h (by show ¬(4:Int)=3;decide)),(fun h=>Zw h (by show ¬(4:Int)=5;decide)),(fun h=>Zw h (by show ¬(4:Int)=6;decide)),by show (0:Int)<=4/\(4:Int)<=6;decide⟩
 |mel h=>exact⟨⟨FF _,FF _,h.2.1,FF _⟩,(fun h=>Zw h (by show ¬(5:Int)=4;decide)),(fun h=>Zw h (by show ¬(5:Int)=3;decide)),fun _=>⟨h.1,h.2.2.1⟩,(fun h=>Zw h (by show ¬(5:Int)=6;decide)),by show (0:Int)<=5/\(5:Int)<=6;decide⟩
 |lst h=>exact⟨⟨FF _,FF _,FF _,h.2.1⟩,(fun h=>Zw h (by show ¬(6:Int)=4;decide)),(fun h=>Zw h (by show ¬(6:Int)=3;decide)),(fun h=>Zw h (by show ¬(6:Int)=5;decide)),fun _=>h.1,by show (0:Int)<=6/\(6:Int)<=6;decide⟩
abbrev aBt(A:af)(f:Nat)(args:LA)(P:AV->Prop):Prop:=∀(l:List Int) (i:Int) (o v:Nat) (H:LO),jP l->H[o]? = QQ (.box v (aM l i)) ->
 ∃val i' wr,aG A f (.ptr o v 0::args) H=QQ (val,H.set o (.box v (aM l i')),wr)/\(wr=[]∨wr=[o])/\P val
theorem Has.Hf{A:af}{g:SN}{name:String}{fn:bw}(h:Has A g name fn){args:LA}{P:AV->Prop}(hN:args.length+1<=fn.ntmps)(hok:∀n,dK fn.ntmps ⟨n,fn.sites⟩ fn.body=QS) (hw:∀(l:List Int) (i:Int) (o v:Nat) (H:LO),jP l->o<H.length->H[o]? = QQ (.box v (aM l i)) ->wc A fn.ntmps ⟨H.length,fn.sites⟩ fn.body (pO (.ptr o v 0::args)) (H++AX fn.sites.length (.gone 0)) [] (aRz H.length fn.results (fun val H' wr=>(∃i',H'=H.set o (.box v (aM l i')))/\(wr=[]∨wr=[o])/\P val) ⟨⟩) ⟨⟩):aBt A (g name) args P:=by intro l i o v H hl ho;obtain⟨val,H',wr,h1,⟨i',rfl⟩,gn,h2⟩:=h.bp (args:=.ptr o v 0::args) (hw l i o v H hl (getElem?_lt ho) ho) (Nat.ble_eq_true_of_le (by simpa using hN)) (hok _);grind
theorem aSz{A:af}{g:SN}(h:Has A g "L" (gF g))(ht:fR A g){b:Block}(hb:kf b){at':Int}(Bt:0<=at')(M1:at'<=1000):aBt A (g "L") [.agg (aE b),vi at'] (aLj b at'):=by
 refine h.Hf (by simp[gF]) (fun n=>bIv) ?_;intro l i o v H hl hlt ho;have hb:=hb.lens;obtain⟨qe,iq,yz,yv⟩:=hb.lens;have fin:∀k x y:Int,bFo b at' ⟨k,at',x,y⟩->aLj b at' (.agg [vi k,vi at',vi x,vi y]):=fun k x y h=>⟨⟨k,at',x,y⟩,rfl,h⟩;have whole:b.kind≠4->aLj b at' (.agg [vi 0,vi at',vi 0,vi 0]):=fun h=>fin 0 0 0 ⟨rfl,.inl ⟨rfl,h,rfl,rfl⟩⟩;simp only[gF];cases nz:b.expr with | mk op n kids=>
 by_cases k6:b.kind=6
 ·have hn:=hb.mq k6;simp only[go_sem,seval,aE,nz,aF,bD,k6];refine bB (bA ht (m:=3) deT) hl (i:=i) (by grind) ?_;rintro val i1 ⟨x,rfl,jr,lz⟩;simp only[go_sem,seval,hlt,fN];refine aD (fun fo=>?_) (fun fo=>?_)
  ·simp only[go_sem,seval,hlt];refine bB (bA ht (m:=b.lines.length) omT) hl (i:=i1) (by simp only[go_sem,seval,aP,hlt]) ?_;rintro val i2 ⟨y,rfl,oj,tc⟩;simp only[go_sem,seval,hlt,aR,aW,aA (aC aU _)];exact⟨⟨i2,rfl⟩,.inr trivial,fin 6 y 0 ⟨rfl,.inr (.inr (.inr (.inr (.inr ⟨rfl,k6,⟨oj,tc⟩,rfl⟩))))⟩⟩
  simp only[go_sem,seval,hlt,aW,aA (aC aU _)];exact⟨⟨i1,rfl⟩,.inr trivial,whole omT⟩
 by_cases k5:b.kind=5
 ·have hn:=hb.L7 k5;cases tz:b.bo with
  |nil=>rw[tz]at hn;simp at hn
  |cons h0 hr=>
  have ft:=hn.2 h0 (by rw[tz];simp);rw[tz]at yz;simp only[AW]at yz;simp only[go_sem,seval,aE,nz,aF,bD,k5,tz];refine bB (bA ht (m:=3) deT) hl (i:=i) (by simp only[go_sem,seval,eK,hlt,ho]) ?_;rintro val i1 ⟨x,rfl,jr,lz⟩;simp only[go_sem,seval,hlt,fN];refine aD (fun fo=>?_) (fun fo=>?_)
  ·simp only[go_sem,seval];refine aY (aq:=mD) rfT rfT ?_;simp only[go_sem,seval,mD,hlt,bS];refine eB (bA ht (m:=h0.length) (by omega)) hl (i:=i1) (by simp only[go_sem,seval,aP,hlt]) ?_;rintro val i2 ⟨y,rfl,oj,tc⟩;simp only[go_sem,seval,hlt,aR];refine eB (bA ht (m:=((hr.length+1:Nat):Int)) omT) hl (i:=i2) (by simp only[go_sem,seval,aP,hlt]) ?_;rintro val i3 ⟨z,rfl,me,rr⟩;have bl:(H.length==o)=false:=soT;simp only[go_sem,seval,hlt,aR,aW,aA (aC aU _),eH,dG,bl,aL];have:=ft.2.1;exact⟨⟨i3,rfl⟩,.inr trivial,fin 5 y z ⟨rfl,.inr (.inr (.inr (.inr (.inl ⟨rfl,k5,by simp_all,me,by simp_all⟩))))⟩⟩
  simp only[go_sem,seval,hlt,aW,aA (aC aU _)];exact⟨⟨i1,rfl⟩,.inr trivial,whole omT⟩
 by_cases k3:b.kind=3
 ·have hn:=hb.cd k3;cases tz:b.cd with
  |nil=>rw[tz]at hn;simp at hn
  |cons h0 hr=>
  have ft:=hn.2 h0 (by rw[tz];simp);rw[tz]at iq;simp only[AW]at iq;simp only[go_sem,seval,aE,nz,aF,bD,k3,tz];refine bB (bA ht (m:=3) deT) hl (i:=i) (by grind) ?_;rintro val i1 ⟨x,rfl,jr,lz⟩;simp only[go_sem,seval,hlt,fN];refine aD (fun fo=>?_) (fun fo=>?_)
  ·simp only[go_sem,seval];refine aY (aq:=mC) rfT rfT ?_;simp only[go_sem,seval,mC,hlt,bY];refine eB (bA ht (m:=((hr.length+1:Nat):Int)) omT) hl (i:=i1) (by simp only[go_sem,seval,aP,hlt]) ?_;rintro val i2 ⟨y,rfl,oj,tc⟩;simp only[go_sem,seval,hlt,aR];refine eB (bA ht (m:=h0.length) (by grind)) hl (i:=i2) (by simp only[go_sem,seval,aP,hlt]) ?_;rintro val i3 ⟨z,rfl,me,rr⟩;have bl:(H.length==o)=false:=soT;simp only[go_sem,seval,hlt,aR,aW,aA (aC aU _),eH,dG,bl,aL];have:=ft.2.1;exact⟨⟨i3,rfl⟩,.inr trivial,fin 1 y z ⟨rfl,.inr (.inl ⟨rfl,k3,by grind,me,by grind⟩)⟩⟩
  simp only[go_sem,seval,hlt,aW,aA (aC aU _)];exact⟨⟨i1,rfl⟩,.inr trivial,whole omT⟩
 by_cases k4:b.kind=4
 ·have hn:=hb.ye k4;have od:AR.wrap ((b.aw.length:Int) - 1)=(b.aw.length:Int) - 1:=wrap_i64 omT omT;simp only[go_sem,seval,aE,nz,aF,bD,k4];refine bB (bA ht (m:=b.aw.length) omT) hl (i:=i) (by grind) ?_;rintro val i1 ⟨x,rfl,jr,lz⟩;simp only[go_sem,seval,hlt,fN];refine aY (aq:=mB) (H0:=_) (by simp only[go_sem,seval,cS];rfl) rfT ?_;simp only[go_sem,seval,mB];refine eB (bA ht (m:=2) deT) hl (i:=i1) (by simp only[go_sem,seval,aP,hlt]) ?_;rintro val i2 ⟨y,rfl,oj,tc⟩;obtain⟨kd,Cz,cx⟩:=aQk [3,4] oj tc;simp only[DR,bF]at cx;have Ng:kd=3∨kd=4:=by
   grind
  have wk:AR.wrap (x+1)=x+1:=wrap_i64 omT omT;have bl:(H.length==o)=false:=soT;have ya:(H.length+2==o)=false:=soT;simp only[go_sem,seval,hlt,aR,oj,cx,wk,od];refine eB (bA ht (m:=(b.aw.length:Int) - 1) omT) hl (i:=i2) (by simp only[go_sem,seval,aP,hlt]) ?_;rintro val i3 ⟨z,rfl,me,rr⟩;have Nh:AR.wrap (x+1+z)=x+1+z:=wrap_i64 omT omT;have Ni:(b.aw.length:Int)≠0:=omT;have Cx:=HV (b.aw.length:Int) (a:=x+1+z) omT;have gj:=GX (x+1+z) (b:=(b.aw.length:Int)) omT;simp only[go_sem,seval,hlt,aR,Nh,tS Ni,eH,dG,ya,aL];refine bB (bA ht (m:=3) deT) hl (i:=i3) (by simp only[go_sem,seval,aP,hlt]) ?_;rintro val i4 ⟨w,rfl,od,dy⟩;have Tp:x≠(x+1+z).tmod b.aw.length:=by
   by_cases hc:x+1+z<b.aw.length
   ·rw[Int.tmod_eq_of_lt omT hc];omega
   have:x+1+z=(x+1+z - b.aw.length)+b.aw.length:=omT;rw[this,Ai omT,Int.add_emod_right,Int.emod_eq_of_lt omT omT];omega
  have last:=fin kd x ((x+1+z).tmod b.aw.length) ⟨rfl,.inr (.inr (.inr (.inl ⟨Ng,k4,⟨jr,lz⟩,⟨Cx,gj⟩,Tp⟩)))⟩;simp only[go_sem,seval,hlt,aR];refine aD (fun fo=>?_) (fun fo=>?_)
  ·have dp:(w==0)=true:=by grind
   simp only[go_sem,seval,dp];refine aD (fun D3=>?_) (fun D3=>?_)
   ·simp only[go_sem,seval,hlt,aW,aA (aC aU _)];exact⟨⟨i4,rfl⟩,.inr trivial,fin 2 x 0 ⟨rfl,.inr (.inr (.inl ⟨rfl,k4,⟨by grind,lz⟩,rfl⟩))⟩⟩
   simp only[go_sem,seval,hlt,aW,aA (aC aU _)];exact⟨⟨i4,rfl⟩,.inr trivial,last⟩
  have dp:(w==0)=false:=by grind
  simp only[go_sem,seval,dp,hlt,aW,aA (aC aU _)];exact⟨⟨i4,rfl⟩,.inr trivial,last⟩
 simp only[go_sem,seval,aE,nz,aF,bD,aF9 k3,aF9 k4,aF9 k5,aF9 k6];exact⟨⟨i,(aJo ho).symm⟩,.inl trivial,whole omT⟩
theorem bFo.small{b:Block}(hb:Sj b){at':Int}{f:Fact}(h:bFo b at' f):f.block=at'/\(0<=f.kind/\f.kind<=6)/\(0<=f.a/\f.a<=4)/\0<=f.b/\f.b<=4:=by
 have g:b.kind=3->(b.cd.headD []).length<=3:=fun k=>by
  cases hg:b.cd with
  |nil=>decide
  |cons r _=>exact ((hb.cd k).2 r (by rw[hg];simp)).2.1
 have m:b.kind=5->(b.bo.headD []).length<=3:=fun k=>by
  cases hg:b.bo with
  |nil=>decide
  |cons r _=>exact ((hb.L7 k).2 r (by rw[hg];simp)).2.1
 obtain⟨l1,l2,l3,l4⟩:=hb.lens;obtain⟨h0,h⟩:=h;grind
abbrev rV(g:SN):ag:=.seq (qS [qm 63 12,qm 64 11,qb 65 .lss 63 64]<|qC 65 (.skip) (.exit 4))<|.seq (.block 5 (qS [qm 68 3,qla 69 13 10,qm 70 9,qc 71 (g "L") [u 68,u 69,u 70],qq 13 (.alloc [z0,z0,z0,z0]),qs 4 13 71]<|qS [qf 72 2 7,ql 73 1 72,qla 74 4 13,qc 75 (g "B") [u 73,u 74],qq 76 (.un .not (u 75))]<|qC 76 (qR [qf 77 2 7,ql 78 1 77,qla 79 4 13,qq 80 (.bsl 4 [z0,z0,z0,z0] 1 [(0,(.tmp 79))]),qa 81 4 32 78 80,qf 82 2 7,qs 1 82 81]) (.skip)))<|.region QT [qm 66 12,qbi 67 .add 66 1,qm 12 67]
abbrev aCI:LN:=[63,64,65,68,69,70,71,13,72,73,74,75,76,77,78,79,80,81,82,66,67,12]
abbrev rW(g:SN):ag:=.seq (qS [qm 45 9,qm 46 8,qb 47 .lss 45 46]<|qC 47 (.skip) (.exit 2))<|.seq (.block 3 (qS [qm 50 3,qm 51 3,qc 52 (g "a") [u 51,ui 7],qc 53 (g "W") [u 50,u 52],qq 10 (.alloc [z0,(.sl QS []),z0,z0,(.sl QS []),z0,(.sl QS []),(.sl QS []),z0,z0,(.sl QS []),(.sl QS []),(.sl QS [])]),qs 13 10 53]<|qS [qf 54 1 7,ql 55 1 54,qla 56 13 10,qq 57 (.bsl 13 [z0,(.sl QT []),z0,z0,(.sl QT []),z0,(.sl QT []),(.sl QT []),z0,z0,(.sl QT []),(.sl QT []),(.sl QT [])] 1 [(0,(.tmp 56))]),qa 58 13 216 55 57,qf 59 1 7,qs 1 59 58]<|qS [qm 60 3,qc 61 (g "a") [u 60,ui 2],qq 62 (.bin .add .no (ui 1) (u 61)),qm 11 62]<|qS [qmc 12 z0]<|.block 4 (.loop (rV g))))<|.region QT [qm 48 9,qbi 49 .add 48 1,qm 9 49]
abbrev aCJ:LN:=[45,46,47,50,51,52,53,10,54,55,56,57,58,59,60,61,62,11,12,63,64,65,68,69,70,71,13,72,73,74,75,76,77,78,79,80,81,82,66,67,12,48,49,9]
abbrev aCK(g:SN):List ae:=[qf 90 3 7,⟨QQ 91,ol 1 90,N2,[0]⟩,qm 92 3,qf 93 2 7,⟨QQ 94,ol 1 93,N2,[3]⟩,⟨QQ 95,on 94,N2,[4,3]⟩,⟨QQ 96,oc (g "X") [u 92,u 95],N2,[2,5,4,3]⟩,⟨QQ 97,.bsl 7 [z0,(.sl QT []),(.sl QT []),(.sl QT []),(.str []),z0,(.sl QT [])] 1 [(0,(.tmp 96))],N2,[6,2,5,4,3]⟩,⟨QQ 98,oa 7 128 91 97,N2,[1,0,7,6,2,5,4,3]⟩,⟨QQ 99,of 3 7,N2,[8,1,0,7,6,2,5,4,3]⟩,⟨N2,os 1 99 98,N2,[9,8,1,0,7,6,2,5,4,3]⟩]
abbrev rX:LN:=[1,6]
abbrev rY(g:SN):ag:=.seq (qS [qm 85 15,qm 86 14,qb 87 .lss 85 86]<|qC 87 (.skip) (.exit 6))<|.seq (.block 7 (.region QS (aCK g)))<|.region QT [qm 88 15,qbi 89 .add 88 1,qm 15 89]
abbrev aCL:LN:=[85,86,87,90,91,92,93,94,95,96,97,98,99,88,89,15]
abbrev rZ(g:SN):ag:=.seq (qS [qm 32 6,qm 33 5,qb 34 .lss 32 33]<|qC 34 (.skip) (.exit 0))<|.seq (.block 1 (qS [qq 37 (.bsl 1 [(.str [])] 3 [(0,(.const (.str [102,105,114,115,116]))),(1,(.const (.str [113,50]))),(2,(.const (.str [108,97,115,116])))]),qm 38 6,qi 39 37 38 1,ql 40 1 39,qq 41 (.build [(.str []),(.sl QS []),(.sl QS []),(.sl QS [])] [(0,1,(.tmp 40))]),qq 7 (.alloc [(.str []),(.sl QS []),(.sl QS []),(.sl QS [])]),qs 4 7 41]<|qS [qm 42 3,qc 43 (g "a") [u 42,ui 3],qq 44 (.bin .add .no (ui 1) (u 43)),qm 8 44]<|.seq (qS [qmc 9 z0]<|.block 2 (.loop (rW g)))<|qS [qm 83 3,qc 84 (g "a") [u 83,ui 3],qm 14 84]<|.seq (qS [qmc 15 z0]<|.block 6 (.loop (rY g)))<|.region QT [qf 100 1 4,ql 101 1 100,qla 102 4 7,qq 103 (.bsl 4 [(.str []),(.sl QT []),(.sl QT []),(.sl QT [])] 1 [(0,(.tmp 102))]),qa 104 4 88 101 103,qf 105 1 4,qs 1 105 104]))<|.region QT [qm 35 6,qbi 36 .add 35 1,qm 6 36]
abbrev aCM:LN:=[32,33,34,37,38,39,40,41,7,42,43,44,8,9,45,46,47,50,51,52,53,10,54,55,56,57,58,59,60,61,62,11,12,63,64,65,68,69,70,71,13,72,73,74,75,76,77,78,79,80,81,82,66,67,12,48,49,9,83,84,14,15,85,86,87,90,91,92,93,94,95,96,97,98,99,88,89,15,100,101,102,103,104,105,35,36,6]
def pM(g:SN):bw:=⟨107,[2,22,4,7,10,58,13,81,98,104],[.cell 2 2 QS],qS [qq 2 (.alloc [(.str []),(.sl QS [])])]<|qS [qm 16 0,qm 17 0,qn 18 17,qq 19 (.mm QT [(.tmp 18),(.const (vi 400))]),qq 20 (.gw 1 (u 16) N2 (QQ (.tmp 19)) N2),qq 21 (.build [(.sl QS []),z0] [(0,1,(.tmp 20))]),qx 22 2 21,qm 3 22]<|qS [qq 23 (.bsl 1 [(.str [])] 3 [(0,(.const (.str [84,101,115,116]))),(1,(.const (.str [89,101,97,114,32,55,44,32,112,97,114,116,32,50]))),(2,(.const (.str [65])))]),qm 24 3,qc 25 (g "a") [u 24,ui 3],qi 26 23 25 1,ql 27 1 26,qq 28 (.build [(.str []),(.sl QS [])] [(0,1,(.tmp 27))]),qq 4 (.alloc [(.str []),(.sl QS [])]),qs 2 4 28]<|qS [qm 29 3,qc 30 (g "a") [u 29,ui 3],qq 31 (.bin .add .no (ui 1) (u 30)),qm 5 31]<|.seq (qS [qmc 6 z0]<|.block 0 (.loop (rZ g)))<|qS [qla 106 2 4,qs 2 2 106]<|.ret⟩
def FIn(bs:List Block)(f:Fact):Prop:=0<=f.block/\∃b,bs[f.block.toNat]? = QQ b/\bFo b f.block f
theorem FIn.app{bs l:List Block}{f:Fact}(h:FIn bs f):FIn (bs++l) f:=by obtain⟨h0,b,h1,h2⟩:=h;exact⟨h0,b,by grind,h2⟩
abbrev FsP(P:Fact->Prop)(fs:List Fact):Prop:=(∀f∈fs,P f)/\fs.Nodup
theorem FsP.app{P:Fact->Prop}{fs:List Fact}{f:Fact}(h:FsP P fs)(hf:P f)(hn:(fs.any fun a=>eqv a f)=QT):FsP P (fs++[f]):=by refine⟨pS h.1 hf,NO.2 ⟨h.2,siT,fun a ha b hb=>?_⟩⟩;rw[CG.1 hb];rintro rfl;have:=KH.1 hn a ha;simp[eqv]at this
abbrev bF7:List Str:=[[102,105,114,115,116],[113,50],[108,97,115,116]]
abbrev bEq:List Str:=[[84,101,115,116],[89,101,97,114,32,55,44,32,112,97,114,116,32,50],[65]]
structure pz(x:Item):Prop where
 name:x.name∈bF7
 zq:1<=x.blocks.length/\x.blocks.length<=3
 block:∀b∈x.blocks,kf b
 B1:x.facts.length<=6
 fact:∀f∈x.facts,FIn x.blocks f
 tj:x.ask.length<=2
 ask:∀q∈x.ask,jt x.facts.length q
 nodup:x.facts.Nodup
structure my(x:jm):Prop where
 title:x.title∈bEq
 G8:1<=x.items.length/\x.items.length<=3
 item:∀i∈x.items,pz i
 names:x.items.map Item.name=bF7.take x.items.length
theorem pz.ok{x:Item}(h:pz x):x.Ok:=by obtain⟨h1,h2,h3,h4,h5,h6,h7,_⟩:=h;refine⟨(by decide:∀s∈bF7,s.length<=1000) _ h1,omT,fun b hb=>(h3 b hb).ok,omT,fun f hf=>?_,omT,fun q hq=>(h7 q hq).ok omT⟩;obtain⟨a0,b,a1,a2⟩:=h5 f hf;have a3:=a2.small (h3 b (AN a1)).lens;have a4:=(AH.1 a1).1;constructor<;>(grind)
theorem my.ok{x:jm}(h:my x):x.Ok:=⟨(by decide:∀s∈bEq,s.length<=1000) _ h.title,by have:=h.G8;omega,fun i hi=>(h.item i hi).ok⟩
abbrev aYl(v:AV):Prop:=∃x:jm,v=dE x/\my x
theorem aQz{A:af}{f:Nat}{args:LA}{P:AV->Prop}(hs:aBt A f args P){l:List Int}{i:Int}{o v:Nat}{H H2:LO}(hl:jP l)(ho:H[o]? = QQ (.box v (aM l i))){site:Option Nat}{q:Bool} {k:AV×LO×LN->Prop} {tg} (hk:∀val i' wr,(wr=[]∨wr=[o])->P val->bnd (dY site q H2 (QQ (val,H.set o (.box v (aM l i')),wr))) k):aCi (dY site q H2 (aG A f (.ptr o v 0::args) H)) k tg:=by obtain⟨val,i',wr,h1,h2,h3⟩:=hs l i o v H hl ho;rw[h1];exact hk val i' wr h2 h3
theorem aEB(b:Block):FW 13 (aE b)=aE b:=CH (by rw[cF];grind)
theorem aNt(f:Fact):(aI f).length=4:=rfl
theorem aLm(f:Fact):FW 4 (aI f)=aI f:=CH (AQ _)
theorem aQA{A:af}{g:SN}(hh:∀(l:List Fact),l.length<=1000->∀(f:Fact) (H:LO),aG A (g "B") [.sl QT (l.map aI),.agg (aI f)] H=QQ (.bool (l.any fun a=>eqv a f),H,[])) {id:Nat} {rows:List LA} {fs:List Fact} (hr:rows=fs.map aI) (Nj:fs.length<=1000) {w:AV} {o:ah} (hg:ew id 4 rows w o) (f:Fact) (H:LO) (site:Option Nat) (ho:H[id]? = QQ o):cX (aG A) H site (.fn (g "B") [] []) [w,.agg (aI f)]=QQ (.bool (fs.any fun a=>eqv a f),H,[]):=by
 have hb:=hh fs Nj f;cases hg with
 |nil=>have dp:=hb H;rw[<- hr]at dp;simp only[go_sem,seval,aS (eL _),aK (eL _),dp]
 |obj ver=>
  have bd:(rows.all fun r=>r.all AV.still)=true:=by rw[hr];exact aT (aC eL _)
  rw[<- hr]at hb;simp only[go_sem,seval,aS (eL _),aK (eL _),ho,bd,hb]
abbrev aNu:LN:=[2,22,4,7,10,58,13,81,98,104]
theorem aVy{A:af}{g:SN}(hf:∀{b:Block},kf b->∀{a:Int},0<=a->a<=1000->aBt A (g "L") [.agg (aE b),vi a] (aLj b a)) (hh:∀(l:List Fact),l.length<=1000->∀(f:Fact) (H:LO),aG A (g "B") [.sl QT (l.map aI),.agg (aI f)] H=QQ (.bool (l.any fun a=>eqv a f),H,[])) {H:LO} {Q:bf->bN->LO->LN->Prop} {tg} {l:List Int} (hl:jP l) {i:Int} {o0 o2 o5 o6 o7 o8 o9:ah} {v7 v10:Nat} {c0 c1 c2 c3:AV} {b:Block} (hb:kf b) {k:Nat} (hk:k<=10) {n:Int} (gq:0<=n) (hn:n<=2) {fs:List Fact} (I9:fs.length<=10) {P:Fact->Prop} (hP:∀f,bFo b k f->P f) (k9:FsP P fs) (hg:ew (H.length+7) 4 (fs.map aI) c2 o7) {ρ:bN} (e3:ρ 3=.ptr (H.length+1) 1 0) (e7:ρ 7=.ptr (H.length+3) v7 0) (e9:ρ 9=vi k) (e10:ρ 10=.ptr (H.length+4) v10 0) (e11:ρ 11=vi n) (e12:ρ 12=vi 0) (hQ:∀ρ' i' o6 o7 c2 (fs':List Fact),(∀t,aCI.contains t=QT->ρ' t=ρ t)->fs'.length<=fs.length+2->FsP P fs'->ew (H.length+7) 4 (fs'.map aI) c2 o7 ->Q (.exit 4) ρ' (H++[o0,.box 1 (aM l i'),o2,.box v7 [c0,c1,c2,c3],.box v10 (aE b),o5,o6,o7,o8,o9]) []):wl A 107 ⟨H.length,aNu⟩ (rV g) ρ (H++[o0,.box 1 (aM l i),o2,.box v7 [c0,c1,c2,c3],.box v10 (aE b),o5,o6,o7,o8,o9]) [] Q tg:=by
 refine bJ (fun j ρ1 H1 wr=>wr=[]/\ρ1 12=vi j/\∃i' o6 o7 c2,∃fs':List Fact,H1=H++[o0,.box 1 (aM l i'),o2,.box v7 [c0,c1,c2,c3],.box v10 (aE b),o5,o6,o7,o8,o9]/\ew (H.length+7) 4 (fs'.map aI) c2 o7/\fs'.length<=fs.length+j/\FsP P fs') n.toNat
  (fun ρ1 H1 wr=>wr=[]/\∃i' o6 o7 c2,∃fs':List Fact,H1=H++[o0,.box 1 (aM l i'),o2,.box v7 [c0,c1,c2,c3],.box v10 (aE b),o5,o6,o7,o8,o9]/\ew (H.length+7) 4 (fs'.map aI) c2 o7/\fs'.length<=fs.length+2/\FsP P fs')
  bIv rfl ⟨rfl,e12,i,o6,o7,c2,fs,rfl,hg,AQ _,k9⟩ ?_ (by
   rintro ρ' H' ba ⟨rfl,i',o6,o7,c2,fs',rfl,hg,h1,h2⟩ hf;exact hQ ρ' i' o6 o7 c2 fs' hf h1 h2 hg)
 rintro j ρ1 H1 dc mo ⟨rfl,e12,i',o6,o7,c2,fs',rfl,hg,gu,il⟩ Pw;have f3:ρ1 3=.ptr (H.length+1) 1 0:=(Pw 3 rfl).trans e3;have f7:ρ1 7=.ptr (H.length+3) v7 0:=(Pw 7 rfl).trans e7;have f9:ρ1 9=vi k:=(Pw 9 rfl).trans e9;have f10:ρ1 10=.ptr (H.length+4) v10 0:=(Pw 10 rfl).trans e10;have f11:ρ1 11=vi n:=(Pw 11 rfl).trans e11;simp only[go_sem,↓aB,seval,f11,e12];refine aD (fun fo=>?_) (fun fo=>?_)
 ·have cr:j<n.toNat:=by grind
  simp only[go_sem,↓aB,seval,f3,f9,f10,cF,aEB,aS (bG _),aK (bG _)];refine aQz (hf hb (a:=(k:Int)) omT omT) hl (i:=i') (by simp_all) ?_;rintro val i3 dc ma ⟨f,rfl,Hh⟩;have hw:bE H.length [] dc=[]:=by rcases ma with rfl | rfl<;>simp only[go_sem,seval]
  have az:=aQA hh rfl omT hg f;simp only[go_sem,↓aB,seval,az,hw,f7,aNt,aLm,bQ (eL _)];refine aD (fun dp=>?_) (fun dp=>?_)
  ·obtain⟨v',o',eu,db⟩:=hg.app (new:=[aI f]) (bytes:=32) siT rfT (by grind);rw[show fs'.map aI++[aI f]=(fs'++[f]).map aI by simp]at eu;simp only[go_sem,↓aB,seval,f7,e12,aNt,aLm,aS (eL _),aK (eL _),bR (eL _),db,eu.ak,eu.aj];rw[dW omT];exact⟨cr,rfl,i3,_,o',v',fs'++[f],rfl,eu,soT,il.app (hP f Hh) (by grind)⟩
  simp only[go_sem,↓aB,seval,e12];rw[dW omT];grind
 have cr:j=n.toNat:=by grind
 subst cr;simp only[go_sem,seval];grind
theorem aSA{A:af}{g:SN}(ht:fR A g)(dx:∀{k:Int},0<=k->k<7->dI A (g "W") [vi k] (aMn k)) (hf:∀{b:Block},kf b->∀{a:Int},0<=a->a<=1000->aBt A (g "L") [.agg (aE b),vi a] (aLj b a)) (hh:∀(l:List Fact),l.length<=1000->∀(f:Fact) (H:LO),aG A (g "B") [.sl QT (l.map aI),.agg (aI f)] H=QQ (.bool (l.any fun a=>eqv a f),H,[])) {H:LO} {Q:bf->bN->LO->LN->Prop} {tg} {l:List Int} (hl:jP l) {i:Int} {o0 o2 o4 o5 o6 o7 o8 o9:ah} {v7:Nat} {c0 c3:AV} {n:Int} (gq:1<=n) (hn:n<=3) {ρ:bN} (e3:ρ 3=.ptr (H.length+1) 1 0) (e7:ρ 7=.ptr (H.length+3) v7 0) (e8:ρ 8=vi n) (e9:ρ 9=vi 0) (hQ:∀ρ' i' o4 o5 o6 o7 c1 c2 (bs:List Block) (fs:List Fact),(∀t,aCJ.contains t=QT->ρ' t=ρ t)->1<=bs.length/\bs.length<=3->(∀b∈bs,kf b)->fs.length<=6->FsP (FIn bs) fs ->ew (H.length+5) 13 (bs.map aE) c1 o5->ew (H.length+7) 4 (fs.map aI) c2 o7 ->Q (.exit 2) ρ' (H++[o0,.box 1 (aM l i'),o2,.box v7 [c0,c1,c2,c3],o4,o5,o6,o7,o8,o9]) []):wl A 107 ⟨H.length,aNu⟩ (rW g) ρ (H++[o0,.box 1 (aM l i),o2,.box v7 [c0,.sl QS [],.sl QS [],c3],o4,o5,o6,o7,o8,o9]) [] Q tg:=by
 refine bJ (fun j ρ1 H1 wr=>wr=[]/\ρ1 9=vi j/\∃i' o4 o5 o6 o7 c1 c2,∃bs:List Block,∃fs:List Fact,H1=H++[o0,.box 1 (aM l i'),o2,.box v7 [c0,c1,c2,c3],o4,o5,o6,o7,o8,o9] /\
   ew (H.length+5) 13 (bs.map aE) c1 o5/\ew (H.length+7) 4 (fs.map aI) c2 o7/\bs.length=j/\(∀b∈bs,kf b)/\fs.length<=2*j/\FsP (FIn bs) fs) n.toNat
  (fun ρ1 H1 wr=>wr=[]/\∃i' o4 o5 o6 o7 c1 c2,∃bs:List Block,∃fs:List Fact,H1=H++[o0,.box 1 (aM l i'),o2,.box v7 [c0,c1,c2,c3],o4,o5,o6,o7,o8,o9] /\
   ew (H.length+5) 13 (bs.map aE) c1 o5/\ew (H.length+7) 4 (fs.map aI) c2 o7/\(1<=bs.length/\bs.length<=3)/\(∀b∈bs,kf b)/\fs.length<=6/\FsP (FIn bs) fs)
  bIv rfl ⟨rfl,e9,i,o4,o5,o6,o7,.sl QS [],.sl QS [],[],[],rfl,.nil _,.nil _,rfl,siT,siT,siT,siT⟩ ?_ (by
   rintro ρ' H' ba ⟨rfl,i',o4,o5,o6,o7,c1,c2,bs,fs,rfl,hg,qu,h1,h2,h3,h4⟩ hf;exact hQ ρ' i' o4 o5 o6 o7 c1 c2 bs fs hf h1 h2 h3 h4 hg qu)
 rintro j ρ1 H1 dc mo ⟨rfl,e9,i',o4,o5,o6,o7,c1,c2,bs,fs,rfl,hg,qu,zo,td,I9,k9⟩ Pw;have f3:ρ1 3=.ptr (H.length+1) 1 0:=(Pw 3 rfl).trans e3;have f7:ρ1 7=.ptr (H.length+3) v7 0:=(Pw 7 rfl).trans e7;have f8:ρ1 8=vi n:=(Pw 8 rfl).trans e8;simp only[go_sem,↓aB,seval,f8,e9];refine aD (fun fo=>?_) (fun fo=>?_)
 ·have cr:j<n.toNat:=by grind
  simp only[go_sem,↓aB,seval,f3];refine bB (bA ht (m:=7) deT) hl (i:=i') (by simp) ?_;rintro val i3 ⟨x,rfl,jr,lz⟩;simp only[go_sem,↓aB,seval];refine bB (dx jr lz) hl (i:=i3) (by simp) ?_;rintro val i4 ⟨b,rfl,P7,Jm⟩;obtain⟨v',o',eu,db⟩:=hg.app (new:=[aE b]) (bytes:=216) siT (by rw[aCj,cF];rfl) (by grind);rw[show bs.map aE++[aE b]=(bs++[b]).map aE by simp]at eu;simp only[go_sem,↓aB,seval,f3,f7,cF,aEB,bQ (bG _),aS (bG _),aK (bG _),bR (bG _),db,eu.ak,eu.aj];refine bB (bA ht (m:=2) deT) hl (i:=i4) (by simp) ?_;rintro val i5 ⟨y,rfl,oj,tc⟩;have zz:AR.wrap (1+y)=1+y:=wrap_i64 omT omT;simp only[go_sem,↓aB,seval,zz];refine aVy hf hh hl Jm (k:=j) omT (n:=1+y) omT omT (fs:=fs) omT (P:=FIn (bs++[b])) (fun f h=>⟨by rw[h.1];omega,b,by rw[h.1,AT,<- zo];simp,by rw[h.1];exact h⟩) ⟨fun f h=>(k9.1 f h).app,k9.2⟩ qu (by simp only[go_sem,seval,f3]) (by simp only[go_sem,seval,f7]) (by simp only[go_sem,seval,e9]) (by simp only[go_sem,seval]) (by simp only[go_sem,seval]) (by simp only[go_sem,seval]) ?_;intro ρ2 i6 o6' o7' c2' fs' cq Nk Hi Hj;have g9:ρ2 9=vi j:=by rw[cq 9 rfl];simp only[go_sem,seval,e9]
  simp only[go_sem,↓aB,seval,g9];rw[dW omT];grind
 have cr:j=n.toNat:=by grind
 subst cr;simp only[go_sem,seval];grind
theorem aVz(q:Question):(gR q).length=7:=rfl
theorem aYm{A:af}{g:SN}(Nl:∀{m:Nat},m<=10->dI A (g "X") [vi m] (aBr m)) {H:LO} {Q:bf->bN->LO->LN->Prop} {tg} {l:List Int} (hl:jP l) {i:Int} {o0 o2 o4 o5 o6 o7 o8 o9:ah} {v7:Nat} {c0 c1 c2:AV} {fs:List Fact} (I9:fs.length<=6) (qu:ew (H.length+7) 4 (fs.map aI) c2 o7) {n:Int} (gq:0<=n) (hn:n<=2) {ρ:bN} (e3:ρ 3=.ptr (H.length+1) 1 0) (e7:ρ 7=.ptr (H.length+3) v7 0) (e14:ρ 14=vi n) (e15:ρ 15=vi 0) (hQ:∀ρ' i' o8 c3 (qs:List Question),(∀t,aCL.contains t=QT->ρ' t=ρ t)->qs.length<=2->(∀q∈qs,jt fs.length q)->ew (H.length+8) 7 (qs.map gR) c3 o8 ->Q (.exit 6) ρ' (H++[o0,.box 1 (aM l i'),o2,.box v7 [c0,c1,c2,c3],o4,o5,o6,o7,o8,o9]) []):wl A 107 ⟨H.length,aNu⟩ (rY g) ρ (H++[o0,.box 1 (aM l i),o2,.box v7 [c0,c1,c2,.sl QS []],o4,o5,o6,o7,o8,o9]) [] Q tg:=by
 refine bJ (fun j ρ1 H1 wr=>wr=[]/\ρ1 15=vi j/\∃i' o8 c3,∃qs:List Question,H1=H++[o0,.box 1 (aM l i'),o2,.box v7 [c0,c1,c2,c3],o4,o5,o6,o7,o8,o9] /\
   ew (H.length+8) 7 (qs.map gR) c3 o8/\qs.length=j/\∀q∈qs,jt fs.length q) n.toNat
  (fun ρ1 H1 wr=>wr=[]/\∃i' o8 c3,∃qs:List Question,H1=H++[o0,.box 1 (aM l i'),o2,.box v7 [c0,c1,c2,c3],o4,o5,o6,o7,o8,o9] /\
   ew (H.length+8) 7 (qs.map gR) c3 o8/\qs.length<=2/\∀q∈qs,jt fs.length q)
  bIv rfl ⟨rfl,e15,i,o8,.sl QS [],[],rfl,.nil _,rfl,siT⟩ ?_ (by
   rintro ρ' H' ba ⟨rfl,i',o8,c3,qs,rfl,hg,h1,h2⟩ hf;exact hQ ρ' i' o8 c3 qs hf h1 h2 hg)
 rintro j ρ1 H1 dc mo ⟨rfl,e15,i',o8,c3,qs,rfl,hg,Cs,J0⟩ Pw;have f3:ρ1 3=.ptr (H.length+1) 1 0:=(Pw 3 rfl).trans e3;have f7:ρ1 7=.ptr (H.length+3) v7 0:=(Pw 7 rfl).trans e7;have f14:ρ1 14=vi n:=(Pw 14 rfl).trans e14;simp only[go_sem,↓aB,seval,f14,e15];refine aD (fun fo=>?_) (fun fo=>?_)
 ·have cr:j<n.toNat:=by grind
  simp only[go_sem,seval];refine aY (aq:=rX) rfT rfT ?_;simp only[go_sem,↓aB,seval,rX,f3,f7,qu.len];refine eB (Nl (m:=fs.length) omT) hl (i:=i') (by grind) ?_;rintro val i3 ⟨q,rfl,Nn⟩;obtain⟨v',o',eu,db⟩:=hg.app (new:=[gR q]) (bytes:=128) siT rfT (by grind);rw[show qs.map gR++[gR q]=(qs++[q]).map gR by simp]at eu;simp only[go_sem,↓aB,seval,f7,e15,aVz,aK (aBI _),bR (aBI _),db,eu.ak,eu.aj,eH,dG,aL];rw[dW omT];grind
 have cr:j=n.toNat:=by grind
 subst cr;simp only[go_sem,seval];grind
structure Gens(A:af)(g:SN):Prop where
 take:fR A g
 block:∀{k:Int},0<=k->k<7->dI A (g "W") [vi k] (aMn k)
 fact:∀{b:Block},kf b->∀{a:Int},0<=a->a<=1000->aBt A (g "L") [.agg (aE b),vi a] (aLj b a)
 has:∀(l:List Fact),l.length<=1000->∀(f:Fact) (H:LO),aG A (g "B") [.sl QT (l.map aI),.agg (aI f)] H=QQ (.bool (l.any fun a=>eqv a f),H,[])
 jd:∀{m:Nat},m<=10->dI A (g "X") [vi m] (aBr m)
theorem aVB{A:af}{g:SN}(G:Gens A g) {H:LO} {Q:bf->bN->LO->LN->Prop} {tg} {l:List Int} (hl:jP l) {i:Int} {o0 o3 o4 o5 o6 o7 o8 o9:ah} {v4:Nat} {c0:AV} {n:Int} (gq:1<=n) (hn:n<=3) {ρ:bN} (e3:ρ 3=.ptr (H.length+1) 1 0) (e4:ρ 4=.ptr (H.length+2) v4 0) (e5:ρ 5=vi n) (e6:ρ 6=vi 0) (hQ:∀ρ' i' o3 o4 o5 o6 o7 o8 o9 c1 (xs:List Item),(∀t,aCM.contains t=QT->ρ' t=ρ t)->1<=xs.length/\xs.length<=3->(∀x∈xs,pz x)/\xs.map Item.name=bF7.take xs.length->ew (H.length+9) 4 (xs.map aO) c1 o9 ->Q (.exit 0) ρ' (H++[o0,.box 1 (aM l i'),.box v4 [c0,c1],o3,o4,o5,o6,o7,o8,o9]) []):wl A 107 ⟨H.length,aNu⟩ (rZ g) ρ (H++[o0,.box 1 (aM l i),.box v4 [c0,.sl QS []],o3,o4,o5,o6,o7,o8,o9]) [] Q tg:=by
 refine bJ (fun j ρ1 H1 wr=>wr=[]/\ρ1 6=vi j/\∃i' o3 o4 o5 o6 o7 o8 o9 c1,∃xs:List Item,H1=H++[o0,.box 1 (aM l i'),.box v4 [c0,c1],o3,o4,o5,o6,o7,o8,o9] /\
   ew (H.length+9) 4 (xs.map aO) c1 o9/\xs.length=j/\(∀x∈xs,pz x)/\xs.map Item.name=bF7.take xs.length) n.toNat
  (fun ρ1 H1 wr=>wr=[]/\∃i' o3 o4 o5 o6 o7 o8 o9 c1,∃xs:List Item,H1=H++[o0,.box 1 (aM l i'),.box v4 [c0,c1],o3,o4,o5,o6,o7,o8,o9] /\
   ew (H.length+9) 4 (xs.map aO) c1 o9/\(1<=xs.length/\xs.length<=3)/\(∀x∈xs,pz x)/\xs.map Item.name=bF7.take xs.length)
  bIv rfl ⟨rfl,e6,i,o3,o4,o5,o6,o7,o8,o9,.sl QS [],[],rfl,.nil _,rfl,siT,rfl⟩ ?_ (by
   rintro ρ' H' ba ⟨rfl,i',o3,o4,o5,o6,o7,o8,o9,c1,xs,rfl,hg,h1,h2⟩ hf;exact hQ ρ' i' o3 o4 o5 o6 o7 o8 o9 c1 xs hf h1 h2 hg)
 rintro j ρ1 H1 dc mo ⟨rfl,e6,i',o3,o4,o5,o6,o7,o8,o9,c1,xs,rfl,hg,n9,xa,Wn⟩ Pw;have f3:ρ1 3=.ptr (H.length+1) 1 0:=(Pw 3 rfl).trans e3;have f4:ρ1 4=.ptr (H.length+2) v4 0:=(Pw 4 rfl).trans e4;have f5:ρ1 5=vi n:=(Pw 5 rfl).trans e5;simp only[go_sem,↓aB,seval,f5,e6];refine aD (fun fo=>?_) (fun fo=>?_)
 ·have cr:j<n.toNat:=by grind
  obtain⟨nm,W6,cx⟩:=aQl bF7 (x:=(j:Int)) omT soT;have Wh:bF7[j]? = QQ nm:=by
   simp only[AT,BN]at cx;cases hj:bF7[j]? with
   |none=>grind
   |some s=>rw[hj]at cx;cases cx;rfl
  simp only[DR,aN,AT]at cx;simp only[go_sem,↓aB,seval,f3,e6,cx];refine bB (bA G.take (m:=3) deT) hl (i:=i') (by simp) ?_;rintro val i3 ⟨x,rfl,jr,lz⟩;have wk:AR.wrap (1+x)=1+x:=wrap_i64 omT omT;simp only[go_sem,↓aB,seval,wk];refine aSA G.take G.block G.fact G.has hl (n:=1+x) omT omT (by simp only[go_sem,seval,f3]) (by simp only[go_sem,seval]) (by simp only[go_sem,seval]) (by simp only[go_sem,seval]) ?_;intro ρ2 i4 p4 p5 p6 p7 d1 d2 bs fs cq zo td I9 k9 Gt Jn;have g3:ρ2 3=.ptr (H.length+1) 1 0:=by rw[cq 3 rfl];simp only[go_sem,seval,f3]
  have g4:ρ2 4=.ptr (H.length+2) v4 0:=by rw[cq 4 rfl];simp only[go_sem,seval,f4]
  have g6:ρ2 6=vi j:=by rw[cq 6 rfl];simp only[go_sem,seval,e6]
  have g7:ρ2 7=.ptr (H.length+3) (o3.ver+1) 0:=by rw[cq 7 rfl];simp only[go_sem,seval]
  simp only[go_sem,↓aB,seval,g3];refine bB (bA G.take (m:=3) deT) hl (i:=i4) (by simp) ?_;rintro val i5 ⟨y,rfl,oj,tc⟩;simp only[go_sem,↓aB,seval];refine aYm G.jd hl I9 Jn (n:=y) omT omT (by simp only[go_sem,seval,g3]) (by simp only[go_sem,seval,g7]) (by simp only[go_sem,seval]) (by simp only[go_sem,seval]) ?_;intro ρ3 i6 p8 d3 qs im Cs J0 No;have k4:ρ3 4=.ptr (H.length+2) v4 0:=by rw[im 4 rfl];simp only[go_sem,seval,g4]
  have k6:ρ3 6=vi j:=by rw[im 6 rfl];simp only[go_sem,seval,g6]
  have k7:ρ3 7=.ptr (H.length+3) (o3.ver+1) 0:=by rw[im 7 rfl];simp only[go_sem,seval,g7]
  obtain⟨b1,b2,b3,b4,b5,b6⟩:=Gt.dw (aC bG _);obtain⟨q1,q2,q3,q4,q5,q6⟩:=No.dw (aC aBI _);obtain⟨r1,r2,r3,r4,r5,r6⟩:=Jn.dw (aC eL _);obtain⟨v',o',eu,db⟩:=hg.app (new:=[[.str nm,.sl QT (bs.map aE),.sl QT (fs.map aI),.sl QT (qs.map gR)]]) (bytes:=88) siT rfT (by grind);rw[show xs.map aO++[[.str nm,.sl QT (bs.map aE),.sl QT (fs.map aI),.sl QT (qs.map gR)]]=(xs++[Item.mk nm bs fs qs]).map aO by simp[aO]]at eu;simp only[go_sem,↓aB,seval,k4,k6,k7,b4,b5,b6,q4,q5,q6,r4,r5,r6,uM,aAS,db,eu.ak,eu.aj];rw[dW omT];refine⟨cr,rfl,i6,_,_,_,_,_,_,o',v',xs++[Item.mk nm bs fs qs],rfl,eu,by simp[n9],pS xa ⟨W6,zo,td,I9,k9.1,Cs,J0,k9.2⟩, ?_⟩;grind [BA,List.length_singleton,List.take_add_one]
 have cr:j=n.toNat:=by grind
 subst cr;simp only[go_sem,seval];grind
theorem aQB{A:af}{g:SN}(h:Has A g "aH" (pM g))(G:Gens A g){l:List Int}(hl:jP l)(H:LO):∃v H' wr,aG A (g "aH") [.sl QT (l.map bF)] H=QQ (v,H',wr)/\(H'=H/\wr=[]/\aYl v):=by
 refine h.bp ?_;have hb:dU l.length N2 (QQ (.int .i64 (if (400:Int)<l.length then 400 else l.length))) N2=QQ (0,min l.length 400,l.length):=by
  by_cases hc:(400:Int)<l.length
  ·rw[Zy hc];simp only[dU,iL];grind
  rw[Zx hc];simp only[dU,iL];grind
 have hh:dF 1 (l.map bF)=true:=by cases l<;>rfl
 have pk:FW (min l.length 400) (l.map bF)=(l.take (min l.length 400)).map bF:=Pu.symm;have iq:jP (l.take (min l.length 400)):=fun a ha=>hl a (List.mem_of_mem_take ha);generalize l.take (min l.length 400)=l2 at pk iq;simp only[pM];simp only[go_sem,↓aB,seval,hb,hh,pk];refine bB (bA G.take (m:=3) deT) iq (i:=0) (by grind) ?_;rintro val i1 ⟨x,rfl,jr,lz⟩;obtain⟨nm,W6,cx⟩:=aQl bEq jr lz;simp only[DR,aN]at cx;simp only[go_sem,↓aB,seval,jr,cx];refine bB (bA G.take (m:=3) deT) iq (i:=i1) (by grind) ?_;rintro val i2 ⟨y,rfl,oj,tc⟩;have zz:AR.wrap (1+y)=1+y:=wrap_i64 omT omT;simp only[go_sem,↓aB,seval,zz];refine aVB G iq (n:=1+y) omT omT (by simp only[go_sem,seval]) (by simp only[go_sem,seval]) (by simp only[go_sem,seval]) (by simp only[go_sem,seval]) ?_;intro ρ2 i3 o3 o4 o5 o6 o7 o8 o9 c1 xs cq n9 xa hg;have g2:ρ2 2=.ptr H.length 1 0:=by rw[cq 2 rfl];simp only[go_sem,seval]
 have g4:ρ2 4=.ptr (H.length+2) 1 0:=by rw[cq 4 rfl];simp only[go_sem,seval]
 obtain⟨b1,b2,b3,b4,b5,b6⟩:=hg.dw (aC dV _);simp only[go_sem,↓aB,seval,g2,g4,hg.ak,b4,b5,b6,aA (aC dV _)];exact⟨jm.mk nm xs,rfl,W6,n9,xa.1,xa.2⟩
def gX(g:SN):bw:=⟨21,[14,20],[.tmp 6],qS [qmc 6 (.sl QS [])]<|qS [qm 8 1,qq 9 (.conv (.toInt .u64) (u 8)),qm 7 9]<|.seq (qS [qm 10 1,qbi 11 .lss 10 0]<|qC 11 (qS [qm 12 0,qq 13 (.bsl 1 [(.int .u8 0)] 1 [(0,(.const (.int .u8 45)))]),qa 14 1 1 12 13,qm 0 14]<|.region QT [qm 15 7,qq 16 (.un .neg (u 15)),qm 7 16]) (.skip))<|qS [qm 17 0,qm 18 7,qm 19 2,qq 20 (.ee (uf (g "bj")) [(.tmp 17),(.tmp 18),(.tmp 19)]),qm 6 20]<|.ret⟩
theorem aJJ:∀(k n:Nat),n<10 ^ (k+1)->nC (k+1) n=dec n
 |0,n,h=>by
  have h':n<10:=by simpa using h
  rw[dec,nC,Zy h',Zy h']
 |k+1,n,h=>by
  rw[dec,nC];split
  ·rfl
  rw[aJJ k (n / 10) (by rw[PL]at h;omega)]
section
variable {A:af}{g:SN}
theorem aLn(hp:A.bq (g "bj")=QQ oN){n:Int}(h0:0<=n)(h9:n<=999999):fY A (g "bj") [.int .u64 n,vi 10] (dec n.toNat):=by
 intro H t v hb ht;have e7:nC 7 n.toNat=dec n.toNat:=aJJ 6 _ (by have:(10:Nat) ^ (6+1)=10000000:=deT;omega);cases hb with
 |nil=>refine (oL (n:=0) ?_);unfold dD qL;rw[hp];show (match oN [.sl QS [],.int .u64 n,.int .i64 10] H with | some r=>QQ (cT H r) | none=>_)=_;simp only[oN];rw[Zy ⟨h0,omT,trivial⟩,e7];simp[cT,eU];rfl
 |obj id ver t ho=>refine (oL (n:=0) ?_);unfold dD qL;rw[hp];show (match oN [.sr id ver t.length,.int .u64 n,.int .i64 10] H with | some r=>QQ (cT H r) | none=>_)=_;simp only[oN,ho];rw[Zy ⟨trivial,kG t,h0,omT,omT,trivial,aEk t⟩,e7];simp only[cT,eU,AJ,BI,BY,vX];rfl
abbrev bCn:LO:=[.gone 0,.gone 0]
theorem aLo(h:Has A g "bS" (gX g))(hp:A.bq (g "bj")=QQ oN){n:Int}(h0:0<=n)(h9:n<=999999):fY A (g "bS") [vi n,vi 10] (dec n.toNat):=by
 intro H t v hb ht;obtain⟨v1,H1,dc,h1,h2⟩:=h.bp (args:=[v,vi n,vi 10]) (H:=H) (K:=fun v' H'' ba=>QQ (v',H'',ba)=oX H t (dec n.toNat) v) (by
  have hw:IntKind.u64.wrap n=n:=by unfold IntKind.wrap;simp[IntKind.bits,IntKind.signed];omega
  have hn:decide (n<0)=false:=by rw[decide_eq_false_iff_not];omega
  obtain⟨o,ver,jk,kq⟩:=hb.call (L:=bCn) (i:=1) ht deT (aLn hp h0 h9);simp only[gX];simp only[go_sem,↓aB,seval,pT,hw,hn,kq];exact jk.done rfl _)
 rw[h1,h2]
theorem aMs(h:Has A g "bX" (vW g))(hi:Has A g "bS" (gX g))(hp:A.bq (g "bj")=QQ oN):aBk A g:=by
 intro n h0 h9 H t v hb ht;obtain⟨v1,H1,dc,h1,h2⟩:=h.bp (args:=[v,vi n,vi 10]) (H:=H) (K:=fun v' H'' ba=>QQ (v',H'',ba)=oX H t (dec n.toNat) v) (by
  obtain⟨o,ver,jk,kq⟩:=hb.call (L:=[.gone 0]) (i:=0) ht deT (aLo hi hp h0 h9);rw[Nat.add_zero]at kq;simp only[vW];simp only[go_sem,↓aB,seval,kq];exact jk.done rfl _)
 rw[h1,h2]
end
theorem bEM{s:Str}(h:s∈aQm):vP 1 200 s=QS/\vP 0 20 s=QS/\vP 0 40 s=true:=(by decide:∀s∈aQm,vP 1 200 s=QS/\vP 0 20 s=QS/\vP 0 40 s=QS) s h
theorem bED{r:List mr}(h:bGD r):aGx r=true:=by
 obtain⟨h1,h2,h3,x,hx,h4⟩:=h;simp only[aGx,aWm,aUL,AI,AO,eG];refine⟨fun i hi=>?_,⟨omT,omT⟩,fun a ha=>⟨?_,(bEM (h3 a ha).2).1⟩⟩
 ·have hi:=HE.1 hi;have l:∀j,j<r.length->sY r j=(x+j).tmod 2:=fun j hj=>by
   unfold sY;rw[AP hj];exact h4 j _ (AP hj)
  rw[l i omT,l (i+1) omT,Ai omT,Ai omT];simp only[bne_iff_ne];omega
 obtain⟨j,hj⟩:=List.getElem?_of_mem ha;have:=h4 j a hj;rw[Ai omT]at this;omega
theorem bFH{c:Bool}{op n:Int}{kids:List Expr}(h:kids.length=0/\(op=0/\0<=n/\n<=999999∨op=1/\0<=n/\n<=25)∨n=0/\(kids.length=1/\(op=2∨op=8)∨kids.length=2/\(3<=op/\op<=7∨c=QS/\9<=op/\op<=10))):0<=op/\op<=10/\kids.length=aCn op/\(0<=n/\n<=aAq op)/\(lev op≠0∨c=QS):=by
 rcases h with⟨e1,⟨rfl,e2⟩ | ⟨rfl,e2⟩⟩ | ⟨rfl,⟨e1,e2⟩ | ⟨e1,e2⟩⟩
 ·exact⟨deT,deT,e1,e2,.inl deT⟩
 ·exact⟨deT,deT,e1,e2,.inl deT⟩
 ·rcases e2 with rfl | rfl<;>exact⟨deT,deT,e1,deT,.inl deT⟩
 rcases e2 with e2 | ⟨hc,e2⟩
 ·have:op=3∨op=4∨op=5∨op=6∨op=7:=omT;rcases this with rfl | rfl | rfl | rfl | rfl<;>exact⟨deT,deT,e1,deT,.inl deT⟩
 have:op=9∨op=10:=omT;rcases this with rfl | rfl<;>exact⟨deT,deT,e1,deT,.inr hc⟩
theorem bFI:∀(d:Nat) (c:Bool) (e:Expr) (k:Int),Deep c d e->d<=4->k+d<=17->exS e k=(gY e,QS)
 |0,c,e,k,h,_,_=>by cases h
 |d+1,c,.mk op n kids,k,h,hd,hk=>by
  have gd:=h.ok.2;have hp:2 ^ (d+1)<=2 ^ 4:=Nat.pow_le_pow_right deT hd;have ax:=bF1 h;cases h with
  |mk _ _ _ _ _ h4 h5=>
   have ih:=fun e he=>bFI d QT e (k+1) (h4 e he) omT omT;have hx:exL kids (k+1) 1=QQ (1+cP kids):=by
    match kids,ax,ih with
    | [],_,_=>rfl
    | [a],_,ih=>simp only[exL,ih a siT,cP];rfl
    | [a,b],_,ih=>simp only[exL,ih a siT,ih b siT,cP];rw[Nat.add_assoc];rfl
    |_::_::_::_,h,_=>simp at h
   have hc:((decide (k>16) || !wi op 0 10) || !wi n 0 (aAq op) || ((kids.length:Int) != (aCn op:Int)))=false:=by
    simp only[MO,decide_eq_false_iff_not,Bool.not_eq_false',eG,bne_eq_false_iff_eq];rcases bFH h5 with⟨o0,o1,o2,o3,o4⟩
    rw[o2];exact⟨⟨⟨omT,omT⟩,o3⟩,rfl⟩
   rw[exS,hc,hx,gY];simp only[Bool.false_eq_true,Zu];rw[gY]at gd;simp;omega
theorem bEE:∀(d:Nat) (c:Bool) (e:Expr),Deep c d e->aBN c e=QS
 |0,c,e,h=>by cases h
 |d+1,c,.mk op n kids,h=>by
  cases h with
  |mk _ _ _ _ _ h4 h5=>
   have ih:aEZ kids=true:=by rw[aIu,AO];exact fun e he=>bEE d QT e (h4 e he)
   unfold aBN;rw[ih];obtain⟨o0,o1,o2,o3,o4⟩:=bFH h5;have a1:decide (op<0)=false:=soT;have a2:decide (op ≥ 11)=false:=soT;have a3:decide (n<0)=false:=soT;have a4:decide (n>aAq op)=false:=soT;have a5:((kids.length:Int) != (aCn op:Int))=false:=by rw[o2];simp
   have a6:((((lev op:Nat):Int)==0) && !c)=false:=by
    rcases o4 with h | rfl
    ·have:(((lev op:Nat):Int)==0)=false:=by simp;exact h
     rw[this];rfl
    simp
   rw[a1,a2,a3,a4,a5,a6];rfl
theorem bFp{e:Expr}(h:Deep QS 4 e):aBV e=0:=by have h1:=h.ok.2;have h2:=aPL e;unfold aBV;rw[bEE 4 QS e h];have a:decide ((gY e:Int)>256)=false:=soT;have b:decide ((aBM e:Int)>16)=false:=soT;rw[a,b];rfl
theorem kf.right{b:Block}(hb:kf b):dQ b=true:=by
 unfold dQ;rw[AI];refine⟨by cases hb<;>simp[eqv,aKK,cV], ?_⟩;cases hb with
 |text h=>exact bED h
 | @form e h=>show (exS e 1).2=QS;rw[bFI 4 QS _ 1 h deT deT]
 | @col op a h=>show (([3,4,5,6]:List Int).any (fun x=>op==x)&&(wi a.length 1 8&&a.all aUP))=QS;obtain⟨h1,h2,h3,_⟩:=h;simp only[AI,AO,aUP,eG];refine⟨?_,omT,fun n hn=>h3 n hn⟩;simp;omega
 | @cd g h=>
  show (wi g.length 1 12&&g.all (aUQ (g.headD []).length))=QS;obtain⟨h1,h2,h3,c,h4⟩:=h;simp only[AI,AO,aUQ,eG,beq_iff_eq];refine⟨omT,fun r hr=>⟨?_, ?_,fun s hs=>(bEM ((h3 r hr).2.2 s hs)).2.1⟩⟩
  ·rw[h4 r hr];cases g with
   |nil=>cases hr
   |cons a l=>rw[ON,h4 a siT]
  have:=h3 r hr;omega
 | @fig s h=>show ((wi 60 1 1000&&wi 50 1 1000)&&(wi s.length 1 8&&s.all vQ))=QS;simp only[AI,AO,eG,vQ,aKG];refine⟨⟨⟨deT,deT⟩,deT,deT⟩,by have:=h.1;omega,fun a ha=>?_⟩;obtain⟨a1,a2,a3⟩:=bEp (h.2.1 a ha);exact⟨a1,omT,fun p hp=>by have:=a3 p hp;omega⟩
 | @mel m h=>
  show aUO m=QS;obtain⟨h1,h2,h3,c,h4⟩:=h;simp only[aUO,aKL,aT9,aGv,AI,AO,eG,beq_iff_eq];refine⟨omT,fun r hr=>⟨?_, ?_,fun l hl=>?_⟩⟩
  ·rw[h4 r hr];cases m with
   |nil=>cases hr
   |cons a l=>rw[ON,h4 a siT]
  ·have:=h3 r hr;omega
  obtain⟨k1,k2,k3⟩:=(h3 r hr).2.2 l hl;exact⟨omT,fun n hn=>by have:=k3 n hn;omega⟩
 | @lst l h=>show (wi l.length 1 64&&l.all (vP 0 80))=QS;simp only[AI,AO,eG];exact⟨by have:=h.1;have:=h.2.1;omega,fun s hs=>(by decide:∀s∈mq,vP 0 80 s=QS) s (h.2.2 s hs)⟩
theorem kf.checked{E:Int->Int->List Shape->Int}(hE:∀s,bGI s->E 60 50 s=0){b:Block}(hb:kf b):nU E b=0:=by
 unfold nU;rw[Zy hb.right];cases hb with
 |form h=>exact bFp h
 |fig h=>exact hE _ h
 |_=>rfl
theorem bDS{b:Block}{at':Int}{f:Fact}{k:Nat}(hk:k<7)(h1:lJ (aBp k) b.kind=QS){p:Nat×Nat}(hp:p∈aWq b k)(e:f=⟨k,at',p.1,p.2⟩):f∈eM b at':=by refine IM.2 ⟨k,HE.2 hk, ?_⟩;unfold aF8;rw[Zy h1];exact DB.2 ⟨p,hp,e.symm⟩
theorem bGL{b:Block}(hb:kf b){at':Int}{f:Fact}(h:bFo b at' f):f∈eM b at':=by
 obtain⟨fk,fb,fa,fc⟩:=f;obtain⟨h0,h⟩:=h;have h0:fb=at':=h0;subst h0;simp only at h;have toN:∀{n:Int},0<=n->((n.toNat:Nat):Int)=n:=fun h=>Int.toNat_of_nonneg h;rcases h with⟨rfl,h1,rfl,rfl⟩ | ⟨rfl,h1,h2,h3⟩ | ⟨rfl,h1,h2,rfl⟩ | ⟨h0,h1,h2,h3,h4⟩ | ⟨rfl,h1,h2,h3⟩ | ⟨rfl,h1,h2,rfl⟩
 ·exact bDS (k:=0) deT (by simp[lJ,aBp,h1]) (p:=(0,0)) (aDs.2 ⟨deT,deT⟩) rfl
 ·exact bDS (k:=1) deT (by simp[lJ,aBp,h1]) (p:=(fa.toNat,fc.toNat)) (aDs.2 ⟨omT,by unfold aFt;omega⟩) (by simp only[toN h2.1,toN h3.1];rfl)
 ·refine bDS (k:=2) deT (by simp[lJ,aBp,h1]) (p:=(fa.toNat,0)) (OK.2 ⟨aDs.2 ⟨omT,omT⟩, ?_⟩) (by simp only[toN (n:=fa) omT];rfl);cases hb with
  |fig hf=>obtain⟨_,_,a,r,e,ha⟩:=hf;have:(((({ cV 4 with w:=60,h:=50,aw:=a::r }:Block).aw)[0]?).map Shape.kind).getD 0=2:=ha;subst e;simp only[aGY,this];simp;omega
  |_=>simp[cV]at h1
 ·rcases h0 with rfl | rfl
  ·exact bDS (k:=3) deT (by simp[lJ,aBp,h1]) (p:=(fa.toNat,fc.toNat)) (OK.2 ⟨aDs.2 ⟨omT,omT⟩,by simp[aGY];omega⟩) (by simp only[toN h2.1,toN h3.1];rfl)
  exact bDS (k:=4) deT (by simp[lJ,aBp,h1]) (p:=(fa.toNat,fc.toNat)) (OK.2 ⟨aDs.2 ⟨omT,omT⟩,by simp[aGY];omega⟩) (by simp only[toN h2.1,toN h3.1];rfl)
 ·exact bDS (k:=5) deT (by simp[lJ,aBp,h1]) (p:=(fa.toNat,fc.toNat)) (aDs.2 ⟨by unfold aFu;omega,omT⟩) (by simp only[toN h2.1,toN h3.1];rfl)
 exact bDS (k:=6) deT (by simp[lJ,aBp,h1]) (p:=(fa.toNat,0)) (aDs.2 ⟨omT,deT⟩) (by simp only[toN h2.1];rfl)
theorem bGM{n:Nat}(h:n<1000):vP 0 40 (dec n)=true:=by
 have:(GZ 1000).all (fun n=>vP 0 40 (nC 3 n))=true:=bIv;have h2:=AO.1 this n (HE.2 h)
 rwa [aJJ 2 n omT]at h2
theorem jt.right{m:Nat}{q:Question}(h:jt m q)(hm:m<=8):aWp q=true:=by
 obtain⟨h1,h2,h3,h4,h5,h6,h7,h8,h9,_,_,_⟩:=h;simp only[aWp,bED h2,aOl,AI,AO,eG,beq_iff_eq];refine⟨⟨⟨⟨⟨⟨⟨omT,trivial⟩,omT⟩,omT,fun s hs=>(by decide:∀s∈bGE,vP 1 40 s=QS) s (h4 s hs)⟩,omT,fun s hs=>(by decide:∀s∈bGF,vP 0 60 s=QS) s (h5 s hs)⟩,omT,fun n hn=>by have:=h7 n hn;omega⟩, ?_⟩,omT⟩;rcases h8 with h | ⟨n,hn,h⟩
 ·exact (bEM h).2.2
 rw[h];exact bGM hn
theorem pz.right{x:Item}(h:pz x):aGU x=true:=by obtain⟨h1,h2,h3,h4,h5,h6,h7,_⟩:=h;simp only[aGU,(by decide:∀s∈bF7,aO7 s=QS) _ h1,aHJ,AI,AO,eG];refine⟨⟨⟨trivial,omT,fun b hb=>(h3 b hb).right⟩,omT,fun f hf=>?_⟩,omT,fun q hq=>(h7 q hq).right omT⟩;obtain⟨a0,b,a1,a2⟩:=h5 f hf;have a3:=a2.small (h3 b (AN a1)).lens;have a4:=(AH.1 a1).1;omega
theorem bJi(k:Int):(bDC k).length<=1:=by
 unfold bDC;split
 ·simp
 split
 ·simp
 split<;>simp
theorem bJO{q:Question}(h:q.Ok):(bEe q).Ok where
 kind:=h.kind
 fg:=h.fg
 lk:=h.lk
 Q3:=h.Q3
 options:=h.options
 Q4:=h.Q4
 cy:=h.cy
 key:=by have:=bJi q.kind;show (bDC q.kind).length<=1000;omega
 points:=⟨by show (-9223372036854775808:Int)<=0;decide,by show (0:Int)<=9223372036854775807;decide⟩
 vw:=by show (AX q.dv.length ([]:Str)).length<=16;rw[MI];exact h.vw
 dv:=by intro s hs;have ml:s∈AX q.dv.length ([]:Str):=hs;rw[(List.mem_replicate.1 ml).2];show (0:Nat)<=1000;omega
theorem bJ4{x:Item}(h:x.Ok):(bDh x).Ok where
 name:=h.name
 zq:=h.zq
 blocks:=h.blocks
 B1:=h.B1
 facts:=h.facts
 tj:=by show (x.ask.map bEe).length<=16;rw[AF];exact h.tj
 ask:=by intro q hq;have Qq:q∈x.ask.map bEe:=hq;obtain⟨q0,h0,rfl⟩:=DB.1 Qq;exact bJO (h.ask q0 h0)
theorem bIV{x:jm}(h:x.Ok):(bD5 x).Ok where
 title:=h.title
 G8:=by show (x.items.map bDh).length<=16;rw[AF];exact h.G8
 items:=by intro q hq;have Qq:q∈x.items.map bDh:=hq;obtain⟨q0,h0,rfl⟩:=DB.1 Qq;exact bJ4 (h.items q0 h0)
def jV(g:SN):ag:=.block 0 (qS [qbi 11 .eql 8 0,qm 10 11]<|qC 10 (qR [qm 12 2,qc 13 (g "c") [u 12,ui 5],qbi 14 .sub 13 1,qf 15 0 3,qs 1 15 14]) (qS [qbi 17 .eql 8 1,qm 16 17]<|qC 16 (qR [qq 18 (.bsl 1 [(.str [])] 0 []),qf 19 2 3,ql 20 1 19,qa 21 1 16 18 20,qq 22 (.bsl 1 [(.str [])] 1 [(0,(.const (.str [109,111,114,101])))]),qa 23 1 16 21 22,qf 24 2 3,qs 1 24 23]) (qS [qbi 26 .eql 8 2,qm 25 26]<|qC 25 (qR [qq 27 (.bsl 1 [z0] 0 []),qf 28 3 3,ql 29 1 28,qa 30 1 8 27 29,qm 31 2,qc 32 (g "c") [u 31,ui 10],qbi 33 .sub 32 1,qq 34 (.bsl 1 [z0] 1 [(0,(.tmp 33))]),qa 35 1 8 30 34,qf 36 3 3,qs 1 36 35]) (qS [qbi 38 .eql 8 3,qm 37 38]<|qC 37 (qR [qq 39 (.bsl 1 [(.str [])] 4 [(0,(.const (.str []))),(1,(.const (.str [127]))),(2,(.const (.str [107,101,121]))),(3,(.const (.str [97,32,107,101,121,32,116,104,97,116,32,104,97,115,32,109,111,114,101,32,116,104,97,110,32,102,111,114,116,121,32,98,121,116,101,115,32,105,110,32,97,108,108])))]),qm 40 2,qc 41 (g "c") [u 40,ui 4],qi 42 39 41 1,ql 43 1 42,qf 44 4 3,qs 1 44 43]) (qS [qbi 46 .eql 8 4,qm 45 46]<|qC 45 (qR [qm 47 2,qc 48 (g "c") [u 47,ui 103],qbi 49 .sub 48 1,qf 50 5 3,qs 1 50 49]) (qR [qf 9 1 3,qz (.store 1 (u 9) (uc (.sl QS [])))]))))))
def gK(g:SN):bw:=⟨52,[3,6,21,23,30,35],[.cell 6 7 QS],qS [qx 3 7 0,qq 6 (.alloc [z0,(.sl QS []),(.sl QS []),(.sl QS []),(.str []),z0,(.sl QS [])])]<|.seq (qS [qm 7 1,qc 8 (g "c") [u 7,ui 6]]<|jV g)<|qS [qla 51 7 3,qs 7 6 51]<|.ret⟩
theorem nA{n m c:Int}(hn:eA n)(hm:1<=m)(Ep:m<=1000)(jg:0<=c)(hc:c<=10):AR.wrap (bu n m - c)=bu n m - c/\eA (bu n m - c):=by obtain⟨h1,h2⟩:=kV hn hm;exact⟨wrap_i64 omT omT,omT,omT⟩
theorem uY{α:Type}{l:List α}{a:α}{n:Nat}(h:l.length<=n):(l++[a]).length<=n+1:=by simpa using h
structure ry(k:Nat)(q:Question):Prop where
 opts:q.options.length<=4+k
 opt:∀s∈q.options,s.length<=9
 cy:q.cy.length<=6+k
 lk:q.lk.length<=3
 M0:∀r∈q.lk,r.text.length<=9
theorem jt.Wa{m:Nat}{q:Question}(h:jt m q)(hm:m<=6):ry 0 q:=⟨h.len.1,fun s hs=>bGa (h.opt s hs),HX h.Q4 hm,h.lk.2.1,fun r hr=>bDR (h.lk.2.2.1 r hr).2⟩
theorem ry.more{q:Question}(h:ry 0 q):ry 1 q:=⟨Is h.opts,h.opt,Is h.cy,h.lk,h.M0⟩
theorem cD{n b:Nat}(h1:n<=100)(h2:b<=1000):bP n b=true:=by unfold bP;have:n*(b+1)<=100*1001:=Nat.mul_le_mul h1 omT;simp;omega
theorem aLk{A:af}{g:SN}(h:Has A g "aK" (gK g))(ha:qK A g){q:Question}(hq:q.Ok)(hs:ry 0 q){how by':Int}(rh:eA by')(H:LO):∃v H' wr,aG A (g "aK") [.agg (gR q),vi how,vi by'] H=QQ (v,H',wr)/\(H'=H/\wr=[]/\∃q':Question,v=.agg (gR q')/\q'.Ok/\ry 1 q'):=by
 refine h.bp ?_;have qe:q.options.length<=15:=HX hs.opts deT;have iq:q.cy.length<=15:=HX hs.cy deT;have hm:=hs.more;have fin:∀q1:Question,q1.Ok/\ry 1 q1->∀v:AV,v=.agg (gR q1)->∃q2:Question,v=.agg (gR q2)/\q2.Ok/\ry 1 q2:=fun q1 h v e=>⟨q1,e,h⟩;simp only[gK,jV];have h5:=nA (c:=1) rh (m:=5) deT deT deT deT;have B8:=nA (c:=1) rh (m:=10) deT deT deT deT;have Bx:=nA (c:=1) rh (m:=103) deT deT deT deT;simp only[go_sem,seval,gR,ha how];refine aD (fun hb=>?_) (fun hb=>?_)
 ·simp only[go_sem,seval,ha by',h5.1,aA (aC cA _),aA (aC bO _),aA (aC aU _)];exact fin { q with kind:=bu by' 5 - 1 } ⟨{ hq with kind:=h5.2 },{ hm with }⟩ _ rfl
 simp only[go_sem,seval];refine aD (fun hb=>?_) (fun hb=>?_)
 ·have Gx:∀l:List Str,l.map aN++[[.str [109,111,114,101]]]=(l++[[109,111,114,101]]).map aN:=fun l=>by simp[aN]
  have ho:{ q with options:=q.options++[[109,111,114,101]]:Question }.Ok/\ry 1 { q with options:=q.options++[[109,111,114,101]]:Question }:=⟨{ hq with Q3:=uY qe,options:=pS hq.options deT },{ hm with opts:=uY hs.opts,opt:=pS hs.opt deT }⟩;cases lr:q.options with
  |nil=>rw[lr]at ho;simp only[go_sem,seval,cD,aA (aC cA _),aA (aC bO _),aA (aC aU _)];exact fin _ ho _ rfl
  |cons a r=>rw[lr]at ho qe;have gj:bP (r.length+1) 16=true:=cD (by simp at qe ⊢;omega) deT;have nv:bP (r.length+1+1) 16=true:=cD (by simp at qe ⊢;omega) deT;simp only[go_sem,seval,gj,nv,Gx,aN,aT (aC bO _),aA (aC cA _),aA (aC bO _),aA (aC aU _)];exact fin _ ho _ (by simp[gR,aN])
 simp only[go_sem,seval];refine aD (fun hb=>?_) (fun hb=>?_)
 ·have Gx:∀(l:List Int) (n:Int),l.map bF++[[vi n]]=(l++[n]).map bF:=fun l n=>by simp[bF]
  have ho:{ q with cy:=q.cy++[bu by' 10 - 1]:Question }.Ok/\ry 1 { q with cy:=q.cy++[bu by' 10 - 1]:Question }:=⟨{ hq with Q4:=uY iq,cy:=pS hq.cy B8.2 },{ hm with cy:=uY hs.cy }⟩;cases lr:q.cy with
  |nil=>rw[lr]at ho;simp only[go_sem,seval,ha by',B8.1,cD,aA (aC cA _),aA (aC bO _)];exact fin _ ho _ rfl
  |cons a r=>rw[lr]at ho iq;have gj:bP (r.length+1) 8=true:=cD (by simp at iq ⊢;omega) deT;have nv:bP (r.length+1+1) 8=true:=cD (by simp at iq ⊢;omega) deT;simp only[go_sem,seval,ha by',B8.1,gj,nv,Gx,bF,aT (aC aU _),aA (aC cA _),aA (aC bO _),aA (aC aU _)];exact fin _ ho _ (by simp[gR,bF])
 simp only[go_sem,seval];refine aD (fun hb=>?_) (fun hb=>?_)
 ·obtain⟨k1,k2⟩:=kV rh (m:=4) deT;obtain⟨t,qt,cx⟩:=aQl [[],[127],[107,101,121],[97,32,107,101,121,32,116,104,97,116,32,104,97,115,32,109,111,114,101,32,116,104,97,110,32,102,111,114,116,121,32,98,121,116,101,115,32,105,110,32,97,108,108]] k1 k2;simp only[DR,aN]at cx;have tl:lI t:=by
   have:∀s∈([[],[127],[107,101,121],[97,32,107,101,121,32,116,104,97,116,32,104,97,115,32,109,111,114,101,32,116,104,97,110,32,102,111,114,116,121,32,98,121,116,101,115,32,105,110,32,97,108,108]]:List Str),lI s:=deT;exact this t qt
  simp only[go_sem,seval,ha by',k1,cx,aA (aC cA _),aA (aC bO _),aA (aC aU _)];exact fin { q with key:=t } ⟨{ hq with key:=tl },{ hm with }⟩ _ rfl
 simp only[go_sem,seval];refine aD (fun hb=>?_) (fun hb=>?_)
 ·simp only[go_sem,seval,ha by',Bx.1,aA (aC cA _),aA (aC bO _),aA (aC aU _)];exact fin { q with points:=bu by' 103 - 1 } ⟨{ hq with points:=Bx.2 },{ hm with }⟩ _ rfl
 simp only[go_sem,seval,aA (aC bO _),aA (aC aU _)];exact fin { q with lk:=[] } ⟨{ hq with fg:=by simp,lk:=by simp },{ hm with lk:=by simp,M0:=by simp }⟩ _ rfl
def lL(g:SN):ag:=.block 0 (qS [qbi 22 .eql 8 0,qm 21 22]<|qC 21 (qR [qm 23 2,qc 24 (g "c") [u 23,ui 9],qbi 25 .sub 24 1,qf 26 0 3,qs 1 26 25]) (qS [qbi 28 .eql 8 1,qm 27 28]<|qC 27 (qR [qq 29 (.bsl 2 [z0,(.str [])] 0 []),qf 30 1 3,ql 31 1 30,qa 32 2 24 29 31,qm 33 2,qc 34 (g "c") [u 33,ui 4],qbi 35 .sub 34 1,qq 36 (.bsl 1 [(.str [])] 4 [(0,(.const (.str []))),(1,(.const (.str [120]))),(2,(.const (.str [10]))),(3,(.const (.str [126])))]),qm 37 2,qc 38 (g "c") [u 37,ui 4],qi 39 36 38 1,ql 40 1 39,qq 41 (.build [z0,(.str [])] [(0,1,(.tmp 35)),(1,1,(.tmp 40))]),qq 42 (.bsl 2 [z0,(.str [])] 1 [(0,(.tmp 41))]),qa 43 2 24 32 42,qf 44 1 3,qs 1 44 43]) (qS [qbi 46 .eql 8 2,qm 45 46]<|qC 45 (qR [qq 47 (.bsl 3 [z0,z0,(.sl QT [])] 0 []),qf 48 2 3,qf 49 2 48,ql 50 1 49,qa 51 3 40 47 50,qm 52 2,qq 53 (.build [z0,z0,(.sl QS [])] [(1,1,(.tmp 52))]),qq 54 (.bsl 3 [z0,z0,(.sl QT [])] 1 [(0,(.tmp 53))]),qa 55 3 40 51 54,qf 56 2 3,qf 57 2 56,qs 1 57 55]) (qS [qbi 59 .eql 8 3,qm 58 59]<|qC 58 (qR [qq 60 (.bsl 1 [z0] 0 []),qf 61 5 3,qf 62 1 61,ql 63 1 62,qa 64 1 8 60 63,qq 65 (.bsl 1 [z0] 4 [(0,(.const (.int .i64 (-1)))),(1,(.const z0)),(2,(.const (vi 999999))),(3,(.const (vi 1000000)))]),qm 66 2,qc 67 (g "c") [u 66,ui 4],qi 68 65 67 1,ql 69 1 68,qq 70 (.bsl 1 [z0] 1 [(0,(.tmp 69))]),qa 71 1 8 64 70,qf 72 5 3,qf 73 1 72,qs 1 73 71]) (qS [qbi 75 .eql 8 4,qm 74 75]<|qC 74 (qR [qq 76 (.bsl 1 [(.sl QT [])] 0 []),qf 77 7 3,qf 78 0 77,ql 79 1 78,qa 80 1 24 76 79,qq 81 (.bsl 1 [(.str [])] 2 [(0,(.const (.str [97]))),(1,(.const (.str [50,49,32,98,121,116,101,115,32,97,114,101,32,116,111,111,32,109,117,99,104,46])))]),qm 82 2,qc 83 (g "c") [u 82,ui 3],qq 84 (.gw 1 (u 81) N2 (QQ (.tmp 83)) N2),qq 85 (.bsl 1 [(.sl QT [])] 1 [(0,(.tmp 84))]),qa 86 1 24 80 85,qf 87 7 3,qf 88 0 87,qs 1 88 86]) (qS [qbi 90 .eql 8 5,qm 89 90]<|qC 89 (qR [qq 91 (.bsl 1 [z0] 4 [(0,(.const z0)),(1,(.const (vi 1))),(2,(.const (vi 1000))),(3,(.const (vi 1001)))]),qm 92 2,qc 93 (g "c") [u 92,ui 4],qi 94 91 93 1,ql 95 1 94,qf 96 8 3,qf 97 0 96,qs 1 97 95]) (qS [qbi 99 .eql 8 6,qm 98 99]<|qC 98 (qR [qq 100 (.bsl 1 [(.sl QT [])] 0 []),qf 101 11 3,qf 102 0 101,ql 103 1 102,qa 104 1 24 100 103,qm 105 2,qc 106 (g "c") [u 105,ui 52],qbi 107 .sub 106 2,qq 108 (.build [z0,z0,z0] [(0,1,(.tmp 107))]),qq 109 (.bsl 3 [z0,z0,z0] 1 [(0,(.tmp 108))]),qq 110 (.bsl 1 [(.sl QT [])] 1 [(0,(.tmp 109))]),qq 111 (.bsl 1 [(.sl QT [])] 1 [(0,(.tmp 110))]),qa 112 1 24 104 111,qf 113 11 3,qf 114 0 113,qs 1 114 112]) (qR [qq 9 (.bsl 1 [(.str [])] 0 []),qf 10 12 3,ql 11 1 10,qa 12 1 16 9 11,qq 13 (.bsl 1 [(.str [])] 3 [(0,(.const (.str []))),(1,(.const (.str [120]))),(2,(.const (.str [9])))]),qm 14 2,qc 15 (g "c") [u 14,ui 3],qi 16 13 15 1,ql 17 1 16,qq 18 (.bsl 1 [(.str [])] 1 [(0,(.tmp 17))]),qa 19 1 16 12 18,qf 20 12 3,qs 1 20 19]))))))))
def jJ(g:SN):bw:=⟨116,[3,6,32,43,51,55,64,71,80,86,104,112,12,19],[.cell 6 13 QS],qS [qx 3 13 0,qq 6 (.alloc [z0,(.sl QS []),z0,z0,(.sl QS []),z0,(.sl QS []),(.sl QS []),z0,z0,(.sl QS []),(.sl QS []),(.sl QS [])])]<|.seq (qS [qm 7 1,qc 8 (g "c") [u 7,ui 8]]<|lL g)<|qS [qla 115 13 3,qs 13 6 115]<|.ret⟩
structure ny(k:Nat)(b:Block):Prop where
 runs:b.runs.length<=3+k/\∀r∈b.runs,r.text.length<=9
 size:gY b.expr<=15+k
 eg:b.eg.length<=3+k
 cd:b.cd.length<=3+k/\∀r∈b.cd,r.length<=3/\∀s∈r,s.length<=9∨s.length=22
 aw:b.aw.length<=4/\∀s∈b.aw,s.points.length<=4
 bo:b.bo.length<=2+k/\∀h∈b.bo,h.length<=3/\∀l∈h,l.length<=4
 lines:b.lines.length<=3+k/\∀s∈b.lines,s.length<=57
theorem ny.more{b:Block}(h:ny 0 b):ny 1 b:=⟨⟨Is h.runs.1,h.runs.2⟩,Is h.size,Is h.eg,⟨Is h.cd.1,h.cd.2⟩,h.aw,⟨Is h.bo.1,h.bo.2⟩,⟨Is h.lines.1,h.lines.2⟩⟩
theorem bIF(k:Int):ny 0 (cV k):=by constructor<;>simp[cV,gY,cP]
theorem kf.X8{b:Block}(h:kf b):ny 0 b:=by
 cases h with
 |text h=>exact { bIF 0 with runs:=⟨h.2.1,fun r hr=>bDR (h.2.2.1 r hr).2⟩ }
 |form h=>exact { bIF 1 with size:=h.ok.2 }
 |col h=>exact { bIF 2 with eg:=h.2.1.2 }
 |cd h=>exact { bIF 3 with cd:=⟨h.2.1,fun r hr=>⟨(h.2.2.1 r hr).2.1,fun s hs=>.inl (bDR ((h.2.2.1 r hr).2.2 s hs))⟩⟩ }
 |fig h=>exact { bIF 4 with aw:=⟨h.1.2,fun s hs=>(bEp (h.2.1 s hs)).2.1.2⟩ }
 |mel h=>exact { bIF 5 with bo:=⟨h.2.1,fun r hr=>⟨(h.2.2.1 r hr).2.1,fun l hl=>((h.2.2.1 r hr).2.2 l hl).2.1⟩⟩ }
 |lst h=>exact { bIF 6 with lines:=⟨h.2.1,fun s hs=>(by decide:∀s∈mq,s.length<=57) s (h.2.2 s hs)⟩ }
theorem aIK:∀(l:List Expr) (e:Expr),cP (l++[e])=cP l+gY e
 | [],e=>by simp[cP]
 |a::l,e=>by rw[List.cons_append,cP,cP,aIK l e];omega
theorem bJj:∀l:List Expr,l.length<=cP l
 | []=>FF _
 |.mk _ _ _::l=>by rw[AW,cP,gY];have:=bJj l;omega
theorem aLl{A:af}{g:SN}(h:Has A g "aJ" (jJ g))(ha:qK A g){b:Block}(hq:b.Ok)(hs:ny 0 b){how by':Int}(rh:eA by')(H:LO):∃v H' wr,aG A (g "aJ") [.agg (aE b),vi how,vi by'] H=QQ (v,H',wr)/\(H'=H/\wr=[]/\∃b1:Block,v=.agg (aE b1)/\b1.Ok/\ny 1 b1):=by
 refine h.bp ?_;have fin:∀b1:Block,b1.Ok/\ny 1 b1->∀v:AV,v=.agg (aE b1)->∃b2:Block,v=.agg (aE b2)/\b2.Ok/\ny 1 b2:=fun b1 h v e=>⟨b1,e,h⟩;have X3:=hs.more;have qe:b.runs.length<=15:=HX hs.runs.1 deT;have yz:b.eg.length<=15:=HX hs.eg deT;have yv:b.cd.length<=15:=HX hs.cd.1 deT;have Dd:b.bo.length<=15:=HX hs.bo.1 deT;have Q2:b.lines.length<=15:=HX hs.lines.1 deT;cases nz:b.expr with | mk op n kids=>
 have mn:=hq.expr;have gd:=hs.size;rw[nz]at mn gd;have Q1:=gd;obtain⟨x1,x2,x3,x4⟩:eA op/\eA n/\kids.length<=16/\∀e∈kids,Expr.Ok e:=by cases mn;grind
 rw[gY]at gd;have iq:kids.length<=15:=by have:=bJj kids;omega
 simp only[jJ,lL];have h9:=nA (c:=1) rh (m:=9) deT deT deT deT;have h4:=nA (c:=1) rh (m:=4) deT deT deT deT;have Hg:=nA (c:=2) rh (m:=52) deT deT deT deT;obtain⟨k1,k2⟩:=kV rh (m:=4) deT;simp only[go_sem,seval,aE,nz,aF,bD,ha how];refine aD (fun hb=>?_) (fun hb=>?_)
 ·simp only[go_sem,seval,ha by',h9.1,aA (aC cA _),aA (aC aV _),aA (aC bO _),aA (aC aU _),aA (aC cU _),aA (aC bW _),aA (aC cR _)];exact fin { b with kind:=bu by' 9 - 1 } ⟨{ hq with kind:=h9.2 },{ X3 with }⟩ _ (by simp[aE,nz,aF,bD])
 simp only[go_sem,seval];refine aD (fun hb=>?_) (fun hb=>?_)
 ·obtain⟨t,qt,cx⟩:=aQl [[],[120],[10],[126]] k1 k2;simp only[DR,aN]at cx;have tl:lI t:=by
   grind
  have ho:({ b with runs:=b.runs++[mr.mk (bu by' 4 - 1) t]:Block }).Ok/\ny 1 ({ b with runs:=b.runs++[mr.mk (bu by' 4 - 1) t]:Block }):=⟨{ hq with vw:=uY qe,runs:=pS hq.runs ⟨h4.2,tl⟩ },{ X3 with runs:=⟨uY hs.runs.1,pS hs.runs.2 (show t.length<=9 by grind)⟩ }⟩;have hm:∀l,l.map cZ++[cZ (mr.mk (bu by' 4 - 1) t)]=(l++[mr.mk (bu by' 4 - 1) t]).map cZ:=fun l=>by simp
  simp only[cZ]at hm;cases lr:b.runs with
  |nil=>rw[lr]at ho;simp only[go_sem,seval,ha by',h4.1,k1,cx,cD,aA (aC aV _),aA (aC bO _),aA (aC aU _),aA (aC cU _),aA (aC bW _),aA (aC cR _)];grind [aE,aF,bD,cZ]
  |cons a r=>
   rw[lr]at ho qe;have gj:bP (r.length+1) 24=true:=cD (by grind) deT;have nv:bP (r.length+1+1) 24=true:=cD (by grind) deT;have xd:(cZ a).length=2:=by first | rfl | exact dP a
   have bd:(cZ a).all AV.still=true:=bR (cA a);simp only[go_sem,seval,ha by',h4.1,k1,cx,gj,nv,hm,xd,bd,aT (aC cA _),dC (cA a),aA (aC cA _),aA (aC aV _),aA (aC bO _),aA (aC aU _),aA (aC cU _),aA (aC bW _),aA (aC cR _)];grind [aE,aF,bD,cZ]
 simp only[go_sem,seval];refine aD (fun hb=>?_) (fun hb=>?_)
 ·have Ge:cP (kids++[Expr.mk 0 by' []])+1<=1000:=by rw[aIK,gY,cP];omega
  have ho:({ b with expr:=.mk op n (kids++[Expr.mk 0 by' []]):Block }).Ok/\ny 1 ({ b with expr:=.mk op n (kids++[Expr.mk 0 by' []]):Block }):=⟨{ hq with expr:=.mk _ _ _ x1 x2 (uY iq) (pS x4 (.mk _ _ _ aCH rh siT siT)),size:=by rw[gY];exact Ge },{ X3 with size:=by rw[gY,aIK,gY,cP];omega }⟩;have hm:∀l,l.map aF++[aF (Expr.mk 0 by' [])]=(l++[Expr.mk 0 by' []]).map aF:=fun l=>by simp
  simp only[aF,gO]at hm;cases lr:kids with
  |nil=>rw[lr]at ho;simp only[go_sem,seval,cD,aA (aC cA _),aA (aC bO _),aA (aC aU _),aA (aC cU _),aA (aC bW _),aA (aC cR _)];grind [aE,aF,bD,gO]
  |cons a r=>
   rw[lr]at ho iq;have gj:bP (r.length+1) 40=true:=cD (by grind) deT;have nv:bP (r.length+1+1) 40=true:=cD (by grind) deT;have xd:(aF a).length=3:=by first | rfl | exact dP a
   have bd:(aF a).all AV.still=true:=bR (aV a);simp only[go_sem,seval,gj,nv,hm,xd,bd,aT (aC aV _),dC (aV a),aA (aC cA _),aA (aC aV _),aA (aC bO _),aA (aC aU _),aA (aC cU _),aA (aC bW _),aA (aC cR _)];grind [aE,aF,bD,gO]
 simp only[go_sem,seval];refine aD (fun hb=>?_) (fun hb=>?_)
 ·obtain⟨t,qt,cx⟩:=aQk [-1,0,999999,1000000] k1 k2;simp only[DR,bF]at cx;have tl:eA t:=by
   grind
  have ho:({ b with eg:=b.eg++[t]:Block }).Ok/\ny 1 ({ b with eg:=b.eg++[t]:Block }):=⟨{ hq with tj:=uY yz,eg:=pS hq.eg tl },{ X3 with eg:=uY hs.eg }⟩;have hm:∀l,l.map bF++[bF (t)]=(l++[t]).map bF:=fun l=>by simp
  simp only[bF]at hm;cases lr:b.eg with
  |nil=>rw[lr]at ho;simp only[go_sem,seval,ha by',k1,cx,cD,aA (aC cA _),aA (aC aV _),aA (aC bO _),aA (aC cU _),aA (aC bW _),aA (aC cR _)];grind [aE,aF,bD,bF]
  |cons a r=>
   rw[lr]at ho yz;have gj:bP (r.length+1) 8=true:=cD (by grind) deT;have nv:bP (r.length+1+1) 8=true:=cD (by grind) deT;have xd:(bF a).length=1:=by first | rfl | exact dP a
   have bd:(bF a).all AV.still=true:=bR (aU a);simp only[go_sem,seval,ha by',k1,cx,gj,nv,hm,xd,bd,aT (aC aU _),dC (aU a),aA (aC cA _),aA (aC aV _),aA (aC bO _),aA (aC aU _),aA (aC cU _),aA (aC bW _),aA (aC cR _)];grind [aE,aF,bD,bF]
 simp only[go_sem,seval];refine aD (fun hb=>?_) (fun hb=>?_)
 ·obtain⟨j1,j2⟩:=kV rh (m:=3) deT;have hc:bu by' 3=0∨bu by' 3=1∨bu by' 3=2:=omT
  rcases hc with h3 | h3 | h3
  ·skip
   have ho:({ b with cd:=b.cd++[([]:List Str)]:Block }).Ok/\ny 1 ({ b with cd:=b.cd++[([]:List Str)]:Block }):=⟨{ hq with uu:=uY yv,cd:=pS hq.cd ⟨siT,deT⟩ },{ X3 with cd:=⟨uY hs.cd.1,pS hs.cd.2 deT⟩ }⟩;have hm:∀l,l.map bY++[bY (([]:List Str))]=(l++[([]:List Str)]).map bY:=fun l=>by simp
   simp only[bY,BY]at hm;cases lr:b.cd with
   |nil=>rw[lr]at ho;simp only[go_sem,seval,ha by',h3,dU,iL,cD,aA (aC cA _),aA (aC aV _),aA (aC bO _),aA (aC aU _),aA (aC bW _),aA (aC cR _)];grind [aE,aF,bD,bY]
   |cons a r=>
    rw[lr]at ho yv;have gj:bP (r.length+1) 24=true:=cD (by grind) deT;have nv:bP (r.length+1+1) 24=true:=cD (by grind) deT;have xd:(bY a).length=1:=by first | rfl | exact dP a
    have bd:(bY a).all AV.still=true:=bR (cU a);simp only[go_sem,seval,ha by',h3,dU,iL,gj,nv,hm,xd,bd,aT (aC cU _),dC (cU a),aA (aC cA _),aA (aC aV _),aA (aC bO _),aA (aC aU _),aA (aC cU _),aA (aC bW _),aA (aC cR _)];grind [aE,aF,bD,bY]
  ·skip
   have ho:({ b with cd:=b.cd++[[[97]]]:Block }).Ok/\ny 1 ({ b with cd:=b.cd++[[[97]]]:Block }):=⟨{ hq with uu:=uY yv,cd:=pS hq.cd ⟨siT,deT⟩ },{ X3 with cd:=⟨uY hs.cd.1,pS hs.cd.2 deT⟩ }⟩;have hm:∀l,l.map bY++[bY ([[97]])]=(l++[[[97]]]).map bY:=fun l=>by simp
   simp only[bY,aN,BI,BY]at hm;cases lr:b.cd with
   |nil=>rw[lr]at ho;simp only[go_sem,seval,ha by',h3,dU,iL,cD,aA (aC cA _),aA (aC aV _),aA (aC bO _),aA (aC aU _),aA (aC bW _),aA (aC cR _)];grind [aE,aF,bD,bY,aN]
   |cons a r=>
    rw[lr]at ho yv;have gj:bP (r.length+1) 24=true:=cD (by grind) deT;have nv:bP (r.length+1+1) 24=true:=cD (by grind) deT;have xd:(bY a).length=1:=by first | rfl | exact dP a
    have bd:(bY a).all AV.still=true:=bR (cU a);simp only[go_sem,seval,ha by',h3,dU,iL,gj,nv,hm,xd,bd,aT (aC cU _),dC (cU a),aA (aC cA _),aA (aC aV _),aA (aC bO _),aA (aC aU _),aA (aC cU _),aA (aC bW _),aA (aC cR _)];grind [aE,aF,bD,bY,aN]
  skip
  have ho:({ b with cd:=b.cd++[[[97],[50,49,32,98,121,116,101,115,32,97,114,101,32,116,111,111,32,109,117,99,104,46]]]:Block }).Ok/\ny 1 ({ b with cd:=b.cd++[[[97],[50,49,32,98,121,116,101,115,32,97,114,101,32,116,111,111,32,109,117,99,104,46]]]:Block }):=⟨{ hq with uu:=uY yv,cd:=pS hq.cd ⟨siT,deT⟩ },{ X3 with cd:=⟨uY hs.cd.1,pS hs.cd.2 deT⟩ }⟩;have hm:∀l,l.map bY++[bY ([[97],[50,49,32,98,121,116,101,115,32,97,114,101,32,116,111,111,32,109,117,99,104,46]])]=(l++[[[97],[50,49,32,98,121,116,101,115,32,97,114,101,32,116,111,111,32,109,117,99,104,46]]]).map bY:=fun l=>by simp
  simp only[bY,aN,BI,BY]at hm;cases lr:b.cd with
  |nil=>rw[lr]at ho;simp only[go_sem,seval,ha by',h3,dU,iL,cD,aA (aC cA _),aA (aC aV _),aA (aC bO _),aA (aC aU _),aA (aC bW _),aA (aC cR _)];grind [aE,aF,bD,bY,aN]
  |cons a r=>
   rw[lr]at ho yv;have gj:bP (r.length+1) 24=true:=cD (by grind) deT;have nv:bP (r.length+1+1) 24=true:=cD (by grind) deT;have xd:(bY a).length=1:=by first | rfl | exact dP a
   have bd:(bY a).all AV.still=true:=bR (cU a);simp only[go_sem,seval,ha by',h3,dU,iL,gj,nv,hm,xd,bd,aT (aC cU _),dC (cU a),aA (aC cA _),aA (aC aV _),aA (aC bO _),aA (aC aU _),aA (aC cU _),aA (aC bW _),aA (aC cR _)];grind [aE,aF,bD,bY,aN]
 simp only[go_sem,seval];refine aD (fun hb=>?_) (fun hb=>?_)
 ·obtain⟨t,qt,cx⟩:=aQk [0,1,1000,1001] k1 k2;simp only[DR,bF]at cx;have tl:eA t:=by
   grind
  simp only[go_sem,seval,ha by',k1,cx,aA (aC cA _),aA (aC aV _),aA (aC bO _),aA (aC aU _),aA (aC cU _),aA (aC bW _),aA (aC cR _)];exact fin { b with w:=t } ⟨{ hq with w:=tl },{ X3 with }⟩ _ (by simp[aE,nz,aF,bD])
 simp only[go_sem,seval];refine aD (fun hb=>?_) (fun hb=>?_)
 ·skip
  have ho:({ b with bo:=b.bo++[[[ct.mk (bu by' 52 - 2) 0 0]]]:Block }).Ok/\ny 1 ({ b with bo:=b.bo++[[[ct.mk (bu by' 52 - 2) 0 0]]]:Block }):=⟨{ hq with uv:=uY Dd,bo:=pS hq.bo ⟨siT,fun l hl=>by
   have:l=[ct.mk (bu by' 52 - 2) 0 0]:=by simpa using hl
   subst this;exact⟨siT,fun m hm=>by
    have:m=ct.mk (bu by' 52 - 2) 0 0:=by simpa using hm
    subst this;exact⟨Hg.2,aCH,aCH⟩⟩⟩ },{ X3 with bo:=⟨uY hs.bo.1,pS hs.bo.2 ⟨siT,siT⟩⟩ }⟩
  have hm:∀l,l.map bS++[bS ([[ct.mk (bu by' 52 - 2) 0 0]])]=(l++[[[ct.mk (bu by' 52 - 2) 0 0]]]).map bS:=fun l=>by simp
  simp only[bS,gH,bV,BI,BY]at hm;cases lr:b.bo with
  |nil=>rw[lr]at ho;simp only[go_sem,seval,ha by',Hg.1,cD,aA (aC cA _),aA (aC aV _),aA (aC bO _),aA (aC aU _),aA (aC cU _),aA (aC bW _)];grind [aE,aF,bD,bS,gH,bV]
  |cons a r=>
   rw[lr]at ho Dd;have gj:bP (r.length+1) 24=true:=cD (by grind) deT;have nv:bP (r.length+1+1) 24=true:=cD (by grind) deT;have xd:(bS a).length=1:=by first | rfl | exact dP a
   have bd:(bS a).all AV.still=true:=bR (cR a);simp only[go_sem,seval,ha by',Hg.1,gj,nv,hm,xd,bd,aT (aC cR _),dC (cR a),aA (aC cA _),aA (aC aV _),aA (aC bO _),aA (aC aU _),aA (aC cU _),aA (aC bW _),aA (aC cR _)];grind [aE,aF,bD,bS,gH,bV]
 obtain⟨k1,k2⟩:=kV rh (m:=3) deT;obtain⟨t,qt,cx⟩:=aQl [[],[120],[9]] k1 k2;simp only[DR,aN]at cx;have tl:lI t:=by grind
 have ho:({ b with lines:=b.lines++[t]:Block }).Ok/\ny 1 ({ b with lines:=b.lines++[t]:Block }):=⟨{ hq with vz:=uY Q2,lines:=pS hq.lines tl },{ X3 with lines:=⟨uY hs.lines.1,pS hs.lines.2 (show t.length<=57 by grind)⟩ }⟩;have hm:∀l,l.map aN++[aN (t)]=(l++[t]).map aN:=fun l=>by simp
 simp only[aN]at hm;cases lr:b.lines with
 |nil=>rw[lr]at ho;simp only[go_sem,seval,ha by',k1,cx,cD,aA (aC cA _),aA (aC aV _),aA (aC aU _),aA (aC cU _),aA (aC bW _),aA (aC cR _)];grind [aE,aF,bD,aN]
 |cons a r=>
  rw[lr]at ho Q2;have gj:bP (r.length+1) 16=true:=cD (by grind) deT;have nv:bP (r.length+1+1) 16=true:=cD (by grind) deT;have xd:(aN a).length=1:=by first | rfl | exact dP a
  have bd:(aN a).all AV.still=true:=bR (bO a);simp only[go_sem,seval,ha by',k1,cx,gj,nv,hm,xd,bd,aT (aC bO _),dC (bO a),aA (aC cA _),aA (aC aV _),aA (aC bO _),aA (aC aU _),aA (aC cU _),aA (aC bW _),aA (aC cR _)];grind [aE,aF,bD,aN]
theorem ny.lim{k:Nat}(hk:k<=1){b:Block}(h:ny k b)(hb:dQ b=QS):Sc b (400+96*k):=by
 have hK:=yU hb;unfold xU at hK;refine⟨fun e=>⟨38,fun r hr=>by have:=h.runs.2 r hr;omega,by have:=h.runs.1;omega⟩,fun e=>by have:=h.size;omega,fun e=>by have:=h.eg;omega,fun e=>?_,fun e=>⟨91,fun s hs=>by have:=h.aw.2 s hs;omega,by have:=h.aw.1;omega⟩,
  fun e=>⟨161,52,fun x hx=>⟨by have:=(h.bo.2 x hx).1;omega,fun l hl=>by have:=(h.bo.2 x hx).2 l hl;omega⟩,by have:=h.bo.1;omega⟩,fun e=>⟨122,fun s hs=>by have:=h.lines.2 s hs;omega,by have:=h.lines.1;omega⟩⟩
 rw[Zx omT,Zx omT,Zx omT,Zy e]at hK;simp only[aUQ,vP,AI,eG,AO]at hK;exact⟨67,21,fun r hr=>⟨by have:=(h.cd.2 r hr).1;omega,fun s hs=>by have h1:=(hK.2 r hr).2.2 s hs;have h2:=(h.cd.2 r hr).2 s hs;omega⟩,by have:=h.cd.1;omega⟩
theorem kf.lim{b:Block}(hb:kf b):Sc b 400:=hb.X8.lim (k:=0) deT hb.right
theorem jt.lim{m:Nat}{q:Question}(h:jt m q)(hm:m<=6):bI6 q 490:=by
 obtain⟨h1,h2,h3,h4,h5,h6,h7,h8,h9,_,_,_⟩:=h;refine⟨38,53,fun r hr=>by have:=bDR (h2.2.2.1 r hr).2;omega,fun s hs t ht=>by have:=bGa (h4 s hs);have:=bGb (h5 t ht);omega, ?_⟩;have hk:q.key.length<=9:=by
  rcases h8 with h | ⟨n,hn,h⟩
  ·exact bDR h
  have:=aGn 2 n omT;rw[h];omega
 have:=h2.2.1;omega
theorem pz.lim{x:Item}(h:pz x):bI7 x 2551:=by obtain⟨h1,h2,h3,h4,h5,h6,h7,_⟩:=h;exact⟨400,490,fun b hb=>(h3 b hb).lim,fun q hq=>(h7 q hq).lim h4,by have:=(by decide:∀s∈bF7,s.length<=5) _ h1;omega⟩
theorem my.right{x:jm}(h:my x):bDt x=true:=by obtain⟨h1,h2,h3,_⟩:=h;simp only[bDt,(by decide:∀s∈bEq,vP 0 100 s=QS) _ h1,BR,AI,eG,AO];exact⟨omT,fun i hi=>(h3 i hi).right⟩
abbrev aB5(g:SN):List ae:=[qf 97 1 11,⟨QQ 98,ol 1 97,N2,[0]⟩,qm 99 12,qf 100 1 11,⟨QQ 101,ol 1 100,N2,[3]⟩,qm 102 12,⟨QQ 103,oi 101 102 13,N2,[4,3,5]⟩,⟨QQ 104,ola 13 103,N2,[6,4,3,5]⟩,qm 105 2,⟨QQ 106,obi .quo 105 6,N2,[8]⟩,qm 107 3,⟨QQ 108,oc (g "aJ") [u 104,u 106,u 107],N2,[7,6,4,3,5,9,8,10]⟩,⟨QQ 109,oi 98 99 13,N2,[1,0,2,11,7,6,4,3,5,9,8,10]⟩,⟨N2,os 13 109 108,N2,[12,1,0,2,11,7,6,4,3,5,9,8,10]⟩]
abbrev pB:LN:=[1,11]
abbrev aB6(g:SN):List ae:=[qf 127 3 11,⟨QQ 128,ol 1 127,N2,[0]⟩,qm 129 13,qf 130 3 11,⟨QQ 131,ol 1 130,N2,[3]⟩,qm 132 13,⟨QQ 133,oi 131 132 7,N2,[4,3,5]⟩,⟨QQ 134,ola 7 133,N2,[6,4,3,5]⟩,qm 135 2,⟨QQ 136,obi .quo 135 6,N2,[8]⟩,qm 137 3,⟨QQ 138,oc (g "aK") [u 134,u 136,u 137],N2,[7,6,4,3,5,9,8,10]⟩,⟨QQ 139,oi 128 129 7,N2,[1,0,2,11,7,6,4,3,5,9,8,10]⟩,⟨N2,os 7 139 138,N2,[12,1,0,2,11,7,6,4,3,5,9,8,10]⟩]
abbrev pC:LN:=[1,11]
def pD(g:SN):ag:=.block 0 (qS [qbi 43 .eql 37 0,qm 42 43]<|qC 42 (qR [qq 44 (.bsl 1 [(.str [])] 4 [(0,(.const (.str []))),(1,(.const (.str [31]))),(2,(.const (.str [79,116,104,101,114]))),(3,(.const (.str [34,113,34])))]),qm 45 3,qc 46 (g "c") [u 45,ui 4],qi 47 44 46 1,ql 48 1 47,qf 49 0 4,qs 1 49 48]) (qS [qbi 51 .eql 37 1,qm 50 51]<|qC 50 (qR [qq 52 (.bsl 1 [(.str [])] 6 [(0,(.const (.str []))),(1,(.const (.str [49,97]))),(2,(.const (.str [111,116,104,101,114]))),(3,(.const (.str [85,112,112,101,114]))),(4,(.const (.str [115,101,118,101,110,116,101,101,110,108,101,116,116,101,114,115,49]))),(5,(.const (.str [97,32,98])))]),qm 53 3,qc 54 (g "c") [u 53,ui 6],qi 55 52 54 1,ql 56 1 55,qf 57 0 11,qs 1 57 56]) (qS [qbi 59 .eql 37 2,qm 58 59]<|qC 58 (qR [qq 60 (.bsl 4 [z0,z0,z0,z0] 0 []),qf 61 2 11,ql 62 1 61,qa 63 4 32 60 62,qm 64 3,qc 65 (g "c") [u 64,ui 9],qbi 66 .sub 65 1,qm 67 3,qbi 68 .quo 67 9,qc 69 (g "c") [u 68,ui 10],qbi 70 .sub 69 1,qq 71 (.bsl 1 [z0] 4 [(0,(.const z0)),(1,(.const (vi 99))),(2,(.const (vi 100))),(3,(.const (.int .i64 (-1))))]),qm 72 3,qc 73 (g "c") [u 72,ui 4],qi 74 71 73 1,ql 75 1 74,qq 76 (.build [z0,z0,z0,z0] [(0,1,(.tmp 66)),(1,1,(.tmp 70)),(2,1,(.tmp 75))]),qq 77 (.bsl 4 [z0,z0,z0,z0] 1 [(0,(.tmp 76))]),qa 78 4 32 63 77,qf 79 2 11,qs 1 79 78]) (qS [qbi 81 .eql 37 3,qm 80 81]<|qC 80 (qS [qf 82 1 11,ql 83 1 82,qn 84 83,qbi 85 .gtr 84 0]<|qC 85 (qS [qq 86 (.bsl 13 [z0,(.sl QT []),z0,z0,(.sl QT []),z0,(.sl QT []),(.sl QT []),z0,z0,(.sl QT []),(.sl QT []),(.sl QT [])] 0 []),qf 87 1 11,ql 88 1 87,qa 89 13 216 86 88,qf 90 1 11,qs 1 90 89]<|qS [qm 91 1,qbi 92 .quo 91 3,qf 93 1 11,ql 94 1 93,qn 95 94,qc 96 (g "c") [u 92,u 95],qm 12 96]<|.region QS (aB5 g)) (.skip)) (qS [qbi 111 .eql 37 4,qm 110 111]<|qC 110 (qS [qf 112 3 11,ql 113 1 112,qn 114 113,qbi 115 .gtr 114 0]<|qC 115 (qS [qq 116 (.bsl 7 [z0,(.sl QT []),(.sl QT []),(.sl QT []),(.str []),z0,(.sl QT [])] 0 []),qf 117 3 11,ql 118 1 117,qa 119 7 128 116 118,qf 120 3 11,qs 1 120 119]<|qS [qm 121 1,qbi 122 .quo 121 3,qf 123 3 11,ql 124 1 123,qn 125 124,qc 126 (g "c") [u 122,u 125],qm 13 126]<|.region QS (aB6 g)) (.skip)) (qR [qm 38 10,qla 39 4 11,qq 40 (.bsl 4 [(.str []),(.sl QT []),(.sl QT []),(.sl QT [])] 1 [(0,(.tmp 39))]),qa 41 4 88 38 40,qm 10 41]))))))
def nQ(g:SN):bw:=⟨147,[4,8,31,11,63,78,89,119,41],[.cell 8 2 QS],qS [qx 4 2 0,qq 8 (.alloc [(.str []),(.sl QS [])])]<|.seq (qS [qf 14 1 4,ql 15 1 14,qn 16 15,qbi 17 .eql 16 0]<|qC 17 (qS [qf 18 0 4,ql 19 1 18,qq 20 (.bin .add .no (u 19) (uc (.str [10]))),qf 21 0 4,qs 1 21 20]<|qS [qla 22 2 4,qs 2 8 22]<|.ret) (.skip))<|qS [qm 23 1,qf 24 1 4,ql 25 1 24,qn 26 25,qc 27 (g "c") [u 23,u 26],qm 9 27]<|qS [qq 28 (.bsl 4 [(.str []),(.sl QT []),(.sl QT []),(.sl QT [])] 0 []),qf 29 1 4,ql 30 1 29,qa 31 4 88 28 30,qm 10 31]<|qS [qm 32 10,qm 33 9,qi 34 32 33 4,qla 35 4 34,qq 11 (.alloc [(.str []),(.sl QS []),(.sl QS []),(.sl QS [])]),qs 4 11 35]<|.seq (qS [qm 36 2,qc 37 (g "c") [u 36,ui 6]]<|pD g)<|.seq (.seq (.frz [(4,11)])<|.region QT [qm 140 10,qm 141 9,qla 142 4 11,qi 143 140 141 4,qs 4 143 142])<|qS [qm 144 10,qf 145 1 4,qs 1 145 144]<|qS [qla 146 2 4,qs 2 8 146]<|.ret⟩
theorem aMp(n:Int):eA (AR.wrap n):=by rw[PW];grind
theorem aOA(b:Block):KW 13 (aE b)=[]:=List.drop_eq_nil_of_le (by rw[cF];grind)
theorem aYn(q:Question):FW 7 (gR q)=gR q:=CH (AQ _)
theorem aYo(q:Question):KW 7 (gR q)=[]:=rfl
theorem aBu{α:Type}{P:α->Prop}{l:List α}{a:α}(h:∀x∈l,P x)(ha:P a)(i:Nat):∀x∈l.set i a,P x:=by grind
theorem aQE{α:Type}{l:List α}{enc:α->LA}{n:Int}(h0:0<=n)(h1:n<l.length):∃a∈l,(l.map enc)[n.toNat]? = QQ (enc a)/\l[n.toNat]? = QQ a:=by simp_all
theorem qD(L:List Item)(k:Nat)(nm:Str)(bs:List Block)(fs:List Fact)(qs:List Question):(L.map aO).set k [.str nm,.sl QT (bs.map aE),.sl QT (fs.map aI),.sl QT (qs.map gR)]=(L.set k (Item.mk nm bs fs qs)).map aO:=by exact (ME (f:=aO) (l:=L) (i:=k) (a:=Item.mk nm bs fs qs)).symm
def bK7(x:Item):Prop:=x.name.length<=17/\x.blocks.length<=3/\x.ask.length<=2/\∃kB kF kQ:Nat,kB+kF+kQ<=1/\(∀b∈x.blocks,ny kB b)/\x.facts.length<=6+kF/\∀q∈x.ask,ry kQ q
theorem pz.Wi{x:Item}(h:pz x):bK7 x:=⟨HX ((by decide:∀s∈bF7,s.length<=5) _ h.name) deT,h.zq.2,h.tj,0,0,0,deT,fun b hb=>(h.block b hb).X8,h.B1,fun q hq=>(h.ask q hq).Wa h.B1⟩
structure rz(x:jm):Prop where
 ok:x.Ok
 title:x.title.length<=15
 item:∀i∈x.items,bK7 i
 names:x.items.length<=3∨¬(x.items.map Item.name).Nodup
theorem my.Wb{x:jm}(h:my x):rz x:=⟨h.ok,HX ((by decide:∀s∈bEq,s.length<=14) _ h.title) deT,fun i hi=>(h.item i hi).Wi,.inl h.G8.2⟩
abbrev aQF(v:AV):Prop:=∃x:jm,v=dE x/\rz x
theorem bJs{l:List Item}{y:Item}{k:Int}(hm:y∈l)(hg:l[k.toNat]? = QQ y)(h0:0<=k)(h1:k<l.length):¬(((l++[y]).set k.toNat y).map Item.name).Nodup:=by
 have hlt:k.toNat<l.length:=omT;have e:(l++[y]).set k.toNat y=l++[y]:=by grind [List.set_append_left,AH,List.set_getElem_self]
 grind
theorem aMq{A:af}{g:SN}(h:Has A g "aI" (nQ g))(ha:qK A g) (hB:∀{b:Block},b.Ok->ny 0 b->∀{how by':Int},eA by'->∀H,∃v H' wr,aG A (g "aJ") [.agg (aE b),vi how,vi by'] H=QQ (v,H',wr)/\(H'=H/\wr=[]/\∃b1:Block,v=.agg (aE b1)/\b1.Ok/\ny 1 b1)) (hQ:∀{q:Question},q.Ok->ry 0 q->∀{how by':Int},eA by'->∀H,∃v H' wr,aG A (g "aK") [.agg (gR q),vi how,vi by'] H=QQ (v,H',wr)/\(H'=H/\wr=[]/\∃q1:Question,v=.agg (gR q1)/\q1.Ok/\ry 1 q1)) {x:jm} (hm:my x) {at' how by':Int} (jk:eA at') (rh:eA by') (H:LO):∃v H' wr,aG A (g "aI") [dE x,vi at',vi how,vi by'] H=QQ (v,H',wr)/\(H'=H/\wr=[]/\aQF v):=by
 refine h.bp ?_;have hx:=hm.ok;have hE:=hm.Wb;obtain⟨title,items⟩:=x;have It:=hE.title;have U6:=hm.G8;have sw:=hm.item;have O2:=hx.items;simp only at It U6 sw O2;have G7:items.length<=3:=U6.2;have Gw:∀i∈items,bK7 i:=hE.item;have fin:∀x1:jm,rz x1->∀v:AV,v=dE x1->aQF v:=fun x1 h v e=>⟨x1,e,h⟩;simp only[nQ,pD];cases M5:items with
 |nil=>rw[M5]at U6;simp at U6
 |cons a0 r0=>
  rw[<- M5];have bl:(decide (((items.length:Nat):Int)=0))=false:=by grind
  have ya:(((items.length:Nat):Int)==0)=false:=by grind
  have Nr:(items.map aO).isEmpty=false:=by rw[M5];rfl
  have tz:dF 4 (items.map aO)=true:=by rw[M5];rfl
  have R1:bP items.length 88=true:=cD omT deT;obtain⟨i0,i1⟩:=kV jk (m:=(items.length:Int)) (by grind);obtain⟨it,Jp,cj,B7⟩:=aQE (enc:=aO) i0 i1;have kh:=O2 it Jp;have Bz:=sw it Jp;have To:=Gw it Jp;have X5:=Bz.zq;have Le:=fun b hb=>(Bz.block b hb).X8;have I9:=Bz.B1;have j8:=Bz.tj;have Wc:=fun q hq=>(Bz.ask q hq).Wa Bz.B1;obtain⟨nm,bs,fs,qs⟩:=it;simp only[aO]at cj;simp only at X5 Le I9 j8 Wc;have O4:=To.1;have Ns:AR.wrap 0=0:=wrap_i64 deT deT;have xa:∀(t:Str) (y:Item),t.length<=15->y.Ok/\bK7 y->rz (jm.mk t (items.set (bu at' items.length).toNat y)):=fun t y h1 h2=>⟨⟨by grind,by grind,aBu O2 h2.1 _⟩,h1,aBu Gw h2.2 _,.inl (by grind)⟩;obtain⟨k1,k2⟩:=kV rh (m:=4) deT;obtain⟨k3,k4⟩:=kV rh (m:=6) deT;have h9:=nA (c:=1) rh (m:=9) deT deT deT deT;have B8:=nA (c:=1) (aMp (by'.tdiv 9)) (m:=10) deT deT deT deT;simp only[go_sem,↓aB,seval,dE,ha at',ha how,ya,Nr,tz,R1,i0,i1,cj];refine aD (fun hb=>?_) (fun hb=>?_)
  ·obtain⟨t,qt,cx⟩:=aQl [[],[31],[79,116,104,101,114],[34,113,34]] k1 k2;simp only[DR,aN]at cx;have tl:t.length<=15:=by
    grind
   simp only[go_sem,↓aB,seval,ha by',k1,cx,i0,i1,cj,qD,aT (aC dV _),aA (aC dV _)];exact fin _ (xa t _ tl ⟨kh,To⟩) _ rfl
  simp only[go_sem,↓aB,seval];refine aD (fun hb=>?_) (fun hb=>?_)
  ·obtain⟨t,qt,cx⟩:=aQl [[],[49,97],[111,116,104,101,114],[85,112,112,101,114],[115,101,118,101,110,116,101,101,110,108,101,116,116,101,114,115,49],[97,32,98]] k3 k4;simp only[DR,aN]at cx;have tl:t.length<=17:=by
    have:∀s∈([[],[49,97],[111,116,104,101,114],[85,112,112,101,114],[115,101,118,101,110,116,101,101,110,108,101,116,116,101,114,115,49],[97,32,98]]:List Str),s.length<=17:=deT;grind
   simp only[go_sem,↓aB,seval,ha by',k3,cx,i0,i1,cj,qD,aT (aC dV _),aA (aC dV _)];exact fin _ (xa title (Item.mk t bs fs qs) It ⟨{ kh with name:=by grind },tl,To.2⟩) _ rfl
  simp only[go_sem,↓aB,seval];refine aD (fun hb=>?_) (fun hb=>?_)
  ·obtain⟨t,qt,cx⟩:=aQk [0,99,100,-1] k1 k2;simp only[DR,bF]at cx;have tl:eA t:=by
    grind
   have Jq:∀ek,kJ .quo ek (vi by') (vi 9)=QQ (vi (AR.wrap (by'.tdiv 9))):=fun ek=>aAl deT;have ho:(Item.mk nm bs (fs++[⟨bu by' 9 - 1,bu (AR.wrap (by'.tdiv 9)) 10 - 1,t,0⟩]) qs).Ok/\bK7 (Item.mk nm bs (fs++[⟨bu by' 9 - 1,bu (AR.wrap (by'.tdiv 9)) 10 - 1,t,0⟩]) qs):=⟨{ kh with B1:=by grind,facts:=pS kh.facts ⟨h9.2,B8.2,tl,aCH⟩ },O4,X5.2,j8,0,1,0,deT,Le,uY I9,Wc⟩;have Gx:∀(l:List Fact) (a b c d:Int),l.map aI++[[vi a,vi b,vi c,vi d]]=(l++[Fact.mk a b c d]).map aI:=fun l a b c d=>by simp[aI]
   by_cases lr:fs=[]
   ·subst lr;have lg:=qD items (bu at' items.length).toNat nm bs [⟨bu by' 9 - 1,bu (AR.wrap (by'.tdiv 9)) 10 - 1,t,0⟩] qs;simp only[BI,BY,aI]at lg;simp only[go_sem,↓aB,seval,ha by',ha (AR.wrap (by'.tdiv 9)),Jq,h9.1,B8.1,k1,cx,cD,lg,i0,i1,cj,aT (aC dV _),aA (aC dV _)];exact fin _ (xa title _ It ho) _ rfl
   have D5:(fs.map aI).isEmpty=false:=by grind
   have Ca:dF 4 (fs.map aI)=true:=by cases fs<;>rfl
   have gj:bP fs.length 32=true:=cD omT deT;have nv:bP (fs.length+1) 32=true:=cD omT deT;simp only[go_sem,↓aB,seval,ha by',ha (AR.wrap (by'.tdiv 9)),Jq,h9.1,B8.1,k1,cx,D5,Ca,gj,nv,Gx,aT (aC eL _),i0,i1,cj,qD,aT (aC dV _),aA (aC dV _)];exact fin _ (xa title _ It ho) _ rfl
  simp only[go_sem,↓aB,seval];refine aD (fun hb=>?_) (fun hb=>?_)
  ·by_cases lr:bs=[]
   ·subst lr;have lg:=qD items (bu at' items.length).toNat nm [] fs qs;rw[BY]at lg;simp only[go_sem,↓aB,seval,lg,i0,i1,cj,aT (aC dV _),aA (aC dV _)];grind
   have zo:=X5.2;have Nt:0<bs.length:=MY.2 lr;have D5:(bs.map aE).isEmpty=false:=by simp_all
   have Ca:dF 13 (bs.map aE)=true:=by cases bs with | nil=>rfl | cons a r=>rw[BI,aCj,cF];rfl
   have gj:bP bs.length 216=true:=cD omT deT;have V8:decide ((bs.length:Int)>0)=true:=soT;have Hl:∀ek,kJ .quo ek (vi at') (vi 3)=QQ (vi (AR.wrap (at'.tdiv 3))):=fun ek=>aAl deT;have Hm:∀ek,kJ .quo ek (vi how) (vi 6)=QQ (vi (AR.wrap (how.tdiv 6))):=fun ek=>aAl deT;obtain⟨j0,j1⟩:=kV (aMp (at'.tdiv 3)) (m:=(bs.length:Int)) omT;obtain⟨b,Jr,wv,U3⟩:=aQE (enc:=aE) j0 j1;simp only[go_sem,↓aB,seval,ha (AR.wrap (at'.tdiv 3)),V8,D5,Ca,gj,Hl];refine aY (aq:=pB) rfT rfT ?_;simp only[go_sem,↓aB,seval,pB,j0,j1,wv,Hm,cF,aEB,aS (bG _),aK (bG _)];refine aMV (hB (kh.blocks b Jr) (Le b Jr) rh _) ?_;rintro v2 H2 en ⟨rfl,rfl,b1,rfl,fo⟩;have lg:∀b1,(bs.map aE).set (bu (AR.wrap (at'.tdiv 3)) bs.length).toNat (aE b1)=(bs.set (bu (AR.wrap (at'.tdiv 3)) bs.length).toNat b1).map aE:=fun b1=>ME.symm;simp only[go_sem,↓aB,seval,j0,j1,wv,lg,cF,aOA,aK (bG _),bQ (bG _),eH,dG,aL,aT (aC bG _),i0,i1,cj,qD,aT (aC dV _),aA (aC dV _)];exact fin _ (xa title (Item.mk nm (bs.set (bu (AR.wrap (at'.tdiv 3)) bs.length).toNat b1) fs qs) It ⟨{ kh with zq:=by grind,blocks:=aBu kh.blocks fo.1 _ },O4,by grind,j8,1,0,0,deT,aBu (fun b hb=>(Le b hb).more) fo.2 _,I9,Wc⟩) _ rfl
  simp only[go_sem,↓aB,seval];refine aD (fun hb=>?_) (fun hb=>?_)
  ·by_cases lr:qs=[]
   ·subst lr;have lg:=qD items (bu at' items.length).toNat nm bs fs [];simp only[BY]at lg;simp only[go_sem,↓aB,seval,lg,i0,i1,cj,aT (aC dV _),aA (aC dV _)];exact fin _ (xa title _ It ⟨kh,To⟩) _ rfl
   have zo:=j8;have Nt:0<qs.length:=MY.2 lr;have D5:(qs.map gR).isEmpty=false:=by simp_all
   have Ca:dF 7 (qs.map gR)=true:=by cases qs<;>rfl
   have gj:bP qs.length 128=true:=cD omT deT;have V8:decide ((qs.length:Int)>0)=true:=soT;have Hl:∀ek,kJ .quo ek (vi at') (vi 3)=QQ (vi (AR.wrap (at'.tdiv 3))):=fun ek=>aAl deT;have Hm:∀ek,kJ .quo ek (vi how) (vi 6)=QQ (vi (AR.wrap (how.tdiv 6))):=fun ek=>aAl deT;obtain⟨j0,j1⟩:=kV (aMp (at'.tdiv 3)) (m:=(qs.length:Int)) omT;obtain⟨q,Js,wv,U3⟩:=aQE (enc:=gR) j0 j1;simp only[go_sem,↓aB,seval,ha (AR.wrap (at'.tdiv 3)),V8,D5,Ca,gj,Hl];refine aY (aq:=pC) rfT rfT ?_;simp only[go_sem,↓aB,seval,pC,j0,j1,wv,Hm,aVz,aYn,aS (aBI _),aK (aBI _)];refine aMV (hQ (kh.ask q Js) (Wc q Js) rh _) ?_;rintro v2 H2 en ⟨rfl,rfl,q1,rfl,Nu⟩;have lg:∀q1,(qs.map gR).set (bu (AR.wrap (at'.tdiv 3)) qs.length).toNat (gR q1)=(qs.set (bu (AR.wrap (at'.tdiv 3)) qs.length).toNat q1).map gR:=fun q1=>ME.symm;simp only[go_sem,↓aB,seval,j0,j1,wv,lg,aVz,aYo,aK (aBI _),bQ (aBI _),eH,dG,aL,aT (aC aBI _),i0,i1,cj,qD,aT (aC dV _),aA (aC dV _)];exact fin _ (xa title (Item.mk nm bs fs (qs.set (bu (AR.wrap (at'.tdiv 3)) qs.length).toNat q1)) It ⟨{ kh with tj:=by grind,ask:=aBu kh.ask Nu.1 _ },O4,X5.2,by grind,0,0,1,deT,Le,I9,aBu (fun q hq=>(Wc q hq).more) Nu.2 _⟩) _ rfl
  have gj:bP (items.length+1) 88=true:=cD omT deT;have db:items.map aO++[[.str nm,.sl QT (bs.map aE),.sl QT (fs.map aI),.sl QT (qs.map gR)]]=(items++[Item.mk nm bs fs qs]).map aO:=by simp[aO]
  have Cb:((items++[Item.mk nm bs fs qs]).map aO)[(bu at' items.length).toNat]? = QQ [.str nm,.sl QT (bs.map aE),.sl QT (fs.map aI),.sl QT (qs.map gR)]:=by grind
  have i2:bu at' items.length<((items.length+1:Nat):Int):=omT;simp only[go_sem,↓aB,seval,gj,db,Cb,i2,i0,qD,aT (aC dV _),aA (aC dV _)];exact fin ⟨title,(items++[Item.mk nm bs fs qs]).set (bu at' items.length).toNat (Item.mk nm bs fs qs)⟩ ⟨⟨hx.title,by grind,aBu (pS O2 kh) kh _⟩,It,aBu (pS Gw To) To _,.inr (bJs Jp B7 i0 i1)⟩ _ rfl
theorem bJ1(k:Int):vP 0 40 (bDC k)=QS/\(bDC k).length<=1:=by
 unfold bDC;split
 ·decide
 split
 ·decide
 split<;>decide
theorem ry.lim{k:Nat}{q:Question}(h:ry k q):bI6 (bEe q) (383+51*k):=by
 have h1:=(bJ1 q.kind).2;have h2:=h.opts;have h3:=h.cy;have h4:=h.lk;refine⟨38,31,fun r hr=>by have:=h.M0 r hr;omega,fun s hs t ht=>?_, ?_⟩
 ·have:=h.opt s hs;rw[OX ht];simp;omega
 show 23+2*(bDC q.kind).length+q.cy.length*20+q.lk.length*38+q.options.length*31<=383+51*k;omega
theorem bK7.lim{x:Item}(h:bK7 x)(hb:∀b∈x.blocks,dQ b=QS):bI7 (bDh x) 2637:=by
 obtain⟨h1,h2,h3,kB,kF,kQ,hk,h4,h5,h6⟩:=h;refine⟨400+96*kB,383+51*kQ,fun b hm=>(h4 b hm).lim omT (hb b hm),fun q hq=>?_, ?_⟩
 ·obtain⟨q',Qq,rfl⟩:=DB.1 hq;exact (h6 q' Qq).lim
 show 6+x.name.length+x.blocks.length*(400+96*kB)+x.facts.length*60+(x.ask.map bEe).length*(383+51*kQ)<=2637;rw[AF];have:kB=0∨kB=1:=omT;have:kQ=0∨kQ=1:=omT;rcases ‹kB=0∨kB=1› with rfl | rfl<;>rcases ‹kQ=0∨kQ=1› with rfl | rfl<;>omega
theorem bJD{q:Question}(h:aWp q=QS):aWp (bEe q)=true:=by simp only[aWp,AI]at h ⊢;obtain⟨⟨⟨⟨⟨⟨⟨h1,h2⟩,h3⟩,h4⟩,h5,Fy⟩,h6⟩,h7⟩,h8⟩:=h;have e1:(bEe q).dv.length=q.dv.length:=MI;refine⟨⟨⟨⟨⟨⟨⟨h1,h2⟩,by rw[e1];exact h3⟩,h4⟩,by rw[e1];exact h5,AO.2 fun s hs=>by rw[OX hs];rfl⟩,h6⟩,(bJ1 q.kind).1⟩,by show wi 0 0 100=QS;decide⟩
theorem bJt{x:Item}(h:aGU x=QS):aGU (bDh x)=true:=by simp only[aGU,AI,AO]at h ⊢;obtain⟨⟨⟨h1,h2⟩,h3⟩,h4,h5⟩:=h;refine⟨⟨⟨h1,h2⟩,h3⟩,by rw[show (bDh x).ask.length=x.ask.length from AF ..];exact h4,fun q hq=>?_⟩;obtain⟨q',Qq,rfl⟩:=DB.1 hq;exact bJD (h5 q' Qq)
theorem bJu{x:jm}(h:bDt x=QS):bDt (bD5 x)=true:=by simp only[bDt,AI,AO]at h ⊢;obtain⟨h1,h2,h3⟩:=h;refine⟨h1,by rw[show (bD5 x).items.length=x.items.length from AF ..];exact h2,fun q hq=>?_⟩;obtain⟨q',Qq,rfl⟩:=DB.1 hq;exact bJt (h3 q' Qq)
def bJB(x:jm):Prop:=bDt x=QS/\∃M,(∀i∈x.items,bI7 i M)/\8+2*x.title.length+x.items.length*M<=8192
theorem bIY{x:jm}(h:bDt x=QS):∀it∈x.items,aGU it=true:=by simp only[bDt,AI,AO]at h;exact h.2.2
theorem rz.short{x:jm}(h:rz x)(hr:bDt x=QS)(hn:(x.items.map Item.name).Nodup):bJB (bD5 x):=by
 refine⟨bJu hr,2637,fun i hi=>?_, ?_⟩
 ·obtain⟨i',nr,rfl⟩:=DB.1 hi;refine (h.item i' nr).lim fun b hb=>?_;have:=bIY hr i' nr;simp only[aGU,AI,AO]at this;exact this.1.1.2.2 b hb
 show 8+2*x.title.length+(x.items.map bDh).length*2637<=8192;rw[AF];have h1:=h.title;have h2:x.items.length<=3:=h.names.resolve_right fun h=>h hn;omega
theorem my.short{x:jm}(h:my x):bJB x:=⟨h.right,2551,fun i hi=>(h.item i hi).lim,by have:=h.G8;have:=(by decide:∀s∈bEq,s.length<=14) _ h.title;omega⟩
abbrev aHQ(g:SN):List ae:=[qq 24 (.load 1 QT (uc (.ep (aSj g) 0))),qf 25 0 5,⟨QQ 26,ol 1 25,N2,[1]⟩,⟨QQ 27,.look (.agg [z0,.bx]) (u 24) (u 26) QT,N2,[0,2,1]⟩,qf 28 1 2,⟨QQ 29,ol 1 28,N2,[4]⟩,qf 30 1 5,⟨QQ 31,ol 1 30,N2,[6]⟩,⟨QQ 32,oi 29 31 13,N2,[5,4,7,6]⟩,⟨QQ 33,of 0 32,N2,[8,5,4,7,6]⟩,⟨QQ 34,ol 1 33,N2,[9,8,5,4,7,6]⟩,⟨QQ 35,oc (g "bt") [u 27,u 34],N2,[3,0,2,1,10,9,8,5,4,7,6]⟩,⟨QQ 36,.un .not (u 35),N2,[11,3,0,2,1,10,9,8,5,4,7,6]⟩,⟨QQ 23,om 36,N2,[12,11,3,0,2,1,10,9,8,5,4,7,6]⟩]
abbrev aC2:LN:=[]
abbrev aHR(g:SN):List ae:=[qf 38 1 2,⟨QQ 39,ol 1 38,N2,[0]⟩,qf 40 1 5,⟨QQ 41,ol 1 40,N2,[2]⟩,⟨QQ 42,oi 39 41 13,N2,[1,0,3,2]⟩,⟨QQ 43,ola 13 42,N2,[4,1,0,3,2]⟩,qf 44 1 5,⟨QQ 45,ol 1 44,N2,[6]⟩,⟨QQ 46,oc (g "H") [u 43,u 45],N2,[5,4,1,0,3,2,7,6]⟩,qla 47 4 5,⟨QQ 48,oc (g "ap") [u 46,u 47],N2,[9,8,5,4,1,0,3,2,7,6]⟩,⟨QQ 49,.un .not (u 48),N2,[10,9,8,5,4,1,0,3,2,7,6]⟩,⟨QQ 37,om 49,N2,[11,10,9,8,5,4,1,0,3,2,7,6]⟩]
abbrev oS:LN:=[8,9]
abbrev aHS(g:SN):List ae:=[qf 51 2 2,⟨QQ 52,ol 1 51,N2,[0]⟩,qm 53 1,⟨QQ 54,.gw 4 (u 52) N2 (QQ (.tmp 53)) N2,N2,[1,0,2]⟩,qla 55 4 5,⟨QQ 56,oc (g "ap") [u 54,u 55],N2,[3,1,0,2,4]⟩,⟨QQ 50,om 56,N2,[5,3,1,0,2,4]⟩]
abbrev aC3:LN:=[]
def aC4(g:SN):ag:=.block 0 (qS [qf 12 1 5,ql 13 1 12,qbi 14 .lss 13 0,qm 15 14,qF 16 15 (of 1 5),qF 17 15 (ol 1 16),qF 18 15 (of 1 2),qF 19 15 (ol 1 18),qF 20 15 (on 19),qF 21 15 (ob .geq 17 20),qq 22 (.pick (u 15) uT (u 21)),qm 11 22]<|qC 11 (qS [qmc 4 (vi 12)]<|.ret) (.seq (.region QS (aHQ g))<|qC 23 (qS [qmc 4 (vi 13)]<|.ret) (.seq (.region QS (aHR g))<|qC 37 (qS [qmc 4 (vi 5)]<|.ret) (.seq (.region QS (aHS g))<|qC 50 (qS [qmc 4 (vi 7)]<|.ret) (.skip)))))
def aCG(g:SN):bw:=⟨57,[5],[.tmp 4],qS [qx 2 4 0,qmc 4 z0]<|qS [qf 6 2 2,ql 7 1 6,qm 8 1,qi 9 7 8 4,qla 10 4 9,qq 5 (.alloc [z0,z0,z0,z0]),qs 4 5 10]<|.seq (aC4 g)<|qS [qmc 4 z0]<|.ret⟩
theorem aQv{g:SN}{k:Int}(h0:0<=k)(h1:k<=6):iB (vi k) ([vi 0,vi 1,vi 2,vi 3,vi 4,vi 5,vi 6].zip (aMi g)) 0=QQ (QQ (k.toNat,tH g (aBp k.toNat) (aVe k.toNat))):=by
 have:=aNl (g:=g) (k:=k.toNat) omT
 rwa [show ((k.toNat:Nat):Int)=k by omega]at this
section
variable {A:af}{g:SN}{tB tP:Nat}
def bK8(x:Item)(j:Nat)(f:Fact):Prop:=(∃b,x.blocks[f.block.toNat]? = QQ b/\f∈eM b f.block)/\f∉x.facts.take j
def FR(x:Item)(j:Nat):Prop:=∀f,x.facts[j]? = QQ f->bK8 x j f
theorem bKp{x:Item}{j:Nat}{f:Fact}(h:x.facts[j]? = QQ f):FR x j↔bK8 x j f:=⟨fun h1=>h1 f h,fun h1 f' e=>by rw[h]at e;cases e;exact h1⟩
theorem bJZ(F:lp A g tB)(h:Has A g "be" (aCG g))(x:Item)(hx:x.Ok)(j:Nat)(f:Fact)(Wj:x.facts[j]? = QQ f)(hf:aHJ f=QS)(H:LO):∃e:Int,aG A (g "be") [.agg (aO x),vi j] H=QQ (vi e,H,[])/\(e=0↔FR x j):=by
 rw[bKp Wj];have hj:j<x.facts.length:=(AH.1 Wj).1;have fh:(x.facts.map aI)[j]? = QQ (aI f):=by rw[BN,Wj];rfl
 have Mt:=hx.B1;unfold aHJ at hf;simp only[AI,eG]at hf;obtain⟨⟨⟨⟨v1,v2⟩,v3,v4⟩,v5,v6⟩,v7,v8⟩:=hf;have J1:decide (f.block<0)=false:=soT;have wj:=aQv (g:=g) v1 v2;have kx:((j:Int)).toNat=j:=omT;have Pa:(j:Int)<(x.facts.length:Int):=omT;obtain⟨r,H',ba,e1,rfl,rfl,e,rfl,e2⟩:=h.bp (args:=[.agg (aO x),vi j]) (H:=H) (K:=fun r H' wr=>wr=[]/\H'=H/\∃e:Int,r=vi e/\(e=0↔bK8 x j f)) (by
  simp only[aCG];simp only[tH]at wj;simp only[go_sem,↓aB,seval,aO,fh,AU,kx,aI,AJ,AD,AB,AA,AE];simp only[aC4];cases nj:decide (f.block ≥ (x.blocks.length:Int))with
  |true=>simp only[go_sem,↓aB,seval,J1,nj,AF,AD,AB,AA,AE,Zz];exact⟨_,rfl,fun e=>Zw e deT,fun h=>by obtain⟨⟨b,hb,_⟩,_⟩:=h;have:=(AH.1 hb).1;simp at nj;omega⟩
  |false=>
  have hlt:f.block<(x.blocks.length:Int):=by simp at nj;omega
  have S8:f.block.toNat<x.blocks.length:=omT;have bget:(x.blocks.map aE)[f.block.toNat]? = QQ (aE x.blocks[f.block.toNat]):=by rw[BN,AP S8];rfl
  have td:=hx.blocks _ (AS S8);have Mu:x.blocks[f.block.toNat]? = QQ x.blocks[f.block.toNat]:=AP S8;generalize x.blocks[f.block.toNat]=b at *;have S5:FW 1 (aE b)=[vi b.kind]:=by obtain⟨op,n,ks,ig⟩:=eW b;rw[ig];rfl
  have C0:=fun H=>aL9 F.fam (aBp f.kind.toNat) b.kind (aVe f.kind.toNat) H;simp only[tH]at C0;have qv:=bG b;simp only[go_sem,↓aB,seval,J1,nj,AF,AD,AB,AA,AE,Zz];refine aY (aq:=aC2) rfT rfT ?_;simp only[go_sem,↓aB,seval,aC2,aSj,wj,C0,bget,S5,v3,cF,AD,AB,AA,AE];cases hh:lJ (aBp f.kind.toNat) b.kind with
  |false=>
   simp only[go_sem,↓aB,seval];exact⟨_,rfl,fun e=>Zw e deT,fun h=>by
    obtain⟨⟨b',du,hm⟩,_⟩:=h;rw[Mu]at du;cases du;obtain⟨k,hk,Cy,p,hp,D5⟩:=aCE hm;have qo:f.kind=(k:Int):=congrArg Fact.kind D5;rw[show f.kind.toNat=k by omega,Cy]at hh;cases hh⟩
  |true=>
  simp only[go_sem,seval];have Pw:=fun H=>aLc F.fam F.facts b td f.block H;have po:=fun H=>uN F.con F.ind (eM b f.block) f QT (by have:(eM b f.block).length<=7*256:=yT td 7;omega) H;simp only[aI]at po;refine aY (aq:=oS) rfT rfT ?_;cases hR:eM b f.block with
  |nil=>simp only[hR,aFF,BY,List.any_nil]at Pw po;simp only[go_sem,↓aB,seval,oS,Pw,po,bget,v3,cF,bT.take,bT.ga,aS qv,eH,dG,aL,AD,AB,AA,AE];exact⟨_,rfl,fun e=>Zw e deT,fun h=>by obtain⟨⟨b',du,hm⟩,_⟩:=h;rw[Mu]at du;cases du;rw[hR]at hm;cases hm⟩
  |cons y r=>
  have hd:gG ((y::r).map aI)=true:=aC eL _;simp only[hR,aDI]at Pw po;generalize (y::r).map aI=rows at *;cases mw:((y::r).any fun z=>eqv f z)with
  |false=>rw[mw]at po;simp only[go_sem,↓aB,seval,oS,Pw,po,bget,v3,cF,bT.take,bT.ga,aS qv,eH,dG,aL,AD,AB,AA,AE];exact⟨_,rfl,fun e=>Zw e deT,fun h=>by obtain⟨⟨b',du,hm⟩,_⟩:=h;rw[Mu]at du;cases du;rw[hR]at hm;rw[KS.2 ⟨f,hm,by simp[eqv]⟩]at mw;cases mw⟩
  |true=>
  rw[mw]at po;have tk:f∈eM b f.block:=by
   obtain⟨z,rr,l7⟩:=KS.1 mw;have:f=z:=by simpa [eqv]using l7
   rw[hR,this];exact rr
  simp only[go_sem,↓aB,seval,oS,Pw,po,bget,v3,cF,bT.take,bT.ga,aS qv,eH,dG,aL,AD,AB,AA,AE];have M7:=fun H=>uN F.con F.ind (x.facts.take j) f QT (by rw[List.length_take];omega) H;simp only[aI,Pu]at M7;have mo:j<=x.facts.length:=omT;have Gy:dU x.facts.length N2 (QQ (vi j)) N2=QQ (0,j,x.facts.length):=by
   have hb:iL x.facts.length x.facts.length (QQ (vi (j:Int)))=QQ j:=by show (if (0:Int)<=(j:Int)/\(j:Int)<=(x.facts.length:Int)then QQ ((j:Int)).toNat else N2)=_;rw[Zy ⟨omT,omT⟩,kx]
   show (match iL x.facts.length x.facts.length (QQ (vi (j:Int)))with
    |none=>N2
    |some h=>match iL 0 h N2 with
     |none=>N2
     |some l=>QQ (l,h,x.facts.length))=_
   rw[hb];rfl
  have nq:dF 4 (x.facts.map aI)=true:=by
   cases x.facts with
   |nil=>rfl
   |cons y r=>rfl
  refine aY (aq:=aC3) rfT rfT ?_;simp only[go_sem,↓aB,seval,aC3,Gy,nq,M7,AF,AD,AB,AA,AE];refine aD (fun hb=>?_) (fun hb=>?_)
  ·simp only[go_sem,↓aB,seval];exact⟨_,rfl,fun e=>Zw e deT,fun h=>by obtain⟨z,rr,l7⟩:=KS.1 hb;rw[show z=f from (by simpa [eqv]using l7:f=z).symm]at rr;exact Zw rr h.2⟩
  simp only[go_sem,↓aB,seval];exact⟨_,rfl,fun _=>⟨⟨b,Mu,tk⟩,fun hm=>by rw[KS.2 ⟨f,hm,by simp[eqv]⟩]at hb;cases hb⟩,fun _=>rfl⟩)
 exact⟨e,e1,e2⟩
end
def zU(g:SN):ag:=.block 0 (qS [qbi 10 .eql 8 3,qm 9 10]<|qC 9 (qS [qm 11 3,qbi 12 .lss 11 2,qm 13 12,qF 14 13 (om 3),qF 15 13 (obi .gtr 14 8),qq 16 (.pick (u 13) uT (u 15))]<|qC 16 (qS [qmc 2 (vi 1)]<|.ret) (.skip)) (.seq (qS [qbi 18 .eql 8 4,qm 17 18]<|qC 17 (.skip) (qS [qbi 19 .eql 8 5,qm 17 19]<|qC 17 (.skip) (qR [qbi 20 .eql 8 6,qm 17 20])))<|qC 17 (qS [qm 21 3,qbi 22 .neq 21 2]<|qC 22 (qS [qmc 2 (vi 1)]<|.ret) (.skip)) (qS [qmc 2 (vi 1)]<|.ret)))
abbrev aFw(g:SN):List ae:=[qf 23 1 1,⟨QQ 24,ol 1 23,N2,[0]⟩,⟨QQ 25,oc (g "dr") [u 24,uf (g "bG")],N2,[1,0]⟩,⟨QQ 26,om 25,N2,[2,1,0]⟩,⟨QQ 27,of 0 1,QQ (QQ 26,QT),yq3⟩,⟨QQ 28,ol 1 27,QQ (QQ 26,QT),yq4⟩,⟨QQ 29,obi .eql 28 4,QQ (QQ 26,QT),yq5⟩,⟨QQ 30,om 29,QQ (QQ 26,QT),yq6⟩,⟨QQ 31,of 1 1,QQ (QQ 30,QS),yq7⟩,⟨QQ 32,ol 1 31,QQ (QQ 30,QS),yq8⟩,⟨QQ 33,.iaV (u 32) (ui 0) 1,QQ (QQ 30,QS),yq9⟩,⟨QQ 34,ol 1 33,QQ (QQ 30,QS),bBZ⟩,⟨QQ 35,of 1 1,QQ (QQ 30,QS),yq7⟩,⟨QQ 36,ol 1 35,QQ (QQ 30,QS),12::yq7⟩,⟨QQ 37,.iaV (u 36) (ui 1) 1,QQ (QQ 30,QS),13::12::yq7⟩,⟨QQ 38,ol 1 37,QQ (QQ 30,QS),14::13::12::yq7⟩,⟨QQ 39,ob .lss 34 38,QQ (QQ 30,QS),11::10::9::8::15::14::13::12::yq7⟩,⟨QQ 40,op 30 39,QQ (QQ 26,QT),16::11::10::9::8::15::14::13::12::yq7⟩,⟨QQ 41,.pick (u 26) uT (u 40),N2,17::16::11::10::9::8::15::14::13::12::yq7⟩,⟨QQ 42,om 41,N2,18::17::16::11::10::9::8::15::14::13::12::yq7⟩,⟨QQ 43,of 0 1,QQ (QQ 42,QT),19::18::17::16::11::10::9::8::15::14::13::12::yq7⟩,⟨QQ 44,ol 1 43,QQ (QQ 42,QT),20::19::18::17::16::11::10::9::8::15::14::13::12::yq7⟩,⟨QQ 45,obi .eql 44 6,QQ (QQ 42,QT),21::20::19::18::17::16::11::10::9::8::15::14::13::12::yq7⟩,⟨QQ 46,om 45,QQ (QQ 42,QT),22::21::20::19::18::17::16::11::10::9::8::15::14::13::12::yq7⟩,⟨QQ 47,of 1 1,QQ (QQ 46,QS),23::22::21::20::19::18::17::16::11::10::9::8::15::14::13::12::yq7⟩,⟨QQ 48,ol 1 47,QQ (QQ 46,QS),24::23::22::21::20::19::18::17::16::11::10::9::8::15::14::13::12::yq7⟩,⟨QQ 49,.iaV (u 48) (ui 1) 1,QQ (QQ 46,QS),25::24::23::22::21::20::19::18::17::16::11::10::9::8::15::14::13::12::yq7⟩,⟨QQ 50,ol 1 49,QQ (QQ 46,QS),26::25::24::23::22::21::20::19::18::17::16::11::10::9::8::15::14::13::12::yq7⟩,⟨QQ 51,obi .eql 50 0,QQ (QQ 46,QS),27::26::25::24::23::22::21::20::19::18::17::16::11::10::9::8::15::14::13::12::yq7⟩,⟨QQ 52,op 46 51,QQ (QQ 42,QT),28::27::26::25::24::23::22::21::20::19::18::17::16::11::10::9::8::15::14::13::12::yq7⟩,⟨QQ 53,.pick (u 42) uT (u 52),N2,29::28::27::26::25::24::23::22::21::20::19::18::17::16::11::10::9::8::15::14::13::12::yq7⟩]
abbrev gM:LN:=[]
def aDN(g:SN):bw:=⟨54,[],[.tmp 2],qS [qx 1 2 0,qmc 2 z0]<|qS [qf 4 1 1,ql 5 1 4,qn 6 5,qm 3 6]<|.seq (qS [qf 7 0 1,ql 8 1 7]<|zU g)<|.seq (.seq (.region QS (aFw g))<|qC 53 (qS [qmc 2 (vi 5)]<|.ret) (.skip))<|qS [qmc 2 z0]<|.ret⟩
def aB0(g:SN):bw:=⟨9,[],[.tmp 2],qS [qmc 2 (.bool QT)]<|qS [qm 3 0,qbi 4 .lss 3 0,qm 5 4,qF 6 5 (om 0),qF 7 5 (obi .gtr 6 999999),qq 8 (.pick (u 5) uT (u 7)),qm 2 8]<|.ret⟩
def aC5(g:SN):ag:=.block 0 (qS [qf 7 0 1,ql 8 1 7,qn 9 8,qbi 10 .gtr 9 2,qm 11 10,qF 12 11 (of 0 1),qF 13 11 (ol 1 12),qF 14 11 (om 3),qF 15 11 (oc (g "cT") [u 13,u 14]),qq 16 (.pick (u 11) uT (u 15)),qm 6 16]<|qC 6 (qS [qmc 2 (vi 4)]<|.ret) (qS [qf 18 0 1,ql 19 1 18,qn 20 19,qbi 21 .eql 20 0,qm 22 21,qF 23 22 (of 0 1),qF 24 22 (ol 1 23),qF 25 22 (om 4),qF 26 22 (oc (g "cT") [u 24,u 25]),qq 27 (.pick (u 22) uT (u 26)),qm 17 27]<|qC 17 (qS [qmc 2 (vi 1)]<|.ret) (.skip)))
def aHi(g:SN):bw:=⟨28,[],[.tmp 2],qS [qx 1 1 0,qmc 2 z0]<|qS [qmc 3 (.fn (g "bu") [] [])]<|qS [qq 5 (.mkf (g "bw") [] [(.tmp 1)]),qm 4 5]<|.seq (aC5 g)<|qS [qmc 2 z0]<|.ret⟩
def yY(g:SN):bw:=⟨10,[],[.tmp 2],qS [qmc 2 (.bool QT)]<|qS [qm 3 0,qn 4 3,qbi 5 .gtr 4 32,qm 6 5,qF 7 6 (om 0),qF 8 6 (oc (g "cU") [u 7,uf (g "bv")]),qq 9 (.pick (u 6) uT (u 8)),qm 2 9]<|.ret⟩
def aB1(g:SN):bw:=⟨6,[],[.tmp 2],qS [qmc 2 (.bool QT)]<|qS [qm 3 0,qn 4 3,qbi 5 .gtr 4 16,qm 2 5]<|.ret⟩
def aDO(g:SN):bw:=⟨21,[],[.tmp 3],qS [qmc 3 (.bool QT)]<|qS [qm 4 0,qn 5 4,qbi 6 .eql 5 0,qm 7 6,qF 8 7 (om 0),qF 9 7 (on 8),qF 10 7 (of 0 1),qF 11 7 (ol 1 10),qF 12 7 (.iaV (u 11) (ui 0) 1),qF 13 7 (ol 1 12),qF 14 7 (on 13),qF 15 7 (ob .neq 9 14),qq 16 (.pick (u 7) uT (u 15)),qm 17 16,qF 18 17 (om 0),qF 19 17 (oc (g "cU") [u 18,uf (g "bx")]),qq 20 (.pick (u 17) uT (u 19)),qm 3 20]<|.ret⟩
def aB2(g:SN):bw:=⟨6,[],[.tmp 2],qS [qmc 2 (.bool QT)]<|qS [qm 3 0,qc 4 (g "cj") [u 3],qq 5 (.un .not (u 4)),qm 2 5]<|.ret⟩
def uO(g:SN):bw:=⟨11,[],[.tmp 2],qS [qmc 2 (.bool QT)]<|qS [qm 3 0,qn 4 3,qbi 5 .gtr 4 0,qm 6 5,qT 7 6 (om 0),qT 8 6 (oc (g "dp") [u 7,uf (g "by")]),qT 9 6 (.un .not (u 8)),qp 10 6 9,qm 2 10]<|.ret⟩
def zV(g:SN):bw:=⟨6,[],[.tmp 2],qS [qx 1 3 0,qmc 2 (.bool QT)]<|qS [qla 3 3 1,qc 4 (g "ci") [u 3],qq 5 (.un .not (u 4)),qm 2 5]<|.ret⟩
def aHj(g:SN):bw:=⟨40,[],[.tmp 2],qS [qx 1 3 0,qmc 2 (.bool QT)]<|qS [qf 3 0 1,ql 4 1 3,qbi 5 .geq 4 (-1),qm 6 5,qT 7 6 (of 0 1),qT 8 6 (ol 1 7),qT 9 6 (obi .leq 8 48),qp 10 6 9,qm 11 10,qT 12 11 (of 1 1),qT 13 11 (ol 1 12),qT 14 11 (obi .geq 13 0),qp 15 11 14,qm 16 15,qT 17 16 (of 1 1),qT 18 16 (ol 1 17),qT 19 16 (obi .lss 18 5),qp 20 16 19,qm 21 20,qT 22 21 (of 2 1),qT 23 21 (ol 1 22),qT 24 21 (of 2 1),qT 25 21 (ol 1 24),qT 26 21 (.un .neg (u 25)),qT 27 21 (.mm QS [(.tmp 23),(.tmp 26)]),qT 28 21 (obi .leq 27 1),qp 29 21 28,qm 30 29,qT 31 30 (of 0 1),qT 32 30 (ol 1 31),qT 33 30 (obi .geq 32 0),qT 34 30 (om 33),qF 35 34 (of 2 1),qF 36 34 (ol 1 35),qF 37 34 (obi .eql 36 0),qT 38 30 (.pick (u 34) uT (u 37)),qp 39 30 38,qm 2 39]<|.ret⟩
def aB3(g:SN):ag:=.block 0 (qS [qbi 6 .eql 4 1,qm 5 6]<|qC 5 (qS [qf 7 2 1,qla 8 3 7,qc 9 (g "aP") [u 8],qm 2 9]<|.ret) (qS [qbi 11 .eql 4 2,qm 10 11]<|qC 10 (qS [qf 12 5 1,qla 13 2 12,qc 14 (g "cz") [u 13],qm 2 14]<|.ret) (qS [qbi 16 .eql 4 4,qm 15 16]<|qC 15 (qS [qf 17 8 1,qla 18 3 17,qc 19 (g "k") [u 18],qm 2 19]<|.ret) (qS [qbi 21 .eql 4 5,qm 20 21]<|qC 20 (qS [qf 22 11 1,qla 23 1 22,qc 24 (g "ch") [u 23],qm 2 24]<|.ret) (.skip)))))
def aFc(g:SN):bw:=⟨25,[],[.tmp 2],qS [qx 1 13 0,qmc 2 z0]<|.seq (qS [qf 3 0 1,ql 4 1 3]<|aB3 g)<|qS [qmc 2 z0]<|.ret⟩
structure iw(A:af)(g:SN):Prop where
 sp:Has A g "cz" (aDN g)
 sp1:Has A g "bG" (aB0 g)
 mu:Has A g "ch" (aHi g)
 mu1:Has A g "bu" (yY g)
 Gz:Has A g "bv" (aB1 g)
 mu2:Has A g "bw" (aDO g)
 Ha:Has A g "bx" (aB2 g)
 rb:Has A g "cj" (uO g)
 rb1:Has A g "by" (zV g)
 rt:Has A g "ci" (aHj g)
 block:Has A g "bR" (aFc g)
 cI:aAA A (g "dr") 1 QT
 cN:aAA A (g "dp") 3 QS
 cB:aAA A (g "cU") 1 QT
 cH:aAA A (g "cT") 1 QT
section
variable {A:af}{g:SN}{tB tP:Nat}
theorem bJ7{α:Type}{f k:Nat}{agg:Bool}(h:aAA A f k agg){enc:α->LA}(he:mv k agg enc){ay:LA}(hc:jc ay){l:List α}(hl:l.length<=1000){H:LO}{f1:Nat}{q:α->Bool}(hs:aUw A f1 ay (fun a=>asV agg (enc a)) q l H):aG A f [.sl QT (l.map enc),.fn f1 [] ay] H=QQ (.bool (l.any q),H,[]):=by obtain⟨fi,⟨a1,a2⟩,b1,b2⟩:=h;grind [aGr,aDa]
def bKe(n:Int):Bool:=decide (n<0) || decide (n>999999)
theorem bKi(F:iw A g)(n:Int)(H:LO):aG A (g "bG") [vi n] H=QQ (.bool (bKe n),H,[]):=by
 refine F.sp1.call ?_;simp only[aB0,bKe];cases e1:decide (n<0)with
 |true=>simp only[go_sem,↓aB,seval,e1,EP,CE]
 |false=>simp only[go_sem,↓aB,seval,e1,Zz,II]
def bJP(l:List ct):Bool:=decide ((l.length:Int)>16)
theorem bK9(F:iw A g)(l:List ct)(H:LO):aG A (g "bv") [.sl QT (l.map bV)] H=QQ (.bool (bJP l),H,[]):=by refine F.Gz.call ?_;simp only[aB1,bJP];simp only[go_sem,↓aB,seval,AF]
def bKn(a:Int):Int:=if AR.wrap (0 - a)>a then AR.wrap (0 - a)else a
def bJE(n:ct):Bool:=decide (n.step ≥ -1)&&(decide (n.step<=48)&&(decide (n.length ≥ 0)&&(decide (n.length<5)&&(decide (bKn n.alter<=1)&&(decide (n.step ≥ 0) || n.alter==0)))))
theorem bK0(F:iw A g)(n:ct)(H:LO):aG A (g "ci") [.agg (bV n)] H=QQ (.bool (bJE n),H,[]):=by
 refine F.rt.call ?_;simp only[aHj,bJE];cases c1:decide (n.step ≥ -1)with
 |false=>simp only[go_sem,↓aB,seval,bV,c1,BB,BQ]
 |true=>cases c2:decide (n.step<=48)with
  |false=>simp only[go_sem,↓aB,seval,bV,c1,c2,Zz,BB,BQ,BR]
  |true=>cases c3:decide (n.length ≥ 0)with
   |false=>simp only[go_sem,↓aB,seval,bV,c1,c2,c3,Zz,BB,BQ,BR]
   |true=>cases c4:decide (n.length<5)with
    |false=>simp only[go_sem,↓aB,seval,bV,c1,c2,c3,c4,Zz,BB,BQ,BR]
    |true=>
     have ha:(if AR.wrap (0 - n.alter)>n.alter then AR.wrap (0 - n.alter)else n.alter)=bKn n.alter:=rfl;cases c5:decide (bKn n.alter<=1)with
     |false=>simp only[go_sem,↓aB,seval,bV,c1,c2,c3,c4,ha,c5,Zz,BB,BQ,BR]
     |true=>cases c6:decide (n.step ≥ 0)with
      |false=>simp only[go_sem,↓aB,seval,bV,c1,c2,c3,c4,ha,c5,c6,Zz,II,BR]
      |true=>simp only[go_sem,↓aB,seval,bV,c1,c2,c3,c4,ha,c5,c6,Zz,CE,EP,BR]
theorem bKj(F:iw A g)(n:ct)(H:LO):aG A (g "by") [.agg (bV n)] H=QQ (.bool (!bJE n),H,[]):=by have hb:=bK0 F n H;refine F.rb1.call ?_;simp only[zV];simp only[bV]at hb ⊢;simp only[go_sem,↓aB,seval,hb,AD,AA,AE]
def bKf(l:List ct):Bool:=decide ((l.length:Int)>0) && !(l.any fun n => !bJE n)
theorem bKq(F:iw A g)(l:List ct)(hl:l.length<=16)(H:LO):aG A (g "cj") [.sl QT (l.map bV)] H=QQ (.bool (bKf l),H,[]):=by
 have hb:=bJ7 F.cN aMZ cQ (l:=l) omT (H:=H) (f1:=g "by") fun n _=>bKj F n H;refine F.rb.call ?_;simp only[uO,bKf];cases c1:decide ((l.length:Int)>0)with
 |false=>simp only[go_sem,↓aB,seval,AF,c1,BB,BQ]
 |true=>simp only[go_sem,↓aB,seval,AF,c1,hb,Zz,BR]
theorem bKa(F:iw A g)(l:List ct)(hl:l.length<=16)(H:LO):aG A (g "bx") [.sl QT (l.map bV)] H=QQ (.bool (!bKf l),H,[]):=by have hb:=bKq F l hl H;refine F.Ha.call ?_;simp only[aB2];simp only[go_sem,↓aB,seval,hb]
abbrev aMl(h:List (List ct)):Prop:=h.length<=16/\∀l∈h,l.length<=16/\∀n∈l,n.Ok
def bJv(h:List (List ct)):Bool:=decide ((h.length:Int)>32) || h.any bJP
theorem bKk(F:iw A g)(h:List (List ct))(hh:aMl h)(H:LO):aG A (g "bu") [.sl QT (h.map gH)] H=QQ (.bool (bJv h),H,[]):=by
 have hb:=bJ7 F.cB aLY cQ (l:=h) (by grind) (H:=H) (f1:=g "bv") fun n _=>bK9 F n H;refine F.mu1.call ?_;simp only[yY,bJv];cases c1:decide ((h.length:Int)>32)with
 |true=>simp only[go_sem,↓aB,seval,AF,c1,CE,EP]
 |false=>simp only[go_sem,↓aB,seval,AF,c1,hb,Zz,II]
def bJ5(n:Nat)(h:List (List ct)):Bool:=((h.length:Int)==0) || (((h.length:Int) != (n:Int)) || h.any fun l => !bKf l)
theorem bKl(F:iw A g)(h0:List (List ct))(hs:List (List (List ct)))(h:List (List ct))(hh:aMl h)(H:LO):aG A (g "bw") [.sl QT (h.map gH),.ep [.sl QT ((h0::hs).map bS)] 0] H=QQ (.bool (bJ5 h0.length h),H,[]):=by
 have hb:=bJ7 F.cB aLY cQ (l:=h) (by grind) (H:=H) (f1:=g "bx") fun n hm=>bKa F n (hh.2 n hm).1 H;refine F.mu2.call ?_;simp only[aDO,bJ5];cases c1:((h.length:Int)==0)with
 |true=>simp only[go_sem,↓aB,seval,AF,c1,CE,EP]
 |false=>cases c2:((h.length:Int) != (h0.length:Int))with
  |true=>simp only[go_sem,↓aB,seval,AF,BI,bS,BG,AD,AA,AE,c1,c2,Zz,CE,EP,II]
  |false=>simp only[go_sem,↓aB,seval,AF,BI,bS,BG,AD,AA,AE,c1,c2,hb,Zz,II]
def bKg(l:List (List (List ct))):Bool := !(decide ((l.length:Int)>2) || l.any bJv) && !(((l.length:Int)==0) || l.any (bJ5 (l.headD []).length))
theorem bKr(F:iw A g)(l:List (List (List ct)))(hl:l.length<=16)(hh:∀h∈l,aMl h)(H:LO):∃e:Int,aG A (g "ch") [.agg [.sl QT (l.map bS)]] H=QQ (vi e,H,[])/\(e=0↔bKg l=QS):=by
 have fo:=bJ7 F.cH aJk cQ (l:=l) omT (H:=H) (f1:=g "bu") fun h hm=>bKk F h (hh h hm) H;have dp:=bJ7 F.cH aJk (cQ.ep [.sl QT (l.map bS)] 0) (l:=l) omT (H:=H) (f1:=g "bw") (q:=bJ5 (l.headD []).length) fun h hm=>by
  cases l with
  |nil=>cases hm
  |cons h0 hs=>exact bKl F h0 hs h (hh h hm) H
 obtain⟨r,H',ba,e1,rfl,rfl,b',rfl,e2⟩:=F.mu.bp (args:=[.agg [.sl QT (l.map bS)]]) (H:=H) (K:=fun r H' wr=>wr=[]/\H'=H/\∃e:Int,r=vi e/\(e=0↔bKg l=QS)) (by
  unfold bKg;generalize l.any bJv=b1 at *;generalize l.any (bJ5 (l.headD []).length)=b2 at *;simp only[aHi];simp only[go_sem,↓aB,seval,AJ];simp only[aC5];cases c1:decide ((l.length:Int)>2)with
  |true=>simp only[go_sem,↓aB,seval,AF,c1,CE];grind
  |false=>cases b1 with
   |true=>simp only[go_sem,↓aB,seval,AF,c1,fo,Zz];grind
   |false=>cases c2:((l.length:Int)==0)with
    |true=>simp only[go_sem,↓aB,seval,AF,c1,c2,fo,Zz,CE];grind
    |false=>cases b2 with
     |true=>simp only[go_sem,↓aB,seval,AF,c1,c2,fo,dp,Zz];grind
     |false=>simp only[go_sem,↓aB,seval,AF,c1,c2,fo,dp,Zz];grind)
 grind
def bKm(op:Int)(l:List Int):Prop:=(op=3/\2<=l.length/\l.length<=8∨(op=4∨op=5∨op=6)/\l.length=2)/\l.any bKe=QT/\∀x y,l=[x,y]->(op=4->¬x<y)/\(op=6->y≠0)
theorem bKs(F:iw A g)(op:Int)(l:List Int)(hl:l.length<=16)(H:LO):∃e:Int,aG A (g "cz") [.agg [vi op,.sl QT (l.map bF)]] H=QQ (vi e,H,[])/\(e=0↔bKm op l):=by
 have fo:=bJ7 F.cI aLX cQ (l:=l) omT (H:=H) (f1:=g "bG") fun n _=>bKi F n H;obtain⟨r,H',ba,e1,rfl,rfl,b',rfl,e2⟩:=F.sp.bp (args:=[.agg [vi op,.sl QT (l.map bF)]]) (H:=H) (K:=fun r H' wr=>wr=[]/\H'=H/\∃e:Int,r=vi e/\(e=0↔bKm op l)) (by
  unfold bKm;simp only[aDN];simp only[go_sem,↓aB,seval,AJ,AF,AD,AB,AA,AE];simp only[zU];by_cases o3:op=3
  ·subst o3;cases c1:decide ((l.length:Int)<2)with
   |true=>simp only[go_sem,↓aB,seval,c1,Zz,CE];grind
   |false=>cases c2:decide ((l.length:Int)>8)with
    |true=>simp only[go_sem,↓aB,seval,c1,c2,Zz];grind
    |false=>
     have c3:2<=l.length/\l.length<=8:=by grind
     simp only[go_sem,↓aB,seval,c1,c2,Zz];refine aY (aq:=gM) rfT rfT ?_;cases b1:l.any bKe with
     |true=>rw[b1]at fo;simp only[go_sem,↓aB,seval,gM,fo,CE,AD,AB,AA,AE,BC];grind
     |false=>rw[b1]at fo;simp only[go_sem,↓aB,seval,gM,fo,Zz,BB,AD,AB,AA,AE,BC];grind
  have n3:(op==3)=false:=by simpa using o3
  by_cases o456:op=4∨op=5∨op=6
  ·cases c1:((l.length:Int) != 2)with
   |true=>
    have c3:l.length≠2:=by grind
    rcases o456 with rfl | rfl | rfl<;>(simp only[go_sem,↓aB,seval,c1,Zz];grind)
   |false=>
    have h2:l.length=2:=by grind
    obtain⟨x,y,rfl⟩:∃x y,l=[x,y]:=by
     match l,h2 with
     | [x,y],_=>grind
    have e2:∀P:Int->Int->Prop,(∀x' y',[x,y]=[x',y']->P x' y')↔P x y:=fun P=>⟨fun h=>h x y rfl,fun h x' y' e=>by grind⟩;rw[e2 (fun x y=>(op=4->¬x<y)/\(op=6->y≠0))];generalize hb:[x,y].any bKe=b1 at *;simp only[BI,BY,bF]at fo;rcases o456 with rfl | rfl | rfl
    all_goals
     simp only[go_sem,↓aB,seval,Zz];refine aY (aq:=gM) rfT rfT ?_;cases b1 with
     |true=>simp only[go_sem,↓aB,seval,gM,fo,BI,BY,bF,CE,AD,AB,AA,AE,BC];grind
     |false=>cases c3:decide (x<y)<;>cases c4:(y==0)<;>(simp only[go_sem,↓aB,seval,gM,fo,c3,c4,BI,BY,bF,BG,CT,AW,List.length_nil,Zz,BB,CE,AD,AB,AA,AE,BC];simp at c3 c4;exact⟨_,rfl,by first | (simp;omega) | simp⟩)
  have n4:(op==4)=false:=soT;have n5:(op==5)=false:=soT;have n6:(op==6)=false:=soT;simp only[go_sem,↓aB,seval,n3,n4,n5,n6];grind)
 grind
def bIS(E:Int->Int->List Shape->Int)(b:Block):Prop:=nU E b=0/\(b.kind=2->bKm b.dn b.eg)/\(b.kind=5->bKg b.bo=QS)
theorem bJQ{E:Int->Int->List Shape->Int}(F:iw A g)(hE:aCD A g E)(hF:lu A g)(b:Block)(hb:b.Ok)(hB:dQ b=QS)(H:LO):∃e:Int,aG A (g "bR") [.agg (aE b)] H=QQ (vi e,H,[])/\(e=0↔bIS E b):=by
 obtain⟨op,n,ks,mn⟩:∃op n ks,b.expr=Expr.mk op n ks:=by cases b.expr;grind
 have Ra:aF b.expr=[vi op,vi n,.sl QT (ks.map aF)]:=by rw[mn,aF,aZ]
 have ig:aE b=[vi b.kind,.sl QT (b.runs.map cZ),vi op,vi n,.sl QT (ks.map aF),vi b.dn,.sl QT (b.eg.map bF),.sl QT (b.cd.map bY),vi b.w,vi b.h,.sl QT (b.aw.map aH),.sl QT (b.bo.map bS),.sl QT (b.lines.map aN)]:=by unfold aE;grind
 have yp:=aCp hF b.expr hb.expr hb.size H;rw[Ra]at yp;obtain⟨e2,h2,i2⟩:=bKs F b.dn b.eg hb.tj H;obtain⟨e5,h5,i5⟩:=bKr F b.bo hb.uv hb.bo H;obtain⟨r,H',ba,e1,rfl,rfl,e,rfl,he⟩:=F.block.bp (args:=[.agg (aE b)]) (H:=H) (K:=fun r H' wr=>wr=[]/\H'=H/\∃e:Int,r=vi e/\(e=0↔bIS E b)) (by
  unfold bIS nU;rw[Zy hB,ig];simp only[aFc];simp only[go_sem,↓aB,seval,AJ,AD,AA,AE];simp only[aB3];by_cases k1:b.kind=1
  ·simp only[go_sem,↓aB,seval,k1,yp,AD,AB,AA,AE,AJ];grind
  have n1:(b.kind==1)=false:=by simpa using k1
  by_cases k2:b.kind=2
  ·simp only[go_sem,↓aB,seval,k2,h2,AD,AB,AA,AE,AJ];grind
  have n2:(b.kind==2)=false:=by simpa using k2
  by_cases k4:b.kind=4
  ·have hk:=yU hB;unfold xU at hk;rw[Zx omT,Zx omT,Zx omT,Zx omT,Zy k4]at hk;simp only[AI,eG]at hk;obtain⟨⟨hw,hh⟩,⟨_,Iv⟩,hS⟩:=hk;have Gn:=hE b.w b.h b.aw hw hh omT (AO.1 hS) H;simp only[go_sem,↓aB,seval,k4,Gn,AD,AB,AA,AE,AJ];grind
  have n4:(b.kind==4)=false:=by simpa using k4
  by_cases k5:b.kind=5
  ·simp only[go_sem,↓aB,seval,k5,h5,AD,AB,AA,AE,AJ];grind
  have n5:(b.kind==5)=false:=by simpa using k5
  simp only[go_sem,↓aB,seval,n1,n2,n4,n5,k1,k4];grind)
 grind
end
abbrev aHe(g:SN):List ae:=[qm 25 4,⟨QQ 26,.bin .eql .iface (u 25) (uc .bj),N2,[0]⟩,⟨QQ 27,om 26,N2,[1,0]⟩,⟨QQ 28,om 3,QQ (QQ 27,QS),[2,1,0]⟩,⟨QQ 29,obi .geq 28 0,QQ (QQ 27,QS),yq3⟩,⟨QQ 30,op 27 29,N2,yq4⟩,⟨QQ 31,om 30,N2,yq5⟩,⟨QQ 32,om 3,QQ (QQ 31,QS),yq6⟩,⟨QQ 33,om 5,QQ (QQ 31,QS),yq6⟩,⟨QQ 34,ob .leq 32 33,QQ (QQ 31,QS),7::8::yq6⟩,⟨QQ 35,op 31 34,N2,9::7::8::yq6⟩,⟨QQ 36,om 35,N2,10::9::7::8::yq6⟩,⟨QQ 37,om 3,QQ (QQ 36,QS),11::10::9::7::8::yq6⟩,⟨QQ 38,oc (g "g") [u 37],QQ (QQ 36,QS),12::11::10::9::7::8::yq6⟩,⟨QQ 39,of 4 1,QQ (QQ 36,QS),11::10::9::7::8::yq6⟩,⟨QQ 40,ol 1 39,QQ (QQ 36,QS),14::11::10::9::7::8::yq6⟩,⟨QQ 41,ob .eql 38 40,QQ (QQ 36,QS),13::12::15::14::11::10::9::7::8::yq6⟩,⟨QQ 42,op 36 41,N2,16::13::12::15::14::11::10::9::7::8::yq6⟩,⟨QQ 2,om 42,N2,17::16::13::12::15::14::11::10::9::7::8::yq6⟩]
abbrev dA:LN:=[13,15]
def aAY(g:SN):bw:=⟨43,[],[.tmp 2],qS [qx 1 7 0,qmc 2 (.bool QT)]<|.seq (qS [qf 6 0 1,ql 7 1 6,qbi 8 .eql 7 2]<|qC 8 (qS [qf 9 4 1,ql 10 1 9,qq 11 (.bin .neq .no (u 10) (uc (.str []))),qm 2 11]<|.ret) (.skip))<|qS [qf 13 4 1,ql 14 1 13,qc 15 (g "bY") [u 14],qm 12 15,qq 16 (.ext 0 (u 12)),qq 17 (.ext 1 (u 12)),qm 3 16,qm 4 17]<|qS [qmc 5 (vi 999)]<|.seq (qS [qf 18 0 1,ql 19 1 18,qbi 20 .eql 19 0]<|qC 20 (qR [qf 21 2 1,ql 22 1 21,qn 23 22,qbi 24 .sub 23 1,qm 5 24]) (.skip))<|.seq (.region QS (aHe g))<|.ret⟩
def bJk(s:Str):Option Int:=match Lib.atoiAll s with
 |.ok v=>QQ v
 |_=>N2
abbrev aJG(A:af)(g:SN):Prop:=∀(s:Str) (H:LO),s.length<=1000000->∃(n:Int) (e:AV),aG A (g "bY") [.str s] H=QQ (.tup [vi n,e],H,[])/\(bJk s=QQ n/\e=.bj∨bJk s=N2/\∃t v,e=.ifc t v)
def bK5(q:Question):Bool:=bif q.kind==2 then q.key != [] else match bJk q.key with
 |none=>QT
 |some n=>decide (n ≥ 0)&&(decide (n<=bif q.kind==0 then (q.options.length:Int) - 1 else 999)&&(dec n.toNat==q.key))
section
variable {A:af}{g:SN}
theorem bJR(hA:aJG A g)(hI:aJc A g)(h:Has A g "bg" (aAY g))(q:Question)(hq:q.Ok)(H:LO):aG A (g "bg") [.agg (gR q)] H=QQ (.bool (bK5 q),H,[]):=by
 refine h.call ?_;obtain⟨n,e,ha,he⟩:=hA q.key H (by have:q.key.length<=1000:=hq.key;omega);have gr:=hq.Q3;have ma:AR.wrap ((q.options.length:Int) - 1)=(q.options.length:Int) - 1:=wrap_i64 omT omT;simp only[aAY,bK5];simp only[gR];cases e1:(q.kind==2)with
 |true=>simp only[go_sem,↓aB,seval,e1,cond_true,AD,AA,AE,AB]
 |false=>
  generalize hM:(bif q.kind==0 then (q.options.length:Int) - 1 else 999)=M;have Om:M<=999:=by rw[<- hM];cases q.kind==0<;>simp only[cond_true,cond_false]<;>omega
  rcases he with⟨hn,rfl⟩ | ⟨hn,t,v,rfl⟩
  ·have f1:kJ JT vd.iface AV.bj AV.bj=QQ (.bool QS):=rfl;have hT:∀k:Nat,decide ((k:Int)<=M)=QS->aG A (g "g") [vi (k:Nat)] H=QQ (.str (dec k),H,[]):=fun k hk=>hI k H (by have:=of_decide_eq_true hk;omega);rw[hn];cases e2:(q.kind==0)with
   |true=>
    rw[e2,cond_true]at hM;subst hM;simp only[go_sem,↓aB,seval,e1,e2,ha,ma,cond_false,AF,AD,AA,AE,AB];refine aY (aq:=dA) rfT rfT ?_;cases e3:decide (n ≥ 0)with
    |false=>simp only[go_sem,↓aB,seval,dA,f1,e3,BQ,Zz,BB]
    |true=>
     obtain⟨k,rfl⟩:=DN (of_decide_eq_true e3);cases e4:decide ((k:Int)<=(q.options.length:Int) - 1)with
     |false=>simp only[go_sem,↓aB,seval,dA,f1,e4,BQ,BR,Zz,BB]
     |true=>have hT:=hT k e4;simp only[go_sem,↓aB,seval,dA,f1,e4,hT,AT,eH,dG,aL,BR,Zz,AD,AA,AE,AB]
   |false=>
    rw[e2,cond_false]at hM;subst hM;simp only[go_sem,↓aB,seval,e1,e2,ha,cond_false,AD,AA,AE,AB];refine aY (aq:=dA) rfT rfT ?_;cases e3:decide (n ≥ 0)with
    |false=>simp only[go_sem,↓aB,seval,dA,f1,e3,BQ,Zz,BB]
    |true=>
     obtain⟨k,rfl⟩:=DN (of_decide_eq_true e3);cases e4:decide ((k:Int)<=999)with
     |false=>simp only[go_sem,↓aB,seval,dA,f1,e4,BQ,BR,Zz,BB]
     |true=>have hT:=hT k e4;simp only[go_sem,↓aB,seval,dA,f1,e4,hT,AT,eH,dG,aL,BR,Zz,AD,AA,AE,AB]
  have f1:kJ JT vd.iface (AV.ifc t v) AV.bj=QQ (.bool QT):=rfl;rw[hn];cases e2:(q.kind==0)with
  |true=>simp only[go_sem,↓aB,seval,e1,e2,ha,ma,cond_false,AF,AD,AA,AE,AB];refine aY (aq:=dA) rfT rfT ?_;simp only[go_sem,↓aB,seval,dA,f1,BB]
  |false=>simp only[go_sem,↓aB,seval,e1,e2,ha,cond_false,AD,AA,AE,AB];refine aY (aq:=dA) rfT rfT ?_;simp only[go_sem,↓aB,seval,dA,f1,BB]
end
abbrev aDL(g:SN):ag:=qS [qb 14 .lss 13 12]<|.seq (qC 14 (.skip) (.exit 0))<|.seq (.block 1 (qS [qi 15 11 13 1,ql 16 1 15,qm 7 16]<|qS [qm 17 7,qbi 18 .lss 17 0,qm 19 18,qF 20 19 (om 7),qF 21 19 (of 2 2),qF 22 19 (ol 1 21),qF 23 19 (on 22),qF 24 19 (ob .geq 20 23),qq 25 (.pick (u 19) uT (u 24))]<|qC 25 (qS [qmc 4 (vi 12)]<|.ret) (.skip)))<|.region QT [qbi 26 .add 13 1,qm 13 26]
abbrev aDM(g:SN):ag:=qS [qb 31 .lss 30 29]<|.seq (qC 31 (.skip) (.exit 2))<|.seq (.block 3 (qS [qi 32 28 30 1,ql 33 1 32,qm 9 33]<|.seq (qS [qm 34 9,qm 35 5,qb 36 .leq 34 35]<|qC 36 (qS [qmc 4 (vi 7)]<|.ret) (.skip))<|.region QT [qm 37 9,qm 5 37]))<|.region QT [qbi 38 .add 30 1,qm 30 38]
def tL(g:SN):ag:=.block 4 (qS [qf 40 0 3,ql 41 1 40,qbi 42 .eql 41 0,qm 43 42,qT 44 43 (of 2 3),qT 45 43 (ol 1 44),qT 46 43 (on 45),qT 47 43 (obi .lss 46 2),qp 48 43 47,qm 49 48,qF 50 49 (of 0 3),qF 51 49 (ol 1 50),qF 52 49 (obi .neq 51 0),qF 53 49 (om 52),qT 54 53 (of 2 3),qT 55 53 (ol 1 54),qT 56 53 (on 55),qT 57 53 (obi .gtr 56 0),qF 58 49 (op 53 57),qq 59 (.pick (u 49) uT (u 58)),qm 39 59]<|qC 39 (qS [qmc 4 (vi 13)]<|.ret) (qS [qla 61 7 3,qc 62 (g "bg") [u 61],qq 63 (.un .not (u 62)),qm 60 63]<|qC 60 (qS [qmc 4 (vi 5)]<|.ret) (.skip)))
def rK(g:SN):bw:=⟨64,[],[.tmp 4],qS [qx 2 4 0,qx 3 7 1,qmc 4 z0]<|qS [qmc 5 (.int .i64 (-1))]<|.seq (qS [qf 10 3 3,ql 11 1 10,qn 12 11,qmc 13 z0]<|.block 0 (.loop (aDL g)))<|.seq (qS [qf 27 3 3,ql 28 1 27,qn 29 28,qmc 30 z0]<|.block 2 (.loop (aDM g)))<|.seq (tL g)<|qS [qmc 4 z0]<|.ret⟩
structure QR(m:Nat)(q:Question):Prop where
 cy:∀n∈q.cy,0<=n/\n<(m:Int)
 X4:bJq (-1) q.cy=QS
 H6:if q.kind=0 then 2<=q.options.length else q.options=[]
 right:bK5 q=QS
section
variable {A:af}{g:SN}
theorem bJe(hr:∀q:Question,q.Ok->∀H,aG A (g "bg") [.agg (gR q)] H=QQ (.bool (bK5 q),H,[]))(h:Has A g "bf" (rK g))(x:Item)(hx:x.Ok)(q:Question)(hq:q.Ok)(H:LO):∃r:Int,aG A (g "bf") [.agg (aO x),.agg (gR q)] H=QQ (vi r,H,[])/\(r=0↔QR x.facts.length q):=by
 obtain⟨v,H',wr,h1,rfl,rfl,m,rfl,h2⟩:=h.bp (args:=[.agg (aO x),.agg (gR q)]) (H:=H) (K:=fun v H' wr=>wr=[]/\H'=H/\∃r:Int,v=vi r/\(r=0↔QR x.facts.length q)) (by
  have gj:=hr q hq H;have gr:=hq.Q4;simp only[rK];simp only[gR,aO]at gj ⊢;simp only[go_sem,↓aB,seval,AF,AD,AA,AE,AB];refine bJ (id:=0) (fun i ρ1 H1 wr=>wr=[]/\H1=H/\ρ1 13=vi (i:Nat)/\∀n∈q.cy.take i,0<=n/\n<(x.facts.length:Int)) q.cy.length (fun ρ1 H1 wr=>wr=[]/\H1=H/\∀n∈q.cy,0<=n/\n<(x.facts.length:Int)) bIv rfl ⟨rfl,rfl,rfl,siT⟩ ?_ ?_
  ·rintro i ρ1 H1 dc mg ⟨rfl,rfl,e13,hN⟩ hf;have f2:ρ1 2=.ep (aO x) 0:=hf 2 rfl;have f11:ρ1 11=.sl QT (q.cy.map bF):=hf 11 rfl;have f12:ρ1 12=vi (q.cy.length:Nat):=hf 12 rfl;simp only[aO]at f2;simp only[go_sem,↓aB,seval,e13,f12];refine aD (fun e3=>?_) (fun e3=>?_)
   ·have hlt:i<q.cy.length:=by simp at e3;omega
    have dy:=wS (i:=i) omT;have cj:(q.cy.map bF)[i]? = QQ [vi q.cy[i]]:=by rw[BN,AP hlt];rfl
    have pk:q.cy.take (i+1)=q.cy.take i++[q.cy[i]]:=EW hlt;have Kz:=AS hlt;generalize q.cy[i]=n at *;cases c1:decide (n<0)with
    |true=>simp only[go_sem,↓aB,seval,e13,f11,cj,hlt,c1,AU,AT,CE,AD,AA,AE];exact⟨_,rfl,fun e=>Zw e deT,fun h=>by have:=h.cy n Kz;simp at c1;omega⟩
    |false=>
     cases c2:decide (n ≥ (x.facts.length:Int))with
     |true=>simp only[go_sem,↓aB,seval,e13,f11,f2,cj,hlt,c1,c2,AF,AU,AT,Zz,AD,AB,AA,AE];exact⟨_,rfl,fun e=>Zw e deT,fun h=>by have:=h.cy n Kz;simp at c2;omega⟩
     |false=>simp only[go_sem,↓aB,seval,e13,f11,f2,cj,hlt,dy,c1,c2,AF,AU,AT,Zz,AD,AB,AA,AE];rw[pk,List.forall_mem_append,List.forall_mem_singleton];exact⟨hN,by simp at c1 c2;omega⟩
   have:i=q.cy.length:=by simp at e3;omega
   subst this;rw[DM]at hN;simp only[go_sem,seval];exact hN
  rintro ρ' H' ba ⟨rfl,rfl,hN⟩ hf;have f2:ρ' 2=.ep (aO x) 0:=hf 2 rfl;have f3:ρ' 3=.ep (gR q) 0:=hf 3 rfl;have f5:ρ' 5=vi (-1):=hf 5 rfl;simp only[aO,gR]at f2 f3;simp only[go_sem,↓aB,seval,f3,AF];refine bJ (id:=2) (fun i ρ1 H1 wr=>wr=[]/\H1=H'/\ρ1 30=vi (i:Nat)/\∃n:Int,ρ1 5=vi n/\bJq (-1) q.cy=bJq n (q.cy.drop i)) q.cy.length (fun ρ1 H1 wr=>wr=[]/\H1=H'/\bJq (-1) q.cy=QS) bIv rfl ⟨rfl,rfl,rfl,-1,by simp only[go_sem,seval,f5],rfl⟩ ?_ ?_
  ·rintro i ρ1 H1 dc mg ⟨rfl,rfl,e30,m5,e5,hI⟩ Jh;have f28:ρ1 28=.sl QT (q.cy.map bF):=Jh 28 rfl;have f29:ρ1 29=vi (q.cy.length:Nat):=Jh 29 rfl;simp only[go_sem,↓aB,seval,e30,f29];refine aD (fun e3=>?_) (fun e3=>?_)
   ·have hlt:i<q.cy.length:=by simp at e3;omega
    have dy:=wS (i:=i) omT;have cj:(q.cy.map bF)[i]? = QQ [vi q.cy[i]]:=by rw[BN,AP hlt];rfl
    rw[FD hlt,bJq]at hI;generalize q.cy[i]=n at *;cases c1:decide (n<=m5)with
    |true=>simp only[go_sem,↓aB,seval,e30,e5,f28,cj,hlt,c1,AU,AT,AD,AA,AE];exact⟨_,rfl,fun e=>Zw e deT,fun h=>by rw[h.X4]at hI;simp at c1 hI;omega⟩
    |false=>simp only[go_sem,↓aB,seval,e30,e5,f28,cj,hlt,dy,c1,AU,AT,AD,AA,AE];exact⟨_,rfl,by rw[hI,show decide (n>m5)=QS by simp at c1 ⊢;omega,BR]⟩
   have:i=q.cy.length:=by simp at e3;omega
   subst this;rw[List.drop_length]at hI;simp only[go_sem,seval,hI,bJq]
  rintro ρ2 H2 en ⟨rfl,rfl,hI⟩ cq;have g3:ρ2 3=.ep (gR q) 0:=(cq 3 rfl).trans f3;simp only[gR]at g3;simp only[tL];cases c1:(q.kind==0)with
  |true=>
   have c0:(q.kind != 0)=false:=by simp[bne,c1]
   have k0:q.kind=0:=by simpa using c1
   cases c2:decide ((q.options.length:Int)<2)with
   |true=>simp only[go_sem,↓aB,seval,g3,c1,c2,AF,Zz,CE,AD,AB,AA,AE];exact⟨_,rfl,fun e=>Zw e deT,fun h=>by have:=h.H6;rw[Zy k0]at this;simp at c2;omega⟩
   |false=>
    cases X2:bK5 q with
    |true=>rw[X2]at gj;simp only[go_sem,↓aB,seval,g3,c1,c0,c2,gj,AF,Zz,BB,AD,AB,AA,AE];exact⟨_,rfl,fun _=>⟨hN,hI,by rw[Zy k0];simp at c2;omega,X2⟩,fun _=>rfl⟩
    |false=>rw[X2]at gj;simp only[go_sem,↓aB,seval,g3,c1,c0,c2,gj,AF,Zz,BB,AD,AB,AA,AE];exact⟨_,rfl,fun e=>Zw e deT,fun h=>by rw[h.right]at X2;cases X2⟩
  |false=>
   have c0:(q.kind != 0)=true:=by simp[bne,c1]
   have k0:q.kind≠0:=by simpa using c1
   cases c2:decide ((q.options.length:Int)>0)with
   |true=>simp only[go_sem,↓aB,seval,g3,c1,c0,c2,AF,Zz,BB,AD,AB,AA,AE];exact⟨_,rfl,fun e=>Zw e deT,fun h=>by have:=h.H6;rw[Zx k0]at this;simp[this]at c2⟩
   |false=>
    have h0:q.options=[]:=by simpa using c2
    cases X2:bK5 q with
    |true=>rw[X2]at gj;simp only[go_sem,↓aB,seval,g3,c1,c0,c2,gj,AF,Zz,BB,AD,AB,AA,AE];exact⟨_,rfl,fun _=>⟨hN,hI,by rw[Zx k0];exact h0,X2⟩,fun _=>rfl⟩
    |false=>
     rw[X2]at gj;simp only[go_sem,↓aB,seval,g3,c1,c0,c2,gj,AF,Zz,BB,AD,AB,AA,AE];exact⟨_,rfl,fun e=>Zw e deT,fun h=>by rw[h.right]at X2;cases X2⟩)
 exact⟨m,h1,h2⟩
end
def oR(g:SN):bw:=⟨9,[],[.tmp 3],qS [qx 2 4 0,qmc 3 (.bool QT)]<|qS [qf 4 0 2,ql 5 1 4,qf 6 0 1,ql 7 1 6,qb 8 .eql 5 7,qm 3 8]<|.ret⟩
section
variable {A:af}{g:SN}
theorem bKb(h:Has A g "T" (oR g))(x y:Item){H:LO}{o v:Nat}(ho:H[o]? = QQ (.box v (aO x))):aG A (g "T") [.agg (aO y),.ptr o v 0] H=QQ (.bool (y.name==x.name),H,[]):=by refine h.call ?_;simp only[oR];simp only[aO]at ho ⊢;simp only[go_sem,↓aB,seval,ho,AD,AA,AE]
theorem bKc(hc:aAA A (g "bl") 4 QS)(h:Has A g "T" (oR g))(x:Item)(l:List Item)(hl:l.length<=1000){H:LO}{o v:Nat}(ho:H[o]? = QQ (.box v (aO x))):aG A (g "bl") [.sl QT (l.map aO),.fn (g "T") [] [.ptr o v 0]] H=QQ (.bool (l.any fun y=>y.name==x.name),H,[]):=
 bJ7 hc aJl (cQ.ptr o v 0) hl fun y _=>bKb h x y ho
end
def iJ(g:SN):bw:=⟨9,[8],[.tmp 4],qS [qmc 4 .ar]<|qS [qm 5 0,qm 6 1,qq 7 (.ee (uf (g "cV")) [(.tmp 6),(.const (.fn (g "bd") [] []))]),qa 8 4 32 5 7,qm 4 8]<|.ret⟩
abbrev aAZ(A:af)(g:SN):Prop:=∀(a b c e:Int) (H:LO) (o v:Nat),H[o]? = QQ (.vec v 4 [[vi a,vi b,vi c,vi e]]) ->
 aG A (g "cV") [.sr o v 1,.fn (g "bd") [] []] H=QQ (if e=0 then (.sl QT [],H.set o (.gone v),[o])else (.sr o v 1,H,[]))
section
variable {A:af}{g:SN}
theorem aVt(D:aAZ A g)(h:Has A g "f" (iJ g)){a b c e:Int}{X:LO}{p v:Nat}(hp:X[p]? = QQ (.vec v 4 [[vi a,vi b,vi c,vi e]])):aG A (g "f") [.ar,.sr p v 1] X=QQ (if e=0 then (.ar,X.set p (.gone v),[p])else (.own 4 [[vi a,vi b,vi c,vi e]],X,[])):=by
 have hlt:p<X.length:=(AH.1 hp).1;have hd:=D a b c e (X++[.gone 0]) p v (by grind);by_cases e0:e=0
 ·rw[Zy e0,fN hlt]at hd;rw[Zy e0];refine h.call ?_;simp only[iJ];have hf:∀(n:Nat) (H':LO),aDR n H' .ar=QQ (.ar,H',[]):=fun _ _=>rfl;simp only[go_sem,↓aB,seval,hd,hf,eX,cG,dO,nJ hlt];rw[xI (x:=.gone v) rfT (by grind) rfT];grind
 rw[Zx e0]at hd ⊢;refine h.call ?_;simp only[iJ];have hr:bP 1 32=true:=deT;simp only[go_sem,↓aB,seval,hd,eX,cG,dO,hr,eK hlt,hp]
theorem aYe(D:aAZ A g)(h:Has A g "f" (iJ g)){a b c e:Int}{X:LO}{p v o w:Nat}{rows:List LA}(hp:X[p]? = QQ (.vec v 4 [[vi a,vi b,vi c,vi e]]))(ho:X[o]? = QQ (.vec w 4 rows))(bl:o≠p)(Cr:gG rows=QS)(hr:rows.length<=100000):aG A (g "f") [.sr o w rows.length,.sr p v 1] X=QQ (if e=0 then (.sr o w rows.length,X.set p (.gone v),[p])else (.sr o w (rows.length+1),X.set o (.vec w 4 (rows++[[vi a,vi b,vi c,vi e]])),[o])):=by
 have hlt:p<X.length:=(AH.1 hp).1;have olt:o<X.length:=(AH.1 ho).1;have hd:=D a b c e (X++[.gone 0]) p v (by grind);by_cases e0:e=0
 ·rw[Zy e0,fN hlt]at hd;rw[Zy e0];refine h.call ?_;simp only[iJ];have hr:bP rows.length 32=true:=by unfold bP;simp;omega
  have hs:(X.set p (.gone v)++[ah.gone 0])[o]? = QQ (.vec w 4 rows):=by grind
  simp only[go_sem,↓aB,seval,hd,hs,hr,olt,eX,cG,dO,nJ hlt];rw[xI (x:=.gone v) (by simpa [AV.under]using olt) (by grind) rfT];grind
 rw[Zx e0]at hd ⊢;refine h.call ?_;simp only[iJ];have hr:bP (rows.length+1) 32=true:=by unfold bP;simp;omega
 simp only[go_sem,↓aB,seval,hd,hr,olt,eK hlt,hp,eK olt,ho,fN olt,nJ olt];have Cg:gG (rows++[[vi a,vi b,vi c,vi e]])=true:=aGl fun r hr=>by
  rcases AY.1 hr with hr | hr
  ·exact aBf Cr r hr
  rw[CG.1 hr];rfl
 rw[xI (x:=.vec w 4 (rows++[[vi a,vi b,vi c,vi e]])) (by simpa [AV.under]using olt) (by grind) (by simpa [ah.under]using aA Cg)];exact⟨rfl,siT,rfl⟩
def PS(base:Nat)(l:AV)(rows:List LA)(L:LO):Prop:=
 (rows=[]/\l=.ar)∨(rows≠[]/\gG rows=QS/\∃s v,s∈[5,7,9,11]/\l=.sr (base+s) v rows.length/\L[s]? = QQ (.vec v 4 rows))
theorem PS.aq{base:Nat}{l:AV}{rows:List LA}{L L':LO}(h:PS base l rows L)(hk:∀s,s∈[5,7,9,11]->L'[s]? = L[s]?):PS base l rows L':=by
 rcases h with h | ⟨h1,h2,s,v,h3,h4,h5⟩
 ·exact .inl h
 exact .inr ⟨h1,h2,s,v,h3,h4,by grind⟩
theorem aYf(D:aAZ A g)(h:Has A g "f" (iJ g)){H L:LO}{l:AV}{rows:List LA}(hp:PS H.length l rows L)(hr:rows.length<=100000){i v:Nat}(hi:i∈[4,6,8,10]){a b c e:Int}(hl:L[i]? = QQ (.vec v 4 [[vi a,vi b,vi c,vi e]])):(e=0/\rows=[]/\aG A (g "f") [l,.sr (H.length+i) v 1] (H++L)=QQ (.ar,H++L.set i (.gone v),[H.length+i])) ∨ (e≠0/\rows=[]/\aG A (g "f") [l,.sr (H.length+i) v 1] (H++L)=QQ (.own 4 [[vi a,vi b,vi c,vi e]],H++L,[])) ∨ (rows≠[]/\∃s v' n L' wr,aG A (g "f") [l,.sr (H.length+i) v 1] (H++L)=QQ (.sr (H.length+s) v' n,H++L',wr)/\(∀b ba,b<=H.length->bE b ba wr=ba)/\L'.length=L.length/\(∀j,j∉[5,7,9,11]->j≠i->L'[j]? = L[j]?) /\ ∃bt,bt≠[]/\PS H.length (.sr (H.length+s) v' n) bt L'/\bt.length<=rows.length+1):=by
 have hX:(H++L)[H.length+i]? = QQ (.vec v 4 [[vi a,vi b,vi c,vi e]]):=by grind
 have iv:i∉[5,7,9,11]:=by grind
 rcases hp with⟨rfl,rfl⟩ | ⟨bl,hd,s,w,hs,rfl,ho⟩
 ·have h3:=aVt D h hX;by_cases e0:e=0
  ·rw[Zy e0,eS]at h3;exact .inl ⟨e0,rfl,h3⟩
  rw[Zx e0]at h3;exact .inr (.inl ⟨e0,rfl,h3⟩)
 have Mq:s≠i:=fun e=>iv (e ▸ hs);have h3:=aYe D h hX (by rw[bX];exact ho) omT hd hr;refine .inr (.inr ⟨bl, ?_⟩);by_cases e0:e=0
 ·rw[Zy e0,eS]at h3;refine⟨_,_,_,_,_,h3,fun b ba hb=>kH soT,siT,fun j _ h5=>by grind,rows,bl,.inr ⟨bl,hd,s,w,hs,rfl,by grind⟩,omT⟩
 rw[Zx e0,eS]at h3;have hlt:s<L.length:=(AH.1 ho).1;refine⟨_,_,_,_,_,h3,fun b ba hb=>kH soT,siT,fun j h4 _=>by grind,rows++[[vi a,vi b,vi c,vi e]],siT,.inr ⟨siT, ?_,s,w,hs,siT,by grind⟩,siT⟩;exact aGl fun r hr=>by
  rcases AY.1 hr with hr | hr
  ·exact aBf hd r hr
  rw[CG.1 hr];rfl
theorem bBi{L:LO}(h:L.length=12):∃x0 x1 x2 x3 x4 x5 x6 x7 x8 x9 x10 x11,L=[x0,x1,x2,x3,x4,x5,x6,x7,x8,x9,x10,x11]:=by
 match L,h with
 | [x0,x1,x2,x3,x4,x5,x6,x7,x8,x9,x10,x11],_=>grind
theorem aQu(D:aAZ A g)(h:Has A g "f" (iJ g)){H L:LO}(hL:L.length=12){l:AV}{rows:List LA}(hp:PS H.length l rows L)(hr:rows.length<=100000){i v s:Nat}(hi:i∈[4,6,8,10])(hs:s=i+1){a b c e:Int}(hl:L[i]? = QQ (.vec v 4 [[vi a,vi b,vi c,vi e]])):∃l' L' wr bt,dY (QQ (H.length+s)) QS (H++L) (aG A (g "f") [l,.sr (H.length+i) v 1] (H++L))=QQ (l',H++L',wr)/\(∀ba,bE H.length ba wr=ba)/\L'.length=12/\(∀j,j<4->L'[j]? = L[j]?)/\PS H.length l' bt L'/\bt.length<=rows.length+1/\(bt=[]↔rows=[]/\e=0):=by
 have Gw:4<=i/\i<12/\s∈[5,7,9,11]:=by grind
 rcases aYf D h hp hr hi hl with⟨e0,rfl,h3⟩ | ⟨e0,rfl,h3⟩ | ⟨bl,s',v',n,L',wr,h3,h4,h5,h6,bt,h7,h8,h9⟩
 ·refine⟨.ar,L.set i (.gone v),[H.length+i],[],by rw[h3];rfl,fun ba=>kH siT,by simp[hL],fun j hj=>by grind,.inl ⟨rfl,rfl⟩,siT,by simp[e0]⟩
 ·have hlt:H.length+s<(H++L).length:=by grind
  refine⟨.sr (H.length+s) ((L[s]?).elim 0 ah.ver+1) 1,L.set s (.vec ((L[s]?).elim 0 ah.ver+1) 4 [[vi a,vi b,vi c,vi e]]),[H.length+s],[[vi a,vi b,vi c,vi e]], ?_,fun ba=>kH siT,by simp[hL],fun j hj=>by grind,.inr ⟨siT,rfT,s,_,Gw.2.2,rfl,by grind⟩,siT,by simp[e0]⟩;rw[h3,aHy,Zy rfl];simp_all [Zy,sV,bH,bX]
 exact⟨_,L',wr,bt,by rw[h3];rfl,fun ba=>h4 _ _ (AQ _),by rw[h5,hL],fun j hj=>h6 j soT omT,h8,h9,by simp[h7,bl]⟩
theorem aFG(D:aAZ A g)(h:Has A g "f" (iJ g)){H:LO}{x0 x1 x2 x3 x4 x5 x6 x7 x8 x9 x10 x11:ah}{l:AV}{rows:List LA}(hp:PS H.length l rows [x0,x1,x2,x3,x4,x5,x6,x7,x8,x9,x10,x11])(hr:rows.length<=100000){i v s:Nat}(hi:i∈[4,6,8,10])(hs:s=i+1){a b c e:Int}(hl:[x0,x1,x2,x3,x4,x5,x6,x7,x8,x9,x10,x11][i]? = QQ (.vec v 4 [[vi a,vi b,vi c,vi e]])):∃l' y4 y5 y6 y7 y8 y9 y10 y11 wr bt,dY (QQ (H.length+s)) QS (H++[x0,x1,x2,x3,x4,x5,x6,x7,x8,x9,x10,x11]) (aG A (g "f") [l,.sr (H.length+i) v 1] (H++[x0,x1,x2,x3,x4,x5,x6,x7,x8,x9,x10,x11]))=QQ (l',H++[x0,x1,x2,x3,y4,y5,y6,y7,y8,y9,y10,y11],wr)/\(∀ba,bE H.length ba wr=ba)/\PS H.length l' bt [x0,x1,x2,x3,y4,y5,y6,y7,y8,y9,y10,y11]/\bt.length<=rows.length+1/\(bt=[]↔rows=[]/\e=0):=by obtain⟨l',L',wr,bt,h1,h2,h3,h4,h5,h6,h7⟩:=aQu D h rfT hp hr hi hs hl;obtain⟨z0,z1,z2,z3,y4,y5,y6,y7,y8,y9,y10,y11,rfl⟩:=bBi h3;have a0:=h4 0 omT;have a1:=h4 1 omT;have a2:=h4 2 omT;have a3:=h4 3 omT;simp only[BG,CT,AG]at a0 a1 a2 a3;subst a0 a1 a2 a3;exact⟨l',y4,y5,y6,y7,y8,y9,y10,y11,wr,bt,h1,h2,h5,h6,h7⟩
theorem PS.sq{base:Nat}{l:AV}{rows:List LA}{a0 a1 a2 a3 a4 a6 a8 a10 x5 x7 x9 x11 b0 b1 b2 b3 b4 b6 b8 b10:ah}(h:PS base l rows [a0,a1,a2,a3,a4,x5,a6,x7,a8,x9,a10,x11]):PS base l rows [b0,b1,b2,b3,b4,x5,b6,x7,b8,x9,b10,x11]:=by refine h.aq fun s hs=>?_;simp only[BD,CC,or_false]at hs;rcases hs with rfl | rfl | rfl | rfl<;>rfl
end
abbrev aHm(g:SN):ag:=qS [qb 42 .lss 41 40]<|.seq (qC 42 (.skip) (.exit 2))<|.seq (.block 3 (qS [qm 43 41,qi 44 39 41 13,qla 45 13 44,qq 8 (.alloc [z0,.ar,z0,z0,.ar,z0,.ar,.ar,z0,z0,.ar,.ar,.ar]),qm 7 43,qs 13 8 45]<|.region QT [qm 46 4,qm 47 5,qm 48 7,qla 49 13 8,qc 50 (g "bR") [u 49],qq 51 (.build [z0,z0,z0,z0] [(0,1,(.tmp 47)),(1,1,(.const (vi 1))),(2,1,(.tmp 48)),(3,1,(.tmp 50))]),qq 52 (.bsl 4 [z0,z0,z0,z0] 1 [(0,(.tmp 51))]),qq 53 (.ee (uf (g "f")) [(.tmp 46),(.tmp 52)]),qm 4 53]))<|.region QT [qbi 54 .add 41 1,qm 41 54]
abbrev aHn(g:SN):ag:=qS [qb 59 .lss 58 57]<|.seq (qC 59 (.skip) (.exit 4))<|.seq (.block 5 (qS [qm 60 58,qm 9 60]<|.region QT [qm 61 4,qm 62 5,qm 63 9,qla 64 4 6,qm 65 9,qc 66 (g "be") [u 64,u 65],qq 67 (.build [z0,z0,z0,z0] [(0,1,(.tmp 62)),(1,1,(.const (vi 2))),(2,1,(.tmp 63)),(3,1,(.tmp 66))]),qq 68 (.bsl 4 [z0,z0,z0,z0] 1 [(0,(.tmp 67))]),qq 69 (.ee (uf (g "f")) [(.tmp 61),(.tmp 68)]),qm 4 69]))<|.region QT [qbi 70 .add 58 1,qm 58 70]
abbrev aHo(g:SN):ag:=qS [qb 75 .lss 74 73]<|.seq (qC 75 (.skip) (.exit 6))<|.seq (.block 7 (qS [qm 76 74,qi 77 72 74 7,qla 78 7 77,qq 11 (.alloc [z0,.ar,.ar,.ar,(.str []),z0,.ar]),qm 10 76,qs 7 11 78]<|.region QT [qm 79 4,qm 80 5,qm 81 10,qla 82 4 6,qla 83 7 11,qc 84 (g "bf") [u 82,u 83],qq 85 (.build [z0,z0,z0,z0] [(0,1,(.tmp 80)),(1,1,(.const (vi 3))),(2,1,(.tmp 81)),(3,1,(.tmp 84))]),qq 86 (.bsl 4 [z0,z0,z0,z0] 1 [(0,(.tmp 85))]),qq 87 (.ee (uf (g "f")) [(.tmp 79),(.tmp 86)]),qm 4 87]))<|.region QT [qbi 88 .add 74 1,qm 74 88]
abbrev aHp(g:SN):ag:=qS [qb 23 .lss 22 21]<|.seq (qC 23 (.skip) (.exit 0))<|.seq (.block 1 (qS [qm 24 22,qi 25 20 22 4,qla 26 4 25,qq 6 (.alloc [(.str []),.ar,.ar,.ar]),qm 5 24,qs 4 6 26]<|.seq (qS [qf 27 1 1,ql 28 1 27,qm 29 5,qq 30 (.gw 4 (u 28) N2 (QQ (.tmp 29)) N2),qq 31 (.mkf (g "T") [] [(.tmp 6)]),qc 32 (g "bl") [u 30,u 31]]<|qC 32 (qR [qm 33 4,qm 34 5,qq 35 (.build [z0,z0,z0,z0] [(0,1,(.tmp 34)),(1,1,(.const z0)),(2,1,(.const (.int .i64 (-1)))),(3,1,(.const (vi 7)))]),qq 36 (.bsl 4 [z0,z0,z0,z0] 1 [(0,(.tmp 35))]),qq 37 (.ee (uf (g "f")) [(.tmp 33),(.tmp 36)]),qm 4 37]) (.skip))<|.seq (qS [qf 38 1 6,ql 39 1 38,qn 40 39,qmc 41 z0]<|.block 2 (.loop (aHm g)))<|.seq (qS [qf 55 2 6,ql 56 1 55,qn 57 56,qmc 58 z0]<|.block 4 (.loop (aHn g)))<|qS [qf 71 3 6,ql 72 1 71,qn 73 72,qmc 74 z0]<|.block 6 (.loop (aHo g))))<|.region QT [qbi 89 .add 22 1,qm 22 89]
def aB4(g:SN):bw:=⟨91,[1,6,8,11,36,37,52,53,68,69,86,87],[.tmp 2],qS [qx 1 2 0,qmc 2 .ar]<|.seq (qS [qla 12 2 1,qc 13 (g "z") [u 12],qm 3 13]<|qS [qm 14 3,qbi 15 .neq 14 0]<|qC 15 (qS [qm 16 3,qq 17 (.build [z0,z0,z0,z0] [(0,1,(.const (.int .i64 (-1)))),(1,1,(.const z0)),(2,1,(.const (.int .i64 (-1)))),(3,1,(.tmp 16))]),qq 18 (.bsl 4 [z0,z0,z0,z0] 1 [(0,(.tmp 17))]),qm 2 18]<|.ret) (.skip))<|qS [qmc 4 .ar]<|.seq (qS [qf 19 1 1,ql 20 1 19,qn 21 20,qmc 22 z0]<|.block 0 (.loop (aHp g)))<|qS [qm 90 4,qm 2 90]<|.ret⟩
def wO(x:jm):LA:=[.str x.title,.sl QT (x.items.map aO)]
theorem aEC{it:Item}(h:aGU it=QS):(∀b∈it.blocks,dQ b=QS)/\∀f∈it.facts,aHJ f=true:=by unfold aGU at h;grind
def ItR(E:Int->Int->List Shape->Int)(l:List Item)(it:Item):Prop:=((((l.any fun y=>y.name==it.name)=QT)/\∀b∈it.blocks,bIS E b)/\∀j<it.facts.length,FR it j)/\∀q∈it.ask,QR it.facts.length q
def IR(E:Int->Int->List Shape->Int)(x:jm)(k:Nat):Prop:=∀it,x.items[k]? = QQ it->ItR E (x.items.take k) it
theorem bKt{E:Int->Int->List Shape->Int}{x:jm}{k:Nat}{it:Item}(h:x.items[k]? = QQ it):IR E x k↔ItR E (x.items.take k) it:=⟨fun h1=>h1 it h,fun h1 f' e=>by grind⟩
def CI(H:LO)(X0 X1:ah)(N:Nat)(Q:Prop)(l:AV)(X:LO):Prop:=∃x2 x3 x4 x5 x6 x7 x8 x9 x10 x11 rows,X=H++[X0,X1,x2,x3,x4,x5,x6,x7,x8,x9,x10,x11]/\PS H.length l rows [X0,X1,x2,x3,x4,x5,x6,x7,x8,x9,x10,x11]/\rows.length<=N/\(rows=[]↔Q)
structure N1(A:af)(g:SN)(E:Int->Int->List Shape->Int)(P P':jm->Prop):Prop where
 valid:∀{x:jm},x.Ok->∀H,∃e:Int,aG A (g "z") [dE x] H=QQ (vi e,H,[])/\(e=0->P x)/\(P' x->e=0)
 items:∀{x:jm},P x->∀it∈x.items,aGU it=QS
 same:∀(x:Item) (l:List Item),l.length<=1000->∀{H:LO} {o v:Nat},H[o]? = QQ (.box v (aO x))->aG A (g "bl") [.sl QT (l.map aO),.fn (g "T") [] [.ptr o v 0]] H=QQ (.bool (l.any fun y=>y.name==x.name),H,[])
 block:∀(b:Block),b.Ok->dQ b=QS->∀H,∃e:Int,aG A (g "bR") [.agg (aE b)] H=QQ (vi e,H,[])/\(e=0↔bIS E b)
 fact:∀(it:Item),it.Ok->∀(j:Nat) (f:Fact),it.facts[j]? = QQ f->aHJ f=QS->∀H,∃e:Int,aG A (g "be") [.agg (aO it),vi j] H=QQ (vi e,H,[])/\(e=0↔FR it j)
 jd:∀(it:Item),it.Ok->∀(q:Question),q.Ok->∀H,∃e:Int,aG A (g "bf") [.agg (aO it),.agg (gR q)] H=QQ (vi e,H,[])/\(e=0↔QR it.facts.length q)
 del:aAZ A g
 add:Has A g "f" (iJ g)
 check:Has A g "w" (aB4 g)
section
variable {A:af}{g:SN}{E:Int->Int->List Shape->Int}{P P':jm->Prop}
theorem bJ8(F:N1 A g E P P'){x:jm}(hx:x.Ok)(H:LO):∃r rows,aG A (g "w") [dE x] H=QQ (r,H,[])/\(r=.own 4 rows∨r=.sl QT rows∨(r=.ar/\rows=[]))/\(rows=[]->P x/\∀k<x.items.length,IR E x k)/\(P' x->(∀k<x.items.length,IR E x k)->rows=[]):=by
 obtain⟨v,H',wr,h1,rfl,rfl,m,h2,h3⟩:=F.check.bp (args:=[dE x]) (H:=H) (K:=fun v H' wr=>wr=[]/\H'=H/\∃rows,(v=.own 4 rows∨v=.sl QT rows∨(v=.ar/\rows=[]))/\(rows=[]->P x/\∀k<x.items.length,IR E x k)/\(P' x->(∀k<x.items.length,IR E x k)->rows=[])) (by
  obtain⟨e,he,hv,P5⟩:=F.valid hx (H++[.box 1 (wO x),.gone 0,.gone 0,.gone 0,.gone 0,.gone 0,.gone 0,.gone 0,.gone 0,.gone 0,.gone 0,.gone 0]);simp only[aB4];simp only[dE,wO]at he ⊢;cases e1:(e != 0)with
  |true=>simp only[go_sem,↓aB,seval,he,e1,AD,AB,AA,AE];grind
  |false=>
   have hP:=hv (by simpa using e1);have hv:=F.items hP;have Po:=hx.G8;simp only[go_sem,↓aB,seval,he,e1,AD,AB,AA,AE,AF];refine bJ (id:=0) (fun i ρ1 H1 wr=>wr=[]/\ρ1 22=vi (i:Nat)/\∃X1,CI H (.box 1 [.str x.title,.sl QT (x.items.map aO)]) X1 (1000*i) (∀k<i,IR E x k) (ρ1 4) H1) x.items.length
    (fun ρ1 H1 wr=>wr=[]/\∃X1,CI H (.box 1 [.str x.title,.sl QT (x.items.map aO)]) X1 16000 (∀k<x.items.length,IR E x k) (ρ1 4) H1) bIv rfl ⟨rfl,rfl,_,_,_,_,_,_,_,_,_,_,_,[],rfl,.inl ⟨rfl,rfl⟩,siT,siT⟩ ?_ ?_
   ·rintro i ρ1 H1 dc mg ⟨rfl,e22,X1,x2,x3,x4,x5,x6,x7,x8,x9,x10,x11,rows,rfl,hp,ax,hg⟩ hf;have f1:ρ1 1=.ptr H.length 1 0:=hf 1 rfl;have f20:ρ1 20=.sl QT (x.items.map aO):=hf 20 rfl;have f21:ρ1 21=vi (x.items.length:Nat):=hf 21 rfl;simp only[go_sem,↓aB,seval,e22,f21];refine aD (fun e3=>?_) (fun e3=>?_);rotate_left
    ·have:i=x.items.length:=by grind
     subst this;simp only[go_sem,seval];exact⟨X1,x2,x3,x4,x5,x6,x7,x8,x9,x10,x11,rows,rfl,hp,omT,hg⟩
    have hlt:i<x.items.length:=by grind
    have dy:=wS (i:=i) omT;have cj:=mgE aO hlt;have Sx:=bKt (E:=E) (AP hlt);have Nq:(x.items.map aO).take i=(x.items.take i).map aO:=Pu.symm;have kh:=hx.items _ (AS hlt);have W5:=aEC (hv _ (AS hlt));generalize x.items[i]=it at *;have Pp:=kh.zq;have Mt:=kh.B1;have Lr:=kh.tj;have hr:=F.same it (x.items.take i) soT (H:=H++[.box 1 [.str x.title,.sl QT (x.items.map aO)],.box (X1.ver+1) (aO it),x2,x3,x4,x5,x6,x7,x8,x9,x10,x11]) (o:=H.length+1) (v:=X1.ver+1) (by simp);simp only[aO]at hr cj;have Fp:dU x.items.length N2 (QQ (vi (i:Int))) N2=QQ (0,i,x.items.length):=by simp[dU,iL,Nat.le_of_lt hlt]
    have tz:dF 4 (x.items.map aO)=true:=by cases x.items<;>rfl
    rw[<- Nq]at hr;simp only[go_sem,↓aB,seval,e22,f1,f20,AF,AU,AT,hlt,cj,AD,AB,AA,AE,hr,Fp,tz];refine xX (W:=[33,34,35,36,37,4]) (fun ρ' H1 wr=>wr=[]/\CI H (.box 1 [.str x.title,.sl QT (x.items.map aO)]) (.box (X1.ver+1) [.str it.name,.sl QT (it.blocks.map aE),.sl QT (it.facts.map aI),.sl QT (it.ask.map gR)]) (1000*i+1) ((∀k<i,IR E x k)/\((x.items.take i).any fun y=>y.name==it.name)=QT) (ρ' 4) H1) rfT (fun er=>?_) (fun er=>?_) ?_
    ·obtain⟨l',y4,y5,y6,y7,y8,y9,y10,y11,ba,bt,ji,ma,xn,kg,hz⟩:=aFG F.del F.add (H:=H) (hp.sq:PS H.length _ rows [.box 1 [.str x.title,.sl QT (x.items.map aO)],.box (X1.ver+1) [.str it.name,.sl QT (it.blocks.map aE),.sl QT (it.facts.map aI),.sl QT (it.ask.map gR)],x2,x3,.vec (x4.ver+1) 4 [[vi (i:Nat),vi 0,vi (-1),vi 7]],x5,x6,x7,x8,x9,x10,x11]) omT (i:=4) (s:=5) siT rfl rfT;simp only[go_sem,↓aB,seval,AD,AB,AA,AE,ji,ma];exact⟨_,_,_,_,_,_,_,_,_,_,bt,rfl,xn,omT,by grind⟩
    ·simp only[go_sem,seval];exact⟨_,_,_,_,_,_,_,_,_,_,rows,rfl,hp.sq,omT,by grind⟩
    rintro ρ3 H3 wr3 ⟨rfl,x2,x3,x4,x5,x6,x7,x8,x9,x10,x11,rows,rfl,hp,ax,hg⟩ im;have g5:ρ3 5=vi (i:Nat):=im 5 rfl;have g6:ρ3 6=.ptr (H.length+1) (X1.ver+1) 0:=im 6 rfl;have g22:ρ3 22=vi (i:Nat):=(im 22 rfl).trans e22;clear im hr;simp only[go_sem,↓aB,seval,g6,AF,AD,AB,AA,AE];refine bJ (id:=2) (fun j ρ2 H2 wr=>wr=[]/\ρ2 41=vi (j:Nat)/\CI H (.box 1 [.str x.title,.sl QT (x.items.map aO)]) (.box (X1.ver+1) [.str it.name,.sl QT (it.blocks.map aE),.sl QT (it.facts.map aI),.sl QT (it.ask.map gR)]) (1000*i+1+j) (((∀k<i,IR E x k)/\((x.items.take i).any fun y=>y.name==it.name)=QT)/\(∀b∈it.blocks.take j,bIS E b)) (ρ2 4) H2) it.blocks.length
     (fun ρ2 H2 wr=>wr=[]/\CI H (.box 1 [.str x.title,.sl QT (x.items.map aO)]) (.box (X1.ver+1) [.str it.name,.sl QT (it.blocks.map aE),.sl QT (it.facts.map aI),.sl QT (it.ask.map gR)]) (1000*i+1+16) (((∀k<i,IR E x k)/\((x.items.take i).any fun y=>y.name==it.name)=QT)/\(∀b∈it.blocks,bIS E b)) (ρ2 4) H2) bIv rfl ⟨rfl,rfl,x2,x3,x4,x5,x6,x7,x8,x9,x10,x11,rows,rfl,hp,omT,by rw[hg];simp⟩ ?_ ?_
    ·rintro j ρ2 H2 en mo ⟨rfl,ej,x2,x3,x4,x5,x6,x7,x8,x9,x10,x11,rows,rfl,hp,ax,hg⟩ cq;have k1:ρ2 40=vi (it.blocks.length:Nat):=cq 40 rfl;have kl:ρ2 39=.sl QT (it.blocks.map aE):=cq 39 rfl;have k5:ρ2 5=vi (i:Nat):=(cq 5 rfl).trans g5;have k6:ρ2 6=.ptr (H.length+1) (X1.ver+1) 0:=(cq 6 rfl).trans g6;simp only[go_sem,↓aB,seval,ej,k1];refine aD (fun e4=>?_) (fun e4=>?_)
     ·have jlt:j<it.blocks.length:=by grind
      have gn:=wS (i:=j) omT;have fh:=mgE aE jlt;have sh:it.blocks.take (j+1)=it.blocks.take j++[it.blocks[j]]:=EW jlt;have td:=kh.blocks _ (AS jlt);have V5:=W5.1 _ (AS jlt);generalize it.blocks[j]=b at *;obtain⟨e,hc,hE⟩:=F.block b td V5 (H++[.box 1 [.str x.title,.sl QT (x.items.map aO)],.box (X1.ver+1) [.str it.name,.sl QT (it.blocks.map aE),.sl QT (it.facts.map aI),.sl QT (it.ask.map gR)],.box (x2.ver+1) (aE b),x3,x4,x5,x6,x7,x8,x9,x10,x11]);obtain⟨op,n,ks,ig⟩:=eW b;rw[ig]at hc fh;obtain⟨l',y4,y5,y6,y7,y8,y9,y10,y11,ba,bt,ji,ma,xn,kg,hz⟩:=aFG F.del F.add (H:=H) (hp.sq:PS H.length _ rows [.box 1 [.str x.title,.sl QT (x.items.map aO)],.box (X1.ver+1) [.str it.name,.sl QT (it.blocks.map aE),.sl QT (it.facts.map aI),.sl QT (it.ask.map gR)],.box (x2.ver+1) (aE b),x3,x4,x5,.vec (x6.ver+1) 4 [[vi (i:Nat),vi 1,vi (j:Nat),vi e]],x7,x8,x9,x10,x11]) omT (i:=6) (s:=7) siT rfl rfT;rw[ig]at ji xn;simp only[go_sem,↓aB,seval,ej,kl,k5,AU,AT,jlt,fh,AD,AB,AA,AE,hc,ji,ma,gn];exact⟨_,_,_,_,_,_,_,_,_,_,bt,rfl,xn,omT,by grind⟩
     have:j=it.blocks.length:=by grind
     subst this;simp only[go_sem,seval];exact⟨x2,x3,x4,x5,x6,x7,x8,x9,x10,x11,rows,rfl,hp,omT,by grind⟩
    rintro ρ3 H3 wr3 ⟨rfl,x2,x3,x4,x5,x6,x7,x8,x9,x10,x11,rows,rfl,hp,ax,hg⟩ im;have g5:ρ3 5=vi (i:Nat):=(im 5 rfl).trans g5;have g6:ρ3 6=.ptr (H.length+1) (X1.ver+1) 0:=(im 6 rfl).trans g6;have g22:ρ3 22=vi (i:Nat):=(im 22 rfl).trans g22;clear im;simp only[go_sem,↓aB,seval,g6,AF,AD,AB,AA,AE];refine bJ (id:=4) (fun j ρ2 H2 wr=>wr=[]/\ρ2 58=vi (j:Nat)/\CI H (.box 1 [.str x.title,.sl QT (x.items.map aO)]) (.box (X1.ver+1) [.str it.name,.sl QT (it.blocks.map aE),.sl QT (it.facts.map aI),.sl QT (it.ask.map gR)]) (1000*i+17+j) ((((∀k<i,IR E x k)/\((x.items.take i).any fun y=>y.name==it.name)=QT)/\(∀b∈it.blocks,bIS E b))/\(∀j'<j,FR it j')) (ρ2 4) H2) it.facts.length
     (fun ρ2 H2 wr=>wr=[]/\CI H (.box 1 [.str x.title,.sl QT (x.items.map aO)]) (.box (X1.ver+1) [.str it.name,.sl QT (it.blocks.map aE),.sl QT (it.facts.map aI),.sl QT (it.ask.map gR)]) (1000*i+17+16) ((((∀k<i,IR E x k)/\((x.items.take i).any fun y=>y.name==it.name)=QT)/\(∀b∈it.blocks,bIS E b))/\(∀j'<it.facts.length,FR it j')) (ρ2 4) H2) bIv rfl ⟨rfl,rfl,x2,x3,x4,x5,x6,x7,x8,x9,x10,x11,rows,rfl,hp,omT,by rw[hg];simp⟩ ?_ ?_
    ·rintro j ρ2 H2 en mo ⟨rfl,ej,x2,x3,x4,x5,x6,x7,x8,x9,x10,x11,rows,rfl,hp,ax,hg⟩ cq;have k1:ρ2 57=vi (it.facts.length:Nat):=cq 57 rfl;have kl:ρ2 56=.sl QT (it.facts.map aI):=cq 56 rfl;have k5:ρ2 5=vi (i:Nat):=(cq 5 rfl).trans g5;have k6:ρ2 6=.ptr (H.length+1) (X1.ver+1) 0:=(cq 6 rfl).trans g6;simp only[go_sem,↓aB,seval,ej,k1];refine aD (fun e4=>?_) (fun e4=>?_)
     ·have jlt:j<it.facts.length:=by grind
      have gn:=wS (i:=j) omT;have fh:=mgE aI jlt;obtain⟨e,hc,hE⟩:=F.fact it kh j _ (AP jlt) (W5.2 _ (AS jlt)) (H++[.box 1 [.str x.title,.sl QT (x.items.map aO)],.box (X1.ver+1) [.str it.name,.sl QT (it.blocks.map aE),.sl QT (it.facts.map aI),.sl QT (it.ask.map gR)],x2,x3,x4,x5,x6,x7,x8,x9,x10,x11]);simp only[aO]at hc;generalize it.facts[j]=f at *;obtain⟨l',y4,y5,y6,y7,y8,y9,y10,y11,ba,bt,ji,ma,xn,kg,hz⟩:=aFG F.del F.add (H:=H) (hp.sq:PS H.length _ rows [.box 1 [.str x.title,.sl QT (x.items.map aO)],.box (X1.ver+1) [.str it.name,.sl QT (it.blocks.map aE),.sl QT (it.facts.map aI),.sl QT (it.ask.map gR)],x2,x3,x4,x5,x6,x7,.vec (x8.ver+1) 4 [[vi (i:Nat),vi 2,vi (j:Nat),vi e]],x9,x10,x11]) omT (i:=8) (s:=9) siT rfl rfT;simp only[go_sem,↓aB,seval,ej,k5,k6,jlt,AD,AB,AA,AE,hc,ji,ma,gn];exact⟨_,_,_,_,_,_,_,_,_,_,bt,rfl,xn,omT,by grind⟩
     have:j=it.facts.length:=by grind
     subst this;simp only[go_sem,seval];exact⟨x2,x3,x4,x5,x6,x7,x8,x9,x10,x11,rows,rfl,hp,omT,by rw[hg]⟩
    rintro ρ3 H3 wr3 ⟨rfl,x2,x3,x4,x5,x6,x7,x8,x9,x10,x11,rows,rfl,hp,ax,hg⟩ im;have g5:ρ3 5=vi (i:Nat):=(im 5 rfl).trans g5;have g6:ρ3 6=.ptr (H.length+1) (X1.ver+1) 0:=(im 6 rfl).trans g6;have g22:ρ3 22=vi (i:Nat):=(im 22 rfl).trans g22;clear im;simp only[go_sem,↓aB,seval,g6,AF,AD,AB,AA,AE];refine bJ (id:=6) (fun j ρ2 H2 wr=>wr=[]/\ρ2 74=vi (j:Nat)/\CI H (.box 1 [.str x.title,.sl QT (x.items.map aO)]) (.box (X1.ver+1) [.str it.name,.sl QT (it.blocks.map aE),.sl QT (it.facts.map aI),.sl QT (it.ask.map gR)]) (1000*i+33+j) (((((∀k<i,IR E x k)/\((x.items.take i).any fun y=>y.name==it.name)=QT)/\(∀b∈it.blocks,bIS E b))/\(∀j'<it.facts.length,FR it j'))/\(∀q∈it.ask.take j,QR it.facts.length q)) (ρ2 4) H2) it.ask.length
     (fun ρ2 H2 wr=>wr=[]/\CI H (.box 1 [.str x.title,.sl QT (x.items.map aO)]) (.box (X1.ver+1) [.str it.name,.sl QT (it.blocks.map aE),.sl QT (it.facts.map aI),.sl QT (it.ask.map gR)]) (1000*i+33+16) (((((∀k<i,IR E x k)/\((x.items.take i).any fun y=>y.name==it.name)=QT)/\(∀b∈it.blocks,bIS E b))/\(∀j'<it.facts.length,FR it j'))/\(∀q∈it.ask,QR it.facts.length q)) (ρ2 4) H2) bIv rfl ⟨rfl,rfl,x2,x3,x4,x5,x6,x7,x8,x9,x10,x11,rows,rfl,hp,omT,by rw[hg];simp⟩ ?_ ?_
    ·rintro j ρ2 H2 en mo ⟨rfl,ej,x2,x3,x4,x5,x6,x7,x8,x9,x10,x11,rows,rfl,hp,ax,hg⟩ cq;have k1:ρ2 73=vi (it.ask.length:Nat):=cq 73 rfl;have kl:ρ2 72=.sl QT (it.ask.map gR):=cq 72 rfl;have k5:ρ2 5=vi (i:Nat):=(cq 5 rfl).trans g5;have k6:ρ2 6=.ptr (H.length+1) (X1.ver+1) 0:=(cq 6 rfl).trans g6;simp only[go_sem,↓aB,seval,ej,k1];refine aD (fun e4=>?_) (fun e4=>?_)
     ·have jlt:j<it.ask.length:=by grind
      have gn:=wS (i:=j) omT;have fh:=mgE gR jlt;have sh:it.ask.take (j+1)=it.ask.take j++[it.ask[j]]:=EW jlt;have J0:=kh.ask _ (AS jlt);generalize it.ask[j]=q at *;obtain⟨e,hc,hE⟩:=F.jd it kh q J0 (H++[.box 1 [.str x.title,.sl QT (x.items.map aO)],.box (X1.ver+1) [.str it.name,.sl QT (it.blocks.map aE),.sl QT (it.facts.map aI),.sl QT (it.ask.map gR)],x2,.box (x3.ver+1) (gR q),x4,x5,x6,x7,x8,x9,x10,x11]);simp only[aO,gR]at hc fh;obtain⟨l',y4,y5,y6,y7,y8,y9,y10,y11,ba,bt,ji,ma,xn,kg,hz⟩:=aFG F.del F.add (H:=H) (hp.sq:PS H.length _ rows [.box 1 [.str x.title,.sl QT (x.items.map aO)],.box (X1.ver+1) [.str it.name,.sl QT (it.blocks.map aE),.sl QT (it.facts.map aI),.sl QT (it.ask.map gR)],x2,.box (x3.ver+1) (gR q),x4,x5,x6,x7,x8,x9,.vec (x10.ver+1) 4 [[vi (i:Nat),vi 3,vi (j:Nat),vi e]],x11]) omT (i:=10) (s:=11) siT rfl rfT;simp only[gR]at ji xn;simp only[go_sem,↓aB,seval,ej,kl,k5,k6,AU,AT,jlt,fh,AD,AB,AA,AE,hc,ji,ma,gn];exact⟨_,_,_,_,_,_,_,_,_,_,bt,rfl,xn,omT,by grind⟩
     have:j=it.ask.length:=by grind
     subst this;simp only[go_sem,seval];exact⟨x2,x3,x4,x5,x6,x7,x8,x9,x10,x11,rows,rfl,hp,omT,by grind⟩
    rintro ρ3 H3 wr3 ⟨rfl,x2,x3,x4,x5,x6,x7,x8,x9,x10,x11,rows,rfl,hp,ax,hg⟩ im;have g5:ρ3 5=vi (i:Nat):=(im 5 rfl).trans g5;have g6:ρ3 6=.ptr (H.length+1) (X1.ver+1) 0:=(im 6 rfl).trans g6;have g22:ρ3 22=vi (i:Nat):=(im 22 rfl).trans g22;clear im;simp only[go_sem,↓aB,seval,g22];simp only[go_sem,seval,dy];exact⟨hlt,_,x2,x3,x4,x5,x6,x7,x8,x9,x10,x11,rows,rfl,hp,omT,by rw[hg,Nat.forall_lt_succ_right,Sx,ItR];grind⟩
   rintro ρ' H' ba ⟨rfl,X1,x2,x3,x4,x5,x6,x7,x8,x9,x10,x11,rows,rfl,hp,ax,hg⟩ hf;have hG:(rows=[]->P x/\∀k<x.items.length,IR E x k)/\(P' x->(∀k<x.items.length,IR E x k)->rows=[]):=⟨fun h=>⟨hP,hg.1 h⟩,fun _=>hg.2⟩;rcases hp with⟨rfl,h4⟩ | ⟨bl,hd,s,v,hs,h4,ho⟩
   ·have yp:∀(n:Nat) (H':LO),aDR n H' .ar=QQ (.ar,H',[]):=fun _ _=>rfl;simp only[go_sem,↓aB,seval,h4,yp];grind
   simp only[BD,CC,or_false]at hs;rcases hs with rfl | rfl | rfl | rfl<;>(
    simp only[BG,CT,AG]at ho;subst ho;simp only[go_sem,↓aB,seval,h4,aT hd,aA hd];grind))
 grind
end
theorem bJF{n:ct}(h:bGG n):bJE n=true:=by
 obtain⟨h1,h2,h3,h4⟩:=h;have ha:bKn n.alter<=1:=by have:n.alter = -1∨n.alter=0∨n.alter=1:=omT;rcases this with e | e | e<;>rw[e]<;>decide
 simp only[bJE,AI,Bool.or_eq_true,decide_eq_true_eq,beq_iff_eq];exact⟨omT,omT,omT,omT,ha,h4⟩
theorem bJl{l:List ct}(h:aZI l):bKf l=QS/\bJP l=false:=by obtain⟨h1,h2,h3⟩:=h;refine⟨?_,by unfold bJP;simp;omega⟩;unfold bKf;rw[AI,Bool.not_eq_true'];exact⟨soT,KH.2 fun n hn=>by rw[bJF (h3 n hn)];decide⟩
theorem bJS{m:List (List (List ct))}(h:bIl m):bKg m=true:=by
 obtain⟨h1,h2,h3,c,h4⟩:=h;have hc:(m.headD []).length=c:=by
  cases m with
  |nil=>simp at h1
  |cons a l=>exact h4 a siT
 have a1:m.any bJv=false:=KH.2 fun h hh=>by
  obtain⟨k1,k2,k3⟩:=h3 h hh;have:bJv h=false:=by unfold bJv;rw[MO];exact⟨soT,KH.2 fun l hl=>by rw[(bJl (k3 l hl)).2];decide⟩
  rw[this];decide
 have a2:m.any (bJ5 (m.headD []).length)=false:=KH.2 fun h hh=>by
  obtain⟨k1,k2,k3⟩:=h3 h hh;have:bJ5 (m.headD []).length h=false:=by unfold bJ5;rw[hc,MO,MO,h4 h hh];have:=h4 h hh;exact⟨soT,siT,KH.2 fun l hl=>by rw[(bJl (k3 l hl)).1];decide⟩
  rw[this];decide
 unfold bKg;rw[a1,a2];simp;exact⟨omT,by rintro rfl;simp at h1⟩
theorem bJT{op:Int}{a:List Int}(h:bIk op a):bKm op a:=by
 obtain⟨h1,h2,h3,x,y,r,rfl,h4,h5,h6⟩:=h;refine⟨?_,KH.2 fun n hn=>by have:=h3 n hn;simp[bKe];omega,fun x' y' e=>?_⟩
 ·by_cases o:op=3
  ·exact .inl ⟨o,siT,omT⟩
  rw[h4 o];exact .inr ⟨omT,rfl⟩
 injection e with e1 e2;injection e2 with e2 e3;subst e1 e2;exact⟨fun h=>by have:=h5 h;omega,fun _=>h6⟩
theorem kf.none{E:Int->Int->List Shape->Int}(hE:∀s,bGI s->E 60 50 s=0){b:Block}(hb:kf b):bIS E b:=by
 refine⟨hb.checked hE,fun k2=>?_,fun k5=>?_⟩
 ·cases hb with
  |col h=>exact bJT h
  |_=>simp[cV]at k2
 cases hb with
 |mel h=>exact bJS h
 |_=>simp[cV]at k5
theorem bJU{n:Nat}(h:n<1000):bJk (dec n)=QQ (n:Int):=by have:(GZ 1000).all (fun n=>bJk (nC 3 n)==QQ (n:Int))=true:=bIv;have h2:=AO.1 this n (HE.2 h);rw[aJJ 2 n omT]at h2;simpa using h2
theorem bJm{q:Question}(h:bKo q):bK5 q=true:=by
 unfold bK5;rcases h with⟨h1,h2⟩ | ⟨h1,n,h2,h3,h4⟩
 ·rw[show (q.kind==2)=QS by simpa using h1,cond_true];simpa using h2
 rw[show (q.kind==2)=QT by simpa using h1,cond_false,h3,bJU h2];simp only[AT,AI,decide_eq_true_eq,Zz];refine⟨omT, ?_,trivial⟩;by_cases k0:q.kind=0
 ·rw[show (q.kind==0)=QS by simpa using k0,cond_true];have:=h4 k0;omega
 rw[show (q.kind==0)=QT by simpa using k0,cond_false];omega
theorem jt.none{m:Nat}{q:Question}(h:jt m q):QR m q:=⟨h.cy,h.X4,h.H6,bJm h.Wg⟩
theorem QR.erase{m:Nat}{q:Question}(h:QR m q)(ha:aWp q=QS):QR m (bEe q):=by
 refine⟨h.cy,h.X4,h.H6,bJm ?_⟩;have hk:0<=q.kind/\q.kind<=2:=by simp only[aWp,AI,eG]at ha;exact ha.1.1.1.1.1.1.1
 have ho:=h.H6;have:q.kind=0∨q.kind=1∨q.kind=2:=omT;rcases this with k | k | k
 ·rw[Zy k]at ho;exact .inr ⟨by show q.kind≠2;omega,0,deT,by show bDC q.kind=_;rw[k,<- aJJ 2 0 deT];rfl,fun _=>by show 0<q.options.length;omega⟩
 ·exact .inr ⟨by show q.kind≠2;omega,0,deT,by show bDC q.kind=_;rw[k,<- aJJ 2 0 deT];rfl,fun h=>by have h:q.kind=0:=h;omega⟩
 exact .inl ⟨k,by show bDC q.kind≠[];rw[k];decide⟩
theorem bJC{α:Type}{l:List α}(h:l.Nodup){j:Nat}{a:α}(e:l[j]? = QQ a):a∉l.take j:=by obtain⟨hj,rfl⟩:=AH.1 e;rw[<- List.take_append_drop j l,FD hj]at h;exact fun hm=>(NO.1 h).2.2 _ hm _ (List.mem_cons_self ..) rfl
theorem bJn{l:List Item}:(l.map Item.name).Nodup↔∀k it,l[k]? = QQ it->((l.take k).any fun y=>y.name==it.name)=false:=by
 refine⟨fun h k it e=>KH.2 fun y hy=>?_,fun h=>?_⟩
 ·have:=bJC h (j:=k) (a:=it.name) (by rw[BN,e];rfl);rw[<- Pu]at this;exact fun hn=>this (DB.2 ⟨y,hy,by simpa using hn⟩)
 rw[List.nodup_iff_pairwise_ne,List.pairwise_iff_getElem];intro i j hi hj Y4;simp only[AF]at hi hj;rw[Qf,Qf];have:=KH.1 (h j _ (AP hj)) l[i] (List.mem_take_iff_getElem.2 ⟨i,omT,rfl⟩);simpa using this
theorem my.none{E:Int->Int->List Shape->Int}(hE:∀s,bGI s->E 60 50 s=0){x:jm}(h:my x):∀k<x.items.length,IR E x k:=by
 intro k _ it e;have hi:=h.item it (AN e);have hn:(x.items.map Item.name).Nodup:=by rw[h.names];exact QF (List.take_sublist ..) (by decide:bF7.Nodup)
 refine⟨⟨⟨bJn.1 hn k it e,fun b hb=>(hi.block b hb).none hE⟩,fun j _ f hf=>?_⟩,fun q hq=>(hi.ask q hq).none⟩;obtain⟨a0,b,a1,a2⟩:=hi.fact f (AN hf);exact⟨⟨b,a1,bGL (hi.block b (AN a1)) a2⟩,bJC hi.nodup hf⟩
theorem bK1{E:Int->Int->List Shape->Int}{x:jm}(h:∀k<x.items.length,IR E x k):(x.items.map Item.name).Nodup:=
 bJn.2 fun k it e=>(h k (AH.1 e).1 it e).1.1.1
theorem bK2{E:Int->Int->List Shape->Int}{x:jm}(hr:bDt x=QS)(h:∀k<x.items.length,IR E x k):∀k<(bD5 x).items.length,IR E (bD5 x) k:=by
 intro k hk it' e;have hk:k<x.items.length:=by simpa [bD5]using hk
 have e:(x.items.map bDh)[k]? = QQ it':=e;rw[BN,AP hk]at e;cases e;obtain⟨⟨⟨h1,h2⟩,h3⟩,h4⟩:=h k hk _ (AP hk);have hi:=bIY hr _ (AS hk);generalize x.items[k]=it at *;refine⟨⟨⟨?_,h2⟩,h3⟩,fun q hq=>?_⟩
 ·show ((x.items.map bDh).take k).any _=QT;rw[<- Pu,List.any_map];exact h1
 obtain⟨q',Qq,rfl⟩:=DB.1 hq;refine (h4 q' Qq).erase ?_;simp only[aGU,AI,AO]at hi;exact hi.2.2 q' Qq
end Go.AM
end
section

end
section
namespace Go.AM
open Go
theorem bFG{n:Int}(h:eA n):(dec n.toNat).length<=20:=aGn 19 n.toNat (by have:=h.2;show _<100000000000000000000;omega)
theorem bF4:∀l:List Int,(∀n∈l,eA n)->(aUN l).length<=21*l.length
 | [],_=>FF _
 |n::l,h=>by
  have h1:=bFG (h n siT);have h2:=bF4 l (fun m hm=>h m (BZ _ hm));simp only[aUN,AW,BA];omega
theorem bHt(e:Expr)(h:e.Ok):(wX e).length<=24*gY e:=by
 induction h with
 |mk op n kids ho hn hl hk ih=>
  match kids,ih with
  | [],_=>
   have h1:=bFG hn;simp only[wX,gY,cP];split
   ·omega
   simp
  | [a],ih=>have h1:=ih a siT;have h2:=uE (e:=a) (L:=3) (s:=wX a);have h3:=uE (e:=a) (L:=1) (s:=wX a);simp only[wX,gY,cP];split<;>simp<;>omega
  | [a,b],ih=>have h1:=ih a siT;have h2:=ih b siT;have h3:=uE (e:=a) (L:=4) (s:=wX a);have h4:=uE (e:=b) (L:=3) (s:=wX b);have h5:=uE (e:=a) (L:=(max 1 (lev op))) (s:=wX a);have h6:=uE (e:=b) (L:=(lev op+1)) (s:=wX b);simp only[wX,gY,cP];split<;>simp<;>omega
  |_::_::_::_,_=>simp[wX]
theorem bF5:∀(l:List mr) (p:Int),(∀r∈l,r.Ok)->(aHA p l).length<=2002*l.length
 | [],_,_=>FF _
 |r::l,p,h=>by
  have h1:=bF5 l r.gg (fun q hq=>h q (BZ _ hq));have h2:=yS r.text;have h3:r.text.length<=1000:=(h r siT).text;simp only[aHA,BA,AW];split<;>simp<;>omega
theorem bHX{b:Block}(h:b.Ok):(wB b).length<=1000000:=by
 unfold wB;split
 ·have:=bF5 b.runs 0 h.runs;have:=h.vw;omega
 split
 ·have:=bHt b.expr h.expr;have:=h.size;omega
 split
 ·have:=bF4 b.eg h.eg;have:=h.tj;simp only[aWn,AW];omega
 split
 ·have h1:∀r∈b.cd,(sb [124] (r.map (esc mG))).length<=40000:=fun r hr=>by
   obtain⟨h2,h3⟩:=h.cd r hr;have:=aF7 (sep:=[124]) (M:=2000) (l:=r.map (esc mG)) (fun s hs=>by
    obtain⟨t,ht,rfl⟩:=DB.1 hs;have:=aSf t;have h4:t.length<=1000:=h3 t ht;omega)
   rw[AF]at this;have e:[(124:UInt8)].length=1:=rfl;rw[e]at this;omega
  have:=aF7 (sep:=[59]) (M:=40000) (l:=b.cd.map fun r=>sb [124] (r.map (esc mG))) (fun s hs=>by
   obtain⟨r,hr,rfl⟩:=DB.1 hs;exact h1 r hr)
  rw[AF]at this;have e:[(59:UInt8)].length=1:=rfl;rw[e]at this;have:=h.uu;unfold aRX;omega
 split
 ·have h1:∀r∈b.bo,(sb [124] (r.map aO9)).length<=2000:=fun r hr=>by
   obtain⟨h2,h3⟩:=h.bo r hr;have:=aF7 (sep:=[124]) (M:=80) (l:=r.map aO9) (fun s hs=>by
    obtain⟨t,ht,rfl⟩:=DB.1 hs;exact aSe (h3 t ht).1)
   rw[AF]at this;have e:[(124:UInt8)].length=1:=rfl;rw[e]at this;omega
  have:=aF7 (sep:=[47]) (M:=2000) (l:=b.bo.map fun h=>sb [124] (h.map aO9)) (fun s hs=>by
   obtain⟨r,hr,rfl⟩:=DB.1 hs;exact h1 r hr)
  rw[AF]at this;have e:[(47:UInt8)].length=1:=rfl;rw[e]at this;have:=h.uv;unfold aJm;omega
 have:=aF7 (sep:=[126,124]) (M:=2000) (l:=b.lines.map (esc mL)) (fun s hs=>by
  obtain⟨t,ht,rfl⟩:=DB.1 hs;have:=yS t;have h4:t.length<=1000:=h.lines t ht;omega)
 rw[AF]at this;have e:[(126:UInt8),124].length=2:=rfl;rw[e]at this;have:=h.vz;unfold aPJ;omega
abbrev bHd(A:af)(g:SN)(P:Block->Fact->Bool):Prop:=∀(b:Block) (f:Fact),b.Ok->(∀s∈b.aw,vQ s=QS)->1<=b.w/\b.w<=1000->1<=b.h/\b.h<=1000->b.aw.length<=8->0<=f.a->0<=f.b->f.a<b.aw.length->f.b<b.aw.length->2<=f.kind->f.kind<=4 ->
  ∃e:Int,∀H:LO,aG A (g "p") [.agg (aDn b.w b.h b.aw),.agg (aI f)] H=QQ (.tup [.bool (P b f),vi e],H,[])
noncomputable def bGK(A:af)(n:Nat)(b:Block)(f:Fact):Bool:=match aG A n [.agg (aDn b.w b.h b.aw),.agg (aI f)] []with
 |some (.tup [.bool r,_],_,_)=>r
 |_=>QT
theorem bGd{A A1:af}{g:SN}{E:Int->Int->List Shape->Int}(F:C2 A1 g)(hE:aCD A1 g E)(hp:A.bq (g "p")=QQ (aFb A1 (g "p"))):bHd A g (bGK A1 (g "p")):=by
 intro b f hb hl hw hh h8 a0 b0 a1 b1 k2 k4;obtain⟨r,e,he⟩:=aVp F hE b f [] hb hl hw hh h8 a0 b0 a1 b1 k2 k4;have h1:bGK A1 (g "p") b f=r:=by unfold bGK;rw[he]
 refine⟨e,fun H=>?_⟩;rw[h1];refine dT ?_;rw[hp];show aFb A1 _ _ H=_;refine aQs ?_ rfl he H;have hd:gG (b.aw.map aH)=true:=aC bW _;grind [eR,aH,aA,aI,dJ,AV.under]
def Val(P:Block->Fact->Bool)(b:Block)(f:Fact)(s:Str):Prop:=
 if f.kind=0 then s=wB b else if f.kind=1 then ∃r,b.cd[f.a.toNat]? = QQ r/\r[f.b.toNat]? = QQ s
 else if f.kind=5 then ∃r l,b.bo[f.b.toNat]? = QQ r/\r[f.a.toNat]? = QQ l/\s=aO9 l else if f.kind=6 then b.lines[f.a.toNat]? = QQ s else s=if P b f then [121,101,115] else [110,111]
theorem Val.inj{P:Block->Fact->Bool}{b:Block}{f:Fact}{s t:Str}(h:Val P b f s)(h2:Val P b f t):s=t:=by unfold Val at h h2;grind
structure Qb(A:af)(g:SN)(E:Int->Int->List Shape->Int)(P:Block->Fact->Bool)(tB tP:Nat):Prop where
 hold:lp A g tB
 text:og A g tB tP
 check:Has A g "K" (tE g)
 fig:aCD A g E
 value:Has A g "J" (aAX g)
 ph:bHd A g P
section
variable {A:af}{g:SN}{tB tP:Nat}{E:Int->Int->List Shape->Int}{P:Block->Fact->Bool}
theorem bEL(F:Qb A g E P tB tP)(x:Item)(hx:x.Ok)(f:Fact)(hf:Told E x f)(H:LO):∃s:Str,(s.length<=1000000/\∀b,x.blocks[f.block.toNat]? = QQ b->Val P b f s)/\aG A (g "J") [.agg (aO x),.agg (aI f)] H=QQ (.tup [.str s,vi 0],H,[]):=by
 obtain⟨t0,t1,t2⟩:=hf;have hlt:f.block.toNat<x.blocks.length:=omT;have Gt:=AP hlt;rw[Gt];have td:=hx.blocks _ (AS hlt);obtain⟨hB,hC,hm⟩:=t2 _ Gt;have cj:(x.blocks.map aE)[f.block.toNat]? = QQ (aE x.blocks[f.block.toNat]):=by grind
 clear Gt;generalize x.blocks[f.block.toNat]=b at *;have J1:decide (f.block<0)=false:=soT;have nj:decide (f.block ≥ (x.blocks.length:Int))=false:=soT;have Bo:∀H,aG A (g "K") [.agg (aE b)] H=QQ (vi 0,H,[]):=fun H=>by
  rw[aMj F.fig F.hold.valid F.text.form F.check b td H,hC]
 have qv:=bG b;have iz:(aE b).all AV.ak=true:=bQ qv;have hK:xU b=true:=yU hB;obtain⟨k,hk,hh,⟨pa,pb⟩,hp,D5⟩:=aCE hm;have dx:0<=b.kind:=by unfold xU at hK;grind
 have M6:=fun H=>aJF F.hold.possible b.kind f.kind H;have V3:aHb b.kind f.kind=true:=by rw[D5];exact aVn hk hh dx
 rw[V3]at M6;have C1:=fun H=>aOr F.hold b td f H;have mw:((jY b).any fun y=>eqv { f with block:=0 } y)=true:=by refine KS.2 ⟨{ f with block:=0 }, ?_,by simp[eqv]⟩;unfold jY;rw[Zy hB];exact aOs hm
 rw[mw]at C1;have S5:FW 1 (aE b)=[vi b.kind]:=by obtain⟨op,n,ks,ig⟩:=eW b;rw[ig];rfl
 obtain⟨r,H',ba,e1,rfl,rfl,s,G6,rfl⟩:=F.value.bp (args:=[.agg (aO x),.agg (aI f)]) (H:=H) (K:=fun r H' wr=>wr=[]/\H'=H/\∃s:Str,(s.length<=1000000/\Val P b f s)/\r=.tup [.str s,vi 0]) (by
  simp only[aAX];simp only[aI]at C1 ⊢;simp only[go_sem,↓aB,seval,aO,J1,nj,cj,Bo,t0,AF,cF,bT.take,bT.ga,aS qv,iz,AD,AB,AA,AE];simp only[aAT];simp only[go_sem,↓aB,seval,M6,C1,S5,cF,bT.take,bT.ga,aS qv,AD,AA,AE];simp only[aAW];have Gr:FW 1 (KW 7 (aE b))=[.sl QT (b.cd.map bY)]:=by obtain⟨op,n,ks,ig⟩:=eW b;rw[ig];rfl
  have Bp:FW 1 (KW 11 (aE b))=[.sl QT (b.bo.map bS)]:=by obtain⟨op,n,ks,ig⟩:=eW b;rw[ig];rfl
  have Bq:FW 1 (KW 12 (aE b))=[.sl QT (b.lines.map aN)]:=by obtain⟨op,n,ks,ig⟩:=eW b;rw[ig];rfl
  have Gs:FW 3 (KW 8 (aE b))=[vi b.w,vi b.h,.sl QT (b.aw.map aH)]:=by obtain⟨op,n,ks,ig⟩:=eW b;rw[ig];rfl
  have Br:f.a=(pa:Int):=by rw[D5]
  have W7:f.b=(pb:Int):=by rw[D5]
  have qo:f.kind=(k:Int):=by rw[D5]
  have Cz:=aVo hk hh;have pn:∀n:Nat,(0:Int)<=(n:Int):=fun n=>by omega
  have ta:f.a.toNat=pa:=omT;have tb:f.b.toNat=pb:=omT;by_cases c0:k=0
  ·subst c0;have h4:b.kind≠4:=by grind
   have hv:b.kind=1->aBV b.expr=0:=fun h=>by unfold nU at hC;grind
   have Mm:=fun H=>aVl F.text b td hB hv h4 Bo H;have qo:f.kind=0:=qo;simp only[go_sem,↓aB,seval,qo,Mm,cF,bT.take,bT.ga,aS qv,AD,BC];exact⟨_,⟨bHX td,by unfold Val;grind⟩,rfl⟩
  have pt:b.kind=aBp k:=by grind
  by_cases c1:k=1
  ·subst c1;have qo:f.kind=1:=qo;have hp:(pa,pb)∈qA b.cd.length (aFt b):=hp;obtain⟨g1,g2⟩:=aDs.1 hp;have pt:b.kind=3:=pt;unfold xU at hK;rw[Zx omT,Zx omT,Zx omT,Zy pt]at hK;simp only[AI,AO]at hK;have cn:=hK.2 _ (AS g1);have Ut:=(td.cd _ (AS g1)).2;have hR:=AP g1;have fh:=mgE bY g1;generalize b.cd[pa]=r at *;have gu:pb<r.length:=by
    unfold aUQ at cn;simp only[AI]at cn;have:=cn.1;simp at this;have F5:aFt b=(b.cd.headD []).length:=rfl;grind
   have aIc:=mgE aN gu;simp only[go_sem,↓aB,seval,qo];refine aY (aq:=aAU) rfT rfT ?_;simp only[go_sem,↓aB,seval,aAU,Br,W7,Gr,fh,aIc,bY,aN,AU,AT,cF,AD,AB,AA,AE,BC];exact⟨_,⟨HX (Ut _ (AS gu)) deT,by unfold Val;grind⟩,rfl⟩
  by_cases c5:k=5
  ·subst c5;have qo:f.kind=5:=qo;have hp:(pa,pb)∈qA (aFu b) b.bo.length:=hp;obtain⟨g1,g2⟩:=aDs.1 hp;have pt:b.kind=5:=pt;unfold xU at hK;rw[Zx omT,Zx omT,Zx omT,Zx omT,Zx omT,Zy pt]at hK;unfold aUO at hK;simp only[AI,AO]at hK;have cn:=hK.2 _ (AS g2);have il:=td.bo _ (AS g2);have hR:=AP g2;have fh:=mgE bS g2;generalize b.bo[pb]=r at *;unfold aKL at cn;simp only[AI,AO]at cn;have gu:pa<r.length:=by
    have F5:aFu b=(b.bo.headD []).length:=rfl;grind
   have sk:=cn.2.2 _ (AS gu);have Bs:=il.2 _ (AS gu);have aIc:=mgE gH gu;have La:=AP gu;generalize r[pa]=br at *;unfold aT9 at sk;simp only[AI,AO]at sk;have Mn:=fun H=>aDB F.text.wrt.toMelFns br Bs.1 sk.2 H;simp only[go_sem,↓aB,seval,qo];refine aY (aq:=aAV) rfT rfT ?_;simp only[go_sem,↓aB,seval,aAV,Br,W7,Bp,fh,aIc,bS,gH,Mn,AU,AT,cF,AD,AB,AA,AE,BC];exact⟨_,⟨HX (aSe Bs.1) deT,by unfold Val;grind⟩,rfl⟩
  by_cases c6:k=6
  ·subst c6;have qo:f.kind=6:=qo;have hp:(pa,pb)∈qA b.lines.length 1:=hp;obtain⟨g1,g2⟩:=aDs.1 hp;have fh:=mgE aN g1;simp only[go_sem,↓aB,seval,qo,Br,Bq,fh,aN,AU,AT,cF,AD,AB,AA,AE,BC];exact⟨_,⟨HX (td.lines _ (AS g1)) deT,by unfold Val;grind⟩,rfl⟩
  have Jd:k=2∨k=3∨k=4:=omT;have Je:b.kind=4:=by rcases Jd with rfl | rfl | rfl<;>exact pt
  have xn:pa<b.aw.length/\pb<b.aw.length:=by rcases Jd with rfl | rfl | rfl<;>exact aVm (p:=(pa,pb)) hp
  unfold xU at hK;rw[Zx omT,Zx omT,Zx omT,Zx omT,Zy Je]at hK;simp only[AI,eG,AO]at hK;have n0:(f.kind==0)=false:=by grind
  have n1:(f.kind==1)=false:=by grind
  have n5:(f.kind==5)=false:=by grind
  have n6:(f.kind==6)=false:=by grind
  obtain⟨e,Jf⟩:=F.ph b f td hK.2.2 hK.1.1 hK.1.2 omT omT omT omT omT omT omT;simp only[aI]at Jf;have V:Val P b f (if P b f then [121,101,115] else [110,111]):=by unfold Val;rw[Zx omT,Zx omT,Zx omT,Zx omT]
  cases hP:P b f with
  |true=>rw[hP]at Jf V;simp only[go_sem,↓aB,seval,n0,n1,n5,n6,Gs,Jf,cF,AD,AA,AE,BC];grind
  |false=>
   rw[hP]at Jf V;simp only[go_sem,↓aB,seval,n0,n1,n5,n6,Gs,Jf,cF,AD,AA,AE,BC];grind)
 grind
end
section
variable {A:af}{g:SN}{tB tP:Nat}{E:Int->Int->List Shape->Int}{P:Block->Fact->Bool}
theorem bJV{x:Item}{f:Fact}(t0:0<=f.block)(t1:f.block<x.blocks.length){b:Block}(hb:x.blocks[f.block.toNat]? = QQ b)(hC:nU E b=0)(mw:((jY b).any fun y=>eqv { f with block:=0 } y)=QS):Told E x f:=by
 have hB:dQ b=true:=by
  unfold nU at hC;cases h:dQ b with
  |true=>rfl
  |false=>rw[h]at hC;cases hC
 refine⟨t0,t1,fun c hc=>?_⟩;rw[hb]at hc;cases hc;refine⟨hB,hC, ?_⟩;obtain⟨y,hy,he⟩:=KS.1 mw;unfold jY at hy;rw[Zy hB]at hy;have Cm:({ f with block:=0 }:Fact)=y:=by simpa [eqv]using he
 have h3:=aOs (m:=f.block) hy;rw[<- Cm]at h3;exact h3
theorem bJW(F:Qb A g E P tB tP)(x:Item)(hx:x.Ok)(f:Fact):∃(s:Str) (e:Int),s.length<=1000000/\∀y:Item,y.Ok->y.blocks=x.blocks->∀H,aG A (g "J") [.agg (aO y),.agg (aI f)] H=QQ (.tup [.str s,vi e],H,[]):=by
 have E5:∀b1:Bool,decide (f.block<0)=b1->(b1=QS∨decide (f.block ≥ (x.blocks.length:Int))=QS)->∃(s:Str) (e:Int),s.length<=1000000/\∀y:Item,y.Ok->y.blocks=x.blocks->∀H,aG A (g "J") [.agg (aO y),.agg (aI f)] H=QQ (.tup [.str s,vi e],H,[]):=fun b1 h1 h2=>by
  refine⟨[],12,deT,fun y hy hb H=>F.value.call ?_⟩;simp only[aAX];simp only[aI];cases b1 with
  |true=>simp only[go_sem,↓aB,seval,aO,hb,h1,AJ,AD,AB,AA,AE]
  |false=>
   have h2:decide (f.block ≥ (x.blocks.length:Int))=true:=by rcases h2 with h | h;cases h;exact h
   simp only[go_sem,↓aB,seval,aO,hb,h1,h2,AF,AJ,AD,AB,AA,AE]
 by_cases t0':f.block<0
 ·exact E5 QS soT (.inl rfl)
 by_cases t1':(x.blocks.length:Int)<=f.block
 ·exact E5 QT soT (.inr soT)
 have t0:0<=f.block:=omT;have t1:f.block<x.blocks.length:=omT;have hlt:f.block.toNat<x.blocks.length:=omT;have td:=hx.blocks _ (AS hlt);have Gt:=AP hlt;have cj:(x.blocks.map aE)[f.block.toNat]? = QQ (aE x.blocks[f.block.toNat]):=by rw[BN,Gt];rfl
 generalize x.blocks[f.block.toNat]=b at *;have J1:decide (f.block<0)=false:=soT;have nj:decide (f.block ≥ (x.blocks.length:Int))=false:=soT;have Bo:=fun H=>aMj F.fig F.hold.valid F.text.form F.check b td H;have qv:=bG b;have iz:(aE b).all AV.ak=true:=bQ qv;have M6:=fun H=>aJF F.hold.possible b.kind f.kind H;have C1:=fun H=>aOr F.hold b td f H;have S5:FW 1 (aE b)=[vi b.kind]:=by obtain⟨op,n,ks,ig⟩:=eW b;rw[ig];rfl
 cases z:(nU E b != 0)with
 |true=>
  refine⟨[],nU E b,deT,fun y hy hb H=>F.value.call ?_⟩;simp only[aAX];simp only[aI]at C1 ⊢;simp only[go_sem,↓aB,seval,aO,hb,J1,nj,cj,Bo,t0,AF,cF,bT.take,bT.ga,aS qv,iz,AJ,AD,AB,AA,AE]
  try simp only[aAT]
  simp only[go_sem,↓aB,seval,z,AJ]
 |false=>
 have hC:nU E b=0:=by simpa using z
 rw[hC]at Bo;cases hp:aHb b.kind f.kind with
 |false=>rw[hp]at M6;refine⟨[],13,deT,fun y hy hb H=>F.value.call ?_⟩;simp only[aAX];simp only[aI]at C1 ⊢;simp only[go_sem,↓aB,seval,aO,hb,J1,nj,cj,Bo,t0,AF,cF,bT.take,bT.ga,aS qv,iz,AJ,AD,AB,AA,AE];simp only[aAT];simp only[go_sem,↓aB,seval,M6,S5,cF,AJ,AD,AA,AE]
 |true=>
 rw[hp]at M6;cases ha:((jY b).any fun y=>eqv { f with block:=0 } y)with
 |true=>obtain⟨s,⟨h1,h2⟩,_⟩:=bEL F x hx f (bJV t0 t1 Gt hC ha) [];refine⟨s,0,h1,fun y hy hb H=>?_⟩;obtain⟨t,⟨_,h3⟩,h4⟩:=bEL F y hy f (bJV t0 (by rw[hb];exact t1) (by rw[hb];exact Gt) hC ha) H;rw[(h2 b Gt).inj (h3 b (by rw[hb];exact Gt))];exact h4
 |false=>rw[ha]at C1;refine⟨[],5,deT,fun y hy hb H=>F.value.call ?_⟩;simp only[aAX];simp only[aI]at C1 ⊢;simp only[go_sem,↓aB,seval,aO,hb,J1,nj,cj,Bo,t0,AF,cF,bT.take,bT.ga,aS qv,iz,AJ,AD,AB,AA,AE];simp only[aAT];simp only[go_sem,↓aB,seval,M6,C1,S5,cF,bT.take,bT.ga,aS qv,AJ,AD,AA,AE]
abbrev bEN(A:af)(g:SN)(V:Item->Fact->Str×Int):Prop:=∀(x:Item),x.Ok->∀(f:Fact) (H:LO),aG A (g "J") [.agg (aO x),.agg (aI f)] H=QQ (.tup [.str (V x f).1,vi (V x f).2],H,[])/\(V x f).1.length<=1000000
theorem bJG(F:Qb A g E P tB tP):∃V:Item->Fact->Str×Int,bEN A g V/\∀x y:Item,x.Ok->y.Ok->x.blocks=y.blocks->∀f,V x f=V y f:=by
 have h:∀(x:Item) (f:Fact),∃p:Str×Int,x.Ok->p.1.length<=1000000/\∀y:Item,y.Ok->y.blocks=x.blocks->∀H,aG A (g "J") [.agg (aO y),.agg (aI f)] H=QQ (.tup [.str p.1,vi p.2],H,[]):=fun x f=>by
  by_cases hx:x.Ok
  ·obtain⟨s,e,h1,h2⟩:=bJW F x hx f;exact⟨(s,e),fun _=>⟨h1,h2⟩⟩
  exact⟨([],0),fun h=>Zw h hx⟩
 refine⟨fun x f=>Classical.choose (h x f),fun x hx f H=>?_,fun x y hx hy hb f=>?_⟩
 ·have:=Classical.choose_spec (h x f) hx;exact⟨this.2 x hx rfl H,this.1⟩
 have h1:=(Classical.choose_spec (h x f) hx).2 y hy hb.symm [];rw[(Classical.choose_spec (h y f) hy).2 y hy rfl []]at h1;simp only[AG,Prod.mk.injEq,AV.tup.injEq,JG,AV.str.injEq,AV.int.injEq,true_and,and_true]at h1;exact Prod.ext h1.1.symm h1.2.symm
end
abbrev aHf(g:SN):ag:=qS [qb 23 .lss 22 21]<|.seq (qC 23 (.skip) (.exit 2))<|.seq (.block 3 (qS [qi 24 20 22 4,qla 25 4 24,qq 9 (.alloc [z0,z0,z0,z0]),qs 4 9 25]<|qS [qla 27 4 6,qla 28 4 9,qc 29 (g "J") [u 27,u 28],qm 26 29,qq 30 (.ext 0 (u 26)),qq 31 (.ext 1 (u 26)),qm 10 30,qm 11 31]<|.seq (qS [qm 32 11,qbi 33 .neq 32 0]<|qC 33 (qS [qm 34 11,qmc 2 (.sl QS []),qm 3 34]<|.ret) (.skip))<|.region QT [qm 35 7,qm 36 10,qq 37 (.bsl 1 [(.str [])] 1 [(0,(.tmp 36))]),qa 38 1 16 35 37,qm 7 38]))<|.region QT [qbi 39 .add 22 1,qm 22 39]
abbrev aHg(g:SN):ag:=qS [qb 16 .lss 15 14]<|.seq (qC 16 (.skip) (.exit 0))<|.seq (.block 1 (qS [qi 17 13 15 4,qla 18 4 17,qq 6 (.alloc [(.str []),(.sl QS []),(.sl QS []),(.sl QS [])]),qs 4 6 18]<|qS [qmc 7 (.sl QS [])]<|.seq (qS [qf 19 2 6,ql 20 1 19,qn 21 20,qmc 22 z0]<|.block 2 (.loop (aHf g)))<|.seq (.frz [(0,7)])<|.region QT [qm 40 4,qm 41 7,qq 42 (.bsl 1 [(.sl QT [])] 1 [(0,(.tmp 41))]),qa 43 1 24 40 42,qm 4 43]))<|.region QT [qbi 44 .add 15 1,qm 15 44]
def tM(g:SN):bw:=⟨46,[6,9,38,43],[.tmp 2,.tmp 3],qS [qx 1 2 0,qmc 2 (.sl QS []),qmc 3 z0]<|qS [qmc 4 (.sl QS [])]<|.seq (qS [qf 12 1 1,ql 13 1 12,qn 14 13,qmc 15 z0]<|.block 0 (.loop (aHg g)))<|qS [qm 45 4,qm 2 45,qmc 3 z0]<|.ret⟩
theorem aNo{id k:Nat}{rows:List LA}{v:AV}{o:ah}(h:ew id k rows v o)(hd:gG rows=QS):∃f l o',∀H:LO,H[id]? = QQ o->dw H v=QQ (.sl f rows,l)/\dL H l=H.set id o'/\∀b wr,b<=id->bE b wr l=wr:=by
 obtain⟨f,l,o',h1,h2,h3⟩:=h.dw hd;refine⟨f,l,o',fun H ho=>⟨?_,h2 H ho,h3⟩⟩;have e:dw H v=aA2 H v:=by cases h<;>rfl
 rw[e,h1 H ho]
def hU(R:List (List Str)):List LA:=R.map fun r=>[AV.sl QT (r.map aN)]
theorem aHh:∀R,gG (hU R)=QS
 | []=>rfl
 |r::R=>by
  show (iX [AV.sl QT (r.map aN)]&&gG (hU R))=QS;rw[aHh R];have:=cU r;simp only[bY]at this;rw[this];rfl
def bIK:List Int->Int
 | []=>0
 |e::r=>if e=0 then bIK r else e
theorem bJo{a b:List Int}{e:Int}(h:∀x∈a,x=0)(he:e≠0):bIK (a++e::b)=e:=by
 induction a with
 |nil=>simp[bIK,he]
 |cons x a ih=>have hx:x=0:=h x siT;show (if x=0 then _ else _)=_;simp_all
theorem bJf{a:List Int}(h:∀x∈a,x=0):bIK a=0:=by
 induction a with
 |nil=>rfl
 |cons x a ih=>show (if x=0 then _ else _)=_;simp_all
def bIB(V:Item->Fact->Str×Int)(items:List Item):List Int:=items.flatMap fun it=>it.facts.map fun f=>(V it f).2
theorem bJ2(V:Item->Fact->Str×Int)(a b:List Item):bIB V (a++b)=bIB V a++bIB V b:=List.flatMap_append
theorem bJ9(V:Item->Fact->Str×Int)(x:Item)(l:List Item):bIB V (x::l)=(x.facts.map fun f=>(V x f).2)++bIB V l:=List.flatMap_cons
def bIT(V:Item->Fact->Str×Int)(x:jm):Int:=bIK (bIB V x.items)
def bCF(V:Item->Fact->Str×Int)(x:jm):List (List Str):=x.items.map fun it=>it.facts.map fun f=>(V it f).1
theorem bJX{V:Item->Fact->Str×Int}{items:List Item}{k j:Nat}(hk:k<items.length)(hj:j<items[k].facts.length)(h1:∀e∈bIB V (items.take k),e=0)(h2:∀f∈items[k].facts.take j,(V items[k] f).2=0)(h3:(V items[k] items[k].facts[j]).2≠0):bIK (bIB V items)=(V items[k] items[k].facts[j]).2:=by
 have e1:items=items.take k++(items[k]::items.drop (k+1)):=by simp_all
 have e2:items[k].facts=items[k].facts.take j++(items[k].facts[j]::items[k].facts.drop (j+1)):=by simp
 have e3:bIB V items=(bIB V (items.take k)++(items[k].facts.take j).map fun f=>(V items[k] f).2)++((V items[k] items[k].facts[j]).2::(((items[k].facts.drop (j+1)).map fun f=>(V items[k] f).2)++bIB V (items.drop (k+1)))):=by
  have:bIB V items=bIB V (items.take k)++((items[k].facts.map fun f=>(V items[k] f).2)++bIB V (items.drop (k+1))):=by have h:=congrArg (bIB V) e1;rw[bJ2,bJ9]at h;exact h
  grind
 rw[e3];refine bJo (fun x hx=>?_) h3;grind
section
variable {A:af}{g:SN}{V:Item->Fact->Str×Int}
theorem bGN(F:bEN A g V)(h:Has A g "y" (tM g))(x:jm)(hx:x.Ok)(H:LO):aG A (g "y") [dE x] H=QQ (.tup [.sl QT (if bIT V x=0 then hU (bCF V x)else []),vi (bIT V x)],H,[]):=by
 obtain⟨r,H',ba,e1,rfl,rfl,rfl⟩:=h.bp (args:=[dE x]) (H:=H) (K:=fun r H' wr=>wr=[]/\H'=H/\r=.tup [.sl QT (if bIT V x=0 then hU (bCF V x)else []),vi (bIT V x)]) (by
  simp only[tM];simp only[go_sem,↓aB,seval,dE,AB,AD,AA,AE,AF];refine bJ (id:=0) (fun k ρ1 H1 wr=>wr=[]/\ρ1 15=vi (k:Nat)/\(∀e∈bIB V (x.items.take k),e=0)/\∃x0 x1 x2 x3,H1=H++[x0,x1,x2,x3]/\ew (H.length+3) 1 (hU ((x.items.take k).map fun it=>it.facts.map fun f=>(V it f).1)) (ρ1 4) x3) x.items.length
   (fun ρ1 H1 wr=>wr=[]/\(∀e∈bIB V x.items,e=0)/\∃x0 x1 x2 x3,H1=H++[x0,x1,x2,x3]/\ew (H.length+3) 1 (hU (bCF V x)) (ρ1 4) x3) bIv rfl ⟨rfl,rfl,fun e he=>(by simp[bIB]at he),_,_,_,_,rfl,.nil _⟩ ?_ ?_
  ·rintro k ρ1 H1 dc zp ⟨rfl,e15,hz,x0,x1,x2,x3,rfl,hR⟩ hf;have f13:ρ1 13=.sl QT (x.items.map aO):=hf 13 rfl;have f14:ρ1 14=vi (x.items.length:Nat):=hf 14 rfl;simp only[go_sem,↓aB,seval,e15,f14];refine aD (fun e3=>?_) (fun e3=>?_)
   ·have hlt:k<x.items.length:=by grind
    have Bm:=hx.G8;have dy:=wS (i:=k) omT;have cj:=mgE aO hlt;have kh:=hx.items _ (AS hlt);have pk:(x.items.take (k+1)).map (fun it=>it.facts.map fun f=>(V it f).1)=(x.items.take k).map (fun it=>it.facts.map fun f=>(V it f).1)++[x.items[k].facts.map fun f=>(V x.items[k] f).1]:=by rw[EW hlt,List.map_append];rfl
    have Wr:bIB V (x.items.take (k+1))=bIB V (x.items.take k)++x.items[k].facts.map fun f=>(V x.items[k] f).2:=by rw[EW hlt,bJ2,bJ9];show _++(_++[])=_;rw[AJ]
    have Ji:((x.items.take k).map fun it=>it.facts.map fun f=>(V it f).1).length<=16:=soT;have Wk:=fun j (hj:j<x.items[k].facts.length)=>bJX (V:=V) hlt hj hz;generalize (x.items.take k).map (fun it=>it.facts.map fun f=>(V it f).1)=R at *;have Wv:bIT V x=bIK (bIB V x.items):=rfl;generalize x.items[k]=it at *;have kr:=fun f H=>(F it kh f H).1;have k9:=kh.facts;have I9:=kh.B1;simp only[aO]at kr;simp only[go_sem,↓aB,seval,e15,f13,AF,AU,AT,hlt,cj,aO,AD,AB,AA,AE];refine bJ (id:=2) (fun j ρ2 H2 wr=>wr=[]/\ρ2 22=vi (j:Nat)/\(∀f∈it.facts.take j,(V it f).2=0)/\∃y1 y2,H2=H++[.box (x0.ver+1) [.str it.name,.sl QT (it.blocks.map aE),.sl QT (it.facts.map aI),.sl QT (it.ask.map gR)],y1,y2,x3]/\ew (H.length+2) 1 (((it.facts.take j).map fun f=>(V it f).1).map aN) (ρ2 7) y2) it.facts.length
     (fun ρ2 H2 wr=>wr=[]/\(∀f∈it.facts,(V it f).2=0)/\∃y1 y2,H2=H++[.box (x0.ver+1) [.str it.name,.sl QT (it.blocks.map aE),.sl QT (it.facts.map aI),.sl QT (it.ask.map gR)],y1,y2,x3]/\ew (H.length+2) 1 ((it.facts.map fun f=>(V it f).1).map aN) (ρ2 7) y2) bIv rfl ⟨rfl,rfl,fun f hf=>(by simp at hf),_,_,rfl,.nil _⟩ ?_ ?_
    ·rintro j ρ2 H2 en mo ⟨rfl,e22,l7,y1,y2,rfl,hS⟩ cq;have f20:ρ2 20=.sl QT (it.facts.map aI):=cq 20 rfl;have f21:ρ2 21=vi (it.facts.length:Nat):=cq 21 rfl;have f6:ρ2 6=.ptr H.length (x0.ver+1) 0:=cq 6 rfl;simp only[go_sem,↓aB,seval,e22,f21];refine aD (fun e4=>?_) (fun e4=>?_)
     ·have jlt:j<it.facts.length:=by grind
      have gn:=wS (i:=j) omT;have fh:=mgE aI jlt;have Wl:=Wk j jlt l7;have Uu:((it.facts.take (j+1)).map fun f=>(V it f).1).map aN=((it.facts.take j).map fun f=>(V it f).1).map aN++[aN (V it it.facts[j]).1]:=by grind [EW]
      have Ws:(V it it.facts[j]).2=0->∀f∈it.facts.take (j+1),(V it f).2=0:=fun h0 f hf=>by
       grind [EW,CG]
      have Bu:((it.facts.take j).map fun f=>(V it f).1).length<=16:=soT;generalize it.facts[j]=f at *;generalize (it.facts.take j).map (fun f=>(V it f).1)=S at *;have Da:=kr f (H++[.box (x0.ver+1) [.str it.name,.sl QT (it.blocks.map aE),.sl QT (it.facts.map aI),.sl QT (it.ask.map gR)],.box (y1.ver+1) (aI f),y2,x3]);generalize (V it f).1=s at *;generalize (V it f).2=e at *;simp only[aI]at Da;cases z:(e != 0)with
      |true=>
       have bl:e≠0:=by simpa using z
       have Ov:bIT V x=e:=Wl bl;simp only[go_sem,↓aB,seval,e22,f20,f6,AU,AT,jlt,fh,aI,AD,AB,AA,AE,Da,z];grind
      |false=>
      have Hq:e=0:=by simpa using z
      obtain⟨v',o',Mr,Gx⟩:=hS.app (new:=[aN s]) (bytes:=16) siT rfT soT;simp only[go_sem,↓aB,seval,e22,f20,f6,AU,AT,jlt,fh,aI,AD,AB,AA,AE,Da,z];have a7:=Gx (H++[.box (x0.ver+1) [.str it.name,.sl QT (it.blocks.map aE),.sl QT (it.facts.map aI),.sl QT (it.ask.map gR)],.box (y1.ver+1) [vi f.kind,vi f.block,vi f.a,vi f.b],y2,x3]) QS (by simp);rw[eS]at a7;simp only[aN]at a7;simp only[go_sem,↓aB,seval,a7,gn,e22];grind
     have:j=it.facts.length:=by grind
     subst this;rw[DM]at l7 hS;simp only[go_sem,seval];grind
    rintro ρ3 H3 wr3 ⟨rfl,l7,y1,y2,rfl,hS⟩ cq;have k4:ρ3 4=ρ1 4:=cq 4 rfl;have k15:ρ3 15=vi (k:Nat):=(cq 15 rfl).trans e15;have Bu:(it.facts.map fun f=>(V it f).1).length<=16:=soT;generalize it.facts.map (fun f=>(V it f).1)=S at *;obtain⟨fl,l,o',D1⟩:=aNo hS (aC bO S);obtain⟨S7,C3,yd⟩:=D1 (H++[.box (x0.ver+1) [.str it.name,.sl QT (it.blocks.map aE),.sl QT (it.facts.map aI),.sl QT (it.ask.map gR)],y1,y2,x3]) (by simp);rw[eS]at C3;have yd:=fun wr=>yd H.length wr omT;obtain⟨v',o2,Ms,Gx⟩:=hR.app (new:=[[.sl QT (S.map aN)]]) (bytes:=24) siT rfT (by simp[hU];omega);have a7:=Gx (H++[.box (x0.ver+1) [.str it.name,.sl QT (it.blocks.map aE),.sl QT (it.facts.map aI),.sl QT (it.ask.map gR)],y1,o',x3]) QS (by simp);rw[eS]at a7;simp only[go_sem,↓aB,seval,S7,C3,yd,k4,k15,dy,a7];refine⟨hlt,fun e he=>?_,_,_,_,_,rfl, ?_⟩
    ·grind
    grind [hU,aN]
   have:k=x.items.length:=by grind
   subst this;rw[DM]at hz hR;simp only[go_sem,seval];exact⟨hz,x0,x1,x2,x3,rfl,hR⟩
  rintro ρ' H' ba ⟨rfl,hz,x0,x1,x2,x3,rfl,hR⟩ hf;have Ov:bIT V x=0:=bJf hz;rw[Ov,Zy rfl];generalize bCF V x=R at *;obtain⟨fl,l,o',D1⟩:=aNo hR (aHh R);obtain⟨S7,C3,yd⟩:=D1 (H++[x0,x1,x2,x3]) (by grind);rw[eS]at C3;have yd:=fun wr=>yd H.length wr omT;simp only[go_sem,↓aB,seval,S7,C3,yd,aBv];have hu:(AV.tup [AV.sl QT (hU R),AV.int .i64 0]).under H.length=true:=by grind [aA,aHh,AV.under,dJ]
  rw[qQ hu,List.take_left];grind)
 exact e1
end
end Go.AM
end
