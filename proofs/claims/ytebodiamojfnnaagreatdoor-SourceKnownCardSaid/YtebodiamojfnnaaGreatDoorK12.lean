/- Part 12: lemmas for the last text. -/
import Derived.Test.YtebodiamojfnnaaGreatDoorK04
import Derived.Test.YtebodiamojfnnaaGreatDoorK10
import Derived.Test.YtebodiamojfnnaaGreatDoorK11
set_option linter.unusedVariables false
set_option linter.unusedSimpArgs false
set_option maxHeartbeats 6400000
set_option maxRecDepth 100000
open Bool renaming and_eq_true -> AI, true_beq -> CE, true_or -> EP, false_beq -> BB, false_or -> II, false_and -> BQ, true_and -> BR, true -> Qt, false -> Qu
open Go.BinOp renaming eql -> JT
open Go.IntKind renaming i64 -> AR, wrap -> GA, u8 -> KD
open Int renaming natCast_nonneg -> AU, toNat_natCast -> AT, tmod_nonneg -> HV, tmod_lt_of_pos -> GX, eq_ofNat_of_zero_le -> DN
open List renaming mem_map -> DB, length_map -> AF, getElem_mem -> AS, take_length -> DM, mem_singleton -> CG, append_assoc -> CJ, mem_cons_self -> HD, mem_cons_of_mem -> BZ, all_eq_true -> AO, mem_range -> HE, drop_succ_cons -> AB, drop_zero -> AD, take_succ_cons -> AA, take_zero -> AE, append_nil -> AJ, getElem?_cons_zero -> BG, getElem?_cons_succ -> CT, map_cons -> BI, map_nil -> BY, length_nil -> AZ, headD_nil -> OW, headD_cons -> ON, range -> GZ, range_succ -> LQ, flatMap_append -> JK, length_append -> BA, mem_cons -> BD, not_mem_nil -> CC, cons_append -> DO, nil_append -> CW, mem_append -> AY, map_append -> DQ, length_cons -> AW, getElem?_eq_getElem -> AP, getElem?_map -> BN, getD_eq_getElem?_getD -> KV, map -> DR, length -> FN, take -> FW, any_nil -> PG, mem_flatMap -> IM, any_eq_true -> KS, drop -> KW, getElem?_eq_some_iff -> AH, getElem?_set_self -> BW, getElem?_set_ne -> CL
open Nat renaming le_refl -> AQ, zero_le -> FF, zero_add -> BC, mul_le_mul -> JL, succ_mul -> JS, mul_one -> FK, mul_le_mul_right -> BO
open Option renaming some -> Qr, none -> Qs
open Option.some renaming injEq -> AG
open Prod renaming fst -> EM, snd -> GQ
open UInt8 renaming ofNat -> CN
section
namespace Go.AM
open Go
section
variable {A:af}{g:SN}{tB tP:Nat}
theorem aNj{h:List (List ct)}(h1:h.length<=16)(h2:∀b∈h,b.length<=16):(sb [124] (h.map aO9)).length<=1300:=by
 have:=aF7 (l:=h.map aO9) (sep:=[124]) (M:=80) (fun s ml=>by
  obtain⟨t,ht,rfl⟩:=DB.1 ml;exact aSe (h2 t ht))
 simp at this;omega
theorem aFs(F:MelFns A g tB tP)(l:List (List (List ct)))(hl:l.length<=16)(hs:∀h∈l,h.length<=16/\∀b∈h,b.length<=16/\∀n∈b,aGv n=Qt)(H:LO):aG A (g "cm") [.agg [.sl Qu (l.map bS)]] H=Qr (.str (aJm l),H,[]):=by
 refine F.yb.call ?_;simp only[tG];simp only[go_sem,↓aB,seval,AF];have hW:aJm l=sb [47] (l.map fun h=>sb [124] (h.map aO9)):=rfl;generalize hE:(fun h:List (List ct)=>sb [124] (h.map aO9))=E at hW;refine bJ (id:=0) (fun i ρ1 H1 wr=>wr=[]/\ρ1 12=vi (i:Nat)/\∃w o x,H1=H++[x,o]/\ρ1 3=w/\ew (H.length+1) 1 (((l.take i).map E).map aN) w o) l.length
  (fun ρ1 H1 wr=>wr=[]/\∃w o x,H1=H++[x,o]/\ρ1 3=w/\ew (H.length+1) 1 ((l.map E).map aN) w o)
  (by kernel_rfl) rfl ⟨rfl,rfl,.sl Qt [],.gone 0,.gone 0,rfl,rfl,.nil _⟩ ?_ ?_
 ·rintro i ρ1 H1 dc mg ⟨rfl,e12,w,o,x,rfl,e3,hg⟩ hf;have e11:ρ1 11=vi (l.length:Nat):=hf 11 rfl;have e10:ρ1 10=.sl Qu (l.map bS):=hf 10 rfl;simp only[go_sem,↓aB,seval,e12,e11];refine aD (fun hb=>?_) (fun hb=>?_)
  ·have hlt:i<l.length:=by simp at hb;omega
   have cj:=mgE bS hlt;obtain⟨q1,q2⟩:=hs _ (AS hlt);have pk:=lH E hlt;generalize l[i]=hd at *;have Gi:(E hd).length<=1300:=by rw[<- hE];exact aNj q1 fun b hb=>(q2 b hb).1
   have W4:sb [124] (hd.map aO9)=E hd:=by rw[<- hE]
   have dy:=wS (i:=i) (by omega);simp only[go_sem,↓aB,seval,e12,e10,AF,AU,AT,hlt,cj,bS];refine bJ (id:=2) (fun j ρ2 H2 wr=>wr=[]/\ρ2 18=vi (j:Nat)/\∃w2 o2,H2=H++[o2,o]/\ρ2 6=w2/\ew H.length 1 (((hd.take j).map aO9).map aN) w2 o2) hd.length
    (fun ρ2 H2 wr=>wr=[]/\∃w2 o2,H2=H++[o2,o]/\ρ2 6=w2/\ew H.length 1 ((hd.map aO9).map aN) w2 o2)
    (by kernel_rfl) rfl ⟨rfl,rfl,.sl Qt [],x,rfl,rfl,.nil _⟩ ?_ ?_
   ·rintro j ρ2 H2 en mo ⟨rfl,f18,w2,o2,rfl,f6,qu⟩ cq;have f17:ρ2 17=vi (hd.length:Nat):=cq 17 rfl;have f16:ρ2 16=.sl Qu (hd.map gH):=cq 16 rfl;simp only[go_sem,↓aB,seval,f18,f17];refine aD (fun dp=>?_) (fun dp=>?_)
    ·have jlt:j<hd.length:=by simp at dp;omega
     have fh:=mgE gH jlt;obtain⟨r1,r2⟩:=q2 _ (AS jlt);have sh:=lH aO9 jlt;generalize hd[j]=bar at *;have B5:=fun H=>aDB F bar r1 r2 H;obtain⟨w',o',eu,db⟩:=aEy qu (by simp;omega) (aO9 bar);rw[<- sh]at eu;have gn:=wS (i:=j) (by omega);have ln:=fun f=>db (H++[o2,o]) f (by rw[aBd];rfl);simp only[go_sem,↓aB,seval,f18,f16,f6,AU,AT,jlt,fh,gH,B5,ln,gn];exact⟨w',o',rfl,rfl,eu⟩
    have hj:j=hd.length:=by simp at dp;omega
    subst hj;rw[DM]at qu;simp only[go_sem,seval];exact⟨w2,o2,rfl,f6,qu⟩
   rintro ρ2 H2 en ⟨rfl,w2,o2,rfl,f6,qu⟩ cq;have f3:ρ2 3=w:=(cq 3 rfl).trans e3;have f12:ρ2 12=vi (i:Nat):=(cq 12 rfl).trans e12;have hj:=qI F.join qu [124] (by simp;omega) (by rw[W4];omega);rw[W4]at hj;have tt:=fun site=>hj (H++[o2,o]) site (by rw[aBd];rfl);obtain⟨w',o',eu,db⟩:=aEy hg (by simp;omega) (E hd);rw[<- pk]at eu;have ln:=fun f=>db (H++[o2,o]) f (by rw[bX];rfl);simp only[go_sem,↓aB,seval,f3,f6,f12,tt,ln,dy];exact⟨hlt,w',o',_,rfl,rfl,eu⟩
  have hi:i=l.length:=by simp at hb;omega
  subst hi;rw[DM]at hg;simp only[go_sem,seval];exact⟨w,o,x,rfl,e3,hg⟩
 rintro ρ2 H2 en ⟨rfl,w,o,x,rfl,e3,hg⟩ hf;have hj:=qI F.join hg [47] (by simp;omega) (by
  have:=aF7 (l:=l.map E) (sep:=[47]) (M:=1300) (fun s ml=>by
   obtain⟨t,ht,rfl⟩:=DB.1 ml;rw[<- hE];exact aNj (hs t ht).1 fun b hb=>((hs t ht).2 b hb).1)
  simp at this;omega)
 have tt:=fun site=>hj (H++[x,o]) site (by rw[bX];rfl);simp only[go_sem,↓aB,seval,e3,tt,hW]
end
abbrev aCz(g:SN):ag:=qS [qb 22 .lss 21 20]<|.seq (qC 22 (.skip) (.exit 2))<|.seq (.block 3 (qS [qi 23 19 21 1,ql 24 1 23,qm 9 24]<|.region Qu [qm 25 7,qm 26 3,qm 27 9,qc 28 (g "T") [u 26,u 27],qq 29 (.bsl 1 [(.str [])] 1 [(0,(.tmp 28))]),qa 30 1 16 25 29,qm 7 30]))<|.region Qu [qbi 31 .add 21 1,qm 21 31]
abbrev aCA(g:SN):ag:=qS [qb 16 .lss 15 14]<|.seq (qC 16 (.skip) (.exit 0))<|.seq (.block 1 (qS [qi 17 13 15 1,ql 18 1 17,qm 6 18]<|qS [qmc 7 (.sl Qt [])]<|.seq (qS [qm 19 6,qn 20 19,qmc 21 z0]<|.block 2 (.loop (aCz g)))<|.region Qu [qm 32 4,qm 33 7,qc 34 (g "o") [u 33,uc (.str [124])],qq 35 (.bsl 1 [(.str [])] 1 [(0,(.tmp 34))]),qa 36 1 16 32 35,qm 4 36]))<|.region Qu [qbi 37 .add 15 1,qm 15 37]
def zT(g:SN):bw:=⟨40,[30,36],[.tmp 2],qS [qx 1 1 0,qmc 2 (.str [])]<|qS [qq 10 (.bsl 1 [(.str [])] 6 [(0,(.const (.str [126]))),(1,(.const (.str [126,126]))),(2,(.const (.str [124]))),(3,(.const (.str [126,124]))),(4,(.const (.str [59]))),(5,(.const (.str [126,59])))]),qc 11 (g "ao") [u 10],qm 3 11]<|qS [qmc 4 (.sl Qt [])]<|.seq (qS [qf 12 0 1,ql 13 1 12,qn 14 13,qmc 15 z0]<|.block 0 (.loop (aCA g)))<|qS [qm 38 4,qc 39 (g "o") [u 38,uc (.str [59])],qm 2 39]<|.ret⟩
def mGp:List (UInt8×Str):=[(126,[126,126]),(124,[126,124]),(59,[126,59])]
theorem aMh:∀s:Str,nS (gI mGp) s=esc mG s
 | []=>rfl
 |c::s=>by
  rw[aAu,aFC,aMh s];congr 1;unfold mG;by_cases e1:c=126
  ·subst e1;rfl
  by_cases e2:c=124
  ·subst e2;rfl
  by_cases e3:c=59
  ·subst e3;rfl
  have:gI mGp c=none:=by simp[gI,mGp,e1,e2,e3]
  rw[aEo this];simp[e1,e2,e3]
theorem aSf(s:Str):(esc mG s).length<=2*s.length:=by
 rw[<- aMh];exact aDf (fun c t e=>by
  have:=aDg e;have h2:∀p∈mGp,p.2.length<=2:=by decide
  exact h2 _ this) (by omega) s
def aA0(H:LO)(r:Bool)(a b:ah):LO:=H++(if r then [a,b,.vec 1 1 (fP mGp),qZ 1 (H.length+5)]++uD mGp (H.length+4)else [a,b,.vec 1 1 (fP mGp),aIw 1 (H.length+2) 1 6])
section
variable {H:LO}{r:Bool}{a b x:ah}
theorem bC4:(aA0 H r a b)[H.length]? = Qr a:=by unfold aA0;rw[aBd];cases r<;>rfl
theorem bC5:(aA0 H r a b)[H.length+1]? = Qr b:=by unfold aA0;rw[bX];cases r<;>rfl
theorem bBa:(aA0 H r a b).set H.length x=aA0 H r x b:=by unfold aA0;rw[aBe];cases r<;>rfl
theorem bBb:(aA0 H r a b).set (H.length+1) x=aA0 H r a x:=by unfold aA0;rw[eS];cases r<;>rfl
theorem aVc:(aA0 H r a b).take H.length=H:=by unfold aA0;rw[aD8]
end
section
variable {A:af}{g:SN}{tB tP:Nat}
structure rj(A:af)(g:SN)(tB tP:Nat) extends MelFns A g tB tP where
 R5:Has A g "ao" (jA g)
 rpl:mh A g
 bsr:Has A g "U" (dB g)
 num:g "U" = 384
 cd:Has A g "ck" (zT g)
theorem aSg(F:rj A g tB tP){H:LO}{r:Bool}{a b:ah}{s:Str}(hs:s.length<=1000):∃wr,aG A (g "T") [.ptr (H.length+3) 1 0,.str s] (aA0 H r a b)=Qr (.str (esc mG s),aA0 H Qt a b,wr)/\∀x∈wr,H.length<=x:=by
 have hB:=aNa F.bsr F.num F.cnt mGp (by decide) (by decide) (by decide) (by decide);rw[<- aMh];cases r with
 |true=>
  have h1:(aA0 H Qt a b)[H.length+3]? = Qr (qZ 1 (H.length+5)):=by unfold aA0;rw[bX];rfl
  have h2:(aA0 H Qt a b)[H.length+5]? = Qr (.box 1 (bsr (gI mGp) (.sr (H.length+4) 1 mGp.length))):=by unfold aA0;rw[bX];rfl
  have h3:(aA0 H Qt a b)[H.length+4]? = Qr (.vec 1 1 (mGp.reverse.map fun p=>[.str [p.1]])):=by unfold aA0;rw[bX];rfl
  exact⟨[],aJs F.rpl hB hs h1 h2 h3,fun x hx=>by cases hx⟩
 |false=>
  have h1:(aA0 H Qu a b)[H.length+3]? = Qr (aIw 1 (H.length+2) 1 (fP mGp).length):=by unfold aA0;rw[bX];rfl
  have h2:(aA0 H Qu a b)[H.length+2]? = Qr (.vec 1 1 (fP mGp)):=by unfold aA0;rw[bX];rfl
  have h3:=aDd F.rpl hB (by decide) (by decide) (by decide) (by decide) hs h1 h2;refine⟨[H.length+3], ?_,fun x hx=>by rw[CG.1 hx];omega⟩;rw[h3];have hl:(aA0 H Qu a b).length=H.length+4:=by unfold aA0;simp
  rw[hl];unfold aA0;simp only[Bool.false_eq_true,Zu,Zv];rw[eS,CJ];rfl
theorem aHM(F:rj A g tB tP)(l:List (List Str))(hl:l.length<=16)(hs:∀r∈l,r.length<=16/\∀s∈r,s.length<=1000)(H:LO):aG A (g "ck") [.agg [.sl Qu (l.map bY)]] H=Qr (.str (aRX l),H,[]):=by
 refine F.cd.call ?_;have h1:=zL F.R5 mGp (by decide) (by decide) (H++[.gone 0,.gone 0]);rw[show (H++[ah.gone 0,.gone 0]).length+1=H.length+3 by simp,show H++[ah.gone 0,.gone 0]++[.vec 1 1 (fP mGp),.box 1 [.int .u32 0,.int .i32 0,.int .u32 0,.bj,.sr (H++[ah.gone 0,.gone 0]).length 1 (fP mGp).length]]=aA0 H Qu (.gone 0) (.gone 0)from by
  unfold aA0 aIw;rw[show (H++[ah.gone 0,.gone 0]).length=H.length+2 by simp,CJ];rfl]at h1
 have cn:[[AV.str [126]],[AV.str [126,126]],[AV.str [124]],[AV.str [126,124]],[AV.str [59]],[AV.str [126,59]]]=fP mGp:=rfl;simp only[zT];simp only[go_sem,↓aB,seval,AF,cn,h1];have hW:aRX l=sb [59] (l.map fun r=>sb [124] (r.map (esc mG))):=rfl;have Gi:∀r∈l,(sb [124] (r.map (esc mG))).length<=33000:=fun r hr=>by
  obtain⟨q1,q2⟩:=hs r hr;have:=aF7 (l:=r.map (esc mG)) (sep:=[124]) (M:=2000) (fun s ml=>by
   obtain⟨t,ht,rfl⟩:=DB.1 ml;have:=aSf t;have:=q2 t ht;omega)
  simp at this;omega
 generalize hE:(fun r:List Str=>sb [124] (r.map (esc mG)))=E at hW;refine bJ (id:=0) (fun i ρ1 H1 wr=>wr=[]/\ρ1 15=vi (i:Nat)/\∃w o x r,H1=aA0 H r x o/\ρ1 4=w/\ew (H.length+1) 1 (((l.take i).map E).map aN) w o) l.length
  (fun ρ1 H1 wr=>wr=[]/\∃w o x r,H1=aA0 H r x o/\ρ1 4=w/\ew (H.length+1) 1 ((l.map E).map aN) w o)
  (by kernel_rfl) rfl ⟨rfl,rfl,.sl Qt [],.gone 0,.gone 0,Qu,rfl,rfl,.nil _⟩ ?_ ?_
 ·rintro i ρ1 H1 dc mg ⟨rfl,e15,w,o,x,rb,rfl,e4,hg⟩ hf;have e14:ρ1 14=vi (l.length:Nat):=hf 14 rfl;have e13:ρ1 13=.sl Qu (l.map bY):=hf 13 rfl;have e3:ρ1 3=.ptr (H.length+3) 1 0:=hf 3 rfl;simp only[go_sem,↓aB,seval,e15,e14];refine aD (fun hb=>?_) (fun hb=>?_)
  ·have hlt:i<l.length:=by simp at hb;omega
   have cj:=mgE bY hlt;obtain⟨q1,q2⟩:=hs _ (AS hlt);have pk:=lH E hlt;have W4:sb [124] (l[i].map (esc mG))=E l[i]:=by rw[<- hE]
   have Gj:=Gi _ (AS hlt);generalize l[i]=row at *;rw[W4]at Gj;have dy:=wS (i:=i) (by omega);simp only[go_sem,↓aB,seval,e15,e13,AF,AU,AT,hlt,cj,bY];refine bJ (id:=2) (fun j ρ2 H2 wr=>wr=[]/\ρ2 21=vi (j:Nat)/\∃w2 o2 r2,H2=aA0 H r2 o2 o/\ρ2 7=w2/\ew H.length 1 (((row.take j).map (esc mG)).map aN) w2 o2) row.length
    (fun ρ2 H2 wr=>wr=[]/\∃w2 o2 r2,H2=aA0 H r2 o2 o/\ρ2 7=w2/\ew H.length 1 ((row.map (esc mG)).map aN) w2 o2)
    (by kernel_rfl) rfl ⟨rfl,rfl,.sl Qt [],x,rb,rfl,rfl,.nil _⟩ ?_ ?_
   ·rintro j ρ2 H2 en mo ⟨rfl,f21,w2,o2,r2,rfl,f7,qu⟩ cq;have f20:ρ2 20=vi (row.length:Nat):=cq 20 rfl;have f19:ρ2 19=.sl Qu (row.map aN):=cq 19 rfl;have f3:ρ2 3=.ptr (H.length+3) 1 0:=(cq 3 rfl).trans e3;simp only[go_sem,↓aB,seval,f21,f20];refine aD (fun dp=>?_) (fun dp=>?_)
    ·have jlt:j<row.length:=by simp at dp;omega
     have fh:=mgE aN jlt;have q3:=q2 _ (AS jlt);have sh:=lH (esc mG) jlt;generalize row[j]=s at *;obtain⟨wr3,c1,c2⟩:=aSg F (H:=H) (r:=r2) (a:=o2) (b:=o) q3;obtain⟨w',o',eu,db⟩:=aEy qu (by simp;omega) (esc mG s);rw[<- sh]at eu;have gn:=wS (i:=j) (by omega);have ln:=fun f=>db (aA0 H Qt o2 o) f bC4;rw[bBa]at ln;simp only[go_sem,↓aB,seval,f21,f19,f3,f7,AU,AT,jlt,fh,aN,c1,kH c2,ln,gn];exact⟨w',o',Qt,rfl,rfl,eu⟩
    have hj:j=row.length:=by simp at dp;omega
    subst hj;rw[DM]at qu;simp only[go_sem,seval];exact⟨w2,o2,r2,rfl,f7,qu⟩
   rintro ρ2 H2 en ⟨rfl,w2,o2,r2,rfl,f7,qu⟩ cq;have f4:ρ2 4=w:=(cq 4 rfl).trans e4;have f15:ρ2 15=vi (i:Nat):=(cq 15 rfl).trans e15;have hj:=qI F.join qu [124] (by simp;omega) (by rw[W4];omega);rw[W4]at hj;have tt:=fun site=>hj (aA0 H r2 o2 o) site bC4;obtain⟨w',o',eu,db⟩:=aEy hg (by simp;omega) (E row);rw[<- pk]at eu;have ln:=fun f=>db (aA0 H r2 o2 o) f bC5;rw[bBb]at ln;simp only[go_sem,↓aB,seval,f4,f7,f15,tt,ln,dy];exact⟨hlt,w',o',_,_,rfl,rfl,eu⟩
  have hi:i=l.length:=by simp at hb;omega
  subst hi;rw[DM]at hg;simp only[go_sem,seval];exact⟨w,o,x,rb,rfl,e4,hg⟩
 rintro ρ2 H2 en ⟨rfl,w,o,x,rb,rfl,e4,hg⟩ hf;have hj:=qI F.join hg [59] (by simp;omega) (by
  have:=aF7 (l:=l.map E) (sep:=[59]) (M:=33000) (fun s ml=>by
   obtain⟨t,ht,rfl⟩:=DB.1 ml;rw[<- hE];exact Gi t ht)
  simp at this;omega)
 have tt:=fun site=>hj (aA0 H rb x o) site bC5;simp only[go_sem,↓aB,seval,e4,tt,hW,aVc]
end
def aCB(g:SN):bw:=⟨9,[1],[.tmp 0],qS [qmc 0 .undef]<|qS [qq 1 (.jn),qq 2 (.build [.bx,.bx] [(0,1,(.const (.fn (g "ce") [] []))),(1,1,(.const (.fn (g "cT") [] [])))]),qz (.ins (u 1) (ui 0) (u 2)),qq 3 (.build [.bx,.bx] [(0,1,(.const (.fn (g "cg") [] []))),(1,1,(.const (.fn (g "cR") [] [])))]),qz (.ins (u 1) (ui 1) (u 3)),qq 4 (.build [.bx,.bx] [(0,1,(.const (.fn (g "ch") [] []))),(1,1,(.const (.fn (g "cU") [] [])))]),qz (.ins (u 1) (ui 2) (u 4)),qq 5 (.build [.bx,.bx] [(0,1,(.const (.fn (g "ci") [] []))),(1,1,(.const (.fn (g "cV") [] [])))]),qz (.ins (u 1) (ui 3) (u 5)),qq 6 (.build [.bx,.bx] [(0,1,(.const (.fn (g "cj") [] []))),(1,1,(.const (.fn (g "cW") [] [])))]),qz (.ins (u 1) (ui 5) (u 6)),qq 7 (.build [.bx,.bx] [(0,1,(.const (.fn (g "cf") [] []))),(1,1,(.const (.fn (g "cS") [] [])))]),qz (.ins (u 1) (ui 6) (u 7)),qm 8 1,qm 0 8]<|.ret⟩
def aDC(g:SN):bw:=⟨6,[],[.tmp 2],qS [qx 1 13 0,qmc 2 (.str [])]<|qS [qf 3 1 1,ql 4 1 3,qc 5 (g "co") [u 4],qm 2 5]<|.ret⟩
def aDD(g:SN):bw:=⟨6,[],[.tmp 2],qS [qx 1 13 0,qmc 2 (.str [])]<|qS [qf 3 2 1,qla 4 3 3,qc 5 (g "bY") [u 4],qm 2 5]<|.ret⟩
def aDE(g:SN):bw:=⟨6,[],[.tmp 2],qS [qx 1 13 0,qmc 2 (.str [])]<|qS [qf 3 5 1,qla 4 2 3,qc 5 (g "cp") [u 4],qm 2 5]<|.ret⟩
def aDF(g:SN):bw:=⟨6,[],[.tmp 2],qS [qx 1 13 0,qmc 2 (.str [])]<|qS [qf 3 7 1,qla 4 1 3,qc 5 (g "ck") [u 4],qm 2 5]<|.ret⟩
def aDG(g:SN):bw:=⟨6,[],[.tmp 2],qS [qx 1 13 0,qmc 2 (.str [])]<|qS [qf 3 11 1,qla 4 1 3,qc 5 (g "cm") [u 4],qm 2 5]<|.ret⟩
def aBY(g:SN):bw:=⟨6,[],[.tmp 2],qS [qx 1 13 0,qmc 2 (.str [])]<|qS [qf 3 12 1,ql 4 1 3,qc 5 (g "cl") [u 4],qm 2 5]<|.ret⟩
abbrev aHN(g:SN):List ae:=[qc 13 (g "bD") [],qf 14 0 1,⟨Qr 15,ol 1 14,Qs,[1]⟩,⟨Qr 16,.look (.agg [.bx,.bx]) (u 13) (u 15) Qt,Qs,[0,2,1]⟩,⟨Qr 12,om 16,Qs,[3,0,2,1]⟩,⟨Qr 17,.ext 0 (u 12),Qs,[4,3,0,2,1]⟩,⟨Qr 18,.ext 1 (u 12),Qs,[4,3,0,2,1]⟩,qq 5 (.alloc [.bx,.bx]),⟨Qs,os 2 5 17,Qs,[5,4,3,0,2,1,7]⟩,⟨Qr 6,om 18,Qs,[6,8,5,4,3,0,2,1,7]⟩]
abbrev aBZ:LN:=[0,2,7]
def aH2(g:SN):bw:=⟨25,[5],[.tmp 2,.tmp 3],qS [qx 1 13 0,qmc 2 (.str []),qmc 3 z0]<|.seq (qS [qla 7 13 1,qc 8 (g "D") [u 7],qm 4 8]<|qS [qm 9 4,qbi 10 .neq 9 0]<|qC 10 (qS [qm 11 4,qmc 2 (.str []),qm 3 11]<|.ret) (.skip))<|.seq (.region Qt (aHN g))<|.seq (qS [qm 19 6,qq 20 (.un .not (u 19))]<|qC 20 (qS [qmc 2 (.str []),qmc 3 (vi 13)]<|.ret) (.skip))<|qS [qf 21 0 5,ql 22 1 21,qla 23 13 1,qq 24 (.dm (u 22) [(.tmp 23)]),qm 2 24,qmc 3 z0]<|.ret⟩
theorem aTg:∀(m:List mr) (r:mr),(∀i,i+1<(r::m).length->sY (r::m) (i+1)≠sY (r::m) i)->(∀x∈m,x.gg=0∨x.gg=1)->Alt r.gg m
 | [],_,_,_=>trivial
 |x::m,r,h,hl=>by
  refine⟨?_,hl x HD,aTg m x (fun i hi=>?_) fun y hy=>hl y (BZ _ hy)⟩
  ·exact h 0 (by simp)
  have:=h (i+1) (by simp at hi ⊢;omega);exact this
theorem aSh{l:List mr}(h:aGx l=Qt):L6 l:=by
 simp only[aGx,AI,eG]at h;obtain⟨h1,⟨h2,_⟩,h3⟩:=h;have h4:∀r∈l,(r.gg=0∨r.gg=1)/\r.text≠[]:=fun r hr=>by
  have:=AO.1 h3 r hr;simp only[aUL,vP,AI,eG]at this;refine⟨by omega,fun e=>?_⟩;rw[e]at this;simp at this
 refine⟨fun e=>by rw[e]at h2;simp at h2,h4,fun r m e=>?_⟩;subst e;refine aTg m r (fun i hi=>?_) fun x hx=>(h4 x (BZ _ hx)).1;unfold aWm at h1;have:=AO.1 h1 i (HE.2 (by simp at hi ⊢;omega));simpa using this
theorem qJ{α:Type}{l:List α}(h:(1:Int)<=l.length):l≠[]:=fun e=>by rw[e]at h;simp at h
theorem aZG{b:Block}(h:dQ b=Qt)(h4:b.kind≠4)(h1:b.kind=1->aBV b.expr=0):Ai b:=by
 unfold dQ at h;rw[AI,fO]at h;obtain⟨ho,hk⟩:=h;unfold xU at hk;have pt:b.kind=0∨b.kind=1∨b.kind=2∨b.kind=3∨b.kind=5∨b.kind=6:=by refine Classical.byContradiction fun hn=>?_;rw[Zx (by omega),Zx (by omega),Zx (by omega),Zx (by omega),Zx h4,Zx (by omega),Zx (by omega)]at hk;cases hk
 refine⟨ho,pt,fun k=>?_,fun k=>aKQ (h1 k),fun k=>?_,fun k=>?_,fun k=>?_,fun k=>?_⟩
 ·rw[Zy k]at hk;exact aSh hk
 ·rw[Zx (by omega),Zx (by omega),Zy k]at hk;simp only[AI,eG]at hk;obtain⟨wx,_,Az⟩:=hk;refine⟨by simp at wx;omega,fun n hn=>?_⟩;have:=AO.1 Az n hn;simp only[aUP,eG]at this;exact this.1
 ·rw[Zx (by omega),Zx (by omega),Zx (by omega),Zy k]at hk;simp only[AI,eG]at hk;obtain⟨⟨hl,_⟩,hr⟩:=hk;refine⟨qJ hl,fun r hm=>?_⟩;have:=AO.1 hr r hm;simp only[aUQ,AI,eG]at this;exact qJ this.2.1.1
 ·rw[Zx (by omega),Zx (by omega),Zx (by omega),Zx (by omega),Zx (by omega),Zy k]at hk;simp only[aUO,AI,eG]at hk;obtain⟨⟨hl,_⟩,hr⟩:=hk;refine⟨qJ hl,fun hd hm=>?_⟩;have:=AO.1 hr hd hm;simp only[aKL,AI,eG]at this;refine⟨qJ this.2.1.1,fun bar sk=>?_⟩;have:=AO.1 this.2.2 bar sk;simp only[aT9,AI,eG]at this;refine⟨qJ this.1.1,fun n hn=>?_⟩;have:=AO.1 this.2 n hn;simp only[aGv,AI,eG]at this;exact⟨this.1.1.1,this.1.1.2,this.1.2.1,this.1.2.2,this.2.1,this.2.2⟩
 rw[Zx (by omega),Zx (by omega),Zx (by omega),Zx (by omega),Zx (by omega),Zx (by omega),Zy k]at hk;simp only[AI,eG]at hk;exact qJ hk.1.1
section
variable {A:af}{g:SN}{tB tP:Nat}
def aH3:LA:=[vi 0,vi 1,vi 2,vi 3,vi 5,vi 6]
def aH4(g:SN):LA:=[("ce","cT"),("cg","cR"),("ch","cU"),("ci","cV"),("cj","cW"),("cf","cS")].map fun p=>.agg [.fn (g p.1) [] [],.fn (g p.2) [] []]
theorem aVd{base o v:Nat}{H:LO}:aDR base H (.mp o v)=match H[o]? with
  |some (.map v' es)=>if v'=v/\base<=o then Qr (.fmp (es.map EM) (es.map GQ),H.set o (.gone v),[o])else Qr (.mp o v,H,[])
  |_=>Qr (.mp o v,H,[]):=rfl
theorem aQe(h:Has A g "bD" (aCB g))(H:LO):aG A (g "bD") [] H=Qr (.fmp aH3 (aH4 g),H,[]):=by refine h.call ?_;simp only[aCB];simp only[go_sem,↓aB,seval,aVd,AQ];rw[qQ (by rfl),aD8];exact⟨rfl,rfl,rfl⟩
structure og(A:af)(g:SN)(tB tP:Nat):Prop where
 form:lu A g
 wrt:rj A g tB tP
 B9:aBk A g
 ways:Has A g "bD" (aCB g)
 w1:Has A g "ce" (aDC g)
 w3:Has A g "cg" (aDD g)
 w4:Has A g "ch" (aDE g)
 w6:Has A g "ci" (aDF g)
 w8:Has A g "cj" (aDG g)
 w10:Has A g "cf" (aBY g)
 text:Has A g "bT" (aH2 g)
theorem aYc(F:og A g tB tP)(b:Block)(hb:b.Ok)(h:dQ b=Qt)(h1:b.kind=1->aBV b.expr=0):b.kind≠4 ->∃j,j<6/\aH3[j]? = Qr (vi b.kind)/\∃f1 f2,(aH4 g)[j]? = Qr (.agg [.fn f1 [] [],.fn f2 [] []])/\∀H,aG A f1 [.agg (aE b)] H=Qr (.str (wB b),H,[]):=by
 intro h4;have hk:xU b=true:=by unfold dQ at h;simp only[AI]at h;exact h.2
 obtain⟨op,n,ks,mn⟩:∃op n ks,b.expr=Expr.mk op n ks:=by cases b.expr;exact⟨_,_,_,rfl⟩
 have vt:aF b.expr=[vi op,vi n,.sl Qu (ks.map aF)]:=by rw[mn,aF,aZ]
 have ig:aE b=[vi b.kind,.sl Qu (b.runs.map cZ),vi op,vi n,.sl Qu (ks.map aF),vi b.dn,.sl Qu (b.eg.map bF),.sl Qu (b.cd.map bY),vi b.w,vi b.h,.sl Qu (b.aw.map aH),.sl Qu (b.bo.map bS),.sl Qu (b.lines.map aN)]:=by unfold aE;rw[vt];rfl
 unfold xU at hk;by_cases k0:b.kind=0
 ·refine⟨0,by decide,by rw[k0];rfl,_,_,rfl,fun H=>?_⟩;have hw:wB b=aHA 0 b.runs:=by unfold wB;rw[Zy k0]
  have hr:=aHK F.wrt.toWrtFns b.runs hb.vw (fun r hr=>(hb.runs r hr).text) H;rw[hw,ig];refine F.w1.call ?_;simp only[aDC];simp only[go_sem,↓aB,seval,hr,AB,AD,AA,AE,AJ]
 by_cases k1:b.kind=1
 ·refine⟨1,by decide,by rw[k1];rfl,_,_,rfl,fun H=>?_⟩;have hw:wB b=wX b.expr:=by unfold wB;rw[Zx k0,Zy k1]
  have hr:=aJt F.form F.B9 b.expr hb.expr hb.size (h1 k1) H;rw[vt]at hr;rw[hw,ig];refine F.w3.call ?_;simp only[aDD];simp only[go_sem,↓aB,seval,hr,AB,AD,AA,AE,AJ]
 by_cases k2:b.kind=2
 ·refine⟨2,by decide,by rw[k2];rfl,_,_,rfl,fun H=>?_⟩;rw[Zx k0,Zx k1,Zy k2]at hk;simp only[AI,eG]at hk;obtain⟨wx,_,Az⟩:=hk;have hw:wB b=aWn b.dn b.eg:=by unfold wB;rw[Zx k0,Zx k1,Zy k2]
  have hr:=aJD F.wrt.toWrtFns b.dn b.eg (by simp at wx;omega) hb.tj (fun n hn=>by
   have:=AO.1 Az n hn;simp only[aUP,eG]at this;exact this) H
  rw[hw,ig];refine F.w4.call ?_;simp only[aDE];simp only[go_sem,↓aB,seval,hr,AB,AD,AA,AE,AJ]
 by_cases k3:b.kind=3
 ·refine⟨3,by decide,by rw[k3];rfl,_,_,rfl,fun H=>?_⟩;have hw:wB b=aRX b.cd:=by unfold wB;rw[Zx k0,Zx k1,Zx k2,Zy k3]
  have hr:=aHM F.wrt b.cd hb.uu hb.cd H;rw[hw,ig];refine F.w6.call ?_;simp only[aDF];simp only[go_sem,↓aB,seval,hr,AB,AD,AA,AE,AJ]
 by_cases k5:b.kind=5
 ·refine⟨4,by decide,by rw[k5];rfl,_,_,rfl,fun H=>?_⟩;rw[Zx k0,Zx k1,Zx k2,Zx k3,Zx h4,Zy k5]at hk;simp only[aUO,AI,eG]at hk;obtain⟨_,hH⟩:=hk;have hw:wB b=aJm b.bo:=by unfold wB;rw[Zx k0,Zx k1,Zx k2,Zx k3,Zy k5]
  have hr:=aFs F.wrt.toMelFns b.bo hb.uv (fun x hx=>⟨(hb.bo x hx).1,fun bar sk=>⟨((hb.bo x hx).2 bar sk).1,fun nt Fw=>by
   have h1:=AO.1 hH x hx;simp only[aKL,AI]at h1;have h2:=AO.1 h1.2.2 bar sk;simp only[aT9,AI]at h2;exact AO.1 h2.2 nt Fw⟩⟩) H
  rw[hw,ig];refine F.w8.call ?_;simp only[aDG];simp only[go_sem,↓aB,seval,hr,AB,AD,AA,AE,AJ]
 by_cases k6:b.kind=6
 ·refine⟨5,by decide,by rw[k6];rfl,_,_,rfl,fun H=>?_⟩;have hw:wB b=aPJ b.lines:=by unfold wB;rw[Zx k0,Zx k1,Zx k2,Zx k3,Zx k5]
  have hr:=aH1 F.wrt.toWrtFns b.lines (by have:=hb.vz;omega) hb.lines H;rw[hw,ig];refine F.w10.call ?_;simp only[aBY];simp only[go_sem,↓aB,seval,hr,AB,AD,AA,AE,AJ]
 rw[Zx k0,Zx k1,Zx k2,Zx k3,Zx h4,Zx k5,Zx k6]at hk;cases hk
theorem aSi{k:Int}{v:AV}:∀j<6,aH3[j]? = Qr (vi k)->(aH4 g)[j]? = Qr v->iB (vi k) (aH3.zip (aH4 g)) 0=Qr (Qr (j,v)):=by
 intro j hj h1 h2;rcases j with _ | _ | _ | _ | _ | _ | j
 all_goals first
  |omega
  | (simp only[aH3,BG,CT,AG,AV.int.injEq,true_and]at h1;subst h1;simp only[aH4,BI,BG,CT,AG]at h2;subst h2;rfl)
end
def tH(g:SN)(b:Int)(n:String):AV:=.agg [vi b,.fn (g n) [] []]
def aMi(g:SN):LA:=[tH g (-1) "cA",tH g 3 "cB",tH g 4 "cC",tH g 4 "cD",tH g 4 "cE",
 tH g 5 "cF",tH g 6 "cG"]
def aSj(g:SN):LA:=[.fmp [vi 0,vi 1,vi 2,vi 3,vi 4,vi 5,vi 6] (aMi g)]
def wG(g:SN):bw:=⟨18,[],[.tmp 4],qS [qx 2 2 0,qmc 4 (.bool Qu)]<|qS [qf 5 0 2,ql 6 1 5,qm 7 1,qb 8 .eql 6 7,qm 9 8,qF 10 9 (of 0 2),qF 11 9 (ol 1 10),qF 12 9 (obi .lss 11 0),qF 13 9 (om 12),qT 14 13 (om 1),qT 15 13 (obi .neq 14 4),qF 16 9 (op 13 15),qq 17 (.pick (u 9) uT (u 16)),qm 4 17]<|.ret⟩
def aC0(g:SN):bw:=⟨14,[],[.tmp 2],qS [qx 1 13 0,qmc 2 z0]<|.seq (qS [qf 3 7 1,qf 4 0 3,ql 5 1 4,qn 6 5,qbi 7 .eql 6 0]<|qC 7 (qS [qmc 2 z0]<|.ret) (.skip))<|qS [qf 8 7 1,qf 9 0 8,ql 10 1 9,qq 11 (.iaV (u 10) (ui 0) 1),ql 12 1 11,qn 13 12,qm 2 13]<|.ret⟩
def aH5(g:SN):bw:=⟨14,[],[.tmp 2],qS [qx 1 13 0,qmc 2 z0]<|.seq (qS [qf 3 11 1,qf 4 0 3,ql 5 1 4,qn 6 5,qbi 7 .eql 6 0]<|qC 7 (qS [qmc 2 z0]<|.ret) (.skip))<|qS [qf 8 11 1,qf 9 0 8,ql 10 1 9,qq 11 (.iaV (u 10) (ui 0) 1),ql 12 1 11,qn 13 12,qm 2 13]<|.ret⟩
def wH(g:SN):bw:=⟨4,[],[.tmp 2],qS [qx 1 13 0,qmc 2 .bx]<|qS [qc 3 (g "t") [ui 1,ui 1],qm 2 3]<|.ret⟩
abbrev aBB(g:SN):List ae:=[qf 3 7 1,⟨Qr 4,of 0 3,Qs,[0]⟩,⟨Qr 5,ol 1 4,Qs,[1,0]⟩,⟨Qr 6,on 5,Qs,[2,1,0]⟩,qla 7 13 1,⟨Qr 8,oc (g "cz") [u 7],Qs,[4]⟩,⟨Qr 9,oc (g "t") [u 6,u 8],Qs,[3,2,1,0,5,4]⟩,⟨Qr 2,om 9,Qs,[6,3,2,1,0,5,4]⟩]
abbrev pQ:LN:=[2,5]
def wI(g:SN):bw:=⟨10,[],[.tmp 2],qS [qx 1 13 0,qmc 2 .bx]<|.seq (.region Qt (aBB g))<|.ret⟩
def wJ(g:SN):bw:=⟨5,[],[.tmp 2],qS [qx 1 13 0,qmc 2 .bx]<|qS [qla 3 13 1,qc 4 (g "bb") [u 3,ui 2],qm 2 4]<|.ret⟩
def wK(g:SN):bw:=⟨5,[],[.tmp 2],qS [qx 1 13 0,qmc 2 .bx]<|qS [qla 3 13 1,qc 4 (g "bb") [u 3,ui 3],qm 2 4]<|.ret⟩
def wL(g:SN):bw:=⟨5,[],[.tmp 2],qS [qx 1 13 0,qmc 2 .bx]<|qS [qla 3 13 1,qc 4 (g "bb") [u 3,ui 4],qm 2 4]<|.ret⟩
abbrev aBC(g:SN):List ae:=[qla 3 13 1,⟨Qr 4,oc (g "cy") [u 3],Qs,[0]⟩,qf 5 11 1,⟨Qr 6,of 0 5,Qs,[2]⟩,⟨Qr 7,ol 1 6,Qs,[3,2]⟩,⟨Qr 8,on 7,Qs,[4,3,2]⟩,⟨Qr 9,oc (g "t") [u 4,u 8],Qs,yq5⟩,⟨Qr 2,om 9,Qs,yq6⟩]
abbrev pR:LN:=[1,4]
def wM(g:SN):bw:=⟨10,[],[.tmp 2],qS [qx 1 13 0,qmc 2 .bx]<|.seq (.region Qt (aBC g))<|.ret⟩
def wN(g:SN):bw:=⟨7,[],[.tmp 2],qS [qx 1 13 0,qmc 2 .bx]<|qS [qf 3 12 1,ql 4 1 3,qn 5 4,qc 6 (g "t") [u 5,ui 1],qm 2 6]<|.ret⟩
structure ke(A:af)(g:SN):Prop where
 noY:sn A
 has:Has A g "bp" (wG g)
 cd:Has A g "t" (aGW g)
 za:Has A g "C" (yR g)
 aw:Has A g "bb" (aDr g)
 uy:Has A g "bc" (rG g)
 I8:Has A g "cz" (aC0 g)
 bars:Has A g "cy" (aH5 g)
 f1:Has A g "cA" (wH g)
 f2:Has A g "cB" (wI g)
 f3:Has A g "cC" (wJ g)
 f4:Has A g "cD" (wK g)
 f5:Has A g "cE" (wL g)
 f6:Has A g "cF" (wM g)
 f7:Has A g "cG" (wN g)
def lJ(b kind:Int):Bool:=(b==kind) || (decide (b<0)&&(kind != 4))
section
variable {A:af}{g:SN}
theorem eW(b:Block):∃(op n:Int) (ks:List Expr),aE b=[vi b.kind,.sl Qu (b.runs.map cZ),vi op,vi n,.sl Qu (ks.map aF),vi b.dn,.sl Qu (b.eg.map bF),.sl Qu (b.cd.map bY),vi b.w,vi b.h,.sl Qu (b.aw.map aH),.sl Qu (b.bo.map bS),.sl Qu (b.lines.map aN)]:=by
 obtain⟨op,n,ks,mn⟩:∃op n ks,b.expr=Expr.mk op n ks:=by cases b.expr;exact⟨_,_,_,rfl⟩
 refine⟨op,n,ks, ?_⟩;unfold aE;rw[mn,aF,aZ];rfl
theorem aL9(F:ke A g)(b kind:Int)(n:String)(H:LO):aG A (g "bp") [tH g b n,vi kind] H=Qr (.bool (lJ b kind),H,[]):=by
 refine F.has.call ?_;simp only[wG,lJ,tH];cases e1:(b==kind)with
 |true=>simp only[go_sem,↓aB,seval,e1,CE,EP]
 |false=>cases e2:decide (b<0)with
  |false=>simp only[go_sem,↓aB,seval,e1,e2,Zz,BB,II,BQ]
  |true=>simp only[go_sem,↓aB,seval,e1,e2,Zz,II,BR]
theorem aDH(F:ke A g)(n m:Nat)(H:LO):aG A (g "t") [vi n,vi m] H=Qr (.fn (g "C") [] [.ep [vi n] 0,.ep [vi m] 0],H,[]):=by refine F.cd.call ?_;simp only[aGW];simp only[go_sem,↓aB,seval,AJ]
theorem aCC(F:ke A g)(b:Block)(kind:Int)(H:LO):aG A (g "bb") [.agg (aE b),vi kind] H=Qr (.fn (g "bc") [] [.ep (aE b) 0,.ep [vi kind] 0],H,[]):=by refine F.aw.call ?_;simp only[aDr];obtain⟨c2,c3,c4,ig⟩:=eW b;rw[ig];simp only[go_sem,↓aB,seval,AJ];rw[jG (AQ _)];exact⟨rfl,rfl,rfl⟩
def aFt(b:Block):Nat:=(b.cd.headD []).length
def aFu(b:Block):Nat:=(b.bo.headD []).length
theorem aLa(F:ke A g)(b:Block)(H:LO):aG A (g "cz") [.agg (aE b)] H=Qr (vi (aFt b),H,[]):=by
 refine F.I8.call ?_;simp only[aC0];obtain⟨c2,c3,c4,ig⟩:=eW b;rw[ig];cases hg:b.cd with
 |nil=>simp only[go_sem,↓aB,seval,aFt,hg,AJ,AB,AD,AA,AE,BY,AZ,OW]
 |cons r rs=>
  have hz:(((rs.length+1:Nat):Int)==0)=false:=by simp;omega
  simp only[go_sem,↓aB,seval,aFt,hg,hz,AJ,AB,AD,AA,AE,AF,ON,BI,BG,bY]
theorem aQf(F:ke A g)(b:Block)(H:LO):aG A (g "cy") [.agg (aE b)] H=Qr (vi (aFu b),H,[]):=by
 refine F.bars.call ?_;simp only[aH5];obtain⟨c2,c3,c4,ig⟩:=eW b;rw[ig];cases hg:b.bo with
 |nil=>simp only[go_sem,↓aB,seval,aFu,hg,AJ,AB,AD,AA,AE,BY,AZ,OW]
 |cons r rs=>
  have hz:(((rs.length+1:Nat):Int)==0)=false:=by simp;omega
  simp only[go_sem,↓aB,seval,aFu,hg,hz,AJ,AB,AD,AA,AE,AF,ON,BI,BG,bS]
def aWq(b:Block):Nat->aEw
 |0=>qA 1 1
 |1=>qA b.cd.length (aFt b)
 |2=>iI b.aw 2 b.aw.length b.aw.length
 |3=>iI b.aw 3 b.aw.length b.aw.length
 |4=>iI b.aw 4 b.aw.length b.aw.length
 |5=>qA (aFu b) b.bo.length
 |_=>qA b.lines.length 1
def aBp:Nat->Int
 |0 => -1
 |1=>3
 |2=>4
 |3=>4
 |4=>4
 |5=>5
 |_=>6
def aVe:Nat->String
 |0=> "cA"
 |1=> "cB"
 |2=> "cC"
 |3=> "cD"
 |4=> "cE"
 |5=> "cF"
 |_=> "cG"
theorem aJE{α:Type}{l:List (List α)}{n:Nat}(h:∀r∈l,r.length<=n):(l.headD []).length<=n:=by
 cases l with
 |nil=>exact FF _
 |cons r rs=>exact h r HD
theorem aSk(F:ke A g)(b:Block)(hb:b.Ok)(k:Nat)(hk:k<7):∃f ay,jc ay/\aV7 A f ay (aWq b k)/\∀H:LO,aG A (g (aVe k)) [.agg (aE b)] H=Qr (.fn f [] ay,H,[]):=by
 have hc:aFt b<=16:=aJE fun r hr=>(hb.cd r hr).1;have Ix:aFu b<=16:=aJE fun r hr=>(hb.bo r hr).1;have hg:=hb.uu;have hs:=hb.fg;have hh:=hb.uv;have hl:=hb.vz;have cg:∀n m:Nat,jc [.ep [vi n] 0,.ep [vi m] 0]:=fun n m=>(cQ.ep _ _).ep _ _;have cs:∀k:Int,jc [.ep (aE b) 0,.ep [vi k] 0]:=fun k=>(cQ.ep _ _).ep _ _;obtain⟨c2,c3,c4,ig⟩:=eW b
 match k,hk with
 |0,_=>refine⟨_,_,cg 1 1,aDt F.za (by omega) (by omega),fun H=>?_⟩;have h1:aG A (g "t") [vi 1,vi 1] H=Qr (.fn (g "C") [] [.ep [vi 1] 0,.ep [vi 1] 0],H,[]):=aDH F 1 1 H;refine F.f1.call ?_;simp only[wH];rw[ig];simp only[go_sem,↓aB,seval,h1,AJ,BC]
 |1,_=>refine⟨_,_,cg b.cd.length (aFt b),aDt F.za (by omega) (by omega),fun H=>?_⟩;have h1:aG A (g "t") [vi b.cd.length,vi (aFt b)] H=Qr (.fn (g "C") [] [.ep [vi b.cd.length] 0,.ep [vi (aFt b)] 0],H,[]):=aDH F b.cd.length (aFt b) H;have h2:=aLa F b H;rw[ig]at h2;refine F.f2.call ?_;simp only[wI];rw[ig];simp only[go_sem,↓aB,seval];refine aY (aq:=pQ) (by rfl) (by rfl) ?_;simp only[go_sem,↓aB,seval,pQ,h1,h2,AJ,AB,AD,AA,AE,AF,BC,Zz,eH,dG,aL]
 |2,_=>refine⟨_,_,cs 2,aCw F.uy b 2 (by omega),fun H=>?_⟩;have h1:=aCC F b 2 H;rw[ig]at h1;refine F.f3.call ?_;simp only[wJ];rw[ig];simp only[go_sem,↓aB,seval,h1,AJ,AD,AA,AE,BC];rw[jG (AQ _)];exact⟨rfl,rfl,rfl⟩
 |3,_=>refine⟨_,_,cs 3,aCw F.uy b 3 (by omega),fun H=>?_⟩;have h1:=aCC F b 3 H;rw[ig]at h1;refine F.f4.call ?_;simp only[wK];rw[ig];simp only[go_sem,↓aB,seval,h1,AJ,AD,AA,AE,BC];rw[jG (AQ _)];exact⟨rfl,rfl,rfl⟩
 |4,_=>refine⟨_,_,cs 4,aCw F.uy b 4 (by omega),fun H=>?_⟩;have h1:=aCC F b 4 H;rw[ig]at h1;refine F.f5.call ?_;simp only[wL];rw[ig];simp only[go_sem,↓aB,seval,h1,AJ,AD,AA,AE,BC];rw[jG (AQ _)];exact⟨rfl,rfl,rfl⟩
 |5,_=>refine⟨_,_,cg (aFu b) b.bo.length,aDt F.za (by omega) (by omega),fun H=>?_⟩;have h1:aG A (g "t") [vi (aFu b),vi b.bo.length] H=Qr (.fn (g "C") [] [.ep [vi (aFu b)] 0,.ep [vi b.bo.length] 0],H,[]):=aDH F (aFu b) b.bo.length H;have h2:=aQf F b H;rw[ig]at h2;refine F.f6.call ?_;simp only[wM];rw[ig];simp only[go_sem,↓aB,seval];refine aY (aq:=pR) (by rfl) (by rfl) ?_;simp only[go_sem,↓aB,seval,pR,h1,h2,AJ,AB,AD,AA,AE,AF,BC,Zz,eH,dG,aL]
 |6,_=>refine⟨_,_,cg b.lines.length 1,aDt F.za (by omega) (by omega),fun H=>?_⟩;have h1:aG A (g "t") [vi b.lines.length,vi 1] H=Qr (.fn (g "C") [] [.ep [vi b.lines.length] 0,.ep [vi 1] 0],H,[]):=aDH F b.lines.length 1 H;refine F.f7.call ?_;simp only[wN];rw[ig];simp only[go_sem,↓aB,seval,h1,AJ,AB,AD,AA,AE,AF,BC]
end
def aAQ(g:SN):ag:=.block 2 (.dz (.tmp 24) [25,26] (.seq (qS [qm 8 25]<|.region Qu [qm 9 26])<|.block 3 (qR [ql 27 1 5,ql 28 1 6,ql 29 1 3,qm 30 8,qm 31 9,qq 32 (.build [z0,z0,z0,z0] [(0,1,(.tmp 28)),(1,1,(.tmp 29)),(2,1,(.tmp 30)),(3,1,(.tmp 31))]),qq 33 (.bsl 4 [z0,z0,z0,z0] 1 [(0,(.tmp 32))]),qa 34 4 32 27 33,qs 1 5 34])))
abbrev aH6(g:SN):ag:=qS [qbi 11 .lss 10 7]<|.seq (qC 11 (.skip) (.exit 0))<|.seq (.block 1 (qS [qm 12 10,qq 6 (.alloc [z0]),qs 1 6 12]<|qS [qq 13 (.load 1 Qu (uc (.ep (aSj g) 0))),ql 14 1 6,qq 15 (.look (.agg [z0,.bx]) (u 13) (u 14) Qu),qq 7 (.alloc [z0,.bx]),qs 2 7 15]<|.seq (qS [qla 16 2 7,qf 17 0 2,ql 18 1 17,qc 19 (g "bp") [u 16,u 18],qq 20 (.un .not (u 19))]<|qC 20 (.exit 1) (.skip))<|qS [qf 21 1 7,ql 22 1 21,qla 23 13 2,qq 24 (.dm (u 22) [(.tmp 23)])]<|aAQ g))<|.region Qu [qbi 35 .add 10 1,qm 10 35]
def oZ(g:SN):bw:=⟨37,[5,6,7,25,34],[.tmp 4],qS [qx 2 13 0,qx 3 1 1,qmc 4 (.sl Qt [])]<|qS [qq 5 (.alloc [(.sl Qt [])])]<|.seq (qS [qmc 10 z0]<|.block 0 (.loop (aH6 g)))<|qS [ql 36 1 5,qm 4 36]<|.ret⟩
def aF8(b:Block)(at':Int)(k:Nat):List Fact:=if lJ (aBp k) b.kind then (aWq b k).map fun p=>⟨k,at',p.1,p.2⟩ else []
def nO(b:Block)(at':Int)(n:Nat):List Fact:=(GZ n).flatMap (aF8 b at')
def eM(b:Block)(at':Int):List Fact:=nO b at' 7
theorem aAR{b:Block}{at':Int}{n:Nat}:nO b at' (n+1)=nO b at' n++aF8 b at' n:=by unfold nO;rw[LQ,JK];simp
theorem aNk{b:Block}(hb:b.Ok)(k:Nat):(aWq b k).length<=256:=by
 have hc:aFt b<=16:=aJE fun r hr=>(hb.cd r hr).1;have Ix:aFu b<=16:=aJE fun r hr=>(hb.bo r hr).1;have hs:∀kind,(iI b.aw kind b.aw.length b.aw.length).length<=256:=fun kind=>by
  have h1:=List.length_filter_le (fun p:Nat×Nat=>aGY b.aw kind p.1 p.2) (qA b.aw.length b.aw.length);rw[rH]at h1;have h2:b.aw.length*b.aw.length<=16*16:=JL hb.fg hb.fg;unfold iI;omega
 unfold aWq;split
 ·rw[rH];decide
 ·rw[rH];exact JL hb.uu hc
 ·exact hs _
 ·exact hs _
 ·exact hs _
 ·rw[rH];exact JL Ix hb.uv
 rw[rH];have:=hb.vz;omega
theorem yT{b:Block}(hb:b.Ok){at':Int}(n:Nat):(nO b at' n).length<=n*256:=by
 induction n with
 |zero=>exact AQ _
 |succ n ih=>
  rw[aAR,BA,JS];have:(aF8 b at' n).length<=256:=by
   unfold aF8;split
   ·rw[AF];exact aNk hb n
   exact FF _
  omega
def bBc(base:Nat)(w:AV)(x4:ah)(rows:List Fact):Prop:=(rows=[]/\w=.sl Qt [])∨(rows≠[]/\∃ver,w=.sr (base+4) ver rows.length/\x4=.vec ver 4 (rows.map aI))
abbrev bBd:ag:=.seq (qS [qm 8 25]<|.region Qu [qm 9 26])<|.block 3 (qR [ql 27 1 5,ql 28 1 6,ql 29 1 3,qm 30 8,qm 31 9,qq 32 (.build [z0,z0,z0,z0] [(0,1,(.tmp 28)),(1,1,(.tmp 29)),(2,1,(.tmp 30)),(3,1,(.tmp 31))]),qq 33 (.bsl 4 [z0,z0,z0,z0] 1 [(0,(.tmp 32))]),qa 34 4 32 27 33,qs 1 5 34])
abbrev bBe(base v:Nat)(l:LA):ah:=.rnd v base [5,6,7,25,34] [25,26] bBd l Qu Qs
def FI(H:LO)(k:Nat)(at':Int)(v v6:Nat)(x2:ah)(tail:LO)(pre:List Fact)(p:aEw)(X:LO):Prop:=∃w x4 l,X=H++(.box 1 [w]::.box v6 [vi k]::x2::bBe H.length v l::x4::tail)/\l.length=37 /\
 ck l 5=.ptr H.length 1 0/\ck l 6=.ptr (H.length+1) v6 0/\ck l 3=.ep [vi at'] 0/\bBc H.length w x4 (pre++p.map fun q=>⟨k,at',q.1,q.2⟩)
theorem aOo{b a1 a2 a3 a4 a5 o v t:Nat}(h:([a1,a2,a3,a4,a5].contains t)=Qu)(ht:t<YF):(⟨b,[a1,a2,a3,a4,a5,YF+o,YF+v]⟩:Ctx).site (Qr t)=none:=by
 unfold Ctx.site;dsimp only;rw[List.idxOf?_eq_none_iff.2]
 ·rfl
 rw[<- Bool.not_eq_true,List.contains_iff_mem]at h;simp only[BD,CC,or_false,not_or]at h ⊢;exact⟨h.1,h.2.1,h.2.2.1,h.2.2.2.1,h.2.2.2.2,by omega,by omega⟩
section
variable {A:af}{g:SN}
theorem aYd(hY:sn A)(H:LO)(k:Nat)(at':Int)(v v6:Nat)(x2:ah)(tail:LO)(pre:List Fact)(sd:pre.length<=10000):ux A (H.length+3) v H.length (H.length+5+tail.length) (FI H k at' v v6 x2 tail pre):=by
 refine⟨fun p X hX=>?_,fun p X Y a b hp ha hb hX=>?_⟩
 ·obtain⟨w,x4,l,rfl,_⟩:=hX;simp;omega
 obtain⟨w,x4,l,rfl,hl,h5,h6,h3,hw⟩:=hX;rw[CJ];simp only[DO];obtain⟨e,H',wr,h1,he,h2,h4⟩:=mT hY (K:=fun e H' wr=>e=.normal/\(∃H0,H'=H0++Y/\FI H k at' v v6 x2 tail pre (p++[(a,b)]) H0)/\∀x∈wr,H.length<=x) (N:=37) (l:=l) (xs:=[vi a,vi b]) (o:=H.length+3) (v:=v)
  (H:=H++(.box 1 [w]::.box v6 [vi k]::x2::bBe H.length v l::x4::(tail++Y))) (by rw[bX];rfl) rfl (by kernel_rfl) (by kernel_rfl) hl (by
   have hs:ck (dH l [25,26] [vi a,vi b])=upd (upd (ck l) 25 (vi a)) 26 (vi b):=by show ck ((l.set 25 (vi a)).set 26 (vi b))=_;rw[nG (by rw[List.length_set];omega),nG (by omega)]
   rw[hs];generalize hρ:ck l=ρ at *;simp only[DO,CW];simp only[go_sem,↓aB,seval];have Iy:(⟨H.length,[5,6,7,25,34,YF+(H.length+3),YF+v]⟩:Ctx).site (Qr 33)=none:=aOo (by rfl) (by decide);have fq:∀{w2:LN} {n:Nat},(∀x∈w2,H.length<=x)->∀x∈List.range' H.length n++(H.length+3)::w2,H.length<=x:=fun {w2 n} h x hx=>by
    rcases AY.1 hx with hx | hx
    ·rw[List.mem_range'_1]at hx;exact hx.1
    rcases BD.1 hx with rfl | hx
    ·omega
    exact h x hx
   refine⟨_,_,_,_,_,rfl, ?_⟩;have H7:(pre++p.map fun q=>(⟨k,at',q.1,q.2⟩:Fact)).length<=20000:=by rw[BA,AF];omega
   have lv:(pre++(p++[(a,b)]).map fun q=>(⟨k,at',q.1,q.2⟩:Fact))=(pre++p.map fun q=>(⟨k,at',q.1,q.2⟩:Fact))++[⟨k,at',a,b⟩]:=by rw[DQ,CJ];rfl
   generalize hR:(pre++p.map fun q=>(⟨k,at',q.1,q.2⟩:Fact))=R at *;have Gk:4<tail.length+Y.length+1+1+1+1+1:=by omega
   rcases hw with⟨rfl,rfl⟩ | ⟨bl,ver,rfl,rfl⟩
   ·have hr:bP 1 32=true:=by decide
    simp only[go_sem,↓aB,seval,h5,h6,h3,Iy,AD,AB,AA,AE,eX,cG,dO,hr,AW,AZ,CW,AJ,Gk];exact⟨_,_,_,_,_,rfl,⟨_,(CJ H (_::_::_::_::_::tail) Y).symm,⟨_,_,l,rfl,hl,by rw[hρ];exact h5,by rw[hρ];exact h6,by rw[hρ];exact h3,by rw[lv];exact .inr ⟨by simp,_,rfl,rfl⟩⟩⟩,fq (by simp)⟩
   have hr:bP (R.length+1) 32=true:=by unfold bP;simp;omega
   simp only[go_sem,↓aB,seval,h5,h6,h3,Iy,AD,AB,AA,AE,eX,cG,dO,hr,AW,AZ,AF];exact⟨_,_,_,_,_,rfl,⟨_,(CJ H (_::_::_::_::_::tail) Y).symm,⟨_,_,l,rfl,hl,by rw[hρ];exact h5,by rw[hρ];exact h6,by rw[hρ];exact h3,by rw[lv];exact .inr ⟨by simp,ver,by rw[BA];rfl,by rw[DQ];rfl⟩⟩⟩,fq (by simp)⟩)
 subst he;obtain⟨H0,rfl,h2⟩:=h2;exact⟨H0,wr,h1,h2,h4⟩
theorem aNl{k:Nat}(hk:k<7):iB (vi k) ([vi 0,vi 1,vi 2,vi 3,vi 4,vi 5,vi 6].zip (aMi g)) 0=Qr (Qr (k,tH g (aBp k) (aVe k))):=by
 match k,hk with
 |0,_=>rfl
 |1,_=>rfl
 |2,_=>rfl
 |3,_=>rfl
 |4,_=>rfl
 |5,_=>rfl
 |6,_=>rfl
theorem aOp(F:ke A g)(h:Has A g "G" (oZ g))(b:Block)(hb:b.Ok)(at':Int)(H:LO):∃r,((eM b at'=[]/\r=.sl Qu [])∨(eM b at'≠[]/\r=.own 4 ((eM b at').map aI)))/\aG A (g "G") [.agg (aE b),vi at'] H=Qr (r,H,[]):=by
 obtain⟨r,H',ba,e1,rfl,rfl,e2⟩:=h.bp (args:=[.agg (aE b),vi at']) (H:=H) (K:=fun r H' wr=>wr=[]/\H'=H/\((eM b at'=[]/\r=.sl Qu [])∨(eM b at'≠[]/\r=.own 4 ((eM b at').map aI)))) (by
  obtain⟨op,n,ks,ig⟩:=eW b;have Bi:=fun k hk=>aSk F b hb k hk;simp only[oZ];rw[ig];rw[ig]at Bi;simp only[go_sem,↓aB,seval];refine bJ (id:=0) (fun k ρ1 H1 wr=>wr=[]/\ρ1 10=vi (k:Nat)/\∃w x1 x2 x3 x4 tail,H1=H++(.box 1 [w]::x1::x2::x3::x4::tail)/\bBc H.length w x4 (nO b at' k)) 7
   (fun ρ1 H1 wr=>wr=[]/\∃w x1 x2 x3 x4 tail,H1=H++(.box 1 [w]::x1::x2::x3::x4::tail)/\bBc H.length w x4 (eM b at')) (by kernel_rfl) rfl ⟨rfl,rfl,_,_,_,_,_,_,rfl,.inl ⟨rfl,rfl⟩⟩ ?_ ?_
  ·rintro k ρ1 H1 dc zp ⟨rfl,e10,w,x1,x2,x3,x4,tail,rfl,hw⟩ hf;have f2:ρ1 2=.ep [vi b.kind,.sl Qu (b.runs.map cZ),vi op,vi n,.sl Qu (ks.map aF),vi b.dn,.sl Qu (b.eg.map bF),.sl Qu (b.cd.map bY),vi b.w,vi b.h,.sl Qu (b.aw.map aH),.sl Qu (b.bo.map bS),.sl Qu (b.lines.map aN)] 0:=hf 2 rfl;have f3:ρ1 3=.ep [vi at'] 0:=hf 3 rfl;have f5:ρ1 5=.ptr H.length 1 0:=hf 5 rfl;simp only[go_sem,↓aB,seval,e10];refine aD (fun e3=>?_) (fun e3=>?_)
   ·have hlt:k<7:=by simp at e3;omega
    have dy:=wS (i:=k) (by omega);have wj:=aNl (g:=g) hlt;obtain⟨f,ay,cm,M5,az⟩:=Bi k hlt;have C0:=fun H=>aL9 F (aBp k) b.kind (aVe k) H;simp only[tH]at wj C0;have qe:1<tail.length+1+1+1+1+1:=by omega
    have iq:2<tail.length+1+1+1+1+1:=by omega
    simp only[go_sem,↓aB,seval,e10,f2,aSj,wj,qe,iq,AW,AJ,AB,AD,AA,AE,C0];cases hh:lJ (aBp k) b.kind with
    |false=>
     have hk:nO b at' (k+1)=nO b at' k:=by rw[aAR];unfold aF8;rw[hh];simp
     simp only[go_sem,↓aB,seval,e10,dy];exact⟨hlt,_,_,_,_,_,_,rfl,by rw[hk];exact hw⟩
    |true=>
     have hk:nO b at' (k+1)=nO b at' k++(aWq b k).map fun q=>⟨k,at',q.1,q.2⟩:=by rw[aAR];unfold aF8;rw[hh];rfl
     simp only[go_sem,↓aB,seval,f2,az,AJ,AB,AD,AA,AE];simp only[aAQ];simp only[go_sem,seval];have I9:=aNk hb k;have sd:(nO b at' k).length<=10000:=by have:=yT hb (at':=at') k;omega
     refine wC (id:=H.length+3) (v:=x3.ver+1) (X:=fun l=>H++(.box 1 [w]::.box (x1.ver+1) [vi k]::.box (x2.ver+1) [vi (aBp k),.fn (g (aVe k)) [] []]::bBe H.length (x3.ver+1) l::x4::tail)) (by rfl) (by rfl) (by simp) (fun _=>by rfl) (by unfold bH;rw[bX];rfl) (fun l=>by rw[sV];rfl) ?_;intro l hl he;obtain⟨H',X,en,j1,⟨w',x4',l',rfl,jl,j5,j6,j3,jw⟩,j4⟩:=M5 (H.length+3) (x3.ver+1) H.length (H.length+5+tail.length) (FI H k at' (x3.ver+1) (x1.ver+1) (.box (x2.ver+1) [vi (aBp k),.fn (g (aVe k)) [] []]) tail (nO b at' k)) _ (aYd F.noY H k at' _ _ _ tail _ sd) ⟨w,x4,l,rfl,hl,by rw[he];exact f5,by rw[he];rfl,by rw[he];exact f3,by rw[BY,AJ];exact hw⟩;rw[<- hk]at jw;refine⟨_,_,_,_,_,_,_,_,Qs,j1,by rw[CJ];simp only[DO];rw[bX];rfl, ?_⟩;rw[kH (fun x hx=>by rcases BD.1 hx with rfl | hx;exact Nat.le_add_right _ _;exact j4 x hx),CJ];simp only[DO];rw[eS];show pP 2 _ _ .normal _ _ _;simp only[go_sem,↓aB,seval,e10,dy];exact⟨hlt,_,_,_,_,_,_,rfl,jw⟩
   have:k=7:=by simp at e3;omega
   subst this;simp only[go_sem,seval];exact⟨w,x1,x2,x3,x4,tail,rfl,hw⟩
  rintro ρ' H' ba ⟨rfl,w,x1,x2,x3,x4,tail,rfl,hw⟩ hf;have f5:ρ' 5=.ptr H.length 1 0:=hf 5 rfl;rcases hw with⟨e0,rfl⟩ | ⟨bl,ver,rfl,rfl⟩
  ·simp only[go_sem,↓aB,seval,f5,AD,AA,AE];exact .inl e0
  have hd:gG ((eM b at').map aI)=true:=aC eL _;simp only[go_sem,↓aB,seval,f5,AD,AA,AE,aT hd,aA hd,AF];exact .inr bl)
 exact⟨r,e2,e1⟩
end
def aQg:LA:=[[99,104,111,105,99,101],[99,111,117,110,116],[111,112,101,110]].map AV.str
abbrev sD(g:SN):ag:=qS [qb 29 .lss 28 27]<|.seq (qC 29 (.skip) (.exit 0))<|.seq (.block 1 (qS [qi 30 26 28 1,ql 31 1 30,qm 5 31]<|qS [qm 32 0,qc 33 (g "e") [u 32,uc (.str [110,101,101,100])]]<|.region Qu [qm 34 0,qm 35 5,qq 36 (.bsl 1 [z0] 1 [(0,(.tmp 35))]),qc 37 (g "l") [u 34,u 36]]))<|.region Qu [qbi 38 .add 28 1,qm 28 38]
abbrev sE:LN:=[29,30,31,5,32,33,34,35,36,37,38,28]
abbrev sF(g:SN):ag:=qS [qb 47 .lss 46 45]<|.seq (qC 47 (.skip) (.exit 2))<|.seq (.block 3 (qS [qm 48 46,qi 49 44 46 1,ql 50 1 49,qm 6 48,qm 7 50]<|qS [qm 51 0,qc 52 (g "e") [u 51,uc (.str [111,112,116,105,111,110])]]<|qS [qm 53 0,qm 54 7,qc 55 (g "v") [u 53,u 54]]<|.region Qu [qm 56 0,qf 57 6 3,ql 58 1 57,qm 59 6,qi 60 58 59 1,ql 61 1 60,qc 62 (g "v") [u 56,u 61]]))<|.region Qu [qbi 63 .add 46 1,qm 46 63]
abbrev sG:LN:=[47,48,49,50,6,7,51,52,53,54,55,56,57,58,59,60,61,62,63,46]
def eN(g:SN):bw:=⟨64,[3],[],qS [qx 3 7 1]<|qS [qm 8 0,qc 9 (g "e") [u 8,uc (.str [97,115,107])]]<|qS [qm 10 0,qf 11 0 3,ql 12 1 11,qq 13 (.iaA 3 1 (uc (.ep aQg 0)) (u 12)),ql 14 1 13,qc 15 (g "q") [u 10,u 14]]<|qS [qm 16 0,qf 17 5 3,ql 18 1 17,qq 19 (.bsl 1 [z0] 1 [(0,(.tmp 18))]),qc 20 (g "l") [u 16,u 19]]<|qS [qm 21 0,qf 22 4 3,ql 23 1 22,qc 24 (g "v") [u 21,u 23]]<|.seq (qS [qf 25 3 3,ql 26 1 25,qn 27 26,qmc 28 z0]<|.block 0 (.loop (sD g)))<|qS [qm 39 0,qf 40 1 3,ql 41 1 40,qc 42 (g "aD") [u 39,u 41]]<|qS [qf 43 2 3,ql 44 1 43,qn 45 44,qmc 46 z0]<|.block 2 (.loop (sF g))⟩
theorem aSl{k:Int}(h0:0<=k)(h1:k<=2):∃w:Str,w.length<=6/\(aQg.drop k.toNat).take 1=[.str w]/\k.toNat+1<=aQg.length:=by
 have:∀i<3,∃w:Str,w.length<=6/\(aQg.drop i).take 1=[.str w]/\i+1<=aQg.length:=by
  intro i hi
  match i,hi with
  |0,_=>exact⟨_,by decide,rfl,by decide⟩
  |1,_=>exact⟨_,by decide,rfl,by decide⟩
  |2,_=>exact⟨_,by decide,rfl,by decide⟩
 exact this _ (by omega)
section
variable {A:af}{g:SN}{tB tP:Nat}
theorem aLb(F:BlockPrt A g tB tP)(h:Has A g "aC" (eN g))(q:Question)(hq:q.Ok)(hb:aWp q=Qt):aNb A (g "aC") [.agg (gR q)] 150000:=by
 refine h.prt rfl (by simp[eN]) (fun n=>by kernel_rfl) ?_;intro H ty o v o2 v2 T c hT Aw;unfold aWp aGx at hb;simp only[AI,eG]at hb;obtain⟨⟨⟨⟨⟨⟨⟨⟨b1,b2⟩,b3⟩,b4⟩,⟨b5,b6⟩⟩,⟨b7,b8⟩⟩,⟨b9,b10⟩⟩,b11⟩,b12,b13⟩:=hb;rw[AO]at b10;have b2':q.kind<3:=by omega
 have b4':q.options.length=q.dv.length:=by simp at b4;omega
 obtain⟨w,dy,gn,pr⟩:=aSl b1 b2;have c':∀y:ah,gf (H++[y]).length o o2:=fun y=>c.mono (by simp);have tx:∀{s:Str},lI s->s.length<=1000:=fun h=>h;have hr:∀r∈q.lk,r.text.length<=200 /\ -1000000<r.gg/\r.gg<1000000:=fun r hr=>by
  have h1:=b3.2.2;rw[AO]at h1;have:=h1 r hr;unfold aUL vP at this;simp only[AI,eG]at this;exact⟨by omega,by omega,by omega⟩
 have Mb:=mS F.toOutFns [q.points] Qu (by simp) (by simp;omega);simp only[eN];simp only[go_sem,↓aB,seval,gR,mO c,aFE c,iZ];refine bI (fQ F.toOutFns [97,115,107] (by decide)) (c' _) hT (by show T.length+4<=_;omega) ?_;rintro T1 dc k1 k2 k3;have k2:T1.length<=T.length+4:=k2;simp only[go_sem,↓aB,seval,mO c,AD,AA,AE,b1,b2',gn,pr,BC,FK];refine bI (pY F.toOutFns w (by omega)) (c' _) k1 (by omega) ?_;rintro T2 en m1 m2 m3;simp only[go_sem,↓aB,seval,mO c,AB,AD,AA,AE];refine bI Mb (c' _) m1 (by simp;omega) ?_;rintro T3 wr3 n1 n2 n3;have n2:T3.length<=T2.length+9:=n2;simp only[go_sem,↓aB,seval,mO c,AB,AD,AA,AE];have Y2:q.key.length<=1000:=hq.key;refine bI (sZ F.toTextFns q.key Y2) (c' _) n1 (by omega) ?_;rintro T4 wr4 p1 p2 p3;simp only[go_sem,↓aB,seval,mO c,AB,AD,AA,AE,AF];generalize hx:ah.box _ [vi q.kind,AV.sl Qu (q.lk.map cZ),.sl Qu (q.options.map aN),.sl Qu (q.cy.map bF),.str q.key,vi q.points,.sl Qu (q.dv.map aN)]=x;refine kU (fun L wr=>L=[x]/\Wr2 o o2 wr) 0 1 28 27 29 38 q.cy.length 20 (W:=sE) (by rfl) (by kernel_rfl) rfl rfl rfl (by omega) p1 ⟨rfl,bZ (bZ (bZ (bZ kT k3) m3) n3) p3⟩ ?_ ?_
 ·rintro i ρ1 L1 T5 wr5 hlt e8 hf ⟨rfl,g3⟩ g1 g2;have e6:ρ1 26=.sl Qu (q.cy.map bF):=hf 26 rfl;have e0:ρ1 0=.ptr o v 0:=hf 0 rfl;have cj:=mgE bF hlt;have a1:=b10 _ (AS hlt);generalize q.cy[i]=nd at *;unfold aOl at a1;rw[eG]at a1;have I0:=mS F.toOutFns [nd] Qu (by simp) (by simp;omega);have dp:i*20+20<=q.cy.length*20:=by omega
  simp only[go_sem,↓aB,seval,e8,e6,e0,AU,AT,cj,bF];refine bI (fQ F.toOutFns [110,101,101,100] (by decide)) (c' _) g1 (by show T5.length+5<=_;omega) ?_;rintro T6 wr6 r1 r2 r3;have r2:T6.length<=T5.length+5:=r2;simp only[go_sem,↓aB,seval,e0];refine bI I0 (c' _) r1 (by simp;omega) ?_;rintro T7 wr7 s1 s2 s3;have s2:T7.length<=T6.length+9:=s2;simp only[go_sem,↓aB,seval];exact⟨rfl,_,T7,⟨rfl,bZ (bZ g3 r3) s3⟩,s1,by omega,rfl⟩
 rintro ρ2 L2 T5 wr5 ⟨rfl,g3⟩ g1 g2 hf;have e0:ρ2 0=.ptr o v 0:=hf 0 rfl;have e3:ρ2 3=.ptr H.length 1 0:=hf 3 rfl;have xd:q.cy.length*20<=160:=by omega
 subst hx;simp only[go_sem,↓aB,seval,e0,e3,mO c,AB,AD,AA,AE];refine bI (aNc F.toTextFns F.runs q.lk hq.fg hr) (c' _) g1 (by have:=hq.fg;omega) ?_;rintro T6 wr6 r1 r2 r3;have r2:T6.length<=T5.length+6720:=by have:=hq.fg;omega
 simp only[go_sem,↓aB,seval,e3,mO c,AB,AD,AA,AE,AF];generalize hx:ah.box _ [vi q.kind,AV.sl Qu (q.lk.map cZ),.sl Qu (q.options.map aN),.sl Qu (q.cy.map bF),.str q.key,vi q.points,.sl Qu (q.dv.map aN)]=x;refine kU (fun L wr=>L=[x]/\Wr2 o o2 wr) 2 3 46 45 47 63 q.options.length 5000 (W:=sG) (by rfl) (by kernel_rfl) rfl rfl rfl (by omega) r1 ⟨rfl,bZ g3 r3⟩ ?_ ?_
 ·rintro i ρ1 L1 T7 wr7 hlt e8 cq ⟨rfl,j3⟩ j1 j2;have f44:ρ1 44=.sl Qu (q.options.map aN):=cq 44 rfl;have f0:ρ1 0=.ptr o v 0:=(cq 0 rfl).trans e0;have f3:ρ1 3=.ptr H.length 1 0:=(cq 3 rfl).trans e3;have cj:=mgE aN hlt;have Bj:i<q.dv.length:=by omega
  have Bk:=mgE aN Bj;have a1:=hq.options _ (AS hlt);have a2:=hq.dv _ (AS Bj);generalize q.options[i]=s1 at *;generalize q.dv[i]=s2 at *;have a1:s1.length<=1000:=a1;have a2:s2.length<=1000:=a2;have dp:i*5000+5000<=q.options.length*5000:=by omega
  have D3:q.options.length*5000<=30000:=by omega
  simp only[go_sem,↓aB,seval,e8,f44,f0,AU,AT,cj,aN];refine bI (fQ F.toOutFns [111,112,116,105,111,110] (by decide)) (c' _) j1 (by show T7.length+7<=_;omega) ?_;rintro T8 wr8 l1 l2 l3;have l2:T8.length<=T7.length+7:=l2;simp only[go_sem,↓aB,seval,f0];refine bI (sZ F.toTextFns s1 a1) (c' _) l1 (by omega) ?_;rintro T9 wr9 t1 t2 t3;subst hx;simp only[go_sem,↓aB,seval,f0,f3,mO c,AU,AT,Bk,aN,AB,AD,AA,AE];refine bI (sZ F.toTextFns s2 a2) (c' _) t1 (by omega) ?_;rintro T10 wr10 u1 u2 u3;simp only[go_sem,↓aB,seval];exact⟨rfl,_,T10,⟨rfl,bZ (bZ (bZ j3 l3) t3) u3⟩,u1,by omega,rfl⟩
 rintro ρ3 L3 T7 wr7 ⟨rfl,j3⟩ j1 j2 cq;have D3:q.options.length*5000<=30000:=by omega
 simp only[go_sem,seval];exact⟨rfl,[x],T7,j1,by omega,rfl,j3⟩
end
structure oh(A:af)(g:SN)(tB:Nat):Prop where
 val:kc A g tB
 fact:Has A g "ac" (yQ g)
 ask:Has A g "af" (oH g)
 Gl:Has A g "ag" (jI g)
 Bl:Has A g "aC" (eN g)
theorem aSm{k:Int}(h0:0<=k)(h1:k<=6):∃w:Str,w.length<=6/\(aQ0.drop k.toNat).take 1=[.str w]/\k.toNat+1<=aQ0.length:=by
 have:∀i<7,∃w:Str,w.length<=6/\(aQ0.drop i).take 1=[.str w]/\i+1<=aQ0.length:=by
  intro i hi
  match i,hi with
  |0,_=>exact⟨_,by decide,rfl,by decide⟩
  |1,_=>exact⟨_,by decide,rfl,by decide⟩
  |2,_=>exact⟨_,by decide,rfl,by decide⟩
  |3,_=>exact⟨_,by decide,rfl,by decide⟩
  |4,_=>exact⟨_,by decide,rfl,by decide⟩
  |5,_=>exact⟨_,by decide,rfl,by decide⟩
  |6,_=>exact⟨_,by decide,rfl,by decide⟩
 exact this _ (by omega)
section
variable {A:af}{g:SN}{tB:Nat}
theorem aVf(h:oh A g tB)(x:Item)(hx:x.Ok)(H:LO):aG A (g "ad") [.agg (aO x)] H=Qr (.bool (aGU x),H,[]):=by
 refine h.val.item.call ?_;have hw:=kO h.val.blk.within;have hl:∀{n:Nat},n<=16->n<4611686018427387904:=fun h=>by omega
 have h0:=fun H=>aGw h.val.name h.val.M3 h.val.M4 h.val.blk.sj hw x.name H (by have:x.name.length<=1000:=hx.name;omega);have h1:=fun H=>h.val.R9.spec hw bT cQ (l:=x.blocks) (H:=H) (f1:=g "aR") (q:=dQ) (lo:=0) (hi:=8) (hl hx.zq) fun _ b hb=>aEX h.val.blk b (hx.blocks b hb) H;have h2:=fun H=>h.val.B6.spec hw lF cQ (l:=x.facts) (H:=H) (f1:=g "ac") (q:=aHJ) (lo:=0) (hi:=8) (hl hx.B1) fun _ b _=>aMe h.fact hw b H;have h3:=fun H=>h.val.S0.spec hw aY1 cQ (l:=x.ask) (H:=H) (f1:=g "af") (q:=aWp) (lo:=0) (hi:=4) (hl hx.tj) fun _ b hb=>aGV h.ask h.Gl h.val.blk b (hx.ask b hb) H;simp only[yO,aGU];cases e0:aO7 x.name with
 |false=>simp only[go_sem,↓aB,seval,aO,h0,e0,BQ,BB]
 |true=>cases e1:(wi x.blocks.length 0 8&&x.blocks.all dQ)with
  |false=>simp only[go_sem,↓aB,seval,aO,h0,h1,e0,e1,BQ,BR,Zz,BB]
  |true=>cases e2:(wi x.facts.length 0 8&&x.facts.all aHJ)with
   |false=>simp only[go_sem,↓aB,seval,aO,h0,h1,h2,e0,e1,e2,BQ,BR,Zz,BB]
   |true=>simp only[go_sem,↓aB,seval,aO,h0,h1,h2,h3,e0,e1,e2,BR,Zz]
theorem yU{b:Block}(h:dQ b=Qt):xU b=true:=by unfold dQ at h;simp only[AI]at h;exact h.2
theorem aSn{i n m:Nat}(h:i<n):i*m+m<=n*m:=by rw[<- JS];exact BO _ h
theorem aVg(F:uw A g tB)(Mc:Has A g "aC" (eN g))(x:jm)(hx:x.Ok)(hn:x.items.length<=12)(hi:∀i∈x.items,aGU i=Qt)(H:LO):∃s:Str,s.length<=100000000/\aG A (g "bM") [dE x] H=Qr (.str s,H,[]):=by
 obtain⟨v',H',ba,h1,rfl,rfl,s,rfl,hs⟩:=F.source.bp (args:=[dE x]) (H:=H) (K:=fun v H' wr=>wr=[]/\H'=H/\∃s:Str,v=.str s/\s.length<=100000000) (by
  have hf:=aIA F.toOutFns (H:=H++[.cw 1 167 [.nilPtr,.ar],.gone 0,.gone 0,.gone 0,.gone 0]) (o:=H.length) (v:=1) (s:=[101,120,97,109]) (by simp) (by simp) (by decide);rw[show (H++[ah.cw 1 167 [.nilPtr,.ar],.gone 0,.gone 0,.gone 0,.gone 0]).length=H.length+5 by simp,aBe,List.set_cons_zero,CJ]at hf;have c':∀{L:LO},L.length=6->gf (H++L).length H.length (H.length+5):=fun h=>⟨by simp;omega,by simp;omega,by omega⟩;have gy:=fun(T:Str) (b c d e:ah)=>aNe (H:=H) (ty:=167) (v:=1) (v2:=1) (T:=T) (a:=.gone 0) (b:=b) (c:=c) (d:=d) (e:=e) (f:=.gone 0);rw[show [ah.cw 1 167 [.ptr H.length 1 0,.sr (H.length+5) 1 ([101,120,97,109]:Str).length],ah.gone 0,.gone 0,.gone 0,.gone 0]++[.gl 1 5 1 (rb [101,120,97,109])]=[.cw 1 167 [.ptr H.length 1 0,.sr (H.length+5) 1 ([101,120,97,109]:Str).length],.gone 0,.gone 0,.gone 0,.gone 0,.gl 1 5 1 (rb [101,120,97,109])] from rfl,gy]at hf;have od:∀{w:LN},Wr2 H.length (H.length+5) w->bE H.length [] w=[]:=fun {w} h=>by
   induction w with
   |nil=>rfl
   |cons x r ih=>
    have hx:H.length<=x:=by rcases h x (by simp)with e | e<;>omega
    unfold bE;rw[Zx (by intro hh;simp at hh;omega)];exact ih fun y hy=>h y (by simp[hy])
  have m1:∀{i:Nat} {X:LO} {T:Str},i≠0->i≠5->(PSt X 167 H.length 1 (H.length+5) 1 T)[H.length+i]? = X[H.length+i]? := fun h h'=>aKX h h';have n1:∀{X:LO} {T:Str},(PSt X 167 H.length 1 (H.length+5) 1 T)[H.length+1]? = X[H.length+1]? := m1 (by decide) (by decide);have S3:x.title.length<=1000:=hx.title;simp only[yM];simp only[go_sem,↓aB,seval,dE,hf];refine bI (sZ F.toTextFns x.title S3) (c' rfl) (by simp) (by show 4+_<=_;omega) ?_;rintro T1 dc a1 a2 a3;have a2:T1.length<=4+(2*x.title.length+3):=a2;simp only[go_sem,↓aB,seval,od a3,AB,AD,AA,AE,AF];refine kU (fun L wr=>L.length=6/\wr=[]) 0 1 23 22 24 80 x.items.length 5600000 (W:=zQ) (by rfl) (by kernel_rfl) rfl (by rfl) (by rfl) (by omega) a1 ⟨rfl,rfl⟩ ?_ ?_
  ·rintro i ρ1 L1 T2 en hlt e23 cq ⟨hL,rfl⟩ g1 g2;obtain⟨x0,x1,x2,x3,x4,x5,rfl⟩:=uI hL;have e3:ρ1 3=.ptr H.length 1 0:=cq 3 rfl;have e21:ρ1 21=.sl Qu (x.items.map aO):=cq 21 rfl;have cj:=mgE aO hlt;have W5:=hi _ (AS hlt);have kh:=hx.items _ (AS hlt);have Y0:=aSn (m:=5600000) hlt;generalize x.items[i]=it at *;have hN:x.items.length*5600000<=67200000:=BO 5600000 hn;unfold aGU at W5;simp only[AI,eG,AO]at W5;obtain⟨⟨⟨b1,⟨b2,b3⟩,b4⟩,⟨b5,b6⟩,b7⟩,⟨b8,b9⟩,b10⟩:=W5;have W6:it.name.length<=1000:=kh.name;have Iz:it.blocks.length<=8:=by omega
   have Ja:it.facts.length<=8:=by omega
   have Jb:it.ask.length<=4:=by omega
   have n2:∀{X:LO} {T:Str} {x:ah},(PSt X 167 H.length 1 (H.length+5) 1 T).set (H.length+1) x=PSt (X.set (H.length+1) x) 167 H.length 1 (H.length+5) 1 T:=aCr (by decide) (by decide);have n3:∀{X:LO} {T:Str},bH (PSt X 167 H.length 1 (H.length+5) 1 T) (H.length+1)=bH X (H.length+1):=aEr (by decide) (by decide);have n4:∀{X:LO} {T:Str} {mk:Nat->ah},make (PSt X 167 H.length 1 (H.length+5) 1 T) (H.length+1) mk=PSt (make X (H.length+1) mk) 167 H.length 1 (H.length+5) 1 T:=aBl (by decide) (by decide);simp only[go_sem,↓aB,seval,e23,e21,e3,iZ,n1,n2,AU,AT,cj,aO];refine bI (fQ F.toOutFns [105,116,101,109] (by decide)) (c' rfl) g1 (by show T2.length+5<=_;omega) ?_;rintro T3 wr3 b1 b2 b3;have b2:T3.length<=T2.length+5:=b2;simp only[go_sem,↓aB,seval,od b3,e3,n1,AD,AA,AE];refine bI (pY F.toOutFns it.name (by omega)) (c' rfl) b1 (by omega) ?_;rintro T4 wr4 d1 d2 d3;simp only[go_sem,↓aB,seval,od d3,n1,AB,AD,AA,AE,AF];refine kU (fun L wr=>L.length=6/\wr=[]/\L[1]? = Qr (.box (x1.ver+1) [.str it.name,.sl Qu (it.blocks.map aE),.sl Qu (it.facts.map aI),.sl Qu (it.ask.map gR)])) 2 3 36 35 37 43 it.blocks.length 600000 (W:=zN) (by rfl) (by kernel_rfl) rfl (by rfl) (by rfl) (by omega) d1 ⟨rfl,rfl,rfl⟩ ?_ ?_
   ·rintro j ρ2 L2 T5 wr5 jlt f36 im ⟨yx,rfl,I1⟩ p1 p2;obtain⟨y0,y1,y2,y3,y4,y5,rfl⟩:=uI yx;have f3:ρ2 3=.ptr H.length 1 0:=(im 3 rfl).trans e3;have f34:ρ2 34=.sl Qu (it.blocks.map aE):=im 34 rfl;have fh:=mgE aE jlt;have td:=kh.blocks _ (AS jlt);have dx:=yU (b4 _ (AS jlt));have u6:=aSn (m:=600000) jlt;generalize it.blocks[j]=b at *;have Md:it.blocks.length*600000<=4800000:=BO 600000 Iz;have m2:∀{X:LO} {T:Str} {x:ah},(PSt X 167 H.length 1 (H.length+5) 1 T).set (H.length+2) x=PSt (X.set (H.length+2) x) 167 H.length 1 (H.length+5) 1 T:=aCr (by decide) (by decide);have m1':∀{X:LO} {T:Str},(PSt X 167 H.length 1 (H.length+5) 1 T)[H.length+2]? = X[H.length+2]? := m1 (by decide) (by decide);have m3:∀{X:LO} {T:Str},bH (PSt X 167 H.length 1 (H.length+5) 1 T) (H.length+2)=bH X (H.length+2):=aEr (by decide) (by decide);have m4:∀{X:LO} {T:Str} {mk:Nat->ah},make (PSt X 167 H.length 1 (H.length+5) 1 T) (H.length+2) mk=PSt (make X (H.length+2) mk) 167 H.length 1 (H.length+5) 1 T:=aBl (by decide) (by decide);have iz:(aE b).all AV.ak=true:=bQ (bG b);simp only[go_sem,↓aB,seval,f36,f34,f3,iZ,m1',m2,AU,AT,fh,cF,bT.take,aS (bG b),aK (bG b),iz,AD,AW,AZ];refine bI (aKV F.toBlockPrt b dx td) (c' rfl) p1 (by omega) ?_;rintro T6 wr6 q1 q2 q3;simp only[go_sem,↓aB,seval,od q3];exact⟨rfl,[y0,y1,.box (y2.ver+1) (aE b),y3,y4,y5],T6,⟨rfl,rfl,I1⟩,q1,by omega,rfl⟩
   rintro ρ' L' T' ba ⟨k0,rfl,k3⟩ k1 k2 I3;obtain⟨y0,y1,y2,y3,y4,y5,rfl⟩:=uI k0;have h5:ρ' 5=.ptr (H.length+1) (x1.ver+1) 0:=I3 5 rfl;have h3:ρ' 3=.ptr H.length 1 0:=(I3 3 rfl).trans e3;have Md:it.blocks.length*600000<=4800000:=BO 600000 Iz;simp only[CT,BG,AG]at k3;subst k3;simp only[go_sem,↓aB,seval,h5,n1,AB,AD,AA,AE,AF];refine kU (fun L wr=>L.length=6/\wr=[]/\L[1]? = Qr (.box (x1.ver+1) [.str it.name,.sl Qu (it.blocks.map aE),.sl Qu (it.facts.map aI),.sl Qu (it.ask.map gR)])) 4 5 47 46 48 68 it.facts.length 60 (W:=zO) (by rfl) (by kernel_rfl) rfl (by rfl) (by rfl) (by omega) k1 ⟨rfl,rfl,rfl⟩ ?_ ?_
   ·rintro j ρ2 L2 T5 wr5 jlt f47 im ⟨yx,rfl,I1⟩ p1 p2;obtain⟨y0,y1,y2,y3,y4,y5,rfl⟩:=uI yx;have f3:ρ2 3=.ptr H.length 1 0:=(im 3 rfl).trans h3;have f45:ρ2 45=.sl Qu (it.facts.map aI):=im 45 rfl;have fh:=mgE aI jlt;have W7:=b7 _ (AS jlt);have u6:=aSn (m:=60) jlt;generalize it.facts[j]=f at *;have Me:it.facts.length*60<=480:=BO 60 Ja;unfold aHJ at W7;simp only[AI,eG]at W7;obtain⟨⟨⟨⟨v1,v2⟩,v3,v4⟩,v5,v6⟩,v7,v8⟩:=W7;obtain⟨w,dy,gn,pr⟩:=aSm v1 v2;have v2':f.kind<7:=by omega
    have Gm:=mS F.toOutFns [f.block,f.a,f.b] Qu (by simp) (by simp;omega);have r1:∀{X:LO} {T:Str},(PSt X 167 H.length 1 (H.length+5) 1 T)[H.length+3]? = X[H.length+3]? := m1 (by decide) (by decide);have r2:∀{X:LO} {T:Str} {x:ah},(PSt X 167 H.length 1 (H.length+5) 1 T).set (H.length+3) x=PSt (X.set (H.length+3) x) 167 H.length 1 (H.length+5) 1 T:=aCr (by decide) (by decide);have r3:∀{X:LO} {T:Str},bH (PSt X 167 H.length 1 (H.length+5) 1 T) (H.length+3)=bH X (H.length+3):=aEr (by decide) (by decide);have r4:∀{X:LO} {T:Str} {mk:Nat->ah},make (PSt X 167 H.length 1 (H.length+5) 1 T) (H.length+3) mk=PSt (make X (H.length+3) mk) 167 H.length 1 (H.length+5) 1 T:=aBl (by decide) (by decide);simp only[go_sem,↓aB,seval,f47,f45,f3,iZ,r1,r2,AU,AT,fh,aI];refine bI (fQ F.toOutFns [102,97,99,116] (by decide)) (c' rfl) p1 (by show T5.length+5<=_;omega) ?_;rintro T6 wr6 q1 q2 q3;have q2:T6.length<=T5.length+5:=q2;simp only[go_sem,↓aB,seval,od q3,f3,r1,AD,AA,AE,v1,v2',gn,pr,BC,FK];refine bI (pY F.toOutFns w (by omega)) (c' rfl) q1 (by omega) ?_;rintro T7 wr7 s1 s2 s3;simp only[go_sem,↓aB,seval,od s3,f3,r1,AB,AD,AA,AE];refine bI Gm (c' rfl) s1 (by simp;omega) ?_;rintro T8 wr8 t1 t2 t3;have t2:T8.length<=T7.length+27:=t2;simp only[go_sem,↓aB,seval,od t3];exact⟨rfl,[y0,y1,y2,.box (y3.ver+1) (aI f),y4,y5],T8,⟨rfl,rfl,I1⟩,t1,by omega,rfl⟩
   rintro ρ'' L'' T'' wr'' ⟨q0,rfl,q3⟩ q1 q2 Cv;obtain⟨z0,z1,z2,z3,z4,z5,rfl⟩:=uI q0;have Fy:ρ'' 5=.ptr (H.length+1) (x1.ver+1) 0:=(Cv 5 rfl).trans h5;have D9:ρ'' 3=.ptr H.length 1 0:=(Cv 3 rfl).trans h3;have Me:it.facts.length*60<=480:=BO 60 Ja;simp only[CT,BG,AG]at q3;subst q3;simp only[go_sem,↓aB,seval,Fy,n1,AB,AD,AA,AE,AF];refine kU (fun L wr=>L.length=6/\wr=[]) 6 7 72 71 73 79 it.ask.length 150000 (W:=zP) (by rfl) (by kernel_rfl) rfl (by rfl) (by rfl) (by omega) q1 ⟨rfl,rfl⟩ ?_ ?_
   ·rintro j ρ2 L2 T5 wr5 jlt f72 im ⟨yx,rfl⟩ p1 p2;obtain⟨y0,y1,y2,y3,y4,y5,rfl⟩:=uI yx;have f3:ρ2 3=.ptr H.length 1 0:=by rw[im 3 (by rfl)];exact D9
    have f70:ρ2 70=.sl Qu (it.ask.map gR):=im 70 rfl;have fh:=mgE gR jlt;have J0:=kh.ask _ (AS jlt);have Mf:=b10 _ (AS jlt);have u6:=aSn (m:=150000) jlt;generalize it.ask[j]=q at *;have Mg:it.ask.length*150000<=600000:=BO 150000 Jb;have r1:∀{X:LO} {T:Str},(PSt X 167 H.length 1 (H.length+5) 1 T)[H.length+4]? = X[H.length+4]? := m1 (by decide) (by decide);have r2:∀{X:LO} {T:Str} {x:ah},(PSt X 167 H.length 1 (H.length+5) 1 T).set (H.length+4) x=PSt (X.set (H.length+4) x) 167 H.length 1 (H.length+5) 1 T:=aCr (by decide) (by decide);have r3:∀{X:LO} {T:Str},bH (PSt X 167 H.length 1 (H.length+5) 1 T) (H.length+4)=bH X (H.length+4):=aEr (by decide) (by decide);have r4:∀{X:LO} {T:Str} {mk:Nat->ah},make (PSt X 167 H.length 1 (H.length+5) 1 T) (H.length+4) mk=PSt (make X (H.length+4) mk) 167 H.length 1 (H.length+5) 1 T:=aBl (by decide) (by decide);have p0:=aLb F.toBlockPrt Mc q J0 Mf;simp only[gR]at p0;simp only[go_sem,↓aB,seval,f72,f70,f3,iZ,r1,r2,AU,AT,fh,gR];refine bI p0 (c' rfl) p1 (by omega) ?_;rintro T6 wr6 s1 s2 s3;simp only[go_sem,↓aB,seval,od s3];exact⟨rfl,[y0,y1,y2,y3,.box (y4.ver+1) (gR q),y5],T6,⟨rfl,rfl⟩,s1,by omega,rfl⟩
   rintro ρ3 L3 T3' wr3' ⟨r0,rfl⟩ r1 r2 Lv;have Mg:it.ask.length*150000<=600000:=BO 150000 Jb;simp only[go_sem,seval];exact⟨rfl,L3,T3',⟨r0,rfl⟩,r1,by omega,rfl⟩
  rintro ρ' L' T' ba ⟨k0,rfl⟩ k1 k2 hf;have hN:x.items.length*5600000<=67200000:=BO 5600000 hn;have h3:ρ' 3=.ptr H.length 1 0:=hf 3 rfl;obtain⟨wr8,w1,w2⟩:=tX F.wb F.cc (ty:=167) (v:=1) (v2:=1) (T:=T') (b:=10) (c' k0) (by omega);have w1:aG A (g "E") [.ptr H.length 1 0,.int .u8 10] (PSt (H++L') 167 H.length 1 (H.length+5) 1 T')=Qr (.bj,PSt (H++L') 167 H.length 1 (H.length+5) 1 (T'++[10]),wr8):=w1;have bd:=aCs F.str (ty:=167) (v:=1) (v2:=1) (T:=T'++[10]) (c' k0) (by simp) (by simp;omega);have pk:((PSt (H++L') 167 H.length 1 (H.length+5) 1 (T'++[10])).set (H.length+5) (.gone 1)).take H.length=H:=by rw[List.take_set_of_le (by omega),aNf]
  simp only[go_sem,↓aB,seval,h3,w1,bd,od w2,qQ,pk];exact⟨T'++[10],rfl,by simp;omega⟩)
 exact⟨s,hs,h1⟩
end
section
variable {A:af}{g:SN}{tB:Nat}
theorem aTh(h:oh A g tB)(x:jm)(hx:x.Ok)(H:LO):∃e:Int,aG A (g "z") [dE x] H=Qr (vi e,H,[])/\(e=0->∀i∈x.items,aGU i=Qt):=by
 have hw:=kO h.val.blk.within;have h0:=fun H=>qW h.val.blk.text h.val.blk.wg h.val.blk.sj hw x.title 0 100 H (by have:x.title.length<=1000:=hx.title;omega);have h1:=fun H=>h.val.allI.spec hw aJl cQ (l:=x.items) (H:=H) (f1:=g "ad") (q:=aGU) (lo:=0) (hi:=12) (by have:=hx.G8;show x.items.length<_;omega) fun _ i hi=>aVf h i (hx.items i hi) H;cases e0:vP 0 100 x.title with
 |false=>refine⟨1, ?_,fun h=>by cases h⟩;refine h.val.valid.call ?_;simp only[mZ];simp only[go_sem,↓aB,seval,dE,h0,e0,AD,AA,AE,CE,AJ]
 |true=>
  cases e1:(wi x.items.length 0 12&&x.items.all aGU)with
  |false=>refine⟨1, ?_,fun h=>by cases h⟩;refine h.val.valid.call ?_;simp only[mZ];simp only[go_sem,↓aB,seval,dE,h0,h1,e0,e1,AB,AD,AA,AE,Zz,AJ]
  |true=>
   have e1':=e1;simp only[AI,eG,AO]at e1';obtain⟨s,lq,nu⟩:=aVg h.val.src h.Bl x hx (by omega) e1'.2 H;refine⟨if decide ((s.length:Int)>8192)then 4 else 0, ?_,fun _=>e1'.2⟩;refine h.val.valid.call ?_;simp only[mZ];simp only[dE]at nu ⊢;simp only[go_sem,↓aB,seval,h0,h1,e0,e1,nu,AB,AD,AA,AE,Zz,AJ];refine aD (fun dp=>?_) (fun dp=>?_)
   ·simp only[go_sem,↓aB,seval,dp]
   rw[dp];simp only[go_sem,↓aB,seval]
abbrev aCD(A:af)(g:SN)(E:Int->Int->List Shape->Int):Prop:=∀(w hh:Int) (l:List Shape),1<=w/\w<=1000->1<=hh/\hh<=1000->l.length<=8->(∀s∈l,vQ s=Qt)->∀H:LO,aG A (g "p") [.agg (aDn w hh l)] H=Qr (vi (E w hh l),H,[])
noncomputable def nU(E:Int->Int->List Shape->Int)(b:Block):Int:=if dQ b then (if b.kind=1 then aBV b.expr else if b.kind=4 then E b.w b.h b.aw else 0)else 1
theorem aTi(h:kc A g tB)(b:Block)(hb:b.Ok)(H:LO):aG A (g "z") [dE (aKW b)] H=Qr (vi (if dQ b then 0 else 1),H,[]):=by
 obtain⟨e,h1,h2,h3⟩:=aOj h b hb H;rw[h1];cases hB:dQ b with
 |true=>rw[h3 hB];rfl
 |false=>have:=h2;rw[show e=1 from h2 hB];rfl
theorem aMj{E:Int->Int->List Shape->Int}(hE:aCD A g E)(hv:kc A g tB)(hf:lu A g)(hc:Has A g "D" (tE g))(b:Block)(hb:b.Ok)(H:LO):aG A (g "D") [.agg (aE b)] H=Qr (vi (nU E b),H,[]):=by
 have h0:=aTi hv b hb H;obtain⟨op,n,ks,mn⟩:∃op n ks,b.expr=Expr.mk op n ks:=by cases b.expr;exact⟨_,_,_,rfl⟩
 have vt:aF b.expr=[vi op,vi n,.sl Qu (ks.map aF)]:=by rw[mn,aF,aZ]
 have ig:aE b=[vi b.kind,.sl Qu (b.runs.map cZ),vi op,vi n,.sl Qu (ks.map aF),vi b.dn,.sl Qu (b.eg.map bF),.sl Qu (b.cd.map bY),vi b.w,vi b.h,.sl Qu (b.aw.map aH),.sl Qu (b.bo.map bS),.sl Qu (b.lines.map aN)]:=by unfold aE;rw[vt];rfl
 have yp:=aCp hf b.expr hb.expr hb.size H;rw[vt]at yp;simp only[dE,aKW,BI,BY,aO,ig]at h0;refine hc.call ?_;rw[ig];simp only[tE,nU];cases hB:dQ b with
 |false=>rw[hB]at h0;simp only[go_sem,↓aB,seval,h0,AJ]
 |true=>
  rw[hB]at h0;simp only[go_sem,↓aB,seval,h0];simp only[aAJ];by_cases k1:b.kind=1
  ·simp only[go_sem,↓aB,seval,k1,AB,AD,AA,AE,yp,AJ]
  have b1:(b.kind==1)=false:=by simpa using k1
  by_cases k4:b.kind=4
  ·have hk:xU b=true:=by unfold dQ at hB;simp only[AI]at hB;exact hB.2
   unfold xU at hk;rw[Zx (by omega),Zx (by omega),Zx (by omega),Zx (by omega),Zy k4]at hk;simp only[AI,eG]at hk;obtain⟨⟨hw,hh⟩,⟨_,Iv⟩,hS⟩:=hk;have Gn:=hE b.w b.h b.aw hw hh (by omega) (AO.1 hS) H;simp only[go_sem,↓aB,seval,k4,AB,AD,AA,AE,Gn,AJ]
  have b4:(b.kind==4)=false:=by simpa using k4
  simp only[go_sem,↓aB,seval,b1,b4,k1,k4]
end
abbrev aFv(g:SN):ag:=qS [qb 15 .lss 14 13]<|.seq (qC 15 (.skip) (.exit 0))<|.seq (.block 1 (qS [qm 16 14,qi 17 12 14 13,qla 18 13 17,qq 5 (.alloc [z0,(.sl Qt []),z0,z0,(.sl Qt []),z0,(.sl Qt []),(.sl Qt []),z0,z0,(.sl Qt []),(.sl Qt []),(.sl Qt [])]),qm 4 16,qs 13 5 18]<|.region Qu [qm 19 3,qla 20 13 5,qm 21 4,qc 22 (g "G") [u 20,u 21],qa 23 4 32 19 22,qm 3 23]))<|.region Qu [qbi 24 .add 14 1,qm 14 24]
def yV(g:SN):bw:=⟨26,[5,23],[.tmp 2],qS [qx 1 4 0,qmc 2 (.sl Qt [])]<|.seq (qS [qla 6 4 1,qq 7 (.bsl 4 [(.str []),(.sl Qu []),(.sl Qu []),(.sl Qu [])] 1 [(0,(.tmp 6))]),qq 8 (.build [(.str []),(.sl Qt [])] [(0,1,(.const (.str [120]))),(1,1,(.tmp 7))]),qc 9 (g "z") [u 8],qbi 10 .neq 9 0]<|qC 10 (qS [qmc 2 (.sl Qt [])]<|.ret) (.skip))<|qS [qmc 3 (.sl Qt [])]<|.seq (qS [qf 11 1 1,ql 12 1 11,qn 13 12,qmc 14 z0]<|.block 0 (.loop (aFv g)))<|qS [qm 25 3,qm 2 25]<|.ret⟩
def aSo(R:List Fact):AV:=if R.isEmpty then .sl Qu [] else .own 4 (R.map aI)
theorem aLc{A:af}{g:SN}(F:ke A g)(h:Has A g "G" (oZ g))(b:Block)(hb:b.Ok)(at':Int)(H:LO):aG A (g "G") [.agg (aE b),vi at'] H=Qr (aSo (eM b at'),H,[]):=by
 obtain⟨r,h1,h2⟩:=aOp F h b hb at' H;rw[h2];unfold aSo;rcases h1 with⟨e,rfl⟩ | ⟨bl,rfl⟩
 ·rw[e];rfl
 cases he:eM b at' with
 |nil=>exact Zw he bl
 |cons a r=>rfl
theorem aFF:aSo []=.sl Qu []:=rfl
theorem aDI{f:Fact}{r:List Fact}:aSo (f::r)=.own 4 ((f::r).map aI):=rfl
theorem aVh{R:List Fact}(h:R≠[]):aSo R=.own 4 (R.map aI):=by
 cases R with
 |nil=>exact Zw rfl h
 |cons f r=>rfl
def mI(l:List Block)(n:Nat):List Fact:=(GZ n).flatMap fun(k:Nat)=>match l[k]? with
 |some b=>eM b (k:Int)
 |none=>[]
def tI(x:Item):List Fact:=mI x.blocks x.blocks.length
theorem yW{l:List Block}{n:Nat}(h:n<l.length):mI l (n+1)=mI l n++eM l[n] n:=by unfold mI;rw[LQ,JK];simp[AP h]
theorem aEA{l:List Block}(hl:∀b∈l,b.Ok):∀n,n<=l.length->(mI l n).length<=n*1792
 |0,_=>FF _
 |n+1,h=>by
  have h1:=aEA hl n (by omega);have h2:=yT (hl _ (AS (by omega:n<l.length))) (at':=(n:Int)) 7;rw[yW (by omega),BA];have:(eM l[n] (n:Int)).length<=7*256:=h2;omega
def bC6(o:Nat)(w:AV)(x:ah)(rows:List Fact):Prop:=(rows=[]/\w=.sl Qt [])∨(rows≠[]/\∃ver,w=.sr o ver rows.length/\x=.vec ver 4 (rows.map aI))
section
variable {A:af}{g:SN}{tB:Nat}
theorem aH7(F:ke A g)(hf:Has A g "G" (oZ g))(h:Has A g "B" (yV g))(x:Item)(hx:x.Ok){P P':Prop} (hV:∀H,∃e:Int,aG A (g "z") [dE ⟨[120],[x]⟩] H=Qr (vi e,H,[])/\(e=0->P)/\(P'->e=0)) (H:LO):∃R,aG A (g "B") [.agg (aO x)] H=Qr (aSo R,H,[])/\((R=[]/\¬P')∨(P/\R=tI x)):=by
 obtain⟨r,H',ba,e1,rfl,rfl,R,rfl,e2⟩:=h.bp (args:=[.agg (aO x)]) (H:=H) (K:=fun r H' wr=>wr=[]/\H'=H/\∃R,r=aSo R/\((R=[]/\¬P')∨(P/\R=tI x))) (by
  simp only[yV];obtain⟨e,h1,h2,h3⟩:=hV (H++[.gone 0,.gone 0]);simp only[dE,aO,BI,BY]at h1;cases z:(e != 0)with
  |true=>
   have hz:e≠0:=by simpa using z
   simp only[go_sem,↓aB,seval,aO,h1,z,AJ,AB,AD,AA,AE];exact⟨[],rfl,.inl ⟨rfl,fun hp=>hz (h3 hp)⟩⟩
  |false=>
  have hz:e=0:=by simpa using z
  have hP:=h2 hz;simp only[go_sem,↓aB,seval,aO,h1,z,AJ,AB,AD,AA,AE,AF];refine bJ (id:=0) (fun k ρ1 H1 wr=>wr=[]/\ρ1 14=vi (k:Nat)/\∃x0 x1,H1=H++[x0,x1]/\bC6 (H.length+1) (ρ1 3) x1 (mI x.blocks k)) x.blocks.length
   (fun ρ1 H1 wr=>wr=[]/\∃x0 x1,H1=H++[x0,x1]/\bC6 (H.length+1) (ρ1 3) x1 (tI x)) (by kernel_rfl) rfl ⟨rfl,rfl,_,_,rfl,.inl ⟨rfl,rfl⟩⟩ ?_ ?_
  ·rintro k ρ1 H1 dc zp ⟨rfl,e14,x0,x1,rfl,hw⟩ cq;have f12:ρ1 12=.sl Qu (x.blocks.map aE):=cq 12 rfl;have f13:ρ1 13=vi (x.blocks.length:Nat):=cq 13 rfl;simp only[go_sem,↓aB,seval,e14,f13];refine aD (fun e3=>?_) (fun e3=>?_)
   ·have hlt:k<x.blocks.length:=by simp at e3;omega
    have dy:AR.wrap ((k:Int)+1)=((k+1:Nat):Int):=by rw[wrap_i64 (by omega) (by have:=hx.zq;omega)];omega
    have cj:=mgE aE hlt;have td:=hx.blocks _ (AS hlt);have C7:=yW hlt;have R6:=aEA hx.blocks (k+1) hlt;have Bm:=hx.zq;generalize x.blocks[k]=b at *;have az:=fun H=>aLc F hf b td k H;have iz:(aE b).all AV.ak=true:=bQ (bG b);rw[C7,BA]at R6;cases hR:eM b k with
    |nil=>
     rw[hR,AJ]at C7;simp only[hR]at az;rcases hw with⟨e0,e3'⟩ | ⟨bl,ver,e3',rfl⟩
     ·simp only[go_sem,↓aB,seval,e14,dy,f12,AU,AT,hlt,cj,cF,bT.take,aS (bG b),aK (bG b),iz,AD,AW,AZ,az,aFF,e3',eX,cG,dO];exact⟨_,_,rfl,by rw[C7];exact .inl ⟨e0,rfl⟩⟩
     have hr:bP (mI x.blocks k).length 32=true:=by unfold bP;simp;omega
     simp only[go_sem,↓aB,seval,e14,dy,f12,AF,AU,AT,hlt,cj,cF,bT.take,aS (bG b),aK (bG b),iz,AD,AW,AZ,az,aFF,e3',eX,cG,dO,hr];exact⟨_,_,rfl,by rw[C7];exact .inr ⟨bl,ver,rfl,rfl⟩⟩
    |cons f r=>
     rw[hR]at C7 R6;simp only[hR]at az;have hd:gG ((f::r).map aI)=true:=aC eL _;rcases hw with⟨e0,e3'⟩ | ⟨bl,ver,e3',rfl⟩
     ·have hr:bP (r.length+1) 32=true:=by unfold bP;simp at R6 ⊢;omega
      simp only[go_sem,↓aB,seval,e14,dy,f12,AF,AU,AT,hlt,cj,cF,bT.take,aS (bG b),aK (bG b),iz,AD,AW,AZ,az,aDI,e3',eX,cG,dO,hr,BI,aI];exact⟨_,_,rfl,by rw[C7,e0,CW];exact .inr ⟨by simp,_,rfl,rfl⟩⟩
     have hr:bP ((mI x.blocks k).length+(r.length+1)) 32=true:=by unfold bP;simp at R6 ⊢;omega
     simp only[go_sem,↓aB,seval,e14,dy,f12,AF,AU,AT,hlt,cj,cF,bT.take,aS (bG b),aK (bG b),iz,AD,AW,AZ,az,aDI,e3',eX,cG,dO,hr,BI,aI];exact⟨_,_,rfl,by rw[C7];exact .inr ⟨by simp,ver,by rw[BA];rfl,by rw[DQ];rfl⟩⟩
   have:k=x.blocks.length:=by simp at e3;omega
   subst this;simp only[go_sem,seval];exact⟨x0,x1,rfl,hw⟩
  rintro ρ' H' ba ⟨rfl,x0,x1,rfl,hw⟩ cq;rcases hw with⟨e0,e3⟩ | ⟨bl,ver,e3,rfl⟩
  ·simp only[go_sem,↓aB,seval,e3];exact⟨[],rfl,.inr ⟨hP,e0.symm⟩⟩
  have hd:gG ((tI x).map aI)=true:=aC eL _;simp only[go_sem,↓aB,seval,e3,aT hd,aA hd,AF];exact⟨_,(aVh bl).symm,.inr ⟨hP,rfl⟩⟩)
 exact⟨R,e1,e2⟩
end
end Go.AM
end
section

end
section
namespace Go.AM
open Go
abbrev aH8(A:af)(g:SN):Prop:=∀(n:Nat) (H:LO),n<1000000->aG A (g "H") [vi n] H=Qr (.str (dec n),H,[])
theorem aF9{a b:Int}(h:a≠b):(a==b)=false:=by simpa using h
abbrev aA1(g:SN):List ae:=[qm 10 0,⟨Qr 11,obi .quo 10 10,Qs,[0]⟩,⟨Qr 12,oc (g "H") [u 11],Qs,[1,0]⟩,qm 13 0,⟨Qr 14,obi .rem 13 10,Qs,[3]⟩,⟨Qr 15,.bin .add .no (ui 48) (u 14),Qs,[4,3]⟩,⟨Qr 16,.conv (.toInt .u8) (u 15),Qs,[5,4,3]⟩,⟨Qr 17,.bsl 1 [(.int .u8 0)] 1 [(0,(.tmp 16))],Qs,[6,5,4,3]⟩,⟨Qr 18,.conv .b2s (u 17),Qs,[7,6,5,4,3]⟩,⟨Qr 19,ob .add 12 18,Qs,[2,1,0,8,7,6,5,4,3]⟩,⟨Qr 2,om 19,Qs,[9,2,1,0,8,7,6,5,4,3]⟩]
def mV(g:SN):bw:=⟨20,[],[.tmp 2],qS [qmc 2 (.str [])]<|.seq (qS [qm 3 0,qbi 4 .lss 3 10]<|qC 4 (qS [qm 5 0,qq 6 (.bin .add .no (ui 48) (u 5)),qq 7 (.conv (.toInt .u8) (u 6)),qq 8 (.bsl 1 [(.int .u8 0)] 1 [(0,(.tmp 7))]),qq 9 (.conv .b2s (u 8)),qm 2 9]<|.ret) (.skip))<|.seq (.region Qt (aA1 g))<|.ret⟩
def nP(g:SN):bw:=⟨15,[],[.tmp 4],qS [qmc 4 z0]<|.seq (qS [qm 5 0,qbi 6 .lss 5 0]<|qC 6 (qR [qm 7 0,qbi 8 .add 7 1,qq 9 (.un .neg (u 8)),qm 0 9]) (.skip))<|.seq (qS [qm 10 1,qbi 11 .lss 10 1]<|qC 11 (qS [qmc 4 z0]<|.ret) (.skip))<|qS [qm 12 0,qm 13 1,qb 14 .rem 12 13,qm 4 14]<|.ret⟩
def oQ(g:SN):bw:=⟨21,[],[.tmp 6],qS [qmc 6 z0]<|.seq (qS [qm 7 1,qbi 8 .lss 7 0,qm 9 8,qF 10 9 (om 1),qF 11 9 (om 0),qF 12 9 (on 11),qF 13 9 (ob .geq 10 12),qq 14 (.pick (u 9) uT (u 13))]<|qC 14 (qS [qmc 6 z0]<|.ret) (.skip))<|qS [qm 15 0,qm 16 1,qi 17 15 16 1,ql 18 1 17,qm 19 2,qc 20 (g "c") [u 18,u 19],qm 6 20]<|.ret⟩
abbrev uK(g:SN):List ae:=[qm 12 0,⟨Qr 13,.cz (u 12),Qs,[0]⟩,⟨Qr 14,of 0 13,Qs,[1,0]⟩,⟨Qr 15,ol 1 14,Qs,[2,1,0]⟩,qm 16 0,⟨Qr 17,.cz (u 16),Qs,[4]⟩,⟨Qr 18,of 1 17,Qs,[5,4]⟩,⟨Qr 19,ol 1 18,Qs,[6,5,4]⟩,⟨Qr 20,obi .sub 19 1,Qs,[7,6,5,4]⟩,qm 21 1,⟨Qr 22,oc (g "ax") [u 15,u 20,u 21],Qs,[3,2,1,0,8,7,6,5,4,9]⟩,⟨Qr 4,om 22,Qs,[10,3,2,1,0,8,7,6,5,4,9]⟩]
def kC(g:SN):bw:=⟨23,[],[.tmp 4],qS [qmc 4 z0]<|qS [qm 5 0,qq 6 (.cz (u 5)),qf 7 1 6,ql 8 1 7,qbi 9 .add 8 1,qq 10 (.cz (u 5)),qf 11 1 10,qs 1 11 9]<|.seq (.region Qt (uK g))<|.ret⟩
def oI(g:SN):bw:=⟨15,[],[.tmp 2],qS [qmc 2 z0]<|.seq (qS [qm 3 0,qbi 4 .eql 3 0,qm 5 4,qF 6 5 (om 0),qF 7 5 (obi .eql 6 1),qq 8 (.pick (u 5) uT (u 7))]<|qC 8 (qS [qmc 2 z0]<|.ret) (.skip))<|.seq (qS [qm 9 0,qbi 10 .eql 9 2,qm 11 10,qF 12 11 (om 0),qF 13 11 (obi .eql 12 8),qq 14 (.pick (u 11) uT (u 13))]<|qC 14 (qS [qmc 2 (vi 1)]<|.ret) (.skip))<|qS [qmc 2 (vi 2)]<|.ret⟩
theorem aQh{n:Int}(h1:0<=n)(h2:n<=255):GA .u8 n=n:=by unfold GA IntKind.bits IntKind.signed;simp;omega
theorem aLd{A:af}{g:SN}(h:Has A g "H" (mV g)):aH8 A g:=by
 have key:∀(k n:Nat) (H:LO),n<k->n<1000000->aG A (g "H") [vi n] H=Qr (.str (dec n),H,[]):=by
  intro k
  induction k with
  |zero=>intro n H hk;omega
  |succ k ih=>
   intro n H hk hn;refine h.call ?_;simp only[mV];simp only[go_sem,seval];refine aD (fun hb=>?_) (fun hb=>?_)
   ·have hlt:n<10:=by simp at hb;omega
    have hw:AR.wrap (48+(n:Int))=((48+n:Nat):Int):=by rw[wrap_i64 (by omega) (by omega)];omega
    have hu:KD.wrap ((48+n:Nat):Int)=((48+n:Nat):Int):=aQh (by omega) (by omega);have hd:dec n=[CN (48+n)]:=by rw[dec,Zy hlt]
    simp only[go_sem,seval,hw,hu,pT,cM,hd]
   have nj:¬n<10:=by simp at hb;omega
   have hq:(n:Int).tdiv 10=((n / 10:Nat):Int):=rfl;have hr:(n:Int).tmod 10=((n % 10:Nat):Int):=rfl;have Bh:AR.wrap ((n / 10:Nat):Int)=((n / 10:Nat):Int):=wrap_i64 (by omega) (by omega);have hw:AR.wrap (48+((n % 10:Nat):Int))=((48+n % 10:Nat):Int):=by rw[wrap_i64 (by omega) (by omega)];omega
   have hu:KD.wrap ((48+n % 10:Nat):Int)=((48+n % 10:Nat):Int):=aQh (by omega) (by omega);have Mh:=fun H=>ih (n / 10) H (by omega) (by omega);have hd:dec n=dec (n / 10)++[CN (48+n % 10)]:=by rw[dec,Zx nj]
   have hl:(dec (n / 10)).length+1<=4611686018427387904:=by have:=aGn 5 (n / 10) (by omega);omega
   simp only[go_sem,seval];refine aY (aq:=[2,6,8]) (by rfl) (by rfl) ?_;simp only[go_sem,seval,aAl (b:=10) (by decide),tS (b:=10) (by decide),hq,hr,Bh,hw,hu,Mh,pT,cM,kE,hl,eH,dG,aL,hd]
 intro n H hn;exact key (n+1) n H (by omega) hn
def bu(n most:Int):Int:=if most<1 then 0 else (if n<0 then AR.wrap (0 - AR.wrap (n+1))else n).tmod most
abbrev qK(A:af)(g:SN):Prop:=∀(n m:Int) (H:LO),aG A (g "c") [vi n,vi m] H=Qr (vi (bu n m),H,[])
theorem yX{A:af}{g:SN}(h:Has A g "c" (nP g)):qK A g:=by
 intro n m H;refine h.call ?_;simp only[nP];simp only[go_sem,seval];refine aD (fun hb=>?_) (fun hb=>?_)
 ·have hn:n<0:=by simpa using hb
  simp only[go_sem,seval];refine aD (fun hb=>?_) (fun hb=>?_)
  ·have hm:m<1:=by simpa using hb
   simp only[go_sem,seval,bu,hm]
  have hm:¬m<1:=by simpa using hb
  simp only[go_sem,seval,bu,hm,hn,tS (show m≠0 by omega)]
 have hn:¬n<0:=by simpa using hb
 simp only[go_sem,seval];refine aD (fun hb=>?_) (fun hb=>?_)
 ·have hm:m<1:=by simpa using hb
  simp only[go_sem,seval,bu,hm]
 have hm:¬m<1:=by simpa using hb
 simp only[go_sem,seval,bu,hm,hn,tS (show m≠0 by omega)]
def atZ(l:List Int)(i most:Int):Int:=if i<0∨i ≥ l.length then 0 else bu (l.getD i.toNat 0) most
theorem aVi{A:af}{g:SN}(h:Has A g "ax" (oQ g))(ha:qK A g)(l:List Int)(i m:Int)(H:LO):aG A (g "ax") [.sl Qu (l.map bF),vi i,vi m] H=Qr (vi (atZ l i m),H,[]):=by
 refine h.call ?_;simp only[oQ];by_cases h0:i<0
 ·simp only[go_sem,seval,h0,atZ,true_or]
 by_cases h1:i ≥ l.length
 ·simp only[go_sem,seval,h0,h1,atZ,or_true]
 have hi:i.toNat<l.length:=by omega
 have h2:0<=i:=by omega
 have hg:(l.map bF)[i.toNat]? = Qr [vi (l.getD i.toNat 0)]:=by rw[BN,KV,AP hi];rfl
 simp only[go_sem,seval,h0,h1,h2,hg,ha,atZ,or_false]
abbrev aM(l:List Int)(i:Int):LA:=[.sl Qu (l.map bF),vi i]
abbrev fR(A:af)(g:SN):Prop:=∀(l:List Int) (i m:Int) (o v:Nat) (H:LO),H[o]? = Qr (.box v (aM l i)) ->
 aG A (g "a") [.ptr o v 0,vi m] H=Qr (vi (atZ l (AR.wrap (AR.wrap (i+1) - 1)) m),H.set o (.box v (aM l (AR.wrap (i+1)))),[o])
theorem aQi{A:af}{g:SN}(h:Has A g "a" (kC g))(ha:Has A g "ax" (oQ g))(hr:qK A g):fR A g:=by intro l i m o v H ho;have hlt:=getElem?_lt ho;refine h.call ?_;simp only[kC];simp only[go_sem,seval,ho,hlt];refine aY (aq:=[]) (by rfl) (by rfl) ?_;have jk:=fun H=>aVi ha hr l (AR.wrap (AR.wrap (i+1) - 1)) m H;simp only[go_sem,seval,hlt,jk,aF6,aA (aC aU _)]
def aZH(m:Nat):List UInt8:=if m=0 then [] else CN m::aZH (m / 256)
decreasing_by omega
def mag(n:Int):Nat:=if n<0 then (-1 - n).toNat else n.toNat
def bBf(n:Int)(d:UInt8):UInt8:=if n<0 then 255 - d else d
def bBg(n:Int):UInt8:=if n<0 then CN (127 - (aZH (mag n)).length)else CN (128+(aZH (mag n)).length)
def aNm(n:Int):List UInt8:=bBg n::(aZH (mag n)).reverse.map (bBf n)
def aQj(l:List Int):List UInt8:=aNm l.length++l.flatMap aNm
theorem bCD{a b:Nat}(h:a+b<=1000000000):bP (a+b) 1=true:=by unfold bP;simp;omega
mutual
def aLe:Expr->List UInt8
 |.mk op n kids=>aQj [op,n,kids.length]++aBq kids
def aBq:List Expr->List UInt8
 | []=>[]
 |e::r=>aLe e++aBq r
end
theorem aH9:∀l:List Expr,aBq l=l.flatMap aLe
 | []=>rfl
 |e::r=>by rw[aBq,aH9 r,List.flatMap_cons]
theorem pA(e:Expr):(aF e).length=3:=by cases e;rfl
theorem bD:∀l:List Expr,gO l=l.map aF
 | []=>rfl
 |e::r=>by rw[gO,bD r];rfl
end Go.AM
end
section

end
section
namespace Go.AM
open Go
def fC(g:SN):bw:=⟨10,[],[.tmp 2],qS [qmc 2 (.str [])]<|qS [qq 4 (.bsl 1 [(.str [])] 12 [(0,(.const (.str [116,104,101,32,104,97,110,100]))),(1,(.const (.str [97]))),(2,(.const (.str [73,32,97,110,100,32,121,111,117]))),(3,(.const (.str [84,101,110,32,49,48]))),(4,(.const (.str [97,110,100]))),(5,(.const (.str [110,111,44,32,52,50,46]))),(6,(.const (.str [108,97,110,100]))),(7,(.const (.str [67,104,105,108,100]))),(8,(.const (.str [120]))),(9,(.const (.str [99,97,110,32,105,116]))),(10,(.const (.str [55,32,104,97,110,100,115]))),(11,(.const (.str [111,102,32,116,104,101])))]),qm 3 4]<|qS [qm 5 3,qm 6 0,qc 7 (g "a") [u 6,ui 12],qi 8 5 7 1,ql 9 1 8,qm 2 9]<|.ret⟩
abbrev uL(g:SN):ag:=.seq (qS [qm 14 6,qm 15 5,qb 16 .lss 14 15]<|qC 16 (.skip) (.exit 0))<|.seq (.block 1 (qR [qm 19 4,qm 20 3,qm 21 6,qb 22 .add 20 21,qbi 23 .rem 22 2,qm 24 0,qc 25 (g "i") [u 24],qq 26 (.build [z0,(.str [])] [(0,1,(.tmp 23)),(1,1,(.tmp 25))]),qq 27 (.bsl 2 [z0,(.str [])] 1 [(0,(.tmp 26))]),qa 28 2 24 19 27,qm 4 28]))<|.region Qu [qm 17 6,qbi 18 .add 17 1,qm 6 18]
def gB(g:SN):bw:=⟨30,[28],[.tmp 2],qS [qmc 2 (.sl Qt [])]<|qS [qm 7 0,qc 8 (g "a") [u 7,ui 2],qm 3 8]<|qS [qmc 4 (.sl Qt [])]<|qS [qq 9 (.bsl 1 [z0] 5 [(0,(.const (vi 1))),(1,(.const (vi 1))),(2,(.const (vi 1))),(3,(.const (vi 2))),(4,(.const (vi 3)))]),qm 10 0,qc 11 (g "a") [u 10,ui 5],qi 12 9 11 1,ql 13 1 12,qm 5 13]<|.seq (qS [qmc 6 z0]<|.block 0 (.loop (uL g)))<|qS [qm 29 4,qm 2 29]<|.ret⟩
abbrev sH(g:SN):ag:=.seq (qS [qm 11 6,qm 12 5,qb 13 .lss 11 12]<|qC 13 (.skip) (.exit 0))<|.seq (.block 1 (qR [qm 16 4,qm 17 3,qm 18 0,qc 19 (g "a") [u 18,ui 7],qi 20 17 19 1,ql 21 1 20,qq 22 (.bsl 1 [(.str [])] 1 [(0,(.tmp 21))]),qa 23 1 16 16 22,qm 4 23]))<|.region Qu [qm 14 6,qbi 15 .add 14 1,qm 6 15]
def fS(g:SN):bw:=⟨25,[23],[.tmp 2],qS [qmc 2 (.sl Qt [])]<|qS [qq 7 (.bsl 1 [(.str [])] 7 [(0,(.const (.str [105,102,32,120,32,60,32,51,32,123]))),(1,(.const (.str [32,32,121,32,61,32,123,49,44,32,50,125]))),(2,(.const (.str [125]))),(3,(.const (.str []))),(4,(.const (.str [32,32,32,32,114,101,116,117,114,110,32,65,91,105,93,32,43,32,34,115,34]))),(5,(.const (.str [102,111,114,32,105,32,58,61,32,48,59,32,105,32,60,32,49,48,59,32,105,43,43,32,123,32,116,111,116,97,108,32,61,32,116,111,116,97,108,32,43,32,118,97,108,117,101,115,91,105,93,32,42,32,50,32,125]))),(6,(.const (.str [32,97,92,98,32,126,32,99])))]),qm 3 7]<|qS [qmc 4 (.sl Qt [])]<|qS [qm 8 0,qc 9 (g "a") [u 8,ui 3],qq 10 (.bin .add .no (ui 1) (u 9)),qm 5 10]<|.seq (qS [qmc 6 z0]<|.block 0 (.loop (sH g)))<|qS [qm 24 4,qm 2 24]<|.ret⟩
abbrev jP(l:List Int):Prop:=∀a∈l,eA a
theorem kV{n m:Int}(hn:eA n)(hm:1<=m):0<=bu n m/\bu n m<m:=by
 obtain⟨h1,h2⟩:=hn;unfold bu;rw[Zx (by omega)];split
 ·rw[wrap_i64 (n:=n+1) (by omega) (by omega),wrap_i64 (by omega) (by omega)];exact⟨HV _ (by omega),GX _ (by omega)⟩
 exact⟨HV _ (by omega),GX _ (by omega)⟩
theorem aTj{l:List Int}(hl:jP l)(i:Int){m:Int}(hm:1<=m):0<=atZ l i m/\atZ l i m<m:=by
 unfold atZ;split
 ·omega
 rename_i h;refine kV ?_ hm;have hlt:i.toNat<l.length:=by omega
 rw[KV,AP hlt];exact hl _ (AS hlt)
abbrev dI(A:af)(f:Nat)(args:LA)(P:AV->Prop):Prop:=∀(l:List Int) (i:Int) (o v:Nat) (H:LO),jP l->H[o]? = Qr (.box v (aM l i)) ->
 ∃val i',aG A f (.ptr o v 0::args) H=Qr (val,H.set o (.box v (aM l i')),[o])/\P val
theorem bB{A:af}{f:Nat}{args:LA}{P:AV->Prop}(hs:dI A f args P){l:List Int}{i:Int}{o v:Nat}{H H2:LO}(hl:jP l)(ho:H[o]? = Qr (.box v (aM l i))){site:Option Nat}{q:Bool} {k:AV×LO×LN->Prop} {tg} (hk:∀val i',P val->bnd (dY site q H2 (Qr (val,H.set o (.box v (aM l i')),[o]))) k):aCi (dY site q H2 (aG A f (.ptr o v 0::args) H)) k tg:=by obtain⟨val,i',h1,h2⟩:=hs l i o v H hl ho;rw[h1];exact hk val i' h2
theorem eB{A:af}{f:Nat}{args:LA}{P:AV->Prop}(hs:dI A f args P){l:List Int}{i:Int}{o v:Nat}{H H2 H3:LO}(hl:jP l)(ho:H[o]? = Qr (.box v (aM l i))){site:Option Nat}{q:Bool} {k:AV×LO×LN×Option LN->Prop} {tg} (hk:∀val i',P val->bnd (oD H3 (dY site q H2 (Qr (val,H.set o (.box v (aM l i')),[o])))) k):aCi (oD H3 (dY site q H2 (aG A f (.ptr o v 0::args) H))) k tg:=by obtain⟨val,i',h1,h2⟩:=hs l i o v H hl ho;rw[h1];exact hk val i' h2
theorem Has.gen{A:af}{g:SN}{name:String}{fn:bw}(h:Has A g name fn){args:LA}{P:AV->Prop}(hN:args.length+1<=fn.ntmps)(hok:∀n,dK fn.ntmps ⟨n,fn.sites⟩ fn.body=Qt) (hw:∀(l:List Int) (i:Int) (o v:Nat) (H:LO),jP l->o<H.length->H[o]? = Qr (.box v (aM l i)) ->wc A fn.ntmps ⟨H.length,fn.sites⟩ fn.body (pO (.ptr o v 0::args)) (H++List.replicate fn.sites.length (.gone 0)) [] (aRz H.length fn.results (fun val H' wr=>(∃i',H'=H.set o (.box v (aM l i')))/\wr=[o]/\P val) ⟨⟩) ⟨⟩):dI A (g name) args P:=by intro l i o v H hl ho;obtain⟨val,H',wr,h1,⟨i',rfl⟩,rfl,h2⟩:=h.bp (args:=.ptr o v 0::args) (hw l i o v H hl (getElem?_lt ho) ho) (Nat.ble_eq_true_of_le (by simpa using hN)) (hok _);exact⟨val,i',h1,h2⟩
abbrev Below(m:Int)(v:AV):Prop:=∃x:Int,v=vi x/\0<=x/\x<m
theorem bA{A:af}{g:SN}(h:fR A g){m:Int}(hm:1<=m):dI A (g "a") [vi m] (Below m):=by intro l i o v H hl ho;exact⟨_,_,h l i m o v H ho,_,rfl,(aTj hl _ hm).1,(aTj hl _ hm).2⟩
theorem aQk(ns:List Int){x:Int}(h0:0<=x)(hx:x<ns.length):∃n∈ns,(ns.map bF)[x.toNat]? = Qr [vi n]:=by
 have hlt:x.toNat<ns.length:=by omega
 exact⟨ns[x.toNat],AS hlt,getElem?_map_of hlt⟩
theorem aQl(ns:List Str){x:Int}(h0:0<=x)(hx:x<ns.length):∃n∈ns,(ns.map aN)[x.toNat]? = Qr [.str n]:=by
 have hlt:x.toNat<ns.length:=by omega
 exact⟨ns[x.toNat],AS hlt,getElem?_map_of hlt⟩
abbrev aQm:List Str:=[[116,104,101,32,104,97,110,100],[97],[73,32,97,110,100,32,121,111,117],[84,101,110,32,49,48],[97,110,100],[110,111,44,32,52,50,46],[108,97,110,100],[67,104,105,108,100],[120],[99,97,110,32,105,116],[55,32,104,97,110,100,115],[111,102,32,116,104,101]]
abbrev aIG(v:AV):Prop:=∃s:Str,v=.str s/\s.length<=60
theorem aOq{A:af}{g:SN}(h:Has A g "i" (fC g))(ht:fR A g):dI A (g "i") [] aIG:=by
 refine h.gen (by simp[fC]) (fun n=>by kernel_rfl) ?_;intro l i o v H hl hlt ho;simp only[fC];simp only[go_sem,seval];refine bB (bA ht (m:=12) (by decide)) hl ho ?_;rintro val i' ⟨x,rfl,h0,hx⟩;obtain⟨s,hs,cx⟩:=aQl aQm h0 hx;simp only[DR,aN]at cx;simp only[go_sem,seval,hlt,h0,cx,aF6,aA (aC aU _)];refine⟨⟨i',rfl⟩,s,rfl, ?_⟩;have:∀s∈aQm,s.length<=60:=by decide
 exact this s hs
abbrev ROk(a:mr):Prop:=a.Ok/\a.text.length<=60
abbrev aQn(v:AV):Prop:=∃r:List mr,v=.own 2 (r.map cZ)/\1<=r.length/\r.length<=3/\∀a∈r,ROk a
theorem aSp{A:af}{g:SN}(h:Has A g "K" (gB g))(ht:fR A g)(hp:dI A (g "i") [] aIG):dI A (g "K") [] aQn:=by
 refine h.gen (by simp[gB]) (fun n=>by kernel_rfl) ?_;intro l i o v H hl hlt ho;simp only[gB];simp only[go_sem,seval];refine bB (bA ht (m:=2) (by decide)) hl (i:=i) (by simp only[go_sem,seval,eK,hlt,ho]) ?_;rintro val i1 ⟨x,rfl,jr,lz⟩;simp only[go_sem,seval,hlt,fN];refine bB (bA ht (m:=5) (by decide)) hl (i:=i1) (by simp only[go_sem,seval,aP,hlt]) ?_;rintro val i2 ⟨y,rfl,oj,tc⟩;obtain⟨n,hn,cx⟩:=aQk [1,1,1,2,3] oj tc;simp only[DR,bF]at cx;have Ck:1<=n/\n<=3:=by
  have:∀n∈([1,1,1,2,3]:List Int),1<=n/\n<=3:=by decide
  exact this n hn
 simp only[go_sem,seval,hlt,aR,oj,cx];refine bJ (id:=0) (fun j ρ1 H1 wr=>wr=[o]/\ρ1 6=vi j/\∃i' o1,∃r:List mr,H1=H.set o (.box v (aM l i'))++[o1]/\ew H.length 2 (r.map cZ) (ρ1 4) o1/\r.length=j/\∀a∈r,ROk a) n.toNat
  (fun ρ1 H1 wr=>wr=[o]/\∃i' o1,∃r:List mr,H1=H.set o (.box v (aM l i'))++[o1]/\ew H.length 2 (r.map cZ) (ρ1 4) o1/\r.length=n.toNat/\∀a∈r,ROk a)
  (by kernel_rfl) rfl ⟨by simp only[go_sem,seval],by simp only[go_sem,seval],i2,_,[],rfl,by simp only[go_sem,seval];exact .nil _,rfl,by simp⟩ ?_ ?_
 ·rintro j ρ1 H1 dc mo ⟨rfl,e6,i',o1,r,rfl,hg,gu,il⟩ hf;have e0:ρ1 0=.ptr o v 0:=by rw[hf 0 rfl];simp only[go_sem,seval]
  have e3:ρ1 3=vi x:=by rw[hf 3 rfl];simp only[go_sem,seval]
  have e5:ρ1 5=vi n:=by rw[hf 5 rfl];simp only[go_sem,seval]
  simp only[go_sem,seval,e5,e6];refine aD (fun hb=>?_) (fun hb=>?_)
  ·have cr:j<n.toNat:=by simp at hb;omega
   have hw:AR.wrap (x+j)=x+j:=wrap_i64 (by omega) (by omega);simp only[go_sem,seval,e0,e3,e6,tS (b:=2) (by decide),hw];refine bB hp hl (i:=i') (by simp only[go_sem,seval,aP,hlt]) ?_;rintro val i3 ⟨s,rfl,hs⟩;obtain⟨v',o',eu,db⟩:=hg.app (new:=[[vi ((x+j).tmod 2),.str s]]) (bytes:=24) (by simp) (by rfl) (by rw[AF,gu];simp;omega);rw[show r.map cZ++[[vi ((x+j).tmod 2),.str s]]=(r++[mr.mk ((x+j).tmod 2) s]).map cZ by simp[cZ]]at eu;have V9:=GX (x+j) (b:=2) (by decide);have Il:=HV 2 (a:=x+j) (by omega);simp only[go_sem,seval,hlt,aR,db];rw[dW (by omega)];refine⟨cr,rfl,i3,o',r++[mr.mk ((x+j).tmod 2) s],rfl,eu,by simp[gu], ?_⟩;intro a ha;rcases AY.1 ha with ha | ha
   ·exact il a ha
   have:a=mr.mk ((x+j).tmod 2) s:=by simpa using ha
   subst this;exact⟨⟨⟨by show -9223372036854775808<=(x+j).tmod 2;omega,by show (x+j).tmod 2<=9223372036854775807;omega⟩,by show s.length<=1000;omega⟩,hs⟩
  have cr:j=n.toNat:=by simp at hb;omega
  subst cr;simp only[go_sem,seval];exact⟨i',o1,r,rfl,hg,gu,il⟩
 rintro ρ2 H2 en ⟨rfl,i',o1,r,rfl,hg,gu,il⟩ hf;have bl:r.map cZ≠[]:=by intro h;have:=congrArg FN h;simp only[AF,gu,AZ]at this;omega
 obtain⟨ver,e4,rfl⟩:=hg.inv bl;simp only[go_sem,seval,e4,hlt,aT (aC cA _),aA (aC cA _),aA (aC aU _),aW];exact⟨⟨i',rfl⟩,r,rfl,by omega,by omega,il⟩
abbrev aQo(v:AV):Prop:=∃r:List Str,v=.own 1 (r.map aN)/\1<=r.length/\r.length<=3/\∀s∈r,s.length<=60
abbrev mq:List Str:=[[105,102,32,120,32,60,32,51,32,123],[32,32,121,32,61,32,123,49,44,32,50,125],[125],[],[32,32,32,32,114,101,116,117,114,110,32,65,91,105,93,32,43,32,34,115,34],[102,111,114,32,105,32,58,61,32,48,59,32,105,32,60,32,49,48,59,32,105,43,43,32,123,32,116,111,116,97,108,32,61,32,116,111,116,97,108,32,43,32,118,97,108,117,101,115,91,105,93,32,42,32,50,32,125],[32,97,92,98,32,126,32,99]]
theorem aQp{A:af}{g:SN}(h:Has A g "au" (fS g))(ht:fR A g):dI A (g "au") [] aQo:=by
 refine h.gen (by simp[fS]) (fun n=>by kernel_rfl) ?_;intro l i o v H hl hlt ho;simp only[fS];simp only[go_sem,seval];refine bB (bA ht (m:=3) (by decide)) hl (i:=i) (by simp only[go_sem,seval,eK,hlt,ho]) ?_;rintro val i1 ⟨x,rfl,jr,lz⟩;have wk:AR.wrap (1+x)=1+x:=wrap_i64 (by omega) (by omega);simp only[go_sem,seval,hlt,fN,wk];refine bJ (id:=0) (fun j ρ1 H1 wr=>wr=[o]/\ρ1 6=vi j/\∃i' o1,∃r:List Str,H1=H.set o (.box v (aM l i'))++[o1]/\ew H.length 1 (r.map aN) (ρ1 4) o1/\r.length=j/\∀a∈r,a.length<=60) (1+x).toNat
  (fun ρ1 H1 wr=>wr=[o]/\∃i' o1,∃r:List Str,H1=H.set o (.box v (aM l i'))++[o1]/\ew H.length 1 (r.map aN) (ρ1 4) o1/\r.length=(1+x).toNat/\∀a∈r,a.length<=60)
  (by kernel_rfl) rfl ⟨by simp only[go_sem,seval],by simp only[go_sem,seval],i1,_,[],rfl,by simp only[go_sem,seval];exact .nil _,rfl,by simp⟩ ?_ ?_
 ·rintro j ρ1 H1 dc mo ⟨rfl,e6,i',o1,r,rfl,hg,gu,il⟩ hf;have e0:ρ1 0=.ptr o v 0:=by rw[hf 0 rfl];simp only[go_sem,seval]
  have e3:ρ1 3=.sl Qt (mq.map aN):=by rw[hf 3 rfl];simp only[go_sem,seval,mq,aN]
  have e5:ρ1 5=vi (1+x):=by rw[hf 5 rfl];simp only[go_sem,seval]
  simp only[go_sem,seval,e5,e6];refine aD (fun hb=>?_) (fun hb=>?_)
  ·have cr:j<(1+x).toNat:=by simp at hb;omega
   simp only[go_sem,seval,e0,e3,e6];refine bB (bA ht (m:=7) (by decide)) hl (i:=i') (by simp only[go_sem,seval,aP,hlt]) ?_;rintro val i3 ⟨y,rfl,oj,tc⟩;obtain⟨s,hs,cx⟩:=aQl mq oj tc;have G6:s.length<=60:=by
    have:∀s∈mq,s.length<=60:=by decide
    exact this s hs
   obtain⟨v',o',eu,db⟩:=hg.app (new:=[[.str s]]) (bytes:=16) (by simp) (by rfl) (by rw[AF,gu];simp;omega);rw[show r.map aN++[[.str s]]=(r++[s]).map aN by simp[aN]]at eu;simp only[DR,aN]at cx;simp only[go_sem,seval,hlt,aR,aN,db,oj,cx];rw[dW (by omega)];refine⟨cr,rfl,i3,o',r++[s],rfl,eu,by simp[gu], ?_⟩;intro a ha;rcases AY.1 ha with ha | ha
   ·exact il a ha
   have:a=s:=by simpa using ha
   subst this;exact G6
  have cr:j=(1+x).toNat:=by simp at hb;omega
  subst cr;simp only[go_sem,seval];exact⟨i',o1,r,rfl,hg,gu,il⟩
 rintro ρ2 H2 en ⟨rfl,i',o1,r,rfl,hg,gu,il⟩ hf;have bl:r.map aN≠[]:=by intro h;have:=congrArg FN h;simp only[AF,gu,AZ]at this;omega
 obtain⟨ver,e4,rfl⟩:=hg.inv bl;simp only[go_sem,seval,e4,hlt,aT (aC bO _),aA (aC bO _),aA (aC aU _),aW];exact⟨⟨i',rfl⟩,r,rfl,by omega,by omega,il⟩
abbrev aDJ(g:SN):List ae:=[qm 12 0,qm 13 5,⟨Qr 14,oi 12 13 4,Qs,[0,1]⟩,⟨Qr 15,ola 4 14,Qs,[2,0,1]⟩,qla 16 4 3,⟨Qr 17,.bin .eql (.cells [.int,.int,.int,.int]) (u 15) (u 16),Qs,[3,2,0,1,4]⟩]
abbrev tJ:LN:=[]
abbrev aDK(g:SN):ag:=.seq (qS [qm 6 5,qm 7 0,qn 8 7,qb 9 .lss 6 8]<|qC 9 (.skip) (.exit 0))<|.seq (.block 1 (.seq (.region Qt (aDJ g))<|qC 17 (qS [qmc 4 (.bool Qt)]<|.ret) (.skip)))<|.region Qu [qm 10 5,qbi 11 .add 10 1,qm 5 11]
def rI(g:SN):bw:=⟨18,[3],[.tmp 4],qS [qx 3 4 1,qmc 4 (.bool Qu)]<|.seq (qS [qmc 5 z0]<|.block 0 (.loop (aDK g)))<|qS [qmc 4 (.bool Qu)]<|.ret⟩
abbrev jQ(g:SN):ag:=.seq (qS [qm 16 6,qm 17 1,qb 18 .lss 16 17]<|qC 18 (.skip) (.exit 0))<|.seq (.block 1 (qS [qm 21 0,qc 22 (g "a") [u 21,ui 2],qbi 23 .eql 22 0]<|qC 23 (qR [qf 24 3 5,ql 25 1 24,qm 26 6,qq 27 (.bsl 1 [z0] 1 [(0,(.tmp 26))]),qa 28 1 8 25 27,qf 29 3 5,qs 1 29 28]) (.skip)))<|.region Qu [qm 19 6,qbi 20 .add 19 1,qm 6 20]
abbrev pI:LN:=[16,17,18,21,22,23,24,25,26,27,28,29,19,20,6]
abbrev pJ(g:SN):List ae:=[qf 45 2 5,⟨Qr 46,ol 1 45,Qs,[0]⟩,qm 47 0,⟨Qr 48,oc (g "i") [u 47],Qs,[2]⟩,⟨Qr 49,.bsl 1 [(.str [])] 4 [(0,(.const (.str [121,101,115]))),(1,(.const (.str [110,111]))),(2,(.tmp 48)),(3,(.const (.str [52,50])))],Qs,[3,2]⟩,qm 50 8,qm 51 0,⟨Qr 52,oc (g "a") [u 51,ui 2],Qs,[6,3,2]⟩,⟨Qr 53,ob .add 50 52,Qs,[5,7,6,3,2]⟩,⟨Qr 54,obi .rem 53 4,Qs,[8,5,7,6,3,2]⟩,⟨Qr 55,oi 49 54 1,Qs,[4,9,8,5,7,6,3,2]⟩,⟨Qr 56,ol 1 55,Qs,[10,4,9,8,5,7,6,3,2]⟩,⟨Qr 57,.bsl 1 [(.str [])] 1 [(0,(.tmp 56))],Qs,[11,10,4,9,8,5,7,6,3,2]⟩,⟨Qr 58,oa 1 16 46 57,Qs,[1,0,12,11,10,4,9,8,5,7,6,3,2]⟩,⟨Qr 59,of 2 5,Qs,[13,1,0,12,11,10,4,9,8,5,7,6,3,2]⟩,⟨Qs,os 1 59 58,Qs,[14,13,1,0,12,11,10,4,9,8,5,7,6,3,2]⟩]
abbrev jR:LN:=[1,3,7]
abbrev pK(g:SN):List ae:=[qf 60 6 5,⟨Qr 61,ol 1 60,Qs,[0]⟩,qq 62 (.bsl 1 [(.str [])] 3 [(0,(.const (.str []))),(1,(.const (.str [105,116,32,108,111,111,107,115,32,115,111]))),(2,(.const (.str [97,32,115,108,105,112])))]),qm 63 0,⟨Qr 64,oc (g "a") [u 63,ui 3],Qs,[3]⟩,⟨Qr 65,oi 62 64 1,Qs,[2,4,3]⟩,⟨Qr 66,ol 1 65,Qs,[5,2,4,3]⟩,⟨Qr 67,.bsl 1 [(.str [])] 1 [(0,(.tmp 66))],Qs,[6,5,2,4,3]⟩,⟨Qr 68,oa 1 16 61 67,Qs,[1,0,7,6,5,2,4,3]⟩,⟨Qr 69,of 6 5,Qs,[8,1,0,7,6,5,2,4,3]⟩,⟨Qs,os 1 69 68,Qs,[9,8,1,0,7,6,5,2,4,3]⟩]
abbrev jS:LN:=[1,4]
abbrev jT(g:SN):ag:=.seq (qS [qm 40 8,qm 41 7,qb 42 .lss 40 41]<|qC 42 (.skip) (.exit 3))<|.seq (.block 4 (.seq (.region Qt (pJ g))<|.region Qt (pK g)))<|.region Qu [qm 43 8,qbi 44 .add 43 1,qm 8 44]
abbrev pL:LN:=[40,41,42,45,46,47,48,49,50,51,52,53,54,55,56,57,58,59,60,61,62,63,64,65,66,67,68,69,43,44,8]
def jU(g:SN):ag:=.block 2 (qS [qbi 36 .eql 31 0,qm 35 36]<|qC 35 (qS [qm 37 0,qc 38 (g "a") [u 37,ui 3],qq 39 (.bin .add .no (ui 2) (u 38)),qm 7 39]<|.seq (qS [qmc 8 z0]<|.block 3 (.loop (jT g)))<|.region Qu [qm 70 0,qm 71 7,qc 72 (g "a") [u 70,u 71],qc 73 (g "H") [u 72],qf 74 4 5,qs 1 74 73]) (qS [qbi 76 .eql 31 1,qm 75 76]<|qC 75 (qR [qm 77 0,qc 78 (g "a") [u 77,ui 200],qc 79 (g "H") [u 78],qf 80 4 5,qs 1 80 79]) (qR [qm 32 0,qc 33 (g "i") [u 32],qf 34 4 5,qs 1 34 33])))
def eT(g:SN):bw:=⟨82,[4,5,28,58,68],[.cell 4 7 Qt],qS [qq 4 (.alloc [z0,(.sl Qt []),(.sl Qt []),(.sl Qt []),(.str []),z0,(.sl Qt [])])]<|qS [qm 9 0,qc 10 (g "a") [u 9,ui 3],qm 11 0,qc 12 (g "K") [u 11],qm 13 0,qc 14 (g "a") [u 13,ui 9],qq 15 (.build [z0,(.sl Qt []),(.sl Qt []),(.sl Qt []),(.str []),z0,(.sl Qt [])] [(0,1,(.tmp 10)),(1,1,(.tmp 12)),(5,1,(.tmp 14))]),qq 5 (.alloc [z0,(.sl Qt []),(.sl Qt []),(.sl Qt []),(.str []),z0,(.sl Qt [])]),qs 7 5 15]<|.seq (qS [qmc 6 z0]<|.block 0 (.loop (jQ g)))<|.seq (qS [qf 30 0 5,ql 31 1 30]<|jU g)<|qS [qla 81 7 5,qs 7 4 81]<|.ret⟩
theorem aC1{a b:Fact}:lP [.int,.int,.int,.int] (aI a) (aI b)=Qr (eqv a b):=by rw[aRE];simp only[aI,lP,aCO,Zv,aKv];cases eqv a.kind b.kind<;>cases eqv a.block b.block<;>cases eqv a.a b.a<;>cases eqv a.b b.b<;>rfl
theorem aLf{ts:List Tag}{x y:LA}{b:Bool}(h:lP ts x y=Qr b):kJ .eql (.cells ts) (.agg x) (.agg y)=Qr (.bool b):=by simp[kJ,tN,h]
theorem aSq{A:af}{g:SN}(h:Has A g "u" (rI g))(l:List Fact)(hl:l.length<=1000)(f:Fact):∃b:Bool,∀H,aG A (g "u") [.sl Qu (l.map aI),.agg (aI f)] H=Qr (.bool b,H,[]):=by
 refine⟨l.any fun a=>eqv a f,fun H=>?_⟩;refine h.call ?_;simp only[rI];simp only[go_sem,seval,aI];refine aKt (fun i ρ1 H1 wr=>wr=[]/\ρ1 5=vi i/\H1=H++[.box 1 (aI f)]/\(l.any fun a=>eqv a f)=((l.drop i).any fun a=>eqv a f)) l.length (by kernel_rfl) rfl ⟨rfl,by simp only[go_sem,seval],by simp only[go_sem,seval,aI],rfl⟩ ?_;rintro i ρ1 H1 dc mg ⟨rfl,h5,rfl,hi⟩ hf;have f0:ρ1 0=.sl Qu (l.map aI):=by rw[hf 0 rfl];simp only[go_sem,seval]
 have f3:ρ1 3=.ptr H.length 1 0:=by rw[hf 3 rfl];simp only[go_sem,seval]
 simp only[go_sem,seval,f0,h5];refine aD (fun hb=>?_) (fun hb=>?_)
 ·have hlt:i<l.length:=by simpa using hb
  rw[List.drop_eq_getElem_cons hlt,List.any_cons]at hi;simp only[go_sem,seval];refine aY (aq:=tJ) (by rfl) (by rfl) ?_;have h4:∀a:Fact,(aI a).length=4:=fun _=>rfl;have ht:∀a:Fact,FW 4 (aI a)=aI a:=fun _=>rfl;simp only[go_sem,seval,tJ,f0,f3,h5,hlt,getElem?_map_of hlt,h4,ht,aLf aC1];refine aD (fun dp=>?_) (fun dp=>?_)
  ·rw[dp,EP]at hi;simp only[go_sem,seval,hi]
  rw[dp,II]at hi;simp only[go_sem,seval,h5];rw[dW (by omega)];exact⟨hlt,rfl,hi⟩
 have hlt:i=l.length:=by
  have:¬i<l.length:=by simpa using hb
  omega
 subst hlt;rw[List.drop_eq_nil_of_le (AQ _),PG]at hi;simp only[go_sem,seval,hi]
theorem aHa{n:Int}(h0:0<=n)(h1:n<=1000000):eA n:=by constructor<;>omega
structure jt(q:Question):Prop where
 ok:q.Ok
 lens:q.options.length<=4/\q.dv.length<=4/\q.cy.length<=10/\q.lk.length<=3
 lk:∀r∈q.lk,r.text.length<=60
abbrev aBr(v:AV):Prop:=∃q:Question,v=.agg (gR q)/\jt q
theorem aVj{A:af}{g:SN}(ht:fR A g){H:LO}{Q:bf->bN->LO->LN->Prop}{tg}{l:List Int}(hl:jP l){o v:Nat}(hlt:o<H.length) {i:Int} {o0 o2 o3 o4:ah} {vq:Nat} {c0 c1 c2 c4 c5 c6:AV} {m:Nat} (hm:m<=10) {ρ:bN} (e0:ρ 0=.ptr o v 0) (e1:ρ 1=vi m) (e5:ρ 5=.ptr (H.length+1) vq 0) (e6:ρ 6=vi 0) (hQ:∀ρ' i' o2 w (r:List Int),(∀t,pI.contains t=Qu->ρ' t=ρ t)->r.length<=10->(∀a∈r,eA a)->ew (H.length+2) 1 (r.map bF) w o2 ->Q (.exit 0) ρ' (H.set o (.box v (aM l i'))++[o0,.box vq [c0,c1,c2,w,c4,c5,c6],o2,o3,o4]) [o]):wl A 82 ⟨H.length,[4,5,28,58,68]⟩ (jQ g) ρ (H.set o (.box v (aM l i))++[o0,.box vq [c0,c1,c2,.sl Qt [],c4,c5,c6],o2,o3,o4]) [o] Q tg:=by
 refine bJ (fun j ρ1 H1 wr=>wr=[o]/\ρ1 6=vi j/\∃i' o2 w,∃r:List Int,H1=H.set o (.box v (aM l i'))++[o0,.box vq [c0,c1,c2,w,c4,c5,c6],o2,o3,o4]/\ew (H.length+2) 1 (r.map bF) w o2/\r.length<=j/\∀a∈r,eA a) m
  (fun ρ1 H1 wr=>wr=[o]/\∃i' o2 w,∃r:List Int,H1=H.set o (.box v (aM l i'))++[o0,.box vq [c0,c1,c2,w,c4,c5,c6],o2,o3,o4]/\ew (H.length+2) 1 (r.map bF) w o2/\r.length<=10/\∀a∈r,eA a)
  (by kernel_rfl) rfl ⟨rfl,e6,i,o2,.sl Qt [],[],rfl,.nil _,AQ _,by simp⟩ ?_ (by
   rintro ρ' H' ba ⟨rfl,i',o2,w,r,rfl,hg,gj,nv⟩ hf;exact hQ ρ' i' o2 w r hf gj nv hg)
 rintro j ρ1 H1 dc mo ⟨rfl,e6,i',o2,w,r,rfl,hg,gu,il⟩ hf;have f0:ρ1 0=.ptr o v 0:=(hf 0 rfl).trans e0;have f1:ρ1 1=vi m:=(hf 1 rfl).trans e1;have f5:ρ1 5=.ptr (H.length+1) vq 0:=(hf 5 rfl).trans e5;simp only[go_sem,seval,f1,e6];refine aD (fun hb=>?_) (fun hb=>?_)
 ·have cr:j<m:=by simpa using hb
  simp only[go_sem,seval,f0];refine bB (bA ht (m:=2) (by decide)) hl (i:=i') (by simp only[go_sem,seval,aP,hlt]) ?_;rintro val i3 ⟨x,rfl,jr,lz⟩;simp only[go_sem,seval,hlt,aR];refine aD (fun dp=>?_) (fun dp=>?_)
  ·obtain⟨v',o',eu,db⟩:=hg.app (new:=[[vi j]]) (bytes:=8) (by simp) (by rfl) (by simp only[AF,AW,AZ];omega);rw[show r.map bF++[[vi j]]=(r++[(j:Int)]).map bF by simp[bF]]at eu;simp only[go_sem,seval,f5,e6,db,eu.ak,eu.aj];rw[dW (by omega)];refine⟨cr,rfl,i3,o',v',r++[(j:Int)],rfl,eu,by simp;omega, ?_⟩;intro a ha;rcases AY.1 ha with ha | ha
   ·exact il a ha
   have:a=(j:Int):=by simpa using ha
   subst this;exact aHa (by omega) (by omega)
  simp only[go_sem,seval,e6];rw[dW (by omega)];exact⟨cr,rfl,i3,o2,w,r,rfl,hg,by omega,il⟩
 have cr:j=m:=by
  have:¬j<m:=by simpa using hb
  omega
 subst cr;simp only[go_sem,seval];exact⟨i',o2,w,r,rfl,hg,by omega,il⟩
theorem aQq{A:af}{g:SN}(ht:fR A g)(hp:dI A (g "i") [] aIG){H:LO}{Q:bf->bN->LO->LN->Prop}{tg}{l:List Int}(hl:jP l){o v:Nat}(hlt:o<H.length) {i:Int} {o0 o2 o3 o4:ah} {vq:Nat} {c0 c1 c3 c4 c5:AV} {n:Int} (gq:2<=n) (lx:n<=4) {ρ:bN} (e0:ρ 0=.ptr o v 0) (e5:ρ 5=.ptr (H.length+1) vq 0) (e7:ρ 7=vi n) (e8:ρ 8=vi 0) (hQ:∀ρ' i' o3 o4 w w' (r r':List Str),(∀t,pL.contains t=Qu->ρ' t=ρ t)->r.length<=4->(∀a∈r,a.length<=60)->r'.length<=4->(∀a∈r',a.length<=60) ->ew (H.length+3) 1 (r.map aN) w o3->ew (H.length+4) 1 (r'.map aN) w' o4 ->Q (.exit 3) ρ' (H.set o (.box v (aM l i'))++[o0,.box vq [c0,c1,w,c3,c4,c5,w'],o2,o3,o4]) [o]):wl A 82 ⟨H.length,[4,5,28,58,68]⟩ (jT g) ρ (H.set o (.box v (aM l i))++[o0,.box vq [c0,c1,.sl Qt [],c3,c4,c5,.sl Qt []],o2,o3,o4]) [o] Q tg:=by
 refine bJ (fun j ρ1 H1 wr=>wr=[o]/\ρ1 8=vi j/\∃i' o3 o4 w w',∃r r':List Str,H1=H.set o (.box v (aM l i'))++[o0,.box vq [c0,c1,w,c3,c4,c5,w'],o2,o3,o4] /\
   ew (H.length+3) 1 (r.map aN) w o3/\ew (H.length+4) 1 (r'.map aN) w' o4/\r.length=j/\r'.length=j/\(∀a∈r,a.length<=60)/\∀a∈r',a.length<=60) n.toNat
  (fun ρ1 H1 wr=>wr=[o]/\∃i' o3 o4 w w',∃r r':List Str,H1=H.set o (.box v (aM l i'))++[o0,.box vq [c0,c1,w,c3,c4,c5,w'],o2,o3,o4] /\
   ew (H.length+3) 1 (r.map aN) w o3/\ew (H.length+4) 1 (r'.map aN) w' o4/\r.length<=4/\r'.length<=4/\(∀a∈r,a.length<=60)/\∀a∈r',a.length<=60)
  (by kernel_rfl) rfl ⟨rfl,e8,i,o3,o4,.sl Qt [],.sl Qt [],[],[],rfl,.nil _,.nil _,rfl,rfl,by simp,by simp⟩ ?_ (by
   rintro ρ' H' ba ⟨rfl,i',o3,o4,w,w',r,r',rfl,hg,eu,h1,h2,h3,h4⟩ hf;exact hQ ρ' i' o3 o4 w w' r r' hf h1 h3 h2 h4 hg eu)
 rintro j ρ1 H1 dc mo ⟨rfl,e8,i',o3,o4,w,w',r,r',rfl,hg,hh,gu,Gp,il,Bn⟩ hf;have f0:ρ1 0=.ptr o v 0:=(hf 0 rfl).trans e0;have f5:ρ1 5=.ptr (H.length+1) vq 0:=(hf 5 rfl).trans e5;have f7:ρ1 7=vi n:=(hf 7 rfl).trans e7;simp only[go_sem,seval,f7,e8];refine aD (fun hb=>?_) (fun hb=>?_)
 ·have cr:j<n.toNat:=by simp at hb;omega
  have bl:(H.length+1==o)=false:=by simp;omega
  simp only[go_sem,seval];refine aY (aq:=jR) (by rfl) (by rfl) ?_;simp only[go_sem,seval,jR,f0,f5,e8];refine eB hp hl (i:=i') (by simp only[go_sem,seval,aP,hlt]) ?_;rintro val i3 ⟨s,rfl,hs⟩;simp only[go_sem,seval,hlt,aR];refine eB (bA ht (m:=2) (by decide)) hl (i:=i3) (by simp only[go_sem,seval,aP,hlt]) ?_;rintro val i4 ⟨y,rfl,oj,tc⟩;have zz:AR.wrap ((j:Int)+y)=j+y:=wrap_i64 (by omega) (by omega);have Cx:=HV 4 (a:=j+y) (by omega);have gj:=GX (j+y) (b:=4) (by decide);obtain⟨t,qt,cx⟩:=aQl [[121,101,115],[110,111],s,[52,50]] Cx gj;simp only[DR,aN]at cx;have tl:t.length<=60:=by
   simp only[BD,CC,or_false]at qt;rcases qt with rfl | rfl | rfl | rfl
   ·simp
   ·simp
   ·exact hs
   simp
  obtain⟨v',o',eu,db⟩:=hg.app (new:=[[.str t]]) (bytes:=16) (by simp) (by rfl) (by simp only[AF,AW,AZ];omega);rw[show r.map aN++[[.str t]]=(r++[t]).map aN by simp[aN]]at eu;simp only[go_sem,seval,hlt,aR,zz,tS (b:=4) (by decide),Cx,cx,db,eu.ak,eu.aj,eH,dG,bl,aL];refine aY (aq:=jS) (by rfl) (by rfl) ?_;simp only[go_sem,seval,jS,f0,f5];refine eB (bA ht (m:=3) (by decide)) hl (i:=i4) (by simp only[go_sem,seval,aP,hlt]) ?_;rintro val i5 ⟨z,rfl,me,rr⟩;obtain⟨u,Jc,wm⟩:=aQl [[],[105,116,32,108,111,111,107,115,32,115,111],[97,32,115,108,105,112]] me rr;simp only[DR,aN]at wm;have R6:u.length<=60:=by simp only[BD,CC,or_false]at Jc;rcases Jc with rfl | rfl | rfl<;>simp
  obtain⟨v2,o2',Cy,ll⟩:=hh.app (new:=[[.str u]]) (bytes:=16) (by simp) (by rfl) (by simp only[AF,AW,AZ];omega);rw[show r'.map aN++[[.str u]]=(r'++[u]).map aN by simp[aN]]at Cy;simp only[go_sem,seval,e8,hlt,aR,me,wm,ll,Cy.ak,Cy.aj,eH,dG,bl,aL];rw[dW (by omega)];refine⟨cr,rfl,i5,o',o2',v',v2,r++[t],r'++[u],rfl,eu,Cy,by simp[gu],by simp[Gp], ?_, ?_⟩
  ·intro a ha;rcases AY.1 ha with ha | ha
   ·exact il a ha
   have:a=t:=by simpa using ha
   subst this;exact tl
  intro a ha;rcases AY.1 ha with ha | ha
  ·exact Bn a ha
  have:a=u:=by simpa using ha
  subst this;exact R6
 have cr:j=n.toNat:=by simp at hb;omega
 subst cr;simp only[go_sem,seval];exact⟨i',o3,o4,w,w',r,r',rfl,hg,hh,by omega,by omega,il,Bn⟩
theorem uM:∀(H:LO) (a b:LN),dL H (a++b)=dL (dL H a) b
 |H,[],b=>rfl
 |H,o::r,b=>by simp only[DO,dL];exact uM _ r b
theorem aAS(n:Nat):∀(wr a b:LN),bE n wr (a++b)=bE n (bE n wr a) b
 |wr,[],b=>rfl
 |wr,o::r,b=>by
  simp only[DO,bE];split<;>exact aAS n _ r b
theorem aLg{A:af}{g:SN}(h:Has A g "R" (eT g))(ht:fR A g)(hp:dI A (g "i") [] aIG) (hr:dI A (g "K") [] aQn) (hd:aH8 A g) {m:Nat} (hm:m<=10):dI A (g "R") [vi m] aBr:=by
 refine h.gen (by simp[eT]) (fun n=>by kernel_rfl) ?_;intro l i o v H hl hlt ho;simp only[eT];simp only[go_sem,seval];refine bB (bA ht (m:=3) (by decide)) hl (i:=i) (by simp only[go_sem,seval,eK,hlt,ho]) ?_;rintro val i1 ⟨k,rfl,l6,Ch⟩;simp only[go_sem,seval,hlt,fN];refine bB hr hl (i:=i1) (by simp only[go_sem,seval,aP,hlt]) ?_;rintro val i2 ⟨st,rfl,lq,nu,F1⟩;simp only[go_sem,seval,hlt,aR];refine bB (bA ht (m:=9) (by decide)) hl (i:=i2) (by simp only[go_sem,seval,aP,hlt]) ?_;rintro val i3 ⟨p,rfl,Mi,Oz⟩;simp only[go_sem,seval,hlt,aR];refine aVj ht hl hlt (m:=m) hm (by simp only[go_sem,seval]) (by simp only[go_sem,seval]) (by simp only[go_sem,seval]) (by simp only[go_sem,seval]) ?_;intro ρ2 i4 o2 w nd cq lx xh hg;have g0:ρ2 0=.ptr o v 0:=by rw[cq 0 rfl];simp only[go_sem,seval]
 have g4:ρ2 4=.ptr H.length 1 0:=by rw[cq 4 rfl];simp only[go_sem,seval]
 have g5:ρ2 5=.ptr (H.length+1) 1 0:=by rw[cq 5 rfl];simp only[go_sem,seval]
 obtain⟨f1,l1,o2',qe,iq,yz⟩:=hg.dw (aC aU _);have fin:∀(op rs:List Str) (key:Str),op.length<=4->(∀a∈op,a.length<=60)->rs.length<=4->(∀a∈rs,a.length<=60)->key.length<=1000 ->
   aBr (.agg [vi k,.sl Qu (st.map cZ),.sl Qu (op.map aN),.sl Qu (nd.map bF),.str key,vi p,.sl Qu (rs.map aN)]):=fun op rs key h1 h2 h3 h4 h5=>⟨⟨k,st,op,nd,key,p,rs⟩,rfl,⟨⟨aHa l6 (by show k<=1000000;omega),by show st.length<=16;omega,fun a h=>(F1 a h).1,by show op.length<=16;omega,fun s hs=>by have:=h2 s hs;show s.length<=1000;omega,by show nd.length<=16;omega,xh,h5,aHa Mi (by show p<=1000000;omega),by show rs.length<=16;omega,fun s hs=>by have:=h4 s hs;show s.length<=1000;omega⟩,⟨h1,h3,lx,nu⟩,fun a h=>(F1 a h).2⟩⟩
 have ru:k=0∨k=1∨k=2:=by omega
 simp only[go_sem,seval,g5];simp only[jU];rcases ru with rfl | rfl | rfl
 ·simp only[go_sem,seval,g0];refine bB (bA ht (m:=3) (by decide)) hl (i:=i4) (by simp only[go_sem,seval,aP,hlt]) ?_;rintro val i5 ⟨x,rfl,jr,lz⟩;have wk:AR.wrap (2+x)=2+x:=wrap_i64 (by omega) (by omega);simp only[go_sem,seval,hlt,aR,wk];refine aQq ht hp hl hlt (n:=2+x) (by omega) (by omega) (by simp only[go_sem,seval,g0]) (by simp only[go_sem,seval,g5]) (by simp only[go_sem,seval]) (by simp only[go_sem,seval]) ?_;intro ρ3 i6 o3 o4 w1 w2 op rs im a1 a2 a3 a4 D4 Aq;have k0:ρ3 0=.ptr o v 0:=by rw[im 0 rfl];simp only[go_sem,seval,g0]
  have k4:ρ3 4=.ptr H.length 1 0:=by rw[im 4 rfl];simp only[go_sem,seval,g4]
  have k5:ρ3 5=.ptr (H.length+1) 1 0:=by rw[im 5 rfl];simp only[go_sem,seval,g5]
  have k7:ρ3 7=vi (2+x):=by rw[im 7 rfl];simp only[go_sem,seval]
  obtain⟨f2,l2,o3',m1,m2,m3⟩:=D4.dw (aC bO _);obtain⟨f3,l3,o4',n1,n2,n3⟩:=Aq.dw (aC bO _);simp only[go_sem,seval,k0,k7];refine bB (bA ht (m:=2+x) (by omega)) hl (i:=i6) (by simp only[go_sem,seval,aP,hlt]) ?_;rintro val i7 ⟨y,rfl,oj,tc⟩;obtain⟨yn,rfl⟩:=DN oj;have Gq:=fun H=>hd yn H (by omega);have Ik:=aGn 5 yn (by omega);simp only[go_sem,seval,k4,k5,hlt,aR,Gq,hg.ak,D4.ak,Aq.ak,qe,iq,yz,m1,m2,m3,n1,n2,n3,uM,aAS,aW,aA (aC cA _),aA (aC bO _),aA (aC aU _)];exact⟨⟨i7,rfl⟩,fin op rs (dec yn) a1 a2 a3 a4 (by omega)⟩
 ·simp only[go_sem,seval,g0];refine bB (bA ht (m:=200) (by decide)) hl (i:=i4) (by simp only[go_sem,seval,aP,hlt]) ?_;rintro val i7 ⟨y,rfl,oj,tc⟩;obtain⟨yn,rfl⟩:=DN oj;have Gq:=fun H=>hd yn H (by omega);have Ik:=aGn 5 yn (by omega);simp only[go_sem,seval,g4,g5,hlt,aR,Gq,hg.ak,qe,iq,yz,aW,aA (aC cA _),aA (aC aU _)];exact⟨⟨i7,rfl⟩,fin [] [] (dec yn) (by simp) (by simp) (by simp) (by simp) (by omega)⟩
 simp only[go_sem,seval,g0];refine bB hp hl (i:=i4) (by simp only[go_sem,seval,aP,hlt]) ?_;rintro val i7 ⟨s,rfl,G6⟩;simp only[go_sem,seval,g4,g5,hlt,aR,hg.ak,qe,iq,yz,aW,aA (aC cA _),aA (aC aU _)];exact⟨⟨i7,rfl⟩,fin [] [] s (by simp) (by simp) (by simp) (by simp) (by omega)⟩
abbrev nD(g:SN):List ae:=[qla 11 4 3,qm 12 0,qm 13 5,⟨Qr 14,oi 12 13 4,Qs,[1,2]⟩,⟨Qr 15,ola 4 14,Qs,[3,1,2]⟩,⟨Qr 16,.bin .eql (.cells [.int,.int,.int,.int]) (u 11) (u 15),Qs,[0,4,3,1,2]⟩]
abbrev eE:LN:=[]
abbrev nE(g:SN):ag:=qS [qb 9 .lss 8 7]<|.seq (qC 9 (.skip) (.exit 0))<|.seq (.block 1 (qS [qm 10 8,qm 5 10]<|.seq (.region Qt (nD g))<|qC 16 (qS [qm 17 5,qm 4 17]<|.ret) (.skip)))<|.region Qu [qbi 18 .add 8 1,qm 8 18]
def dM(g:SN):bw:=⟨19,[],[.tmp 4],qS [qx 3 4 1,qmc 4 z0]<|.seq (qS [qm 6 0,qn 7 6,qmc 8 z0]<|.block 0 (.loop (nE g)))<|qS [qmc 4 (.int .i64 (-1))]<|.ret⟩
def eF(g:SN):bw:=⟨9,[],[.tmp 4],qS [qx 3 4 1,qmc 4 (.bool Qu)]<|qS [qm 5 0,qla 6 4 3,qc 7 (g "bh") [u 5,u 6],qbi 8 .geq 7 0,qm 4 8]<|.ret⟩
def tK(g:SN):ag:=.block 0 (qS [qbi 7 .eql 5 0,qm 6 7]<|qC 6 (qS [qm 8 0,qbi 9 .neq 8 4,qm 4 9]<|.ret) (qS [qbi 11 .eql 5 1,qm 10 11]<|qC 10 (qS [qm 12 0,qbi 13 .eql 12 3,qm 4 13]<|.ret) (.seq (qS [qbi 15 .eql 5 2,qm 14 15]<|qC 14 (.skip) (qS [qbi 16 .eql 5 3,qm 14 16]<|qC 14 (.skip) (qR [qbi 17 .eql 5 4,qm 14 17])))<|qC 14 (qS [qm 18 0,qbi 19 .eql 18 4,qm 4 19]<|.ret) (qS [qbi 21 .eql 5 5,qm 20 21]<|qC 20 (qS [qm 22 0,qbi 23 .eql 22 5,qm 4 23]<|.ret) (qS [qbi 25 .eql 5 6,qm 24 25]<|qC 24 (qS [qm 26 0,qbi 27 .eql 26 6,qm 4 27]<|.ret) (.skip))))))
def rJ(g:SN):bw:=⟨28,[],[.tmp 4],qS [qmc 4 (.bool Qu)]<|.seq (qS [qm 5 1]<|tK g)<|qS [qmc 4 (.bool Qu)]<|.ret⟩
def aFa(g:SN):bw:=⟨14,[3],[.tmp 4],qS [qx 2 13 0,qx 3 4 1,qmc 4 (.bool Qu)]<|qS [qla 6 13 2,qq 7 (.bsl 13 [z0,(.sl Qu []),z0,z0,(.sl Qu []),z0,(.sl Qu []),(.sl Qu []),z0,z0,(.sl Qu []),(.sl Qu []),(.sl Qu [])] 1 [(0,(.tmp 6))]),qq 8 (.build [(.str []),(.sl Qt []),(.sl Qt []),(.sl Qt [])] [(0,1,(.const (.str [97]))),(1,1,(.tmp 7))]),qc 9 (g "B") [u 8],qm 5 9]<|qS [qf 10 1 3,qz (.store 1 (u 10) (ui 0))]<|qS [qm 11 5,qla 12 4 3,qc 13 (g "an") [u 11,u 12],qm 4 13]<|.ret⟩
section
variable {A:af}{g:SN}{tB:Nat}
theorem aMk(h:Has A g "bh" (dM g))(l:List Fact)(s:Fact)(fl:Bool)(hl:l.length<=1000000000)(H:LO):aG A (g "bh") [.sl fl (l.map aI),.agg (aI s)] H=Qr (vi (aMW (fun x=>eqv s x) l),H,[]):=by
 refine h.call ?_;simp only[dM];simp only[go_sem,↓aB,seval,AF,lF.len,lF.still,lF.ga];refine bJ (id:=0) (fun i ρ1 H1 wr=>wr=[]/\H1=H/\ρ1 8=vi i/\∀j (hj:j<i) (hl:j<l.length),(eqv s l[j])=Qu) l.length
  (fun ρ1 H1 wr=>wr=[]/\H1=H/\∀j (hl:j<l.length),(eqv s l[j])=Qu)
  (by kernel_rfl) rfl ⟨rfl,by simp,rfl,fun j hj=>by omega⟩ ?_ ?_
 ·rintro i ρ1 H1 dc mg ⟨rfl,rfl,e8,hn⟩ hf;have e0:ρ1 0=.sl fl (l.map aI):=hf 0 rfl;have e3:ρ1 3=.ep (aI s) 0:=hf 3 rfl;have e7:ρ1 7=vi l.length:=hf 7 rfl;simp only[go_sem,↓aB,seval,e8,e7];refine aD (fun hb=>?_) (fun hb=>?_)
  ·have hlt:i<l.length:=by simpa using hb
   have hg:(l.map aI)[i]? = Qr (aI l[i]):=getElem?_map_of hlt;have gq:(0:Int)<=(i:Int):=by omega
   have lx:(i:Int)<(l.length:Int):=by omega
   have kx:((i:Int)).toNat=i:=by omega
   have zr:=wS (i:=i) (by omega);have D0:=aLf (aC1 (a:=s) (b:=l[i]));simp only[go_sem,↓aB,seval,e8];refine aY (aq:=eE) (by rfl) (by rfl) ?_;cases hc:(eqv s l[i])with
   |true=>rw[hc]at D0;simp only[go_sem,↓aB,seval,eE,e0,e3,hg,gq,kx,D0,AD,lF.len,lF.take];exact (aLT (p:=fun x=>eqv s x) hlt hc fun j hj=>hn j hj (by omega)).symm ▸ rfl
   |false=>
    rw[hc]at D0;simp only[go_sem,↓aB,seval,eE,e0,e3,e8,hg,gq,kx,D0,zr,AD,lF.len,lF.take];refine⟨hlt,fun j hj mo=>?_⟩;by_cases e:j=i
    ·subst e;exact hc
    exact hn j (by omega) mo
  have hi:i=l.length:=by simp at hb;omega
  subst hi;simp only[go_sem,seval];exact fun j hj=>hn j hj hj
 rintro ρ' H' ba ⟨rfl,rfl,hn⟩ hf;simp only[go_sem,↓aB,seval,aGq (p:=fun x=>eqv s x) hn]
theorem uN(h:Has A g "an" (eF g))(hi:Has A g "bh" (dM g))(l:List Fact)(s:Fact)(fl:Bool)(hl:l.length<=1000000000)(H:LO):aG A (g "an") [.sl fl (l.map aI),.agg (aI s)] H=Qr (.bool (l.any fun x=>eqv s x),H,[]):=by refine h.call ?_;simp only[eF];simp only[go_sem,↓aB,seval,fun H=>aMk hi l s Qu hl H,aLU,lF.len,lF.still,lF.ga,lF.take,AD,aS (eL s)]
def aHb(bk fk:Int):Bool:=if fk=0 then bk != 4 else if fk=1 then bk==3 else if fk=2∨fk=3∨fk=4 then bk==4 else if fk=5 then bk==5 else if fk=6 then bk==6 else Qu
theorem aJF(h:Has A g "bC" (rJ g))(bk fk:Int)(H:LO):aG A (g "bC") [vi bk,vi fk] H=Qr (.bool (aHb bk fk),H,[]):=by
 refine h.call ?_;simp only[rJ,tK,aHb];by_cases e0:fk=0
 ·simp only[go_sem,↓aB,seval,e0]
 have n0:(fk==0)=false:=by simpa using e0
 by_cases e1:fk=1
 ·simp only[go_sem,↓aB,seval,e1]
 have n1:(fk==1)=false:=by simpa using e1
 by_cases e2:fk=2
 ·simp only[go_sem,↓aB,seval,e2,true_or]
 have n2:(fk==2)=false:=by simpa using e2
 by_cases e3:fk=3
 ·simp only[go_sem,↓aB,seval,e3,true_or,or_true]
 have n3:(fk==3)=false:=by simpa using e3
 by_cases e4:fk=4
 ·simp only[go_sem,↓aB,seval,e4,or_true]
 have n4:(fk==4)=false:=by simpa using e4
 by_cases e5:fk=5
 ·simp only[go_sem,↓aB,seval,e5,or_self]
 have n5:(fk==5)=false:=by simpa using e5
 by_cases e6:fk=6
 ·simp only[go_sem,↓aB,seval,e6,or_self]
 have n6:(fk==6)=false:=by simpa using e6
 simp only[go_sem,↓aB,seval,e0,e1,e2,e3,e4,e5,e6,n0,n1,n2,n3,n4,n5,n6,or_self]
noncomputable def jY(b:Block):List Fact:=if dQ b then eM b 0 else []
theorem aHO{b:Block}(hb:b.Ok):(jY b).length<=1792:=by
 unfold jY;split
 ·exact yT hb 7
 exact FF _
structure lp(A:af)(g:SN)(tB:Nat):Prop where
 fam:ke A g
 facts:Has A g "G" (oZ g)
 usable:Has A g "B" (yV g)
 valid:kc A g tB
 con:Has A g "an" (eF g)
 ind:Has A g "bh" (dM g)
 holds:Has A g "cd" (aFa g)
 possible:Has A g "bC" (rJ g)
theorem aVk(F:lp A g tB)(b:Block)(hb:b.Ok)(H:LO):aG A (g "B") [.agg (aO ⟨[97],[b],[],[]⟩)] H=Qr (aSo (jY b),H,[]):=by
 obtain⟨R,h1,h2⟩:=aH7 F.fam F.facts F.usable ⟨[97],[b],[],[]⟩ ⟨(by show ([97]:Str).length<=1000;decide),by show ([b]:List Block).length<=16;simp,fun x hx=>by rw[CG.1 hx];exact hb,FF _,(fun _ h=>by cases h),FF _,(fun _ h=>by cases h)⟩ (P:=dQ b=Qt) (P':=dQ b=Qt)
  (fun H=>⟨if dQ b then 0 else 1,aTi F.valid b hb H,fun h=>by cases hB:dQ b<;>simp[hB]at h ⊢,fun h=>by rw[h];rfl⟩) H
 rw[h1];rcases h2 with⟨rfl,hn⟩ | ⟨hp,rfl⟩
 ·have:dQ b=false:=by simpa using hn
  simp[jY,this]
 have:tI ⟨[97],[b],[],[]⟩=eM b 0:=by show mI [b] 1=_;rw[yW (by simp)];simp[mI]
 rw[this];simp[jY,hp]
theorem aOr(F:lp A g tB)(b:Block)(hb:b.Ok)(f:Fact)(H:LO):aG A (g "cd") [.agg (aE b),.agg (aI f)] H=Qr (.bool ((jY b).any fun x=>eqv { f with block:=0 } x),H,[]):=by
 refine F.holds.call ?_;have hu:=fun H=>aVk F b hb H;have ax:=aHO hb;have hc:=fun H=>uN F.con F.ind (jY b) { f with block:=0 } Qu (by omega) H;simp only[aFa];simp only[aO,BI,BY]at hu;simp only[aI]at hc ⊢;cases hR:jY b with
 |nil=>simp only[hR,aFF,BY]at hu hc;simp only[go_sem,↓aB,seval,hu,hc,bT.len,bT.still,bT.ga,bT.take,AD,AB,AA,AE,aS (bG b),AJ]
 |cons x r=>have hd:gG ((x::r).map aI)=true:=aC eL _;simp only[hR,aDI]at hu hc;generalize (x::r).map aI=rows at *;simp only[go_sem,↓aB,seval,hu,hc,bT.len,bT.still,bT.ga,bT.take,AD,AB,AA,AE,aS (bG b),AJ]
end
section
variable {A:af}{g:SN}{tB tP:Nat}
theorem aVl(F:og A g tB tP)(b:Block)(hb:b.Ok)(hB:dQ b=Qt)(hv:b.kind=1->aBV b.expr=0)(h4:b.kind≠4)(hc:∀H,aG A (g "D") [.agg (aE b)] H=Qr (vi 0,H,[]))(H:LO):aG A (g "bT") [.agg (aE b)] H=Qr (.tup [.str (wB b),vi 0],H,[]):=by
 obtain⟨op,n,ks,ig⟩:=eW b;refine F.text.call ?_;have qv:=bG b;have zz:=fun X=>aQe F.ways (g:=g) X;simp only[aH2];simp only[go_sem,↓aB,seval,cF,bT.take,bT.still,bT.ga,aS qv,hc];refine aY (aq:=aBZ) (H0:=_) (by simp only[go_sem,seval,cS];rfl) (by rfl) ?_;have pk:FW 1 (aE b)=[vi b.kind]:=by rw[ig];rfl
 have hle:(1:Nat)<=13:=by decide
 obtain⟨j,hj,Mj,f1,f2,Ey,Mk⟩:=aYc F b hb hB hv h4;have Ml:=aSi j hj Mj Ey;simp only[go_sem,↓aB,seval,aBZ,zz,pk,hle,cF,AD,Ml,eH,dG,aL,bT.take,aS qv,aK qv,Mk]
end
theorem aCE{b:Block}{at':Int}{f:Fact}(h:f∈eM b at'):∃k,k<7/\lJ (aBp k) b.kind=Qt/\∃p∈aWq b k,f=⟨k,at',p.1,p.2⟩:=by
 unfold eM nO at h;obtain⟨k,hk,h⟩:=IM.1 h;unfold aF8 at h;split at h
 ·rename_i hh;obtain⟨p,hp,e⟩:=DB.1 h;exact⟨k,HE.1 hk,hh,p,hp,e.symm⟩
 cases h
theorem aVm{l:List Shape}{kind:Int}{p:Nat×Nat}{n m:Nat}(h:p∈iI l kind n m):p.1<n/\p.2<m:=aDs.1 (List.mem_filter.1 h).1
def aAT(g:SN):ag:=.block 0 (qS [qm 30 7,qbi 31 .neq 30 0,qm 29 31]<|qC 29 (qS [qm 32 7,qmc 4 (.str []),qm 5 32]<|.ret) (qS [qf 34 0 6,ql 35 1 34,qf 36 0 3,ql 37 1 36,qc 38 (g "bC") [u 35,u 37],qq 39 (.un .not (u 38)),qm 33 39]<|qC 33 (qS [qmc 4 (.str []),qmc 5 (vi 13)]<|.ret) (qS [qla 41 13 6,qla 42 4 3,qc 43 (g "cd") [u 41,u 42],qq 44 (.un .not (u 43)),qm 40 44]<|qC 40 (qS [qmc 4 (.str []),qmc 5 (vi 5)]<|.ret) (.skip))))
abbrev aHc(g:SN):List ae:=[qf 55 7 6,⟨Qr 56,of 0 55,Qs,[0]⟩,⟨Qr 57,ol 1 56,Qs,[1,0]⟩,qf 58 2 3,⟨Qr 59,ol 1 58,Qs,[3]⟩,⟨Qr 60,oi 57 59 1,Qs,[2,1,0,4,3]⟩,⟨Qr 61,ol 1 60,Qs,[5,2,1,0,4,3]⟩,qf 62 3 3,⟨Qr 63,ol 1 62,Qs,[7]⟩,⟨Qr 64,oi 61 63 1,Qs,[6,5,2,1,0,4,3,8,7]⟩,⟨Qr 65,ol 1 64,Qs,[9,6,5,2,1,0,4,3,8,7]⟩,⟨Qr 4,om 65,Qs,[10,9,6,5,2,1,0,4,3,8,7]⟩,⟨Qr 5,omc z0,Qs,[11,10,9,6,5,2,1,0,4,3,8,7]⟩]
abbrev aAU:LN:=[]
abbrev aHd(g:SN):List ae:=[qf 68 11 6,⟨Qr 69,of 0 68,Qs,[0]⟩,⟨Qr 70,ol 1 69,Qs,[1,0]⟩,qf 71 3 3,⟨Qr 72,ol 1 71,Qs,[3]⟩,⟨Qr 73,oi 70 72 1,Qs,[2,1,0,4,3]⟩,⟨Qr 74,ol 1 73,Qs,[5,2,1,0,4,3]⟩,qf 75 2 3,⟨Qr 76,ol 1 75,Qs,[7]⟩,⟨Qr 77,oi 74 76 1,Qs,[6,5,2,1,0,4,3,8,7]⟩,⟨Qr 78,ol 1 77,Qs,[9,6,5,2,1,0,4,3,8,7]⟩,⟨Qr 79,oc (g "bE") [u 78],Qs,[10,9,6,5,2,1,0,4,3,8,7]⟩,⟨Qr 4,om 79,Qs,[11,10,9,6,5,2,1,0,4,3,8,7]⟩,⟨Qr 5,omc z0,Qs,[12,11,10,9,6,5,2,1,0,4,3,8,7]⟩]
abbrev aAV:LN:=[]
def aAW(g:SN):ag:=.block 1 (qS [qbi 48 .eql 46 0,qm 47 48]<|qC 47 (qS [qla 49 13 6,qc 50 (g "bT") [u 49],qq 51 (.ext 0 (u 50)),qq 52 (.ext 1 (u 50)),qm 4 51,qm 5 52]<|.ret) (qS [qbi 54 .eql 46 1,qm 53 54]<|qC 53 (.seq (.region Qt (aHc g))<|.ret) (qS [qbi 67 .eql 46 5,qm 66 67]<|qC 66 (.seq (.region Qt (aHd g))<|.ret) (qS [qbi 81 .eql 46 6,qm 80 81]<|qC 80 (qS [qf 82 12 6,ql 83 1 82,qf 84 2 3,ql 85 1 84,qi 86 83 85 1,ql 87 1 86,qm 4 87,qmc 5 z0]<|.ret) (.skip)))))
def aAX(g:SN):bw:=⟨96,[6],[.tmp 4,.tmp 5],qS [qx 2 4 0,qx 3 4 1,qmc 4 (.str []),qmc 5 z0]<|.seq (qS [qf 10 1 3,ql 11 1 10,qbi 12 .lss 11 0,qm 13 12,qF 14 13 (of 1 3),qF 15 13 (ol 1 14),qF 16 13 (of 1 2),qF 17 13 (ol 1 16),qF 18 13 (on 17),qF 19 13 (ob .geq 15 18),qq 20 (.pick (u 13) uT (u 19))]<|qC 20 (qS [qmc 4 (.str []),qmc 5 (vi 12)]<|.ret) (.skip))<|qS [qf 21 1 2,ql 22 1 21,qf 23 1 3,ql 24 1 23,qi 25 22 24 13,qla 26 13 25,qq 6 (.alloc [z0,(.sl Qt []),z0,z0,(.sl Qt []),z0,(.sl Qt []),(.sl Qt []),z0,z0,(.sl Qt []),(.sl Qt []),(.sl Qt [])]),qs 13 6 26]<|.seq (qS [qla 27 13 6,qc 28 (g "D") [u 27],qm 7 28]<|aAT g)<|.seq (qS [qf 45 0 3,ql 46 1 45]<|aAW g)<|.seq (qS [qf 89 8 6,qla 90 3 89,qla 91 4 3,qc 92 (g "W") [u 90,u 91],qm 88 92,qq 93 (.ext 0 (u 88)),qq 94 (.ext 1 (u 88)),qm 8 93,qm 9 94]<|qS [qm 95 8]<|qC 95 (qS [qmc 4 (.str [121,101,115]),qmc 5 z0]<|.ret) (.skip))<|qS [qmc 4 (.str [110,111]),qmc 5 z0]<|.ret⟩
structure yc(A:af)(g:SN)(E:Int->Int->List Shape->Int)(tB tP:Nat):Prop where
 hold:lp A g tB
 text:og A g tB tP
 check:Has A g "D" (tE g)
 fig:aCD A g E
 value:Has A g "aO" (aAX g)
 ph:∀(b:Block) (f:Fact) (H:LO),b.Ok->(∀s∈b.aw,vQ s=Qt)->1<=b.w/\b.w<=1000->1<=b.h/\b.h<=1000->b.aw.length<=8->0<=f.a->0<=f.b->f.a<b.aw.length->f.b<b.aw.length->2<=f.kind->f.kind<=4 ->
  ∃(r:Bool) (e:Int),aG A (g "W") [.agg (aDn b.w b.h b.aw),.agg (aI f)] H=Qr (.tup [.bool r,vi e],H,[])
structure Told(E:Int->Int->List Shape->Int)(x:Item)(f:Fact):Prop where
 b0:0<=f.block
 b1:f.block<x.blocks.length
 right:∀b,x.blocks[f.block.toNat]? = Qr b->dQ b=Qt/\nU E b=0/\f∈eM b f.block
theorem aVn{k:Nat}{b:Block}(hk:k<7)(h:lJ (aBp k) b.kind=Qt)(hb:0<=b.kind):aHb b.kind k=true:=by
 match k,hk with
 |0,_=>simp[lJ,aBp]at h;simp[aHb];omega
 |1,_=>simp[lJ,aBp]at h;simp[aHb];omega
 |2,_=>simp[lJ,aBp]at h;simp[aHb];omega
 |3,_=>simp[lJ,aBp]at h;simp[aHb];omega
 |4,_=>simp[lJ,aBp]at h;simp[aHb];omega
 |5,_=>simp[lJ,aBp]at h;simp[aHb];omega
 |6,_=>simp[lJ,aBp]at h;simp[aHb];omega
theorem aVo{k:Nat}{b:Block}(hk:k<7)(h:lJ (aBp k) b.kind=Qt):(k=0/\b.kind≠4)∨(0<k/\b.kind=aBp k):=by
 match k,hk with
 |0,_=>simp[lJ,aBp]at h;left;exact⟨rfl,by omega⟩
 |1,_=>simp[lJ,aBp]at h;right;exact⟨by decide,by simp[aBp];omega⟩
 |2,_=>simp[lJ,aBp]at h;right;exact⟨by decide,by simp[aBp];omega⟩
 |3,_=>simp[lJ,aBp]at h;right;exact⟨by decide,by simp[aBp];omega⟩
 |4,_=>simp[lJ,aBp]at h;right;exact⟨by decide,by simp[aBp];omega⟩
 |5,_=>simp[lJ,aBp]at h;right;exact⟨by decide,by simp[aBp];omega⟩
 |6,_=>simp[lJ,aBp]at h;right;exact⟨by decide,by simp[aBp];omega⟩
theorem aOs{b:Block}{f:Fact}{n m:Int}(h:f∈eM b n):({ f with block:=m }:Fact)∈eM b m:=by obtain⟨k,hk,hh,p,hp,rfl⟩:=aCE h;unfold eM nO;refine IM.2 ⟨k,HE.2 hk, ?_⟩;unfold aF8;rw[Zy hh];exact DB.2 ⟨p,hp,rfl⟩
section
variable {A:af}{g:SN}{tB tP:Nat}{E:Int->Int->List Shape->Int}
theorem aIH(F:yc A g E tB tP)(x:Item)(hx:x.Ok)(f:Fact)(hf:Told E x f)(H:LO):∃s:Str,aG A (g "aO") [.agg (aO x),.agg (aI f)] H=Qr (.tup [.str s,vi 0],H,[]):=by
 obtain⟨t0,t1,t2⟩:=hf;have hlt:f.block.toNat<x.blocks.length:=by omega
 have td:=hx.blocks _ (AS hlt);obtain⟨hB,hC,hm⟩:=t2 _ (AP hlt);have cj:(x.blocks.map aE)[f.block.toNat]? = Qr (aE x.blocks[f.block.toNat]):=by rw[BN,AP hlt];rfl
 generalize x.blocks[f.block.toNat]=b at *;have J1:decide (f.block<0)=false:=by simp;omega
 have nj:decide (f.block ≥ (x.blocks.length:Int))=false:=by simp;omega
 have Bo:∀H,aG A (g "D") [.agg (aE b)] H=Qr (vi 0,H,[]):=fun H=>by
  rw[aMj F.fig F.hold.valid F.text.form F.check b td H,hC]
 have qv:=bG b;have iz:(aE b).all AV.ak=true:=bQ qv;have hK:xU b=true:=yU hB;obtain⟨k,hk,hh,⟨pa,pb⟩,hp,D5⟩:=aCE hm;have dx:0<=b.kind:=by unfold xU at hK;by_cases k0:b.kind=0;omega;by_cases k1:b.kind=1;omega;by_cases k2:b.kind=2;omega;by_cases k3:b.kind=3;omega;by_cases k4:b.kind=4;omega;by_cases k5:b.kind=5;omega;by_cases k6:b.kind=6;omega;rw[Zx k0,Zx k1,Zx k2,Zx k3,Zx k4,Zx k5,Zx k6]at hK;cases hK
 have M6:=fun H=>aJF F.hold.possible b.kind f.kind H;have V3:aHb b.kind f.kind=true:=by rw[D5];exact aVn hk hh dx
 rw[V3]at M6;have C1:=fun H=>aOr F.hold b td f H;have mw:((jY b).any fun y=>eqv { f with block:=0 } y)=true:=by refine KS.2 ⟨{ f with block:=0 }, ?_,by simp[eqv]⟩;unfold jY;rw[Zy hB];exact aOs hm
 rw[mw]at C1;have S5:FW 1 (aE b)=[vi b.kind]:=by obtain⟨op,n,ks,ig⟩:=eW b;rw[ig];rfl
 obtain⟨r,H',ba,e1,rfl,rfl,s,rfl⟩:=F.value.bp (args:=[.agg (aO x),.agg (aI f)]) (H:=H) (K:=fun r H' wr=>wr=[]/\H'=H/\∃s:Str,r=.tup [.str s,vi 0]) (by
  simp only[aAX];simp only[aI]at C1 ⊢;simp only[go_sem,↓aB,seval,aO,J1,nj,cj,Bo,t0,AF,cF,bT.take,bT.ga,aS qv,iz,AD,AB,AA,AE];simp only[aAT];simp only[go_sem,↓aB,seval,M6,C1,S5,cF,bT.take,bT.ga,aS qv,AD,AA,AE];simp only[aAW];have Gr:FW 1 (KW 7 (aE b))=[.sl Qu (b.cd.map bY)]:=by obtain⟨op,n,ks,ig⟩:=eW b;rw[ig];rfl
  have Bp:FW 1 (KW 11 (aE b))=[.sl Qu (b.bo.map bS)]:=by obtain⟨op,n,ks,ig⟩:=eW b;rw[ig];rfl
  have Bq:FW 1 (KW 12 (aE b))=[.sl Qu (b.lines.map aN)]:=by obtain⟨op,n,ks,ig⟩:=eW b;rw[ig];rfl
  have Gs:FW 3 (KW 8 (aE b))=[vi b.w,vi b.h,.sl Qu (b.aw.map aH)]:=by obtain⟨op,n,ks,ig⟩:=eW b;rw[ig];rfl
  have Br:f.a=(pa:Int):=by rw[D5]
  have W7:f.b=(pb:Int):=by rw[D5]
  have qo:f.kind=(k:Int):=by rw[D5]
  have Cz:=aVo hk hh;have pn:∀n:Nat,(0:Int)<=(n:Int):=fun n=>by omega
  by_cases c0:k=0
  ·subst c0;have h4:b.kind≠4:=by rcases Cz with⟨_,h⟩ | ⟨h,_⟩;exact h;omega
   have hv:b.kind=1->aBV b.expr=0:=fun h=>by unfold nU at hC;rw[Zy hB,Zy h]at hC;exact hC
   have Mm:=fun H=>aVl F.text b td hB hv h4 Bo H;have qo:f.kind=0:=qo;simp only[go_sem,↓aB,seval,qo,Mm,cF,bT.take,bT.ga,aS qv,AD,BC];exact⟨_,rfl⟩
  have pt:b.kind=aBp k:=by rcases Cz with⟨h,_⟩ | ⟨_,h⟩;exact Zw h c0;exact h
  by_cases c1:k=1
  ·subst c1;have qo:f.kind=1:=qo;have hp:(pa,pb)∈qA b.cd.length (aFt b):=hp;obtain⟨g1,g2⟩:=aDs.1 hp;have pt:b.kind=3:=pt;unfold xU at hK;rw[Zx (by omega),Zx (by omega),Zx (by omega),Zy pt]at hK;simp only[AI,AO]at hK;have cn:=hK.2 _ (AS g1);have fh:=mgE bY g1;generalize b.cd[pa]=r at *;have gu:pb<r.length:=by
    unfold aUQ at cn;simp only[AI]at cn;have:=cn.1;simp at this;have F5:aFt b=(b.cd.headD []).length:=rfl;have h2:(r.length:Int)=((b.cd.headD []).length:Int):=by simpa using cn.1
    omega
   have aIc:=mgE aN gu;simp only[go_sem,↓aB,seval,qo];refine aY (aq:=aAU) (by rfl) (by rfl) ?_;simp only[go_sem,↓aB,seval,aAU,Br,W7,Gr,fh,aIc,bY,aN,AU,AT,cF,AD,AB,AA,AE,BC];exact⟨_,rfl⟩
  by_cases c5:k=5
  ·subst c5;have qo:f.kind=5:=qo;have hp:(pa,pb)∈qA (aFu b) b.bo.length:=hp;obtain⟨g1,g2⟩:=aDs.1 hp;have pt:b.kind=5:=pt;unfold xU at hK;rw[Zx (by omega),Zx (by omega),Zx (by omega),Zx (by omega),Zx (by omega),Zy pt]at hK;unfold aUO at hK;simp only[AI,AO]at hK;have cn:=hK.2 _ (AS g2);have il:=td.bo _ (AS g2);have fh:=mgE bS g2;generalize b.bo[pb]=r at *;unfold aKL at cn;simp only[AI,AO]at cn;have gu:pa<r.length:=by
    have F5:aFu b=(b.bo.headD []).length:=rfl;have h2:(r.length:Int)=((b.bo.headD []).length:Int):=by simpa using cn.1
    omega
   have sk:=cn.2.2 _ (AS gu);have Bs:=il.2 _ (AS gu);have aIc:=mgE gH gu;generalize r[pa]=br at *;unfold aT9 at sk;simp only[AI,AO]at sk;have Mn:=fun H=>aDB F.text.wrt.toMelFns br Bs.1 sk.2 H;simp only[go_sem,↓aB,seval,qo];refine aY (aq:=aAV) (by rfl) (by rfl) ?_;simp only[go_sem,↓aB,seval,aAV,Br,W7,Bp,fh,aIc,bS,gH,Mn,AU,AT,cF,AD,AB,AA,AE,BC];exact⟨_,rfl⟩
  by_cases c6:k=6
  ·subst c6;have qo:f.kind=6:=qo;have hp:(pa,pb)∈qA b.lines.length 1:=hp;obtain⟨g1,g2⟩:=aDs.1 hp;have fh:=mgE aN g1;simp only[go_sem,↓aB,seval,qo,Br,Bq,fh,aN,AU,AT,cF,AD,AB,AA,AE,BC];exact⟨_,rfl⟩
  have Jd:k=2∨k=3∨k=4:=by omega
  have Je:b.kind=4:=by rcases Jd with rfl | rfl | rfl<;>exact pt
  have xn:pa<b.aw.length/\pb<b.aw.length:=by rcases Jd with rfl | rfl | rfl<;>exact aVm (p:=(pa,pb)) hp
  unfold xU at hK;rw[Zx (by omega),Zx (by omega),Zx (by omega),Zx (by omega),Zy Je]at hK;simp only[AI,eG,AO]at hK;have n0:(f.kind==0)=false:=by rw[beq_eq_false_iff_ne];omega
  have n1:(f.kind==1)=false:=by rw[beq_eq_false_iff_ne];omega
  have n5:(f.kind==5)=false:=by rw[beq_eq_false_iff_ne];omega
  have n6:(f.kind==6)=false:=by rw[beq_eq_false_iff_ne];omega
  obtain⟨r,e,Jf⟩:=F.ph b f (H++[.box 1 (aE b)]) td hK.2.2 hK.1.1 hK.1.2 (by omega) (by omega) (by omega) (by omega) (by omega) (by omega) (by omega);simp only[aI]at Jf;simp only[go_sem,↓aB,seval,n0,n1,n5,n6,Gs,Jf,cF,AD,AA,AE,BC];cases r with
  |true=>simp only[go_sem,↓aB,seval];exact⟨_,rfl⟩
  |false=>simp only[go_sem,↓aB,seval];exact⟨_,rfl⟩)
 exact⟨s,e1⟩
end
abbrev aHP(g:SN):List ae:=[qm 37 7,qf 38 2 2,⟨Qr 39,ol 1 38,Qs,[1]⟩,qf 40 2 3,⟨Qr 41,ol 1 40,Qs,[3]⟩,⟨Qr 42,oi 39 41 2,Qs,[2,1,4,3]⟩,⟨Qr 43,ola 2 42,Qs,[5,2,1,4,3]⟩,qf 44 2 2,⟨Qr 45,ol 1 44,Qs,[7]⟩,qf 46 3 3,⟨Qr 47,ol 1 46,Qs,[9]⟩,⟨Qr 48,oi 45 47 2,Qs,[8,7,10,9]⟩,⟨Qr 49,ola 2 48,Qs,[11,8,7,10,9]⟩,⟨Qr 50,.dm (u 37) [(.tmp 43),(.tmp 49)],Qs,[0,6,5,2,1,4,3,12,11,8,7,10,9]⟩,⟨Qr 4,om 50,Qs,[13,0,6,5,2,1,4,3,12,11,8,7,10,9]⟩,⟨Qr 5,omc z0,Qs,[14,13,0,6,5,2,1,4,3,12,11,8,7,10,9]⟩]
abbrev jZ:LN:=[]
def aCF(g:SN):bw:=⟨51,[13],[.tmp 4,.tmp 5],qS [qx 2 3 0,qx 3 4 1,qmc 4 (.bool Qu),qmc 5 z0]<|.seq (qS [qla 8 3 2,qc 9 (g "p") [u 8],qm 6 9]<|qS [qm 10 6,qbi 11 .neq 10 0]<|qC 11 (qS [qm 12 6,qmc 4 (.bool Qu),qm 5 12]<|.ret) (.skip))<|qS [qq 13 (.jn),qz (.ins (u 13) (ui 2) (uf (g "w"))),qz (.ins (u 13) (ui 3) (uf (g "x"))),qz (.ins (u 13) (ui 4) (uf (g "y"))),qm 14 13,qf 15 0 3,ql 16 1 15,qq 17 (.look .bx (u 14) (u 16) Qu),qm 7 17]<|.seq (qS [qm 18 7,qq 19 (.bin .eql .func (u 18) (uc .bx))]<|qC 19 (qS [qmc 4 (.bool Qu),qmc 5 (vi 1)]<|.ret) (.skip))<|.seq (qS [qf 20 2 3,ql 21 1 20,qf 22 3 3,ql 23 1 22,qq 24 (.mm Qu [(.tmp 21),(.tmp 23)]),qbi 25 .lss 24 0,qm 26 25,qF 27 26 (of 2 3),qF 28 26 (ol 1 27),qF 29 26 (of 3 3),qF 30 26 (ol 1 29),qF 31 26 (.mm Qt [(.tmp 28),(.tmp 30)]),qF 32 26 (of 2 2),qF 33 26 (ol 1 32),qF 34 26 (on 33),qF 35 26 (ob .geq 31 34),qq 36 (.pick (u 26) uT (u 35))]<|qC 36 (qS [qmc 4 (.bool Qu),qmc 5 (vi 6)]<|.ret) (.skip))<|.seq (.region Qt (aHP g))<|.ret⟩
section
variable {A:af}{g:SN}{E:Int->Int->List Shape->Int}
theorem aSr(hE:aCD A g E) (hI:∀s t:Shape,s.points.length<=1000->t.points.length<=1000->∀H,∃r:Bool,aG A (g "w") [.agg (aH s),.agg (aH t)] H=Qr (.bool r,H,[])) (hL:∀s t:Shape,s.points.length<=1000->t.points.length<=1000->∀H,∃r:Bool,aG A (g "x") [.agg (aH s),.agg (aH t)] H=Qr (.bool r,H,[])) (hG:∀s t:Shape,s.points.length<=1000->t.points.length<=1000->∀H,∃r:Bool,aG A (g "y") [.agg (aH s),.agg (aH t)] H=Qr (.bool r,H,[])) (h:Has A g "W" (aCF g)) (w hh:Int) (l:List Shape) (f:Fact) (H:LO) (hl:∀s∈l,vQ s=Qt) (hw:1<=w/\w<=1000) (Cw:1<=hh/\hh<=1000) (Mo:l.length<=8) (Bt:0<=f.a) (qw:0<=f.b) (ha:f.a<l.length) (hb:f.b<l.length) (z8:2<=f.kind) (Je:f.kind<=4):∃(r:Bool) (e:Int),aG A (g "W") [.agg (aDn w hh l),.agg (aI f)] H=Qr (.tup [.bool r,vi e],H,[]):=by
 obtain⟨v,H',wr,h1,rfl,rfl,m,e,rfl⟩:=h.bp (args:=[.agg (aDn w hh l),.agg (aI f)]) (H:=H) (K:=fun v H' wr=>wr=[]/\H'=H/\∃(r:Bool) (e:Int),v=.tup [.bool r,vi e]) (by
  have hv:=fun H=>hE w hh l hw Cw Mo hl H;have l9:∀s∈l,s.points.length<=1000:=fun s hm=>by
   have q1:=hl s hm;unfold vQ at q1;simp only[AI,eG]at q1;omega
  simp only[aCF];simp only[aDn,aI]at hv ⊢;cases e1:(E w hh l != 0)with
  |true=>simp only[go_sem,↓aB,seval,hv,e1,AD,AA,AE];exact⟨_,_,rfl⟩
  |false=>
   have hk:f.kind=2∨f.kind=3∨f.kind=4:=by omega
   have Jg:f.a.toNat<l.length:=by omega
   have Cf:f.b.toNat<l.length:=by omega
   have Mp:(l.map aH)[f.a.toNat]? = Qr (aH l[f.a.toNat]):=by rw[BN,AP Jg];rfl
   have Gt:(l.map aH)[f.b.toNat]? = Qr (aH l[f.b.toNat]):=by rw[BN,AP Cf];rfl
   obtain⟨sa,Gu,ea⟩:∃s:Shape,s.points.length<=1000/\(l.map aH)[f.a.toNat]? = Qr (aH s):=⟨_,l9 _ (AS Jg),Mp⟩;obtain⟨sb,Gv,eb⟩:∃s:Shape,s.points.length<=1000/\(l.map aH)[f.b.toNat]? = Qr (aH s):=⟨_,l9 _ (AS Cf),Gt⟩;have fI:kJ JT vd.func (AV.fn (g "w") [] []) AV.bx=Qr (.bool Qu):=rfl;have fL:kJ JT vd.func (AV.fn (g "x") [] []) AV.bx=Qr (.bool Qu):=rfl;have fG:kJ JT vd.func (AV.fn (g "y") [] []) AV.bx=Qr (.bool Qu):=rfl;have c1:decide ((if f.b<f.a then f.b else f.a)<0)=false:=by simp;split<;>omega
   have c2:decide ((if f.a<f.b then f.b else f.a) ≥ (l.length:Int))=false:=by simp;split<;>omega
   rcases hk with hk | hk | hk
   ·rw[hk];obtain⟨r,hr⟩:=hI sa sb Gu Gv (H++[ah.map 1 [(AV.int AR 2,AV.fn (g "w") [] []),(AV.int AR 3,AV.fn (g "x") [] []),(AV.int AR 4,AV.fn (g "y") [] [])]]);simp only[aH]at ea eb hr;simp only[go_sem,↓aB,seval,hv,e1,fI,c1,c2,AF,Zz,AD,AA,AE,AB];refine aY (aq:=jZ) (by rfl) (by rfl) ?_;simp only[go_sem,↓aB,seval,jZ,ea,eb,hr,Bt,qw,AD,AA,AE,AB];exact⟨_,_,rfl⟩
   ·rw[hk];obtain⟨r,hr⟩:=hL sa sb Gu Gv (H++[ah.map 1 [(AV.int AR 2,AV.fn (g "w") [] []),(AV.int AR 3,AV.fn (g "x") [] []),(AV.int AR 4,AV.fn (g "y") [] [])]]);simp only[aH]at ea eb hr;simp only[go_sem,↓aB,seval,hv,e1,fL,c1,c2,AF,Zz,AD,AA,AE,AB];refine aY (aq:=jZ) (by rfl) (by rfl) ?_;simp only[go_sem,↓aB,seval,jZ,ea,eb,hr,Bt,qw,AD,AA,AE,AB];exact⟨_,_,rfl⟩
   rw[hk];obtain⟨r,hr⟩:=hG sa sb Gu Gv (H++[ah.map 1 [(AV.int AR 2,AV.fn (g "w") [] []),(AV.int AR 3,AV.fn (g "x") [] []),(AV.int AR 4,AV.fn (g "y") [] [])]]);simp only[aH]at ea eb hr;simp only[go_sem,↓aB,seval,hv,e1,fG,c1,c2,AF,Zz,AD,AA,AE,AB];refine aY (aq:=jZ) (by rfl) (by rfl) ?_;simp only[go_sem,↓aB,seval,jZ,ea,eb,hr,Bt,qw,AD,AA,AE,AB];exact⟨_,_,rfl⟩)
 exact⟨m,e,h1⟩
structure C2(A:af)(g:SN):Prop where
 fns:PlaneFns A g
 within:Has A g "aa" (oY g)
 con:aAA A (g "bg") 2 Qt
 in1:Has A g "X" (oP g)
 inside:Has A g "w" (aAI g)
 box:Has A g "V" (aDo g)
 left:Has A g "x" (aEv g)
 length:Has A g "Y" (tC g)
 S6:Has A g "y" (aAF g)
 holds:Has A g "W" (aCF g)
theorem aVp(P:C2 A g)(hE:aCD A g E)(b:Block)(f:Fact)(H:LO)(hb:b.Ok)(hl:∀s∈b.aw,vQ s=Qt)(hw:1<=b.w/\b.w<=1000)(hh:1<=b.h/\b.h<=1000)(h8:b.aw.length<=8)(a0:0<=f.a)(b0:0<=f.b)(a1:f.a<b.aw.length)(b1:f.b<b.aw.length)(k2:2<=f.kind)(k4:f.kind<=4):∃(r:Bool) (e:Int),aG A (g "W") [.agg (aDn b.w b.h b.aw),.agg (aI f)] H=Qr (.tup [.bool r,vi e],H,[]):=
 aSr hE (fun s t hs ht H=>aQ9 P.fns P.within P.con P.in1 P.inside s t hs ht H) (fun s t hs ht H=>aV5 P.box P.left s t hs ht H) (fun s t hs ht H=>aQ5 P.fns P.length P.S6 s t hs ht H) P.holds b.w b.h b.aw f H hl hw hh h8 a0 b0 a1 b1 k2 k4
end
theorem aII{n:Nat}:∀{l:LA},dJ n l=Qt->∀(i:Nat) a,l[i]? = Qr a->a.under n=Qt
 | [],_,i,a,h=>by simp at h
 |v::r,hu,i,a,h=>by
  simp only[dJ,AI]at hu;cases i with
  |zero=>simp at h;subst h;exact hu.1
  |succ i=>exact aII hu.2 i a (by simpa using h)
noncomputable def aFb(A:af)(f:Nat):aIP:=fun args _=>if dJ 0 args=Qt then
  match aG A f args []with
  |some (v,[],[])=>if v.atomic=Qt then Qr (v,[],[])else Qs
  |_=>Qs
 else Qs
theorem aQr{A:af}{f:Nat}{args:LA}{H:LO}{r}(h:aFb A f args H=Qr r):∃v,r=(v,[],[])/\v.atomic=Qt/\dJ 0 args=Qt/\aG A f args []=Qr (v,[],[]):=by
 unfold aFb at h;split at h
 ·rename_i hu;split at h
  ·rename_i v hc;split at h
   ·rename_i ha;cases h;exact⟨v,rfl,ha,hu,hc⟩
   cases h
  cases h
 cases h
theorem aQs{A:af}{f:Nat}{args:LA}{v:AV}(hu:dJ 0 args=Qt)(ha:v.atomic=Qt)(h:aG A f args []=Qr (v,[],[]))(H:LO):aFb A f args H=Qr (v,[],[]):=by unfold aFb;rw[Zy hu,h];dsimp only;rw[Zy ha]
theorem aSs{P:Program}{ab:cu}{A:af}(hA:Good P ab A)(B4:∀n row,ab.row n=Qr row->dJ 0 row=Qt){f:Nat} (hf:∃F,P.funcs[f]? = Qr F/\(F.name == "runtime.NumGoroutine")=Qu/\F.body.isNone=Qu):gS P ab fun f' args H=>if f'=f then (aFb A f args H).map (cT H)else none:=by
 refine oC hf fun args H v ws ns hp g w xs hw hg hx=>?_;obtain⟨v',e,jk,hu,hc⟩:=aQr hp;cases e;obtain⟨n,hc⟩:=oM hc;have od:WF (g.cut 0) [] w:=by
  refine⟨hw.perm,fun o l h=>by simp[G.cut]at h,fun o l h=>by simp[G.cut]at h,fun o x l _ h=>by simp[G.cut]at h,fun o l x h=>?_,fun o l x h=>?_,fun o o' l l' x x' h=>?_,⟨fun b y hy=>⟨(hw.whole.blocks b y hy).1,fun o l z hz=>?_⟩,hw.whole.io⟩⟩
  all_goals first
   | (have:=h.Pr;simp at this;done)
   | (have:=hz.Pr;simp at this;done)
 have Q6:bM P ab (g.cut 0):=⟨fun n row e=>by
  obtain⟨h1,h2⟩:=hg.row n row e;exact⟨h1.cut (by simpa [AV.under]using B4 n row e),h2⟩,hg.code⟩
 have jr:fU (g.cut 0) args xs:=⟨hx.1,fun i a x e1 e2=>(hx.2 i a x e1 e2).cut (aII hu i a e1)⟩;refine (((sU hA n).1 f args [] v [] [] hc (g.cut 0) w xs od Q6 jr).2).mono fun e w' he=>?_;cases e with
 |panicked c=>exact he
 |outgrown=>exact he
 |returned x=>
  obtain⟨g',hs,hr⟩:=he;have kh:w'.os=w.os/\w'.output=w.output:=by have e1:=hs.wf.whole.io;have e2:=hs.le.io;have e3:=hw.whole.io;rw[e2]at e1;have e4:(w.os,w.output)=(w'.os,w'.output):=e3.symm.trans e1;exact⟨(congrArg EM e4).symm,(congrArg GQ e4).symm⟩
  refine⟨g,by simpa [eU]using Step.nf hw hs.frame.1 (fun b hb=>hs.frame.2 b hb fun o ho=>by cases ho) kh, ?_⟩;cases v<;>first | (simp[AV.atomic,AV.atom]at jk;done) | exact ai.atomic hr jk
noncomputable def aNn(A:af)(f:Nat)(w hh:Int)(l:List Shape):Int:=match aG A f [.agg (aDn w hh l)] []with
 |some (.int .i64 e,_,_)=>e
 |_=>0
theorem aOt{A A1:af}{g:SN}(F:ij A1 g)(hp:A.bq (g "p")=Qr (aFb A1 (g "p"))):aCD A g (aNn A1 (g "p")):=by
 intro w hh l hw Cw hl hs H;obtain⟨e,he⟩:=aJz F w hh l hw Cw hl hs [];have h1:aNn A1 (g "p") w hh l=e:=by unfold aNn;rw[he]
 rw[h1];refine dT ?_;rw[hp];show aFb A1 _ _ H=_;refine aQs ?_ rfl he H;have hd:gG (l.map aH)=true:=aC bW _;have h2:eR 0 (l.map aH)=true:=aA hd;simp[dJ,AV.under,h2]
noncomputable def aVq(f:Nat):Option aIP:=match f with
 |54=>Qr (aFb AM1 54)
 |f=>aMX f
noncomputable def AM0:af:=⟨fnK,aVq⟩
theorem bBh:Good Go.Proofs.Tryz.prog aBx AM0:=aLW rfl (by kernel_rfl) rfl fun f p h=>by
 have h:aVq f=Qr p:=h;unfold aVq at h;split at h
 ·cases h;exact .inr (aSs aT6 aBi ⟨Go.Proofs.Tryz.f54,Go.Proofs.Tryz.func54,by kernel_rfl,by kernel_rfl⟩)
 exact .inr (aT6.bq f p h)
abbrev aHe(g:SN):List ae:=[qm 25 4,⟨Qr 26,.bin .eql .iface (u 25) (uc .bj),Qs,[0]⟩,⟨Qr 27,om 26,Qs,[1,0]⟩,⟨Qr 28,om 3,Qr (Qr 27,Qt),[2,1,0]⟩,⟨Qr 29,obi .geq 28 0,Qr (Qr 27,Qt),yq3⟩,⟨Qr 30,op 27 29,Qs,yq4⟩,⟨Qr 31,om 30,Qs,yq5⟩,⟨Qr 32,om 3,Qr (Qr 31,Qt),yq6⟩,⟨Qr 33,om 5,Qr (Qr 31,Qt),yq6⟩,⟨Qr 34,ob .leq 32 33,Qr (Qr 31,Qt),7::8::yq6⟩,⟨Qr 35,op 31 34,Qs,9::7::8::yq6⟩,⟨Qr 36,om 35,Qs,10::9::7::8::yq6⟩,⟨Qr 37,om 3,Qr (Qr 36,Qt),11::10::9::7::8::yq6⟩,⟨Qr 38,oc (g "f") [u 37],Qr (Qr 36,Qt),12::11::10::9::7::8::yq6⟩,⟨Qr 39,of 4 1,Qr (Qr 36,Qt),11::10::9::7::8::yq6⟩,⟨Qr 40,ol 1 39,Qr (Qr 36,Qt),14::11::10::9::7::8::yq6⟩,⟨Qr 41,ob .eql 38 40,Qr (Qr 36,Qt),13::12::15::14::11::10::9::7::8::yq6⟩,⟨Qr 42,op 36 41,Qs,16::13::12::15::14::11::10::9::7::8::yq6⟩,⟨Qr 2,om 42,Qs,17::16::13::12::15::14::11::10::9::7::8::yq6⟩]
abbrev dA:LN:=[13,15]
def aAY(g:SN):bw:=⟨43,[],[.tmp 2],qS [qx 1 7 0,qmc 2 (.bool Qu)]<|.seq (qS [qf 6 0 1,ql 7 1 6,qbi 8 .eql 7 2]<|qC 8 (qS [qf 9 4 1,ql 10 1 9,qq 11 (.bin .neq .no (u 10) (uc (.str []))),qm 2 11]<|.ret) (.skip))<|qS [qf 13 4 1,ql 14 1 13,qc 15 (g "cM") [u 14],qm 12 15,qq 16 (.ext 0 (u 12)),qq 17 (.ext 1 (u 12)),qm 3 16,qm 4 17]<|qS [qmc 5 (vi 999)]<|.seq (qS [qf 18 0 1,ql 19 1 18,qbi 20 .eql 19 0]<|qC 20 (qR [qf 21 2 1,ql 22 1 21,qn 23 22,qbi 24 .sub 23 1,qm 5 24]) (.skip))<|.seq (.region Qt (aHe g))<|.ret⟩
abbrev aJG(A:af)(g:SN):Prop:=∀(s:Str) (H:LO),s.length<=1000000->∃(n:Int) (e:AV),aG A (g "cM") [.str s] H=Qr (.tup [vi n,e],H,[])/\(e=.bj∨∃t v,e=.ifc t v)
section
variable {A:af}{g:SN}
theorem aQt(hA:aJG A g)(hI:aJc A g)(h:Has A g "ba" (aAY g))(q:Question)(hq:q.Ok)(hk:q.key.length<=1000000)(H:LO):∃r:Bool,aG A (g "ba") [.agg (gR q)] H=Qr (.bool r,H,[]):=by
 obtain⟨v,H',wr,h1,rfl,rfl,m,rfl⟩:=h.bp (args:=[.agg (gR q)]) (H:=H) (K:=fun v H' wr=>wr=[]/\H'=H/\∃r:Bool,v=.bool r) (by
  obtain⟨n,e,ha,he⟩:=hA q.key H hk;have gr:=hq.Q3;simp only[aAY];simp only[gR];cases e1:(q.kind==2)with
  |true=>simp only[go_sem,↓aB,seval,e1,AD,AA,AE,AB];exact⟨_,rfl⟩
  |false=>
   rcases he with rfl | ⟨t,v,rfl⟩
   ·have f1:kJ JT vd.iface AV.bj AV.bj=Qr (.bool Qt):=rfl;have ma:AR.wrap ((q.options.length:Int) - 1)=(q.options.length:Int) - 1:=wrap_i64 (by omega) (by omega);cases e2:(q.kind==0)with
    |true=>
     have hT:∀k:Nat,decide ((k:Int)<=(q.options.length:Int) - 1)=Qt->aG A (g "f") [vi (k:Nat)] H=Qr (.str (dec k),H,[]):=fun k hk=>hI k H (by have:=of_decide_eq_true hk;omega);simp only[go_sem,↓aB,seval,e1,e2,ha,ma,AF,AD,AA,AE,AB];refine aY (aq:=dA) (by rfl) (by rfl) ?_;cases e3:decide (n ≥ 0)with
     |false=>simp only[go_sem,↓aB,seval,dA,f1,e3,Zz,BB];exact⟨_,rfl⟩
     |true=>
      obtain⟨k,rfl⟩:=DN (of_decide_eq_true e3);cases e4:decide ((k:Int)<=(q.options.length:Int) - 1)with
      |false=>simp only[go_sem,↓aB,seval,dA,f1,e4,Zz,BB];exact⟨_,rfl⟩
      |true=>have hT:=hT k e4;simp only[go_sem,↓aB,seval,dA,f1,e4,hT,eH,dG,aL,Zz,AD,AA,AE,AB];exact⟨_,rfl⟩
    |false=>
     have hT:∀k:Nat,decide ((k:Int)<=999)=Qt->aG A (g "f") [vi (k:Nat)] H=Qr (.str (dec k),H,[]):=fun k hk=>hI k H (by have:=of_decide_eq_true hk;omega);simp only[go_sem,↓aB,seval,e1,e2,ha,AD,AA,AE,AB];refine aY (aq:=dA) (by rfl) (by rfl) ?_;cases e3:decide (n ≥ 0)with
     |false=>simp only[go_sem,↓aB,seval,dA,f1,e3,Zz,BB];exact⟨_,rfl⟩
     |true=>
      obtain⟨k,rfl⟩:=DN (of_decide_eq_true e3);cases e4:decide ((k:Int)<=999)with
      |false=>simp only[go_sem,↓aB,seval,dA,f1,e4,Zz,BB];exact⟨_,rfl⟩
      |true=>have hT:=hT k e4;simp only[go_sem,↓aB,seval,dA,f1,e4,hT,eH,dG,aL,Zz,AD,AA,AE,AB];exact⟨_,rfl⟩
   have f1:kJ JT vd.iface (AV.ifc t v) AV.bj=Qr (.bool Qu):=rfl;have ma:AR.wrap ((q.options.length:Int) - 1)=(q.options.length:Int) - 1:=wrap_i64 (by omega) (by omega);cases e2:(q.kind==0)with
   |true=>simp only[go_sem,↓aB,seval,e1,e2,ha,ma,AF,AD,AA,AE,AB];refine aY (aq:=dA) (by rfl) (by rfl) ?_;simp only[go_sem,↓aB,seval,dA,f1,BB];exact⟨_,rfl⟩
   |false=>
    simp only[go_sem,↓aB,seval,e1,e2,ha,AD,AA,AE,AB];refine aY (aq:=dA) (by rfl) (by rfl) ?_;simp only[go_sem,↓aB,seval,dA,f1,BB];exact⟨_,rfl⟩)
 exact⟨m,h1⟩
end
abbrev aDL(g:SN):ag:=qS [qb 14 .lss 13 12]<|.seq (qC 14 (.skip) (.exit 0))<|.seq (.block 1 (qS [qi 15 11 13 1,ql 16 1 15,qm 7 16]<|qS [qm 17 7,qbi 18 .lss 17 0,qm 19 18,qF 20 19 (om 7),qF 21 19 (of 2 2),qF 22 19 (ol 1 21),qF 23 19 (on 22),qF 24 19 (ob .geq 20 23),qq 25 (.pick (u 19) uT (u 24))]<|qC 25 (qS [qmc 4 (vi 12)]<|.ret) (.skip)))<|.region Qu [qbi 26 .add 13 1,qm 13 26]
abbrev aDM(g:SN):ag:=qS [qb 31 .lss 30 29]<|.seq (qC 31 (.skip) (.exit 2))<|.seq (.block 3 (qS [qi 32 28 30 1,ql 33 1 32,qm 9 33]<|.seq (qS [qm 34 9,qm 35 5,qb 36 .leq 34 35]<|qC 36 (qS [qmc 4 (vi 7)]<|.ret) (.skip))<|.region Qu [qm 37 9,qm 5 37]))<|.region Qu [qbi 38 .add 30 1,qm 30 38]
def tL(g:SN):ag:=.block 4 (qS [qf 40 0 3,ql 41 1 40,qbi 42 .eql 41 0,qm 43 42,qT 44 43 (of 2 3),qT 45 43 (ol 1 44),qT 46 43 (on 45),qT 47 43 (obi .lss 46 2),qp 48 43 47,qm 49 48,qF 50 49 (of 0 3),qF 51 49 (ol 1 50),qF 52 49 (obi .neq 51 0),qF 53 49 (om 52),qT 54 53 (of 2 3),qT 55 53 (ol 1 54),qT 56 53 (on 55),qT 57 53 (obi .gtr 56 0),qF 58 49 (op 53 57),qq 59 (.pick (u 49) uT (u 58)),qm 39 59]<|qC 39 (qS [qmc 4 (vi 13)]<|.ret) (qS [qla 61 7 3,qc 62 (g "ba") [u 61],qq 63 (.un .not (u 62)),qm 60 63]<|qC 60 (qS [qmc 4 (vi 5)]<|.ret) (.skip)))
def rK(g:SN):bw:=⟨64,[],[.tmp 4],qS [qx 2 4 0,qx 3 7 1,qmc 4 z0]<|qS [qmc 5 (.int .i64 (-1))]<|.seq (qS [qf 10 3 3,ql 11 1 10,qn 12 11,qmc 13 z0]<|.block 0 (.loop (aDL g)))<|.seq (qS [qf 27 3 3,ql 28 1 27,qn 29 28,qmc 30 z0]<|.block 2 (.loop (aDM g)))<|.seq (tL g)<|qS [qmc 4 z0]<|.ret⟩
section
variable {A:af}{g:SN}
theorem aLh(hr:∀q:Question,q.Ok->∀H,∃r:Bool,aG A (g "ba") [.agg (gR q)] H=Qr (.bool r,H,[]))(h:Has A g "aZ" (rK g))(x:Item)(hx:x.Ok)(q:Question)(hq:q.Ok)(H:LO):∃r:Int,aG A (g "aZ") [.agg (aO x),.agg (gR q)] H=Qr (vi r,H,[]):=by
 obtain⟨v,H',wr,h1,rfl,rfl,m,rfl⟩:=h.bp (args:=[.agg (aO x),.agg (gR q)]) (H:=H) (K:=fun v H' wr=>wr=[]/\H'=H/\∃r:Int,v=vi r) (by
  obtain⟨r1,gj⟩:=hr q hq H;have gr:=hq.Q4;simp only[rK];simp only[gR,aO]at gj ⊢;simp only[go_sem,↓aB,seval,AF,AD,AA,AE,AB];refine bJ (id:=0) (fun i ρ1 H1 wr=>wr=[]/\H1=H/\ρ1 13=vi (i:Nat)) q.cy.length (fun ρ1 H1 wr=>wr=[]/\H1=H) (by kernel_rfl) rfl ⟨rfl,rfl,rfl⟩ ?_ ?_
  ·rintro i ρ1 H1 dc mg ⟨rfl,rfl,e13⟩ hf;have f2:ρ1 2=.ep (aO x) 0:=hf 2 rfl;have f11:ρ1 11=.sl Qu (q.cy.map bF):=hf 11 rfl;have f12:ρ1 12=vi (q.cy.length:Nat):=hf 12 rfl;simp only[aO]at f2;simp only[go_sem,↓aB,seval,e13,f12];refine aD (fun e3=>?_) (fun e3=>?_)
   ·have hlt:i<q.cy.length:=by simp at e3;omega
    have dy:=wS (i:=i) (by omega);have cj:(q.cy.map bF)[i]? = Qr [vi q.cy[i]]:=by rw[BN,AP hlt];rfl
    generalize q.cy[i]=n at *;cases c1:decide (n<0)with
    |true=>simp only[go_sem,↓aB,seval,e13,f11,cj,hlt,c1,AU,AT,CE,AD,AA,AE];exact⟨_,rfl⟩
    |false=>
     cases c2:decide (n ≥ (x.facts.length:Int))with
     |true=>simp only[go_sem,↓aB,seval,e13,f11,f2,cj,hlt,c1,c2,AF,AU,AT,Zz,AD,AB,AA,AE];exact⟨_,rfl⟩
     |false=>simp only[go_sem,↓aB,seval,e13,f11,f2,cj,hlt,dy,c1,c2,AF,AU,AT,Zz,AD,AB,AA,AE]
   have:i=q.cy.length:=by simp at e3;omega
   subst this;simp only[go_sem,seval]
  rintro ρ' H' ba ⟨rfl,rfl⟩ hf;have f2:ρ' 2=.ep (aO x) 0:=hf 2 rfl;have f3:ρ' 3=.ep (gR q) 0:=hf 3 rfl;have f5:ρ' 5=vi (-1):=hf 5 rfl;simp only[aO,gR]at f2 f3;simp only[go_sem,↓aB,seval,f3,AF];refine bJ (id:=2) (fun i ρ1 H1 wr=>wr=[]/\H1=H'/\ρ1 30=vi (i:Nat)/\∃n:Int,ρ1 5=vi n) q.cy.length (fun ρ1 H1 wr=>wr=[]/\H1=H') (by kernel_rfl) rfl ⟨rfl,rfl,rfl,-1,by simp only[go_sem,seval,f5]⟩ ?_ ?_
  ·rintro i ρ1 H1 dc mg ⟨rfl,rfl,e30,m5,e5⟩ Jh;have f28:ρ1 28=.sl Qu (q.cy.map bF):=Jh 28 rfl;have f29:ρ1 29=vi (q.cy.length:Nat):=Jh 29 rfl;simp only[go_sem,↓aB,seval,e30,f29];refine aD (fun e3=>?_) (fun e3=>?_)
   ·have hlt:i<q.cy.length:=by simp at e3;omega
    have dy:=wS (i:=i) (by omega);have cj:(q.cy.map bF)[i]? = Qr [vi q.cy[i]]:=by rw[BN,AP hlt];rfl
    generalize q.cy[i]=n at *;cases c1:decide (n<=m5)with
    |true=>simp only[go_sem,↓aB,seval,e30,e5,f28,cj,hlt,c1,AU,AT,AD,AA,AE];exact⟨_,rfl⟩
    |false=>simp only[go_sem,↓aB,seval,e30,e5,f28,cj,hlt,dy,c1,AU,AT,AD,AA,AE];exact⟨_,rfl⟩
   have:i=q.cy.length:=by simp at e3;omega
   subst this;simp only[go_sem,seval]
  rintro ρ2 H2 en ⟨rfl,rfl⟩ cq;have g3:ρ2 3=.ep (gR q) 0:=(cq 3 rfl).trans f3;simp only[gR]at g3;simp only[tL];cases c1:(q.kind==0)with
  |true=>
   have c0:(q.kind != 0)=false:=by simp[bne,c1]
   cases c2:decide ((q.options.length:Int)<2)with
   |true=>simp only[go_sem,↓aB,seval,g3,c1,c2,AF,Zz,CE,AD,AB,AA,AE];exact⟨_,rfl⟩
   |false=>
    cases r1 with
    |true=>simp only[go_sem,↓aB,seval,g3,c1,c0,c2,gj,AF,Zz,BB,AD,AB,AA,AE];exact⟨_,rfl⟩
    |false=>simp only[go_sem,↓aB,seval,g3,c1,c0,c2,gj,AF,Zz,BB,AD,AB,AA,AE];exact⟨_,rfl⟩
  |false=>
   have c0:(q.kind != 0)=true:=by simp[bne,c1]
   cases c2:decide ((q.options.length:Int)>0)with
   |true=>simp only[go_sem,↓aB,seval,g3,c1,c0,c2,AF,Zz,BB,AD,AB,AA,AE];exact⟨_,rfl⟩
   |false=>
    cases r1 with
    |true=>simp only[go_sem,↓aB,seval,g3,c1,c0,c2,gj,AF,Zz,BB,AD,AB,AA,AE];exact⟨_,rfl⟩
    |false=>
     simp only[go_sem,↓aB,seval,g3,c1,c0,c2,gj,AF,Zz,BB,AD,AB,AA,AE];exact⟨_,rfl⟩)
 exact⟨m,h1⟩
end
def oR(g:SN):bw:=⟨9,[],[.tmp 3],qS [qx 2 4 0,qmc 3 (.bool Qu)]<|qS [qf 4 0 2,ql 5 1 4,qf 6 0 1,ql 7 1 6,qb 8 .eql 5 7,qm 3 8]<|.ret⟩
section
variable {A:af}{g:SN}
theorem aVr(h:Has A g "O" (oR g))(x y:Item){H:LO}{o v:Nat}(ho:H[o]? = Qr (.box v (aO x))):∃r:Bool,aG A (g "O") [.agg (aO y),.ptr o v 0] H=Qr (.bool r,H,[]):=by refine⟨y.name==x.name,h.call ?_⟩;simp only[oR];simp only[aO]at ho ⊢;simp only[go_sem,↓aB,seval,ho,AD,AA,AE]
theorem aVs(hc:aAA A (g "bf") 4 Qt)(h:Has A g "O" (oR g))(x:Item)(l:List Item)(hl:l.length<=1000){H:LO}{o v:Nat}(ho:H[o]? = Qr (.box v (aO x))):∃r:Bool,aG A (g "bf") [.sl Qu (l.map aO),.fn (g "O") [] [.ptr o v 0]] H=Qr (.bool r,H,[]):=
 aBX hc aJl (cQ.ptr o v 0) (by show l.length<_;omega) fun y _=>aVr h x y ho
end
def iJ(g:SN):bw:=⟨9,[8],[.tmp 4],qS [qmc 4 .ar]<|qS [qm 5 0,qm 6 1,qq 7 (.ee (uf (g "cK")) [(.tmp 6),(.const (.fn (g "aX") [] []))]),qa 8 4 32 5 7,qm 4 8]<|.ret⟩
abbrev aAZ(A:af)(g:SN):Prop:=∀(a b c e:Int) (H:LO) (o v:Nat),H[o]? = Qr (.vec v 4 [[vi a,vi b,vi c,vi e]]) ->
 aG A (g "cK") [.sr o v 1,.fn (g "aX") [] []] H=Qr (if e=0 then (.sl Qu [],H.set o (.gone v),[o])else (.sr o v 1,H,[]))
section
variable {A:af}{g:SN}
theorem aVt(D:aAZ A g)(h:Has A g "g" (iJ g)){a b c e:Int}{X:LO}{p v:Nat}(hp:X[p]? = Qr (.vec v 4 [[vi a,vi b,vi c,vi e]])):aG A (g "g") [.ar,.sr p v 1] X=Qr (if e=0 then (.ar,X.set p (.gone v),[p])else (.own 4 [[vi a,vi b,vi c,vi e]],X,[])):=by
 have hlt:p<X.length:=(AH.1 hp).1;have hd:=D a b c e (X++[.gone 0]) p v (by rw[eK hlt];exact hp);by_cases e0:e=0
 ·rw[Zy e0,fN hlt]at hd;rw[Zy e0];refine h.call ?_;simp only[iJ];have hf:∀(n:Nat) (H':LO),aDR n H' .ar=Qr (.ar,H',[]):=fun _ _=>rfl;simp only[go_sem,↓aB,seval,hd,hf,eX,cG,dO,nJ hlt];rw[xI (x:=.gone v) (by rfl) (by rw[eK (by simpa using hlt),BW hlt]) (by rfl)];exact⟨rfl,by simp,rfl⟩
 rw[Zx e0]at hd ⊢;refine h.call ?_;simp only[iJ];have hr:bP 1 32=true:=by decide
 simp only[go_sem,↓aB,seval,hd,eX,cG,dO,hr,eK hlt,hp]
theorem aYe(D:aAZ A g)(h:Has A g "g" (iJ g)){a b c e:Int}{X:LO}{p v o w:Nat}{rows:List LA}(hp:X[p]? = Qr (.vec v 4 [[vi a,vi b,vi c,vi e]]))(ho:X[o]? = Qr (.vec w 4 rows))(bl:o≠p)(Cr:gG rows=Qt)(hr:rows.length<=100000):aG A (g "g") [.sr o w rows.length,.sr p v 1] X=Qr (if e=0 then (.sr o w rows.length,X.set p (.gone v),[p])else (.sr o w (rows.length+1),X.set o (.vec w 4 (rows++[[vi a,vi b,vi c,vi e]])),[o])):=by
 have hlt:p<X.length:=(AH.1 hp).1;have olt:o<X.length:=(AH.1 ho).1;have hd:=D a b c e (X++[.gone 0]) p v (by rw[eK hlt];exact hp);by_cases e0:e=0
 ·rw[Zy e0,fN hlt]at hd;rw[Zy e0];refine h.call ?_;simp only[iJ];have hr:bP rows.length 32=true:=by unfold bP;simp;omega
  have hs:(X.set p (.gone v)++[ah.gone 0])[o]? = Qr (.vec w 4 rows):=by rw[eK (by simpa using olt),CL (Ne.symm bl)];exact ho
  simp only[go_sem,↓aB,seval,hd,hs,hr,olt,eX,cG,dO,nJ hlt];rw[xI (x:=.gone v) (by simpa [AV.under]using olt) (by rw[eK (by simpa using hlt),BW hlt]) (by rfl)];exact⟨rfl,by simp,rfl⟩
 rw[Zx e0]at hd ⊢;refine h.call ?_;simp only[iJ];have hr:bP (rows.length+1) 32=true:=by unfold bP;simp;omega
 simp only[go_sem,↓aB,seval,hd,hr,olt,eK hlt,hp,eK olt,ho,fN olt,nJ olt];have Cg:gG (rows++[[vi a,vi b,vi c,vi e]])=true:=aGl fun r hr=>by
  rcases AY.1 hr with hr | hr
  ·exact aBf Cr r hr
  rw[CG.1 hr];rfl
 rw[xI (x:=.vec w 4 (rows++[[vi a,vi b,vi c,vi e]])) (by simpa [AV.under]using olt) (by rw[eK (by simpa using olt),BW olt]) (by simpa [ah.under]using aA Cg)];exact⟨rfl,by simp,rfl⟩
def PS(base:Nat)(l:AV)(rows:List LA)(L:LO):Prop:=
 (rows=[]/\l=.ar)∨(rows≠[]/\gG rows=Qt/\∃s v,s∈[5,7,9,11]/\l=.sr (base+s) v rows.length/\L[s]? = Qr (.vec v 4 rows))
theorem PS.aq{base:Nat}{l:AV}{rows:List LA}{L L':LO}(h:PS base l rows L)(hk:∀s,s∈[5,7,9,11]->L'[s]? = L[s]?):PS base l rows L':=by
 rcases h with h | ⟨h1,h2,s,v,h3,h4,h5⟩
 ·exact .inl h
 exact .inr ⟨h1,h2,s,v,h3,h4,by rw[hk s h3];exact h5⟩
theorem aYf(D:aAZ A g)(h:Has A g "g" (iJ g)){H L:LO}{l:AV}{rows:List LA}(hp:PS H.length l rows L)(hr:rows.length<=100000){i v:Nat}(hi:i∈[4,6,8,10]){a b c e:Int}(hl:L[i]? = Qr (.vec v 4 [[vi a,vi b,vi c,vi e]])):(e=0/\rows=[]/\aG A (g "g") [l,.sr (H.length+i) v 1] (H++L)=Qr (.ar,H++L.set i (.gone v),[H.length+i])) ∨ (e≠0/\rows=[]/\aG A (g "g") [l,.sr (H.length+i) v 1] (H++L)=Qr (.own 4 [[vi a,vi b,vi c,vi e]],H++L,[])) ∨ (rows≠[]/\∃s v' n L' wr,aG A (g "g") [l,.sr (H.length+i) v 1] (H++L)=Qr (.sr (H.length+s) v' n,H++L',wr)/\(∀b ba,b<=H.length->bE b ba wr=ba)/\L'.length=L.length/\(∀j,j∉[5,7,9,11]->j≠i->L'[j]? = L[j]?) /\ ∃bt,bt≠[]/\PS H.length (.sr (H.length+s) v' n) bt L'/\bt.length<=rows.length+1):=by
 have hX:(H++L)[H.length+i]? = Qr (.vec v 4 [[vi a,vi b,vi c,vi e]]):=by rw[bX];exact hl
 have iv:i∉[5,7,9,11]:=by simp only[BD,CC,or_false]at hi ⊢;omega
 rcases hp with⟨rfl,rfl⟩ | ⟨bl,hd,s,w,hs,rfl,ho⟩
 ·have h3:=aVt D h hX;by_cases e0:e=0
  ·rw[Zy e0,eS]at h3;exact .inl ⟨e0,rfl,h3⟩
  rw[Zx e0]at h3;exact .inr (.inl ⟨e0,rfl,h3⟩)
 have Mq:s≠i:=fun e=>iv (e ▸ hs);have h3:=aYe D h hX (by rw[bX];exact ho) (by omega) hd hr;refine .inr (.inr ⟨bl, ?_⟩);by_cases e0:e=0
 ·rw[Zy e0,eS]at h3;refine⟨_,_,_,_,_,h3,fun b ba hb=>kH (by simp;omega),by simp,fun j _ h5=>by rw[CL (Ne.symm h5)],rows,bl,.inr ⟨bl,hd,s,w,hs,rfl,by rw[CL (Ne.symm Mq)];exact ho⟩,by omega⟩
 rw[Zx e0,eS]at h3;have hlt:s<L.length:=(AH.1 ho).1;refine⟨_,_,_,_,_,h3,fun b ba hb=>kH (by simp;omega),by simp,fun j h4 _=>by rw[CL (fun e=>by subst e;exact h4 hs)],rows++[[vi a,vi b,vi c,vi e]],by simp,.inr ⟨by simp, ?_,s,w,hs,by simp,by rw[BW hlt]⟩,by simp⟩;exact aGl fun r hr=>by
  rcases AY.1 hr with hr | hr
  ·exact aBf hd r hr
  rw[CG.1 hr];rfl
theorem bBi{L:LO}(h:L.length=12):∃x0 x1 x2 x3 x4 x5 x6 x7 x8 x9 x10 x11,L=[x0,x1,x2,x3,x4,x5,x6,x7,x8,x9,x10,x11]:=by
 match L,h with
 | [x0,x1,x2,x3,x4,x5,x6,x7,x8,x9,x10,x11],_=>exact⟨_,_,_,_,_,_,_,_,_,_,_,_,rfl⟩
theorem aQu(D:aAZ A g)(h:Has A g "g" (iJ g)){H L:LO}(hL:L.length=12){l:AV}{rows:List LA}(hp:PS H.length l rows L)(hr:rows.length<=100000){i v s:Nat}(hi:i∈[4,6,8,10])(hs:s=i+1){a b c e:Int}(hl:L[i]? = Qr (.vec v 4 [[vi a,vi b,vi c,vi e]])):∃l' L' wr bt,dY (Qr (H.length+s)) Qt (H++L) (aG A (g "g") [l,.sr (H.length+i) v 1] (H++L))=Qr (l',H++L',wr)/\(∀ba,bE H.length ba wr=ba)/\L'.length=12/\(∀j,j<4->L'[j]? = L[j]?)/\PS H.length l' bt L'/\bt.length<=rows.length+1/\(bt=[]->rows=[]/\e=0):=by
 have Gw:4<=i/\i<12/\s∈[5,7,9,11]:=by simp only[BD,CC,or_false]at hi ⊢;omega
 rcases aYf D h hp hr hi hl with⟨e0,rfl,h3⟩ | ⟨e0,rfl,h3⟩ | ⟨bl,s',v',n,L',wr,h3,h4,h5,h6,bt,h7,h8,h9⟩
 ·refine⟨.ar,L.set i (.gone v),[H.length+i],[],by rw[h3];rfl,fun ba=>kH (by simp),by simp[hL],fun j hj=>by rw[CL (by omega)],.inl ⟨rfl,rfl⟩,by simp,fun _=>⟨rfl,e0⟩⟩
 ·have hlt:H.length+s<(H++L).length:=by simp[hL];have:=Gw.2.2;simp at this;omega
  refine⟨.sr (H.length+s) ((L[s]?).elim 0 ah.ver+1) 1,L.set s (.vec ((L[s]?).elim 0 ah.ver+1) 4 [[vi a,vi b,vi c,vi e]]),[H.length+s],[[vi a,vi b,vi c,vi e]], ?_,fun ba=>kH (by simp),by simp[hL],fun j hj=>by rw[CL (by omega)],.inr ⟨by simp,by rfl,s,_,Gw.2.2,rfl,by rw[BW (by rw[hL];have:=Gw.2.2;simp at this;omega)]⟩,by simp,fun h=>by cases h⟩;rw[h3,aHy,Zy rfl];dsimp only;rw[Zy hlt,sV];unfold bH;rw[bX];rfl
 exact⟨_,L',wr,bt,by rw[h3];rfl,fun ba=>h4 _ _ (AQ _),by rw[h5,hL],fun j hj=>h6 j (by simp;omega) (by omega),h8,h9,fun h=>Zw h h7⟩
theorem aFG(D:aAZ A g)(h:Has A g "g" (iJ g)){H:LO}{x0 x1 x2 x3 x4 x5 x6 x7 x8 x9 x10 x11:ah}{l:AV}{rows:List LA}(hp:PS H.length l rows [x0,x1,x2,x3,x4,x5,x6,x7,x8,x9,x10,x11])(hr:rows.length<=100000){i v s:Nat}(hi:i∈[4,6,8,10])(hs:s=i+1){a b c e:Int}(hl:[x0,x1,x2,x3,x4,x5,x6,x7,x8,x9,x10,x11][i]? = Qr (.vec v 4 [[vi a,vi b,vi c,vi e]])):∃l' y4 y5 y6 y7 y8 y9 y10 y11 wr bt,dY (Qr (H.length+s)) Qt (H++[x0,x1,x2,x3,x4,x5,x6,x7,x8,x9,x10,x11]) (aG A (g "g") [l,.sr (H.length+i) v 1] (H++[x0,x1,x2,x3,x4,x5,x6,x7,x8,x9,x10,x11]))=Qr (l',H++[x0,x1,x2,x3,y4,y5,y6,y7,y8,y9,y10,y11],wr)/\(∀ba,bE H.length ba wr=ba)/\PS H.length l' bt [x0,x1,x2,x3,y4,y5,y6,y7,y8,y9,y10,y11]/\bt.length<=rows.length+1/\(bt=[]->rows=[]/\e=0):=by obtain⟨l',L',wr,bt,h1,h2,h3,h4,h5,h6,h7⟩:=aQu D h (by rfl) hp hr hi hs hl;obtain⟨z0,z1,z2,z3,y4,y5,y6,y7,y8,y9,y10,y11,rfl⟩:=bBi h3;have a0:=h4 0 (by omega);have a1:=h4 1 (by omega);have a2:=h4 2 (by omega);have a3:=h4 3 (by omega);simp only[BG,CT,AG]at a0 a1 a2 a3;subst a0 a1 a2 a3;exact⟨l',y4,y5,y6,y7,y8,y9,y10,y11,wr,bt,h1,h2,h5,h6,h7⟩
theorem PS.sq{base:Nat}{l:AV}{rows:List LA}{a0 a1 a2 a3 a4 a6 a8 a10 x5 x7 x9 x11 b0 b1 b2 b3 b4 b6 b8 b10:ah}(h:PS base l rows [a0,a1,a2,a3,a4,x5,a6,x7,a8,x9,a10,x11]):PS base l rows [b0,b1,b2,b3,b4,x5,b6,x7,b8,x9,b10,x11]:=by refine h.aq fun s hs=>?_;simp only[BD,CC,or_false]at hs;rcases hs with rfl | rfl | rfl | rfl<;>rfl
end
abbrev aHf(g:SN):ag:=qS [qb 23 .lss 22 21]<|.seq (qC 23 (.skip) (.exit 2))<|.seq (.block 3 (qS [qi 24 20 22 4,qla 25 4 24,qq 9 (.alloc [z0,z0,z0,z0]),qs 4 9 25]<|qS [qla 27 4 6,qla 28 4 9,qc 29 (g "aO") [u 27,u 28],qm 26 29,qq 30 (.ext 0 (u 26)),qq 31 (.ext 1 (u 26)),qm 10 30,qm 11 31]<|.seq (qS [qm 32 11,qbi 33 .neq 32 0]<|qC 33 (qS [qm 34 11,qmc 2 (.sl Qt []),qm 3 34]<|.ret) (.skip))<|.region Qu [qm 35 7,qm 36 10,qq 37 (.bsl 1 [(.str [])] 1 [(0,(.tmp 36))]),qa 38 1 16 35 37,qm 7 38]))<|.region Qu [qbi 39 .add 22 1,qm 22 39]
abbrev aHg(g:SN):ag:=qS [qb 16 .lss 15 14]<|.seq (qC 16 (.skip) (.exit 0))<|.seq (.block 1 (qS [qi 17 13 15 4,qla 18 4 17,qq 6 (.alloc [(.str []),(.sl Qt []),(.sl Qt []),(.sl Qt [])]),qs 4 6 18]<|qS [qmc 7 (.sl Qt [])]<|.seq (qS [qf 19 2 6,ql 20 1 19,qn 21 20,qmc 22 z0]<|.block 2 (.loop (aHf g)))<|.seq (.frz [(0,7)])<|.region Qu [qm 40 4,qm 41 7,qq 42 (.bsl 1 [(.sl Qu [])] 1 [(0,(.tmp 41))]),qa 43 1 24 40 42,qm 4 43]))<|.region Qu [qbi 44 .add 15 1,qm 15 44]
def tM(g:SN):bw:=⟨46,[6,9,38,43],[.tmp 2,.tmp 3],qS [qx 1 2 0,qmc 2 (.sl Qt []),qmc 3 z0]<|qS [qmc 4 (.sl Qt [])]<|.seq (qS [qf 12 1 1,ql 13 1 12,qn 14 13,qmc 15 z0]<|.block 0 (.loop (aHg g)))<|qS [qm 45 4,qm 2 45,qmc 3 z0]<|.ret⟩
theorem aNo{id k:Nat}{rows:List LA}{v:AV}{o:ah}(h:ew id k rows v o)(hd:gG rows=Qt):∃f l o',∀H:LO,H[id]? = Qr o->dw H v=Qr (.sl f rows,l)/\dL H l=H.set id o'/\∀b wr,b<=id->bE b wr l=wr:=by
 obtain⟨f,l,o',h1,h2,h3⟩:=h.dw hd;refine⟨f,l,o',fun H ho=>⟨?_,h2 H ho,h3⟩⟩;have e:dw H v=aA2 H v:=by cases h<;>rfl
 rw[e,h1 H ho]
def hU(R:List (List Str)):List LA:=R.map fun r=>[AV.sl Qu (r.map aN)]
theorem aHh:∀R,gG (hU R)=Qt
 | []=>rfl
 |r::R=>by
  show (iX [AV.sl Qu (r.map aN)]&&gG (hU R))=Qt;rw[aHh R];have:=cU r;simp only[bY]at this;rw[this];rfl
section
variable {A:af}{g:SN}{tB tP:Nat}{E:Int->Int->List Shape->Int}
theorem aJH(F:yc A g E tB tP)(h:Has A g "aN" (tM g))(x:jm)(hx:x.Ok)(ht:∀it∈x.items,∀f∈it.facts,Told E it f)(H:LO):∃R:List (List Str),R.map FN=x.items.map (fun it=>it.facts.length)/\aG A (g "aN") [dE x] H=Qr (.tup [.sl Qu (hU R),vi 0],H,[]):=by
 obtain⟨r,H',ba,e1,rfl,rfl,R,rfl,e2⟩:=h.bp (args:=[dE x]) (H:=H) (K:=fun r H' wr=>wr=[]/\H'=H/\∃R:List (List Str),r=.tup [.sl Qu (hU R),vi 0]/\R.map FN=x.items.map (fun it=>it.facts.length)) (by
  simp only[tM];simp only[go_sem,↓aB,seval,dE,AB,AD,AA,AE,AF];refine bJ (id:=0) (fun k ρ1 H1 wr=>wr=[]/\ρ1 15=vi (k:Nat)/\∃x0 x1 x2 x3,H1=H++[x0,x1,x2,x3]/\∃R:List (List Str),ew (H.length+3) 1 (hU R) (ρ1 4) x3/\R.map FN=(x.items.take k).map (fun it=>it.facts.length)) x.items.length
   (fun ρ1 H1 wr=>wr=[]/\∃x0 x1 x2 x3,H1=H++[x0,x1,x2,x3]/\∃R:List (List Str),ew (H.length+3) 1 (hU R) (ρ1 4) x3/\R.map FN=x.items.map (fun it=>it.facts.length)) (by kernel_rfl) rfl ⟨rfl,rfl,_,_,_,_,rfl,[],.nil _,rfl⟩ ?_ ?_
  ·rintro k ρ1 H1 dc zp ⟨rfl,e15,x0,x1,x2,x3,rfl,R,hR,J2⟩ hf;have f13:ρ1 13=.sl Qu (x.items.map aO):=hf 13 rfl;have f14:ρ1 14=vi (x.items.length:Nat):=hf 14 rfl;simp only[go_sem,↓aB,seval,e15,f14];refine aD (fun e3=>?_) (fun e3=>?_)
   ·have hlt:k<x.items.length:=by simp at e3;omega
    have Bm:=hx.G8;have dy:=wS (i:=k) (by omega);have cj:=mgE aO hlt;have pk:(x.items.take (k+1)).map (fun it=>it.facts.length)=(x.items.take k).map (fun it=>it.facts.length)++[x.items[k].facts.length]:=by rw[List.take_succ_eq_append_getElem hlt,DQ];rfl
    have kh:=hx.items _ (AS hlt);have kx:=ht _ (AS hlt);generalize x.items[k]=it at *;have Ji:R.length<=16:=by have:=congrArg FN J2;simp at this;omega
    have kr:=fun f hf H=>aIH F it kh f (kx f hf) H;have k9:=kh.facts;have I9:=kh.B1;simp only[aO]at kr;simp only[go_sem,↓aB,seval,e15,f13,AF,AU,AT,hlt,cj,aO,AD,AB,AA,AE];refine bJ (id:=2) (fun j ρ2 H2 wr=>wr=[]/\ρ2 22=vi (j:Nat)/\∃y1 y2,H2=H++[.box (x0.ver+1) [.str it.name,.sl Qu (it.blocks.map aE),.sl Qu (it.facts.map aI),.sl Qu (it.ask.map gR)],y1,y2,x3]/\∃S:List Str,ew (H.length+2) 1 (S.map aN) (ρ2 7) y2/\S.length=j) it.facts.length
     (fun ρ2 H2 wr=>wr=[]/\∃y1 y2,H2=H++[.box (x0.ver+1) [.str it.name,.sl Qu (it.blocks.map aE),.sl Qu (it.facts.map aI),.sl Qu (it.ask.map gR)],y1,y2,x3]/\∃S:List Str,ew (H.length+2) 1 (S.map aN) (ρ2 7) y2/\S.length=it.facts.length) (by kernel_rfl) rfl ⟨rfl,rfl,_,_,rfl,[],.nil _,rfl⟩ ?_ ?_
    ·rintro j ρ2 H2 en mo ⟨rfl,e22,y1,y2,rfl,S,hS,Bu⟩ cq;have f20:ρ2 20=.sl Qu (it.facts.map aI):=cq 20 rfl;have f21:ρ2 21=vi (it.facts.length:Nat):=cq 21 rfl;have f6:ρ2 6=.ptr H.length (x0.ver+1) 0:=cq 6 rfl;simp only[go_sem,↓aB,seval,e22,f21];refine aD (fun e4=>?_) (fun e4=>?_)
     ·have jlt:j<it.facts.length:=by simp at e4;omega
      have gn:=wS (i:=j) (by omega);have fh:=mgE aI jlt;have Da:=kr _ (AS jlt);generalize it.facts[j]=f at *;obtain⟨s,Da⟩:=Da (H++[.box (x0.ver+1) [.str it.name,.sl Qu (it.blocks.map aE),.sl Qu (it.facts.map aI),.sl Qu (it.ask.map gR)],.box (y1.ver+1) (aI f),y2,x3]);obtain⟨v',o',Mr,Gx⟩:=hS.app (new:=[aN s]) (bytes:=16) (by simp) (by rfl) (by simp[Bu];omega);simp only[aI]at Da;simp only[go_sem,↓aB,seval,e22,f20,f6,AU,AT,jlt,fh,aI,AD,AB,AA,AE,Da];have a7:=Gx (H++[.box (x0.ver+1) [.str it.name,.sl Qu (it.blocks.map aE),.sl Qu (it.facts.map aI),.sl Qu (it.ask.map gR)],.box (y1.ver+1) [vi f.kind,vi f.block,vi f.a,vi f.b],y2,x3]) Qt (by rw[bX];rfl);rw[eS]at a7;simp only[aN]at a7;simp only[go_sem,↓aB,seval,a7,gn,e22];exact⟨jlt,_,_,rfl,S++[s],by rw[DQ];exact Mr,by simp[Bu]⟩
     have:j=it.facts.length:=by simp at e4;omega
     subst this;simp only[go_sem,seval];exact⟨y1,y2,rfl,S,hS,Bu⟩
    rintro ρ3 H3 wr3 ⟨rfl,y1,y2,rfl,S,hS,Bu⟩ cq;have k4:ρ3 4=ρ1 4:=cq 4 rfl;have k15:ρ3 15=vi (k:Nat):=(cq 15 rfl).trans e15;obtain⟨fl,l,o',D1⟩:=aNo hS (aC bO S);obtain⟨S7,C3,yd⟩:=D1 (H++[.box (x0.ver+1) [.str it.name,.sl Qu (it.blocks.map aE),.sl Qu (it.facts.map aI),.sl Qu (it.ask.map gR)],y1,y2,x3]) (by rw[bX];rfl);rw[eS]at C3;have yd:=fun wr=>yd H.length wr (by omega);obtain⟨v',o2,Ms,Gx⟩:=hR.app (new:=[[.sl Qu (S.map aN)]]) (bytes:=24) (by simp) (by rfl) (by simp[hU];omega);have a7:=Gx (H++[.box (x0.ver+1) [.str it.name,.sl Qu (it.blocks.map aE),.sl Qu (it.facts.map aI),.sl Qu (it.ask.map gR)],y1,o',x3]) Qt (by rw[bX];rfl);rw[eS]at a7;simp only[go_sem,↓aB,seval,S7,C3,yd,k4,k15,dy,a7];refine⟨hlt,_,_,_,_,rfl,R++[S], ?_, ?_⟩
    ·have:hU (R++[S])=hU R++[[.sl Qu (S.map aN)]]:=by unfold hU;rw[DQ];rfl
     rw[this];exact Ms
    rw[DQ,pk,J2,<- Bu];rfl
   have:k=x.items.length:=by simp at e3;omega
   subst this;simp only[go_sem,seval];exact⟨x0,x1,x2,x3,rfl,R,hR,by rw[DM]at J2;exact J2⟩
  rintro ρ' H' ba ⟨rfl,x0,x1,x2,x3,rfl,R,hR,J2⟩ hf;obtain⟨fl,l,o',D1⟩:=aNo hR (aHh R);obtain⟨S7,C3,yd⟩:=D1 (H++[x0,x1,x2,x3]) (by rw[bX];rfl);rw[eS]at C3;have yd:=fun wr=>yd H.length wr (by omega);simp only[go_sem,↓aB,seval,S7,C3,yd,aBv];have hu:(AV.tup [AV.sl Qu (hU R),AV.int .i64 0]).under H.length=true:=by have:=aA (n:=H.length) (aHh R);simp[AV.under,dJ,this]
  rw[qQ hu,List.take_left];exact⟨rfl,rfl,R,rfl,J2⟩)
 exact⟨R,e2,e1⟩
end
abbrev aHQ(g:SN):List ae:=[qq 24 (.load 1 Qu (uc (.ep (aSj g) 0))),qf 25 0 5,⟨Qr 26,ol 1 25,Qs,[1]⟩,⟨Qr 27,.look (.agg [z0,.bx]) (u 24) (u 26) Qu,Qs,[0,2,1]⟩,qf 28 1 2,⟨Qr 29,ol 1 28,Qs,[4]⟩,qf 30 1 5,⟨Qr 31,ol 1 30,Qs,[6]⟩,⟨Qr 32,oi 29 31 13,Qs,[5,4,7,6]⟩,⟨Qr 33,of 0 32,Qs,[8,5,4,7,6]⟩,⟨Qr 34,ol 1 33,Qs,[9,8,5,4,7,6]⟩,⟨Qr 35,oc (g "bp") [u 27,u 34],Qs,[3,0,2,1,10,9,8,5,4,7,6]⟩,⟨Qr 36,.un .not (u 35),Qs,[11,3,0,2,1,10,9,8,5,4,7,6]⟩,⟨Qr 23,om 36,Qs,[12,11,3,0,2,1,10,9,8,5,4,7,6]⟩]
abbrev aC2:LN:=[]
abbrev aHR(g:SN):List ae:=[qf 38 1 2,⟨Qr 39,ol 1 38,Qs,[0]⟩,qf 40 1 5,⟨Qr 41,ol 1 40,Qs,[2]⟩,⟨Qr 42,oi 39 41 13,Qs,[1,0,3,2]⟩,⟨Qr 43,ola 13 42,Qs,[4,1,0,3,2]⟩,qf 44 1 5,⟨Qr 45,ol 1 44,Qs,[6]⟩,⟨Qr 46,oc (g "G") [u 43,u 45],Qs,[5,4,1,0,3,2,7,6]⟩,qla 47 4 5,⟨Qr 48,oc (g "an") [u 46,u 47],Qs,[9,8,5,4,1,0,3,2,7,6]⟩,⟨Qr 49,.un .not (u 48),Qs,[10,9,8,5,4,1,0,3,2,7,6]⟩,⟨Qr 37,om 49,Qs,[11,10,9,8,5,4,1,0,3,2,7,6]⟩]
abbrev oS:LN:=[8,9]
abbrev aHS(g:SN):List ae:=[qf 51 2 2,⟨Qr 52,ol 1 51,Qs,[0]⟩,qm 53 1,⟨Qr 54,.gw 4 (u 52) Qs (Qr (.tmp 53)) Qs,Qs,[1,0,2]⟩,qla 55 4 5,⟨Qr 56,oc (g "an") [u 54,u 55],Qs,[3,1,0,2,4]⟩,⟨Qr 50,om 56,Qs,[5,3,1,0,2,4]⟩]
abbrev aC3:LN:=[]
def aC4(g:SN):ag:=.block 0 (qS [qf 12 1 5,ql 13 1 12,qbi 14 .lss 13 0,qm 15 14,qF 16 15 (of 1 5),qF 17 15 (ol 1 16),qF 18 15 (of 1 2),qF 19 15 (ol 1 18),qF 20 15 (on 19),qF 21 15 (ob .geq 17 20),qq 22 (.pick (u 15) uT (u 21)),qm 11 22]<|qC 11 (qS [qmc 4 (vi 12)]<|.ret) (.seq (.region Qt (aHQ g))<|qC 23 (qS [qmc 4 (vi 13)]<|.ret) (.seq (.region Qt (aHR g))<|qC 37 (qS [qmc 4 (vi 5)]<|.ret) (.seq (.region Qt (aHS g))<|qC 50 (qS [qmc 4 (vi 7)]<|.ret) (.skip)))))
def aCG(g:SN):bw:=⟨57,[5],[.tmp 4],qS [qx 2 4 0,qmc 4 z0]<|qS [qf 6 2 2,ql 7 1 6,qm 8 1,qi 9 7 8 4,qla 10 4 9,qq 5 (.alloc [z0,z0,z0,z0]),qs 4 5 10]<|.seq (aC4 g)<|qS [qmc 4 z0]<|.ret⟩
theorem aQv{g:SN}{k:Int}(h0:0<=k)(h1:k<=6):iB (vi k) ([vi 0,vi 1,vi 2,vi 3,vi 4,vi 5,vi 6].zip (aMi g)) 0=Qr (Qr (k.toNat,tH g (aBp k.toNat) (aVe k.toNat))):=by
 have:=aNl (g:=g) (k:=k.toNat) (by omega)
 rwa [show ((k.toNat:Nat):Int)=k by omega]at this
section
variable {A:af}{g:SN}{tB tP:Nat}
theorem aOu(F:lp A g tB)(h:Has A g "aY" (aCG g))(x:Item)(hx:x.Ok)(j:Nat)(hj:j<x.facts.length)(hf:aHJ x.facts[j]=Qt)(H:LO):∃e:Int,aG A (g "aY") [.agg (aO x),vi j] H=Qr (vi e,H,[])/\(e=0->0<=x.facts[j].block/\x.facts[j].block<x.blocks.length/\∀b,x.blocks[x.facts[j].block.toNat]? = Qr b->x.facts[j]∈eM b x.facts[j].block):=by
 have fh:=mgE aI hj;have Mt:=hx.B1;generalize hF:x.facts[j]=f at *;unfold aHJ at hf;simp only[AI,eG]at hf;obtain⟨⟨⟨⟨v1,v2⟩,v3,v4⟩,v5,v6⟩,v7,v8⟩:=hf;have J1:decide (f.block<0)=false:=by simp;omega
 have wj:=aQv (g:=g) v1 v2;have kx:((j:Int)).toNat=j:=by omega
 have Pa:(j:Int)<(x.facts.length:Int):=by omega
 obtain⟨r,H',ba,e1,rfl,rfl,e,rfl,e2⟩:=h.bp (args:=[.agg (aO x),vi j]) (H:=H) (K:=fun r H' wr=>wr=[]/\H'=H/\∃e:Int,r=vi e/\(e=0->0<=f.block/\f.block<x.blocks.length/\∀b,x.blocks[f.block.toNat]? = Qr b->f∈eM b f.block)) (by
  simp only[aCG];simp only[tH]at wj;simp only[go_sem,↓aB,seval,aO,fh,AU,kx,aI,AJ,AD,AB,AA,AE];simp only[aC4];cases nj:decide (f.block ≥ (x.blocks.length:Int))with
  |true=>simp only[go_sem,↓aB,seval,J1,nj,AF,AD,AB,AA,AE,Zz];exact⟨_,rfl,fun e=>Zw e (by decide)⟩
  |false=>
  have hlt:f.block<(x.blocks.length:Int):=by simp at nj;omega
  have S8:f.block.toNat<x.blocks.length:=by omega
  have bget:(x.blocks.map aE)[f.block.toNat]? = Qr (aE x.blocks[f.block.toNat]):=by rw[BN,AP S8];rfl
  have td:=hx.blocks _ (AS S8);have Mu:x.blocks[f.block.toNat]? = Qr x.blocks[f.block.toNat]:=AP S8;generalize x.blocks[f.block.toNat]=b at *;have S5:FW 1 (aE b)=[vi b.kind]:=by obtain⟨op,n,ks,ig⟩:=eW b;rw[ig];rfl
  have C0:=fun H=>aL9 F.fam (aBp f.kind.toNat) b.kind (aVe f.kind.toNat) H;simp only[tH]at C0;have qv:=bG b;simp only[go_sem,↓aB,seval,J1,nj,AF,AD,AB,AA,AE,Zz];refine aY (aq:=aC2) (by rfl) (by rfl) ?_;simp only[go_sem,↓aB,seval,aC2,aSj,wj,C0,bget,S5,v3,cF,AD,AB,AA,AE];cases hh:lJ (aBp f.kind.toNat) b.kind with
  |false=>simp only[go_sem,↓aB,seval];exact⟨_,rfl,fun e=>Zw e (by decide)⟩
  |true=>
  simp only[go_sem,seval];have my:=fun H=>aLc F.fam F.facts b td f.block H;have po:=fun H=>uN F.con F.ind (eM b f.block) f Qu (by have:(eM b f.block).length<=7*256:=yT td 7;omega) H;simp only[aI]at po;refine aY (aq:=oS) (by rfl) (by rfl) ?_;cases hR:eM b f.block with
  |nil=>simp only[hR,aFF,BY,PG]at my po;simp only[go_sem,↓aB,seval,oS,my,po,bget,v3,hlt,cF,bT.take,bT.ga,aS qv,eH,dG,aL,AD,AB,AA,AE];exact⟨_,rfl,fun e=>Zw e (by decide)⟩
  |cons y r=>
  have hd:gG ((y::r).map aI)=true:=aC eL _;simp only[hR,aDI]at my po;generalize (y::r).map aI=rows at *;cases mw:((y::r).any fun z=>eqv f z)with
  |false=>rw[mw]at po;simp only[go_sem,↓aB,seval,oS,my,po,bget,v3,hlt,cF,bT.take,bT.ga,aS qv,eH,dG,aL,AD,AB,AA,AE];exact⟨_,rfl,fun e=>Zw e (by decide)⟩
  |true=>
  rw[mw]at po;have tk:f∈eM b f.block:=by
   obtain⟨z,rr,l7⟩:=KS.1 mw;have:f=z:=by simpa [eqv]using l7
   rw[hR,this];exact rr
  simp only[go_sem,↓aB,seval,oS,my,po,bget,v3,cF,bT.take,bT.ga,aS qv,eH,dG,aL,AD,AB,AA,AE];have M7:=fun H=>uN F.con F.ind (x.facts.take j) f Qu (by rw[List.length_take];omega) H;simp only[aI,List.map_take]at M7;have mo:j<=x.facts.length:=by omega
  have Gy:dU x.facts.length Qs (Qr (vi j)) Qs=Qr (0,j,x.facts.length):=by
   have hb:iL x.facts.length x.facts.length (Qr (vi (j:Int)))=Qr j:=by show (if (0:Int)<=(j:Int)/\(j:Int)<=(x.facts.length:Int)then Qr ((j:Int)).toNat else Qs)=_;rw[Zy ⟨by omega,by omega⟩,kx]
   show (match iL x.facts.length x.facts.length (Qr (vi (j:Int)))with
    |none=>Qs
    |some h=>match iL 0 h Qs with
     |none=>Qs
     |some l=>Qr (l,h,x.facts.length))=_
   rw[hb];rfl
  have nq:dF 4 (x.facts.map aI)=true:=by
   cases x.facts with
   |nil=>rfl
   |cons y r=>rfl
  refine aY (aq:=aC3) (by rfl) (by rfl) ?_;simp only[go_sem,↓aB,seval,aC3,Gy,nq,M7,AF,AD,AB,AA,AE];refine aD (fun _=>?_) (fun _=>?_)
  ·simp only[go_sem,↓aB,seval];exact⟨_,rfl,fun e=>Zw e (by decide)⟩
  simp only[go_sem,↓aB,seval];exact⟨_,rfl,fun _=>⟨by omega,hlt,fun b' du=>by rw[Mu]at du;cases du;exact tk⟩⟩)
 exact⟨e,e1,e2⟩
end
end Go.AM
end
