/- Part 11: lemmas for the last text. -/
import Derived.Test.YtdljbhnhogpopaaGreatDoorK10
set_option linter.defProp false
set_option linter.unusedVariables false
set_option linter.unusedSimpArgs false
set_option maxHeartbeats 3200000
set_option maxRecDepth 20000
open Bool renaming false_eq_true -> BX, not_eq_true -> GB, and_eq_true -> AI, true_beq -> CE, eq_iff_iff -> DS, false_beq -> BB, true_or -> EP, false_or -> II, false_and -> BQ, true_and -> BR, true -> Pa, false -> Po
open Go.IntKind renaming i64 -> AR, wrap -> GA, bits -> LK, signed -> KC
open Go.Lib renaming indexByte -> EV
open Int renaming natCast_add -> KO, natCast_nonneg -> AU, toNat_natCast -> AT, lt_irrefl -> Dd
open List renaming flatMap_append -> JK, length_append -> BA, length_cons -> AW, map_cons -> BI, mem_cons -> BD, map_reverse -> OC, mem_reverse -> JW, mem_cons_self -> HD, mem_cons_of_mem -> BZ, count_cons -> LP, length_nil -> AZ, any_cons -> Ha, getElem?_eq_getElem -> AP, length_map -> AF, getElem?_append_left -> BM, getElem_mem -> AS, take_zero -> AE, any_eq_false -> KH, take_append_drop -> IQ, map_append -> DQ, nodup_append -> NO, getElem?_map -> BN, count_le_length -> Ce, getElem?_cons_zero -> BG, take_of_length_le -> CH, exists_cons_of_ne_nil -> ER, take_length -> DM, replicate -> AX, getElem?_append_right -> BU, append_assoc -> CJ, nil_append -> CW, getElem?_set_ne -> CL, set_comm -> JR, append_nil -> AJ, length_pos_iff -> MY, length_eq_one_iff -> FQ, drop_zero -> AD, take_succ_cons -> AA, drop_succ_cons -> AB, drop_length -> JX, all_eq_true -> AO, set_append_left -> DX, getElem?_set_self -> BW, range' -> FM, idxOf?_eq_none_iff -> LV, contains_iff_mem -> EH, cons_append -> DO, mem_append -> AY, mem_range'_1 -> FC, mem_singleton -> CG, map_nil -> BY, range -> GZ, range_succ -> LQ, mem_map -> DB, mem_range -> HE, filter_append -> NG, length_filter_le -> MJ, count_eq_zero -> NH, drop_left -> KU, drop_eq_getElem_cons -> FD, getElem?_cons_succ -> CT, headD_nil -> OW, headD_cons -> ON
open Nat renaming add_zero -> DU, zero_add -> BC, mul_one -> FK, le_refl -> AQ, sub_self -> GD, succ_mul -> JS, mul_le_mul_right -> BO, le_add_right -> EG, add_sub_cancel_left -> FL, mul_le_mul -> JL
open Option renaming map_some -> DE, some -> N1, none -> N2
open Option.some renaming injEq -> AG
open Prod renaming fst -> EM
open UInt8 renaming ofNat -> CN, toNat_lt -> EC
open Bool renaming not_true -> BT
section
namespace Go.AM
open Go
section
variable {call:Nat->LA->LO->Out}{c:Ctx}{aq:LN}{n0:Nat}{ρ:bN}{H:LO}{wr:LN}{L:bN->LO->LN->Log->Prop}{p:LN}{r:List ae}
@[go_sem] def bC3{k:Nat}{x v:aa}{d:Option Nat}{t:Tg (call,c,aq,⟨d,.cpy k x v,N2,p⟩::r,L)}:wd call c aq n0 (⟨d,.cpy k x v,N2,p⟩::r) ρ H wr L t=bnd (oB call (c.site d) ρ H (.cpy k x v)) λt=>aU0 (aq.contains n0) (wd call c aq (n0+1) r (zX ρ d t.1) t.2.1 (bE c.base wr (t.2.2.2.getD [])) (aVK n0 t.2.2.1 t.2.2.2 L ⟨⟩) ⟨⟩) (wd call c aq (n0+1) r (zX ρ d t.1) t.2.1 (bE c.base wr (t.2.2.2.getD [])) L ⟨⟩) ⟨⟩:=aRs
@[go_sem] def aY6{k:Nat}{x v:aa}{s:Option Nat}:oB call s ρ H (.cpy k x v)=oD H (aD0 call H ρ s (.cpy k x v)):=(rfl)
end
def aS6{f:UInt8->Option Str}:nS f []=[]:=rfl
def xY{f:UInt8->Option Str}(a b:Str):nS f (a++b)=nS f a++nS f b:=JK
def aFD{f:UInt8->Option Str}{c:UInt8}{t:Str}(h:f c=N1 t):nS f [c]=t:=by simp[nS,h]
def aEo{f:UInt8->Option Str}{c:UInt8}(h:f c=N2):nS f [c]=[c]:=by simp[nS,h]
def aAu{f:UInt8->Option Str}(c:UInt8)(s:Str):nS f (c::s)=nS f [c]++nS f s:=xY [c] s
def aGJ{f:UInt8->Option Str}:∀{s:Str},(∀c∈s,f c=N2)->nS f s=s
 | [],_=>rfl
 |c::s,h=>by rw[aAu,aEo (h c siT),aGJ λd hd=>h d (by simp[hd])];rfl
def aDf{f:UInt8->Option Str}{M:Nat}(h:∀c t,f c=N1 t->t.length<=M)(hM:1<=M):∀s:Str,(nS f s).length<=M*s.length
 | []=>by simp[nS]
 |c::s=>by
  rw[aAu,BA,AW,Nat.mul_succ];have:=aDf h hM s;cases e:f c with
  |none=>rw[aEo e];simp;omega
  |some t=>rw[aFD e];have:=h c t e;omega
def vZ{p:UInt8×Str}{c:UInt8}:∀{l:List (UInt8×Str)},p.1∉l.map EM->gI (l++[p]) c=if c=p.1 then N1 p.2 else gI l c
 | [],_=>rfl
 |q::l,h=>by
  simp only[BI,BD,not_or]at h;have:=vZ (c:=c) h.2;show (if c=q.1 then N1 q.2 else gI (l++[p]) c)=_;rw[this];by_cases e:c=q.1
  ·subst e;rw[Zy rfl,Zx (λe=>h.1 e.symm)];show _=(if q.1=q.1 then _ else _);rw[Zy rfl]
  rw[Zx e];by_cases e2:c=p.1
  ·rw[Zy e2,Zy e2]
  rw[Zx e2,Zx e2];show _=(if c=q.1 then _ else _);rw[Zx e]
def aN8{c:UInt8}:∀{l:List (UInt8×Str)},(l.map EM).Nodup->gI l.reverse c=gI l c
 | [],_=>rfl
 |p::l,h=>by
  rw[BI,List.nodup_cons]at h;rw[List.reverse_cons,vZ (by rw[OC,JW];exact h.1),aN8 h.2];rfl
def aDg{c:UInt8}{t:Str}:∀{l:List (UInt8×Str)},gI l c=N1 t->(c,t)∈l
 | [],h=>by cases h
 |p::l,h=>by
  unfold gI at h;split at h
  ·rename_i e;cases h;subst e;exact HD ..
  exact BZ _ (aDg h)
def aKR{c:UInt8}{t:Str}{r:List (UInt8×Str)}:∀{l:List (UInt8×Str)},gI l c=N1 t->gI (l++r) c=N1 t
 | [],h=>by cases h
 |p::l,h=>by
  show (if c=p.1 then N1 p.2 else gI (l++r) c)=N1 t;unfold gI at h;split at h
  ·rename_i e;rw[Zy e];exact h
  rename_i e;rw[Zx e];exact aKR h
def aKS{l:List (UInt8×Str)}{p:UInt8×Str}(h:p.1∉l.map EM):∀s:Str,((nS (gI (l++[p])) s).length:Int)=(nS (gI l) s).length+(s.count p.1:Nat)*((p.2.length:Int) - 1)
 | []=>by simp[nS]
 |c::s=>by
  have ih:=aKS h s;rw[aAu c s,aAu c s,BA,BA,KO,KO,ih,LP];by_cases e:c=p.1
  ·subst e;rw[aFD (by rw[vZ h,Zy rfl]),aEo (aGI h),Zy siT];simp only[AW,AZ,KO,Int.add_mul];omega
  have e2:(c==p.1)=false:=by simpa using e
  have:nS (gI (l++[p])) [c]=nS (gI l) [c]:=by unfold nS;simp[vZ h,e]
  rw[this,e2];simp only[BX,Zu,DU];omega
def aN9{l:List (UInt8×Str)}{p:UInt8×Str}(h:p.1∉l.map EM):∀s:Str,(s.any λc=>(gI (l++[p]) c).isSome)=((s.any λc=>(gI l c).isSome) || (s.count p.1 != 0))
 | []=>by simp
 |c::s=>by
  rw[Ha,aN9 h s,Ha,LP,vZ h];by_cases e:c=p.1
  ·subst e;simp
  have e2:(c==p.1)=false:=by simpa using e
  rw[Zx e,e2];simp only[BX,Zu,DU,Bool.or_assoc]
def oG{α:Type}{l:List α}{i:Nat}(h:i<l.length):l.take (i+1)=l.take i++[l[i]]:=by rw[List.take_add_one,AP h];rfl
abbrev lQ(g:SN):List ae:=[qm 41 5,qm 42 9,qm 43 0,qm 44 8,⟨N1 45,.ixS (u 44) (ui 0),N2,[3]⟩,⟨N1 46,.cz (u 43),N2,[2]⟩,⟨N1 47,of 0 46,N2,[5,2]⟩,⟨N1 48,.iaA 256 1 (u 47) (u 45),N2,[6,5,2,4,3]⟩,⟨N1 49,ol 1 48,N2,[7,6,5,2,4,3]⟩,⟨N1 50,on 49,N2,[8,7,6,5,2,4,3]⟩,⟨N1 51,obi .sub 50 1,N2,[9,8,7,6,5,2,4,3]⟩,⟨N1 52,ob .mul 42 51,N2,[1,10,9,8,7,6,5,2,4,3]⟩,⟨N1 53,ob .add 41 52,N2,[0,11,1,10,9,8,7,6,5,2,4,3]⟩,⟨N1 5,om 53,N2,[12,0,11,1,10,9,8,7,6,5,2,4,3]⟩]
abbrev fK:LN:=[]
abbrev lR(g:SN):ag:=qS [qb 33 .lss 32 31]<|.seq (qC 33 (.skip) (.exit 0))<|.seq (.block 1 (qS [qi 34 30 32 1,ql 35 1 34,qm 8 35]<|qS [qm 36 1,qm 37 8,qc 38 (g "W") [u 36,u 37],qm 9 38]<|qS [qm 39 9,qbi 40 .neq 39 0]<|qC 40 (.seq (.region Pa (lQ g))<|.region Po [qmc 6 (.bool Pa)]) (.skip)))<|.region Po [qbi 54 .add 32 1,qm 32 54]
abbrev lS(g:SN):ag:=.seq (qS [qm 55 10,qm 56 1,qq 57 (.fg (u 56)),qb 58 .lss 55 57]<|qC 58 (.skip) (.exit 2))<|.seq (.block 3 (qS [qm 61 1,qm 62 10,qq 63 (.ixS (u 61) (u 62)),qm 11 63]<|qS [qm 64 0,qm 65 11,qq 66 (.cz (u 64)),qf 67 0 66,qq 68 (.iaA 256 1 (u 67) (u 65)),ql 69 1 68,qq 70 (.ky Pa (u 69))]<|qC 70 (qS [qm 71 5,qm 72 0,qm 73 11,qq 74 (.cz (u 72)),qf 75 0 74,qq 76 (.iaA 256 1 (u 75) (u 73)),ql 77 1 76,qn 78 77,qbi 79 .sub 78 1,qb 80 .add 71 79,qm 5 80]<|.region Po [qmc 6 (.bool Pa)]) (.skip)))<|.region Po [qm 59 10,qbi 60 .add 59 1,qm 10 60]
abbrev lT(g:SN):List ae:=[qm 102 13,qm 103 12,qm 104 13,⟨N1 105,.view 1 (u 103) (N1 (.tmp 104)),N2,[1,2]⟩,qm 106 0,qm 107 15,⟨N1 108,.cz (u 106),N2,[4]⟩,⟨N1 109,of 0 108,N2,[6,4]⟩,⟨N1 110,.iaA 256 1 (u 109) (u 107),N2,[7,6,4,5]⟩,⟨N1 111,ol 1 110,N2,[8,7,6,4,5]⟩,⟨N1 112,.cpy 1 (u 105) (u 111),N2,[3,1,2,9,8,7,6,4,5]⟩,⟨N1 113,ob .add 102 112,N2,[0,10,3,1,2,9,8,7,6,4,5]⟩,⟨N1 13,om 113,N2,[11,0,10,3,1,2,9,8,7,6,4,5]⟩]
abbrev fM:LN:=[]
abbrev lU(g:SN):ag:=.seq (qS [qm 86 14,qm 87 1,qq 88 (.fg (u 87)),qb 89 .lss 86 88]<|qC 89 (.skip) (.exit 4))<|.seq (.block 5 (qS [qm 92 1,qm 93 14,qq 94 (.ixS (u 92) (u 93)),qm 15 94]<|qS [qm 95 0,qm 96 15,qq 97 (.cz (u 95)),qf 98 0 97,qq 99 (.iaA 256 1 (u 98) (u 96)),ql 100 1 99,qq 101 (.ky Pa (u 100))]<|qC 101 (.region Pa (lT g)) (qS [qm 114 12,qm 115 13,qm 116 15,qi 117 114 115 1,qs 1 117 116]<|.region Po [qm 118 13,qbi 119 .add 118 1,qm 13 119])))<|.region Po [qm 90 14,qbi 91 .add 90 1,qm 14 91]
def dB(g:SN):bw:=⟨122,[85],[.tmp 4],qS [qmc 4 (.str [])]<|qS [qm 16 1,qq 17 (.fg (u 16)),qm 5 17]<|qS [qmc 6 (.bool Po)]<|.seq (qS [qm 18 0,qq 19 (.cz (u 18)),qf 20 256 19,ql 21 1 20,qn 22 21,qbi 23 .mul 22 8,qm 24 1,qq 25 (.fg (u 24)),qb 26 .leq 23 25]<|qC 26 (qS [qm 27 0,qq 28 (.cz (u 27)),qf 29 256 28,ql 30 1 29,qn 31 30,qmc 32 z0]<|.block 0 (.loop (lR g))) (qS [qmc 10 z0]<|.block 2 (.loop (lS g))))<|.seq (qS [qm 81 6,qq 82 (.un .not (u 81))]<|qC 82 (qS [qm 83 1,qm 4 83]<|.ret) (.skip))<|qS [qm 84 5,qq 85 (.mks 1 1 [(.int .u8 0)] (u 84) (u 84)),qm 12 85]<|qS [qmc 13 z0]<|.seq (qS [qmc 14 z0]<|.block 4 (.loop (lU g)))<|qS [qm 120 12,qq 121 (.conv .b2s (u 120)),qm 4 121]<|.ret⟩
def aEp{f:UInt8->Option Str}{c:UInt8}{t:Str}(h:f c=N1 t):aEm f c.toNat=.sl Po (aJ t):=by unfold aEm;rw[show CN c.toNat=c by simp,h]
def aIy{f:UInt8->Option Str}{c:UInt8}(h:f c=N2):aEm f c.toNat=.ar:=by unfold aEm;rw[show CN c.toNat=c by simp,h]
def rA(t:Str):(aJ t).length=t.length:=AF ..
def zM(c:UInt8)(t:Str):aJ (c::t)=[.int .u8 ((c.toNat:Nat):Int)]::aJ t:=rfl
section
variable {A:af}{g:SN}
def aNa(h:Has A g "ac" (dB g))(hg:g "ac" = 371)(hc:A.bq (g "W")=N1 aE7) (ps:List (UInt8×Str)) (h0:2<=ps.length) (h1:ps.length<=1000) (hd:(ps.map EM).Nodup) (hp:∀p∈ps,2<=p.2.length/\p.2.length<=1000):aM8 A 371 ps:=by
 intro H b k s hb hk hs;rw[<- hg];have P0:=getElem?_lt hb;have ow:=getElem?_lt hk;have gb:∀L,(H++L)[b]? = N1 (.box 1 (bsr (gI ps) (.sr k 1 ps.length))):=λL=>by rw[BM P0];exact hb
 have gk:∀L,(H++L)[k]? = N1 (.vec 1 1 (ps.reverse.map λp=>[.str [p.1]])):=λL=>by rw[BM ow];exact hk
 have R4:∀(c:UInt8) (H:LO),aG A (g "W") [.str s,.str [c]] H=N1 (vi (s.count c:Nat),H,[]):=λc H=>dT (by rw[hc];rfl);have Fm:∀c t,gI ps c=N1 t->2<=t.length/\t.length<=1000:=λc t e=>hp _ (aDg e);have Io:∀u:Str,(nS (gI ps) u).length<=1000*u.length:=aDf (λc t e=>(Fm c t e).2) omT;have H8:((ps.reverse.map λp=>[AV.str [p.1]])).length=ps.length:=siT;have Lf:AR.wrap ((ps.length:Int)*8)=(ps.length:Int)*8:=wrap_i64 omT omT;refine h.call ?_;simp only[dB];simp only[go_sem,↓aB,seval,gb,pH,aJq,Lf];refine xX (W:=[27,28,29,30,31,32,33,34,35,8,36,37,38,9,39,40,41,42,43,44,45,46,47,48,49,50,51,52,53,5,6,54,32,10,55,56,57,58,61,62,63,11,64,65,66,67,68,69,70,71,72,73,74,75,76,77,78,79,80,5,6,59,60,10])
  (λρ' H' ba=>ba=[]/\H'=H++[.gone 0]/\ρ' 5=vi ((nS (gI ps) s).length:Nat)/\ρ' 6=.bool (s.any λc=>(gI ps c).isSome)) rfT (λfo=>?_) (λfo=>?_) ?_
 ·let qs:=ps.reverse
  have Lg:(qs.map EM).Nodup:=by show (ps.reverse.map EM).Nodup;rw[OC];exact (List.reverse_perm _).nodup_iff.2 hd
  have Cs:qs.length=ps.length:=List.length_reverse;have Lh:∀i (hi:i<ps.length),qs[i]'omT∈ps:=λi hi=>JW.1 (AS (by omega:i<qs.length));have Ip:∀c,gI qs c=gI ps c:=λc=>aN8 hd;have Iq:∀i u,(nS (gI (qs.take i)) u).length<=1000*u.length:=λi u=>aDf (λc t e=>(hp _ (JW.1 (List.mem_of_mem_take (aDg e)))).2) omT u;simp only[go_sem,↓aB,seval,gb,pH,aJq];refine bJ (id:=0) (λi ρ1 H1 wr=>wr=[]/\H1=H++[.gone 0]/\ρ1 32=vi ((i:Nat):Int)/\ρ1 5=vi ((nS (gI (qs.take i)) s).length:Nat)/\ρ1 6=.bool (s.any λc=>(gI (qs.take i) c).isSome)) ps.length
   (λρ1 H1 wr=>wr=[]/\H1=H++[.gone 0]/\ρ1 5=vi ((nS (gI ps) s).length:Nat)/\ρ1 6=.bool (s.any λc=>(gI ps c).isSome))
   cB rfl ⟨rfl,rfl,rfl,by rw[AE,aGJ (f:=gI []) λc _=>rfl];rfl,by
    rw[AE,show (s.any λc=>(gI [] c).isSome)=Po from by rw[KH];intro c _;simp[gI]];rfl⟩ ?_ ?_
  ·rintro i ρ1 H1 dc mg ⟨rfl,rfl,e32,e5,e6⟩ hf;have e30:ρ1 30=.sr k 1 ps.length:=hf 30 rfl;have e31:ρ1 31=vi (ps.length:Nat):=hf 31 rfl;have e1:ρ1 1=.str s:=hf 1 rfl;have e0:ρ1 0=.ptr b 1 0:=hf 0 rfl;simp only[go_sem,↓aB,seval,e32,e31];refine aD (λhb=>?_) (λhb=>?_)
   ·have hlt:i<ps.length:=by simp at hb;omega
    have Fo:i<qs.length:=omT;obtain⟨m1,m2⟩:=hp _ (Lh i hlt);have Ct:qs[i].1∉(qs.take i).map EM:=by have:=Lg;rw[<- IQ (i+1) qs,oG Fo,DQ,DQ]at this;have h2:=(NO.1 (NO.1 this).1).2.2;intro hm;exact h2 _ hm _ siT rfl
    have cn:((ps.reverse.map λp=>[AV.str [p.1]]))[i]? = N1 [.str [qs[i].1]]:=by rw[BN,AP (by simpa using hlt)];rfl
    have gq:(0:Int)<=(i:Int):=omT;have lx:(i:Int)<(ps.length:Int):=omT;have kx:((i:Int)).toNat=i:=omT;have dy:=wS (i:=i) omT;have mb:=aKS Ct s;have mw:=aN9 Ct s;rw[<- oG Fo]at mb mw;have Om:=Iq (i+1) s;have On:=Iq i s;have F5:s.count qs[i].1<=s.length:=Ce;have bc:aEm (gI ps) qs[i].1.toNat=.sl Po (aJ qs[i].2):=aEp (by
     rw[<- Ip];have:gI (qs.take (i+1)) qs[i].1=N1 qs[i].2:=by rw[oG Fo,vZ Ct,Zy rfl]
     have:=aKR (r:=qs.drop (i+1)) this
     rwa [IQ]at this)
    generalize qs[i]=q at *;obtain⟨c,t⟩:=q;dsimp only at mb mw F5 m1 m2 Ct cn bc;have jg:(0:Int)<=((c.toNat:Nat):Int):=omT;have mj:((c.toNat:Nat):Int)<256:=by have:=EC c;omega
    have D2:(((c.toNat:Nat):Int)).toNat=c.toNat:=omT;have nc:c.toNat+1<=257:=by have:=EC c;omega
    simp only[go_sem,↓aB,seval,e32,e30,e1,gq,lx,kx,gk,H8,cn,R4];refine aD (λdp=>?_) (λdp=>?_)
    ·have bl:s.count c≠0:=by simpa using dp
     have sx:(s.count c:Int)*((t.length:Int) - 1)<=1000000:=by
      have a1:(s.count c:Int)*((t.length:Int) - 1)=((nS (gI (qs.take (i+1))) s).length:Int) - (nS (gI (qs.take i)) s).length:=by rw[mb];omega
      rw[a1];omega
     have Li:0<=(s.count c:Int)*((t.length:Int) - 1):=Int.mul_nonneg omT omT;have gn:AR.wrap ((t.length:Int) - 1)=(t.length:Int) - 1:=wrap_i64 omT omT;have pr:AR.wrap ((s.count c:Int)*((t.length:Int) - 1))=(s.count c:Int)*((t.length:Int) - 1):=wrap_i64 omT omT;have As:AR.wrap (((nS (gI (qs.take i)) s).length:Int)+(s.count c:Int)*((t.length:Int) - 1))=((nS (gI (qs.take (i+1))) s).length:Int):=by rw[<- mb];exact wrap_i64 omT omT
     simp only[go_sem,seval];refine aY (aq:=fK) (H0:=_) (by simp only[go_sem,seval,cS];rfl) rfT ?_;simp only[go_sem,↓aB,seval,fK,e32,e5,e0,gb,pH,aGE,jg,mj,D2,nc,bc,rA,dy,gn,pr,As,BG,BC,FK];exact⟨hlt,by rw[mw];simp[bl]⟩
    have bl:s.count c=0:=by simpa using dp
    rw[bl]at mb mw;simp only[go_sem,↓aB,seval,e32,e5,e6,dy];refine⟨hlt, ?_,by rw[mw];simp⟩;rw[mb];simp
   have hi:i=ps.length:=by simp at hb;omega
   subst hi;simp only[go_sem,seval];rw[e5,e6,show qs.take ps.length=qs from CH omT,show gI qs=gI ps from funext Ip];exact⟨rfl,rfl⟩
  rintro ρ' H' ba ⟨rfl,rfl,e5,e6⟩ hf;simp only[go_sem,seval,e5,e6]
 ·simp only[go_sem,↓aB,seval];refine bJ (id:=2) (λi ρ1 H1 wr=>wr=[]/\H1=H++[.gone 0]/\ρ1 10=vi ((i:Nat):Int)/\ρ1 5=vi (((s.length:Nat):Int)+((nS (gI ps) (s.take i)).length:Nat) - (i:Nat))/\ρ1 6=.bool ((s.take i).any λc=>(gI ps c).isSome)) s.length
   (λρ1 H1 wr=>wr=[]/\H1=H++[.gone 0]/\ρ1 5=vi ((nS (gI ps) s).length:Nat)/\ρ1 6=.bool (s.any λc=>(gI ps c).isSome))
   cB rfl ⟨rfl,rfl,rfl,by
    rw[AE,aS6];show vi ((s.length:Nat):Int)=_;congr 1,rfl⟩ ?_ ?_
  ·rintro i ρ1 H1 dc mg ⟨rfl,rfl,e10,e5,e6⟩ hf;have e1:ρ1 1=.str s:=hf 1 rfl;have e0:ρ1 0=.ptr b 1 0:=hf 0 rfl;simp only[go_sem,↓aB,seval,e10,e1];refine aD (λhb=>?_) (λhb=>?_)
   ·have hlt:i<s.length:=by simp at hb;omega
    have gq:(0:Int)<=(i:Int):=omT;have lx:(i:Int)<(s.length:Int):=omT;have kx:((i:Int)).toNat=i:=omT;have dy:=wS (i:=i) omT;have cj:s[i]? = N1 s[i]:=AP hlt;have hL:=Io (s.take i);rw[List.length_take]at hL;have mb:nS (gI ps) (s.take (i+1))=nS (gI ps) (s.take i)++nS (gI ps) [s[i]]:=by rw[oG hlt,xY]
    have mw:((s.take (i+1)).any λc=>(gI ps c).isSome)=(((s.take i).any λc=>(gI ps c).isSome) || (gI ps s[i]).isSome):=by rw[oG hlt,List.any_append];simp
    generalize s[i]=c at *;have jg:(0:Int)<=((c.toNat:Nat):Int):=omT;have mj:((c.toNat:Nat):Int)<256:=by have:=EC c;omega
    have D2:(((c.toNat:Nat):Int)).toNat=c.toNat:=omT;have nc:c.toNat+1<=257:=by have:=EC c;omega
    cases e:gI ps c with
    |none=>rw[e]at mw;rw[aEo e]at mb;have bc:=aIy e;simp only[go_sem,↓aB,seval,e10,e1,e0,gq,kx,cj,gb,pH,aGE,jg,mj,D2,nc,bc,BC,FK,dy,e5,e6];refine⟨hlt, ?_,by rw[mw];simp⟩;rw[mb,BA];congr 1;simp;omega
    |some t=>
     rw[e]at mw;rw[aFD e]at mb;have bc:=aEp e;obtain⟨m1,m2⟩:=Fm c t e;obtain⟨x,r,rfl⟩:=ER (show t≠[] from λe=>by rw[e]at m1;simp at m1);rw[zM]at bc;have gn:AR.wrap ((((r.length+1:Nat)):Int) - 1)=(r.length:Int):=by simp at m2;rw[wrap_i64 omT omT];omega
     have pr:AR.wrap (((s.length:Nat):Int)+((nS (gI ps) (s.take i)).length:Nat) - (i:Nat)+(r.length:Int))=((s.length:Nat):Int)+((nS (gI ps) (s.take (i+1))).length:Nat) - ((i+1:Nat):Nat):=by rw[mb,BA,AW];simp at m2;rw[wrap_i64 omT omT];omega
     simp only[go_sem,↓aB,seval,e10,e1,e0,gq,kx,cj,gb,pH,aGE,jg,mj,D2,nc,bc,BC,FK,dy,e5,AW,rA,gn,pr];exact⟨hlt,by rw[mw];simp⟩
   have hi:i=s.length:=by simp at hb;omega
   subst hi;simp only[go_sem,seval];rw[e5,e6,DM];refine⟨?_,rfl⟩;congr 1;omega
  rintro ρ' H' ba ⟨rfl,rfl,e5,e6⟩ hf;simp only[go_sem,seval,e5,e6]
 rintro ρ' H' ba ⟨rfl,rfl,e5,e6⟩ hf;have e1:ρ' 1=.str s:=hf 1 rfl;have e0:ρ' 0=.ptr b 1 0:=hf 0 rfl;cases ea:s.any λc=>(gI ps c).isSome with
 |false=>
  have hs:nS (gI ps) s=s:=aGJ λc hm=>by
   rw[KH]at ea;simpa using ea c hm
  rw[ea]at e6;simp only[go_sem,↓aB,seval,e6,e1,hs]
 |true=>
  rw[ea]at e6;generalize hN:(nS (gI ps) s).length=N at *;have Oo:N<=1000000:=by have:=Io s;omega
  have R1:bP N 1=true:=by unfold bP;simp;omega
  have Lj:(0:Int)<=(N:Int):=omT;have Lk:((N:Nat):Int).toNat=N:=omT;simp only[go_sem,↓aB,seval,e6,e5,Lj,Lk,R1];refine bJ (id:=4) (λi ρ1 H1 wr=>wr=[]/\H1=H++[.vec 1 1 (rb (nS (gI ps) (s.take i))++AX (N - (nS (gI ps) (s.take i)).length) [.int .u8 0])]/\ρ1 14=vi ((i:Nat):Int)/\ρ1 13=vi ((nS (gI ps) (s.take i)).length:Nat)) s.length
   (λρ1 H1 wr=>wr=[]/\H1=H++[.vec 1 1 (rb (nS (gI ps) s))])
   cB rfl ⟨rfl,rfl,rfl,rfl⟩ ?_ ?_
  ·rintro i ρ1 H1 dc mg ⟨rfl,rfl,e14,e13⟩ cq;have f1:ρ1 1=.str s:=(cq 1 rfl).trans e1;have f0:ρ1 0=.ptr b 1 0:=(cq 0 rfl).trans e0;have f12:ρ1 12=.sr H.length 1 N:=cq 12 rfl;simp only[go_sem,↓aB,seval,e14,f1];refine aD (λhb=>?_) (λhb=>?_)
   ·have hlt:i<s.length:=by simp at hb;omega
    have gq:(0:Int)<=(i:Int):=omT;have lx:(i:Int)<(s.length:Int):=omT;have kx:((i:Int)).toNat=i:=omT;have dy:=wS (i:=i) omT;have cj:s[i]? = N1 s[i]:=AP hlt;have mb:nS (gI ps) (s.take (i+1))=nS (gI ps) (s.take i)++nS (gI ps) [s[i]]:=by rw[oG hlt,xY]
    have H9:(nS (gI ps) (s.take (i+1))).length<=N:=by rw[<- hN];have:=congrArg List.length (xY (f:=gI ps) (s.take (i+1)) (s.drop (i+1)));rw[IQ,BA]at this;omega
    generalize s[i]=c at *;have jg:(0:Int)<=((c.toNat:Nat):Int):=omT;have mj:((c.toNat:Nat):Int)<256:=by have:=EC c;omega
    have D2:(((c.toNat:Nat):Int)).toNat=c.toNat:=omT;have nc:c.toNat+1<=257:=by have:=EC c;omega
    generalize hu:nS (gI ps) (s.take i)=u at *;have Cp:∀L:LO,(H++.vec 1 1 (rb u++AX (N - u.length) [.int .u8 0])::L)[H.length]? = N1 (.vec 1 1 (rb u++AX (N - u.length) [.int .u8 0])):=λL=>by
     rw[BU (AQ _),GD];rfl
    have Si:u.length<=N->u.length+(AX (N - u.length) [AV.int .u8 0]).length=N:=λh=>by rw[List.length_replicate];omega
    have Fp:u.length<=N->iL 0 N (N1 (vi u.length))=N1 u.length:=λh=>by
     unfold iL vi;dsimp only;rw[Zy ⟨omT,omT⟩];rfl
    cases e:gI ps c with
    |none=>
     rw[aEo e]at mb;have bc:=aIy e;rw[mb,BA,AW,AZ]at H9;have Ll:(0:Int)<=(u.length:Int):=omT;have yw:u.length<=N:=omT;have Lm:(rb u++AX (N - u.length) [AV.int .u8 0])[u.length]? = N1 [.int .u8 0]:=by rw[BU (by rw[kG];exact AQ _),kG,GD,List.getElem?_replicate,Zy omT]
     have lg:(rb u++AX (N - u.length) [AV.int .u8 0]).set u.length [AV.int .u8 (c.toNat:Nat)]=rb (u++[c])++AX (N - (u.length+1)) [.int .u8 0]:=by rw[List.set_append_right _ _ (by rw[kG];exact AQ _),kG,GD,vX,CJ];rw[show N - u.length=(N - (u.length+1))+1 by omega];rfl
     have Au:AR.wrap ((u.length:Int)+1)=((u.length+1:Nat):Int):=by rw[wrap_i64 omT omT];omega
     have yi:(u.length:Int)<(N:Int):=omT;have Ln:((u.length:Int)).toNat=u.length:=omT;simp only[go_sem,↓aB,seval,e14,f1,f0,gq,kx,cj,gb,pH,aGE,jg,mj,D2,nc,bc,BC,FK,dy,f12,e13,Ll,yi,Ln,Au,Si yw,Lm,AW,AZ];refine⟨hlt, ?_⟩;rw[mb,BA,lg];exact⟨rfl,rfl⟩
    |some t=>
     rw[aFD e]at mb;have bc:=aEp e;obtain⟨m1,m2⟩:=Fm c t e;rw[mb,BA]at H9;have yw:u.length<=N:=omT;obtain⟨x,r,rfl⟩:=ER (show t≠[] from λe=>by rw[e]at m1;simp at m1);rw[zM]at bc;rw[AW]at H9 m2;have hle:u.length+(r.length+1)<=N:=H9;have Ir:∀a b:ah,(H++[a]).length=(H++[b]).length:=λa b=>by simp
     have Au:AR.wrap ((u.length:Int)+((r.length+1:Nat):Int))=((u.length+(r.length+1):Nat):Int):=by rw[wrap_i64 omT omT];omega
     have Fq:List.take u.length (rb u++AX (N - u.length) [AV.int .u8 0])++[AV.int .u8 (x.toNat:Nat)]::aJ r++List.drop (u.length+(r.length+1)) (rb u++AX (N - u.length) [AV.int .u8 0])=rb (u++x::r)++AX (N - (u.length+(r.length+1))) [.int .u8 0]:=by rw[List.take_append_of_le_length (by rw[kG];exact AQ _),CH (by rw[kG];exact AQ _),List.drop_append,kG,List.drop_eq_nil_of_le (by rw[kG];omega),CW,List.drop_replicate,vX];rw[show N - u.length - (u.length+(r.length+1) - u.length)=N - (u.length+(r.length+1))by omega];rfl
     simp only[go_sem,↓aB,seval,e14,f1,f0,gq,kx,cj,gb,pH,aGE,jg,mj,D2,nc,bc,BC,FK];refine aY (aq:=fM) (H0:=_) (by simp only[go_sem,seval,cS];rfl) rfT ?_;simp only[go_sem,↓aB,seval,fM,e14,f0,gb,pH,aGE,jg,mj,D2,nc,bc,BC,FK,f12,e13,Si yw,Fp yw,rA,hle,Au,dy];refine⟨hlt, ?_⟩;rw[mb,BA,AW,Fq];exact⟨rfl,rfl⟩
   have hi:i=s.length:=by simp at hb;omega
   subst hi;simp only[go_sem,seval];rw[hN,GD];simp
  rintro ρ2 H2 en ⟨rfl,rfl⟩ cq;have f12:ρ2 12=.sr H.length 1 N:=cq 12 rfl;have Av:pT (H++[.vec 1 1 (rb (nS (gI ps) s))]) .b2s (.sr H.length 1 N)=N1 (.str (nS (gI ps) s)):=by
   unfold pT dO;dsimp only;rw[BU (AQ _),GD];show (match (if 1=1/\(rb (nS (gI ps) s)).length=N then N1 (rb (nS (gI ps) s))else N2)with
    |some rows=>(cM rows).map AV.str
    |none=>N2)=_
   rw[Zy ⟨rfl,by rw[kG,hN]⟩];show (cM (rb _)).map AV.str=_;rw[oO];rfl
  simp only[go_sem,↓aB,seval,f12,Av]
end
section
variable {H X:LO}{ty o v o2 v2 i:Nat}{T:Str}{x:ah}
def aTb(c:gf H.length o o2):(PSt X ty o v o2 v2 T)[H.length+i]? = X[H.length+i]? := by unfold PSt;rw[CL (by have:=c.lo2;omega),CL (by have:=c.lo;omega)]
def mO(c:gf H.length o o2):(PSt X ty o v o2 v2 T)[H.length]? = X[H.length]? := aTb (i:=0) c
def aM9(c:gf H.length o o2):(PSt X ty o v o2 v2 T).set (H.length+i) x=PSt (X.set (H.length+i) x) ty o v o2 v2 T:=by unfold PSt;have h1:=c.lo;have h2:=c.lo2;rw[JR (i:=o2) _ _ omT,JR (i:=o) _ _ omT]
def aFE(c:gf H.length o o2):(PSt X ty o v o2 v2 T).set H.length x=PSt (X.set H.length x) ty o v o2 v2 T:=aM9 (i:=0) c
end
def aNb(A:af)(f:Nat)(args:LA)(M:Nat):Prop:=∀(H:LO) (ty o v o2 v2:Nat) (T:Str),gf H.length o o2->T≠[]->T.length+M<=100000000 ->
 ∃T' wr,T'≠[]/\T'.length<=T.length+M/\aG A f (.ptr o v 0::args) (PSt H ty o v o2 v2 T)=N1 (.tup [],PSt H ty o v o2 v2 T',wr)/\Wr2 o o2 wr
def aNb.mono{A:af}{f:Nat}{args:LA}{M M':Nat}(h:aNb A f args M)(hm:M<=M'):aNb A f args M':=by intro H ty o v o2 v2 T c hT hb;obtain⟨T',wr,h1,h2,h3⟩:=h H ty o v o2 v2 T c hT omT;exact⟨T',wr,h1,omT,h3⟩
def bB2(H:LO)(ty o v o2 v2 N:Nat)(e:bf)(ρ:bN)(H1:LO)(wr:LN):Prop:=
 e=.normal/\∃L T',T'≠[]/\T'.length<=N/\H1=PSt (H++L) ty o v o2 v2 T'/\Wr2 o o2 wr
def Has.prt{A:af}{g:SN}{name:String}{fn:bw}(h:Has A g name fn){args:LA}{M:Nat}(R0:fn.results=[])(hN:args.length+1<=fn.ntmps)(hok:∀n,dK fn.ntmps ⟨n,fn.sites⟩ fn.body=Pa) (hw:∀(H:LO) (ty o v o2 v2:Nat) (T:Str),gf H.length o o2->T≠[]->T.length+M<=100000000 ->wc A fn.ntmps ⟨H.length,fn.sites⟩ fn.body (pO (.ptr o v 0::args)) (PSt (H++AX fn.sites.length (.gone 0)) ty o v o2 v2 T) [] (bB2 H ty o v o2 v2 (T.length+M)) ⟨⟩):aNb A (g name) args M:=by
 intro H ty o v o2 v2 T c hT hb;have hl:=iZ (H:=H) (ty:=ty) (o:=o) (v:=v) (o2:=o2) (v2:=v2) (T:=T);obtain⟨r,H',wr,h1,h2,T',h3,h4,h5,h6⟩:=h.bp (args:=.ptr o v 0::args) (H:=PSt H ty o v o2 v2 T) (K:=λr H' wr=>r=.tup []/\∃T',T'≠[]/\T'.length<=T.length+M/\H'=PSt H ty o v o2 v2 T'/\Wr2 o o2 wr) (hN:=Nat.ble_eq_true_of_le (by simpa using hN)) (hok:=hok _) (by
  rw[aEl c,hl,R0];refine iF (λe ρ H1 wr hh hf=>?_) (hw H ty o v o2 v2 T c hT hb);obtain⟨rfl,L,T',h1,h2,rfl,h3⟩:=hh;simp only[go_sem,↓aB,seval];rw[aM6 c rfl h3];exact⟨rfl,T',h1,h2,rfl,h3⟩)
 subst h2 h5;exact⟨T',wr,h3,h4,h1,h6⟩
def bI{A:af}{f:Nat}{args:LA}{M:Nat}(hp:aNb A f args M){X:LO}{ty o v o2 v2:Nat}{T:Str}{H2:LO}{site:Option Nat}{q:Bool}{k:AV×LO×LN->Prop}{tg} (c:gf X.length o o2) (hT:T≠[]) (hb:T.length+M<=100000000) (hk:∀T' wr,T'≠[]->T'.length<=T.length+M->Wr2 o o2 wr->bnd (dY site q H2 (N1 (.tup [],PSt X ty o v o2 v2 T',wr))) k):aCi (dY site q H2 (aG A f (.ptr o v 0::args) (PSt X ty o v o2 v2 T))) k tg:=by obtain⟨T',wr,h1,h2,h3,h4⟩:=hp X ty o v o2 v2 T c hT hb;rw[h3];exact hk T' wr h1 h2 h4
section
variable {A:af}{g:SN}
def jB(g:SN):bw:=⟨18,[],[],.seq (qS [qm 4 0,qq 5 (.cz (u 4)),qf 6 0 5,qc 7 (g "aI") [u 6],qbi 8 .gtr 7 0]<|qC 8 (qR [qm 9 0,qq 10 (.cz (u 9)),qf 11 0 10,qc 12 (g "Q") [u 11,uc (.int .u8 10)]]) (.skip))<|.region Po [qm 13 0,qq 14 (.cz (u 13)),qf 15 0 14,qm 16 1,qc 17 (g "f") [u 15,u 16]]⟩
def mP(g:SN):bw:=⟨10,[],[],.region Po [qm 4 0,qq 5 (.cz (u 4)),qf 6 0 5,qm 7 1,qq 8 (.bin .add .no (uc (.str [32])) (u 7)),qc 9 (g "f") [u 6,u 8]]⟩
abbrev uG(g:SN):ag:=qS [qb 9 .lss 8 7]<|.seq (qC 9 (.skip) (.exit 0))<|.seq (.block 1 (qS [qi 10 6 8 1,ql 11 1 10,qm 5 11]<|.region Po [qm 12 0,qm 13 5,qc 14 (g "i") [u 13],qc 15 (g "v") [u 12,u 14]]))<|.region Po [qbi 16 .add 8 1,qm 8 16]
def kB(g:SN):bw:=⟨17,[],[],qS [qm 6 1,qn 7 6,qmc 8 z0]<|.block 0 (.loop (uG g))⟩
def mR(g:SN):bw:=⟨12,[],[],.region Po [qm 4 0,qq 5 (.bsl 1 [(.str [])] 4 [(0,(.const (.str [92]))),(1,(.const (.str [92,92]))),(2,(.const (.str [34]))),(3,(.const (.str [92,34])))]),qc 6 (g "at") [u 5],qm 7 1,qc 8 (g "ab") [u 6,u 7],qq 9 (.bin .add .no (uc (.str [34])) (u 8)),qq 10 (.bin .add .no (u 9) (uc (.str [34]))),qc 11 (g "v") [u 4,u 10]]⟩
abbrev zY(g:SN):ag:=qS [qb 9 .lss 8 7]<|.seq (qC 9 (.skip) (.exit 0))<|.seq (.block 1 (qS [qi 10 6 8 2,qla 11 2 10,qq 5 (.alloc [z0,(.str [])]),qs 2 5 11]<|qS [qm 12 0,qc 13 (g "d") [u 12,uc (.str [114,117,110])]]<|qS [qm 14 0,qf 15 0 5,ql 16 1 15,qq 17 (.bsl 1 [z0] 1 [(0,(.tmp 16))]),qc 18 (g "p") [u 14,u 17]]<|.region Po [qm 19 0,qf 20 1 5,ql 21 1 20,qc 22 (g "B") [u 19,u 21]]))<|.region Po [qbi 23 .add 8 1,qm 8 23]
abbrev zZ:LN:=[9,10,11,5,12,13,14,15,16,17,18,19,20,21,22,23,8]
def jC(g:SN):bw:=⟨24,[5],[],qS [qm 6 1,qn 7 6,qmc 8 z0]<|.block 0 (.loop (zY g))⟩
structure OutFns(A:af)(g:SN)(tB tP:Nat):Prop where
 ws:Has A g "f" (cO g)
 wb:Has A g "Q" (gW g)
 len:Has A g "aI" (iY g)
 cc:A.bq (g "w")=N1 (fB tB tP)
 itoa:A.bq (g "i")=N1 sC
 line:Has A g "d" (jB g)
 word:Has A g "v" (mP g)
 numbers:Has A g "p" (kB g)
 text:Has A g "B" (mR g)
variable {tB tP:Nat}
def jX{H L:LO}{ty o v o2 v2 N:Nat}{T':Str}{wr:LN}{ρ:bN}(h1:T'≠[])(h2:T'.length<=N)(h3:Wr2 o o2 wr):bB2 H ty o v o2 v2 N .normal ρ (PSt (H++L) ty o v o2 v2 T') wr:=⟨rfl,L,T',h1,h2,rfl,h3⟩
def aCq{H:LO}{ty o v o2 v2 N:Nat}{T':Str}{wr:LN}{ρ:bN}(h1:T'≠[])(h2:T'.length<=N)(h3:Wr2 o o2 wr):bB2 H ty o v o2 v2 N .normal ρ (PSt H ty o v o2 v2 T') wr:=⟨rfl,[],T',h1,h2,by rw[AJ],h3⟩
def aPS{T s:Str}(h:T≠[]):T++s≠[]:=λe=>h (List.append_eq_nil_iff.1 e).1
def pY(F:OutFns A g tB tP)(s:Str)(hs:s.length<=1000000):aNb A (g "v") [.str s] (s.length+1):=by refine F.word.prt rfl (by simp[mP]) (λn=>cB) ?_;intro H ty o v o2 v2 T c hT hb;simp only[mP];obtain⟨wr,h1,h2⟩:=vY F.ws F.cc (ty:=ty) (v:=v) (v2:=v2) (T:=T) (s:=32::s) c soT;have ha:kJ .add .no (.str [32]) (.str s)=N1 (.str (32::s)):=kE soT;simp only[go_sem,↓aB,seval,AJ,ha,h1];exact aCq (aPS hT) siT (bZ kT h2)
def fQ(F:OutFns A g tB tP)(s:Str)(hs:s.length<=10000):aNb A (g "d") [.str s] (s.length+1):=by refine F.line.prt rfl (by simp[jB]) (λn=>cB) ?_;intro H ty o v o2 v2 T c hT hb;have hl:=aS3 F.len (ty:=ty) (v:=v) (v2:=v2) (T:=T) c;obtain⟨wr,h1,h2⟩:=tX F.wb F.cc (ty:=ty) (v:=v) (v2:=v2) (T:=T) (b:=10) c omT;obtain⟨ba,h3,h4⟩:=vY F.ws F.cc (ty:=ty) (v:=v) (v2:=v2) (T:=T++[10]) (s:=s) c soT;have hp:0<T.length:=MY.2 hT;have h1:aG A (g "Q") [.ptr o v 0,.int .u8 10] (PSt H ty o v o2 v2 T)=N1 (.bj,PSt H ty o v o2 v2 (T++[10]),wr):=h1;have hd:decide ((0:Int)<(T.length:Int))=true:=soT;simp only[jB];simp only[go_sem,↓aB,seval,AJ,hl,hd,h1,h3];exact aCq (aPS (aPS hT)) siT (bZ (bZ kT h2) h4)
def aPT(h:A.bq (g "i")=N1 sC){n:Int}(h0 : -1000000<n)(h1:n<1000000):∃s:Str,s.length<=8/\∀H,aG A (g "i") [vi n] H=N1 (.str s,H,[]):=by
 have nl:∀k m,(nC k m).length<=k:=by
  intro k
  induction k with
  |zero=>intro m;exact AQ _
  |succ k ih=>
   intro m;unfold nC;split
   ·simp
   have:=ih (m / 10);simp;omega
 by_cases hn:0<=n
 ·refine⟨nC 7 n.toNat,by have:=nl 7 n.toNat;omega,λH=>dT ?_⟩;rw[h];show sC [.int .i64 n] H=_;simp only[sC];rw[Zy ⟨hn,h1⟩]
 refine⟨45::nC 7 (-n).toNat,by have:=nl 7 (-n).toNat;simp;omega,λH=>dT ?_⟩;rw[h];show sC [.int .i64 n] H=_;simp only[sC];rw[Zx (λhh=>hn hh.1),Zy ⟨omT,h0⟩]
def aKT{k m:Nat}(h:m<100):(nC (k+2) m).length<=2:=by
 unfold nC;split
 ·simp
 unfold nC;rw[Zy omT];simp
def aOh(h:A.bq (g "i")=N1 sC){n:Int}(h0 : -100<n)(h1:n<100):∃s:Str,s.length+1<=4/\∀H,aG A (g "i") [vi n] H=N1 (.str s,H,[]):=by
 by_cases hn:0<=n
 ·refine⟨nC 7 n.toNat,by have:(nC 7 n.toNat).length<=2:=aKT (k:=5) omT;omega,λH=>dT ?_⟩;rw[h];show sC [.int .i64 n] H=_;simp only[sC];rw[Zy ⟨hn,omT⟩]
 refine⟨45::nC 7 (-n).toNat,by have:(nC 7 (-n).toNat).length<=2:=aKT (k:=5) omT;simp;omega,λH=>dT ?_⟩;rw[h];show sC [.int .i64 n] H=_;simp only[sC];rw[Zx (λhh=>hn hh.1),Zy ⟨omT,omT⟩]
def aF1(F:OutFns A g tB tP)(l:List Int)(b:Bool)(M:Nat)(hM:M<=9)(hl:l.length<=10000)(hs:∀n∈l,∃s:Str,s.length+1<=M/\∀H,aG A (g "i") [vi n] H=N1 (.str s,H,[])):aNb A (g "p") [.sl b (l.map λn=>[vi n])] (l.length*M):=by
 refine F.numbers.prt rfl (by simp[kB]) (λn=>cB) ?_;intro H ty o v o2 v2 T c hT hb;have ax:(l.map λn=>[vi n]).length=l.length:=AF ..;simp only[kB];simp only[go_sem,↓aB,seval,AJ,ax];refine bJ (id:=0) (λi ρ1 H1 wr=>∃T',H1=PSt H ty o v o2 v2 T'/\T'≠[]/\T'.length<=T.length+i*M/\Wr2 o o2 wr/\ρ1 8=vi ((i:Nat):Int)) l.length
  (λρ1 H1 wr=>∃T',H1=PSt H ty o v o2 v2 T'/\T'≠[]/\T'.length<=T.length+l.length*M/\Wr2 o o2 wr)
  cB rfl ⟨T,rfl,hT,omT,kT,rfl⟩ ?_ ?_
 ·rintro i ρ1 H1 dc mg ⟨T1,rfl,g1,g2,g3,e8⟩ hf;have e6:ρ1 6=.sl b (l.map λn=>[vi n]):=hf 6 rfl;have e7:ρ1 7=vi (l.length:Nat):=hf 7 rfl;have e0:ρ1 0=.ptr o v 0:=hf 0 rfl;simp only[go_sem,↓aB,seval,e8,e7];refine aD (λhb=>?_) (λhb=>?_)
  ·have hlt:i<l.length:=by simp at hb;omega
   have gq:(0:Int)<=(i:Int):=omT;have lx:(i:Int)<(l.length:Int):=omT;have kx:((i:Int)).toNat=i:=omT;have dy:=wS (i:=i) omT;have cj:(l.map λn=>[vi n])[i]? = N1 [vi l[i]]:=by rw[BN,AP hlt];rfl
   obtain⟨s,lq,nu⟩:=hs _ (AS hlt);have Y0:i*M+M<=l.length*M:=by rw[<- JS];exact BO _ hlt
   simp only[go_sem,↓aB,seval,e8,e6,e0,gq,kx,cj,nu];refine bI ((pY F s omT).mono (M':=M) omT) c g1 omT ?_;rintro T2 en k1 k2 k3;simp only[go_sem,↓aB,seval,e8,dy];exact⟨hlt,T2,rfl,k1,by rw[JS];omega,bZ g3 k3⟩
  have hi:i=l.length:=by simp at hb;omega
  subst hi;simp only[go_sem,seval];exact⟨T1,rfl,g1,g2,g3⟩
 rintro ρ' H' ba ⟨T1,rfl,g1,g2,g3⟩ hf;simp only[go_sem,seval];exact aCq g1 g2 g3
def mS(F:OutFns A g tB tP)(l:List Int)(b:Bool)(hl:l.length<=10000)(hs:∀n∈l,-1000000<n/\n<1000000):aNb A (g "p") [.sl b (l.map λn=>[vi n])] (l.length*9):=
 aF1 F l b 9 (AQ _) hl λn hn=>by
  obtain⟨s,h1,h2⟩:=aPT F.itoa (hs n hn).1 (hs n hn).2;exact⟨s,omT,h2⟩
def mQ:List (UInt8×Str):=[(92,[92,92]),(34,[92,34])]
structure TextFns(A:af)(g:SN)(tB tP:Nat) extends OutFns A g tB tP where
 R5:Has A g "at" (jA g)
 rep:mh A g
 bsr:Has A g "ac" (dB g)
 num:g "ac" = 371
 cnt:A.bq (g "W")=N1 aE7
def aPU:∀p∈mQ,2<=p.2.length/\p.2.length<=1000:=deT
def aY7(s:Str):(nS (gI mQ) s).length<=2*s.length:=aDf (λc t e=>by
 have:=aDg e;have h2:∀p∈mQ,p.2.length<=2:=deT;exact h2 _ this) omT s
def sZ(F:TextFns A g tB tP)(s:Str)(hs:s.length<=1000):aNb A (g "B") [.str s] (2*s.length+3):=by
 refine F.text.prt rfl (by simp[mR]) (λn=>cB) ?_;intro H ty o v o2 v2 T c hT hb;have hX:=iZ (H:=H) (ty:=ty) (o:=o) (v:=v) (o2:=o2) (v2:=v2) (T:=T);have h1:=zL F.R5 mQ deT deT (PSt H ty o v o2 v2 T);have hB:=aNa F.bsr F.num F.cnt mQ deT deT deT aPU;have ho:(PSt H ty o v o2 v2 T++[.vec 1 1 (fP mQ),.box 1 [.int .u32 0,.int .i32 0,.int .u32 0,.bj,.sr (PSt H ty o v o2 v2 T).length 1 (fP mQ).length]])[H.length+1]? = N1 (aIw 1 (PSt H ty o v o2 v2 T).length 1 (fP mQ).length):=by rw[<- hX,BU omT,show (PSt H ty o v o2 v2 T).length+1 - (PSt H ty o v o2 v2 T).length=1 by omega];rfl
 have zw:(PSt H ty o v o2 v2 T++[.vec 1 1 (fP mQ),.box 1 [.int .u32 0,.int .i32 0,.int .u32 0,.bj,.sr (PSt H ty o v o2 v2 T).length 1 (fP mQ).length]])[(PSt H ty o v o2 v2 T).length]? = N1 (.vec 1 1 (fP mQ)):=by rw[BU omT,GD];rfl
 have h2:=aDd F.rep hB deT deT deT (λp hp=>⟨by have:=(aPU p hp).1;omega,(aPU p hp).2⟩) hs ho zw;rw[hX]at h1 h2;rw[aEl c]at h1 h2;have cn:[[AV.str [92]],[AV.str [92,92]],[AV.str [34]],[AV.str [92,34]]]=fP mQ:=rfl;rw[aM9 c,aEl (c.mono siT),eS,CJ]at h2;generalize Oq:[ah.vec 1 1 (fP mQ),ah.box 1 [.int .u32 0,.int .i32 0,.int .u32 0,.bj,.sr H.length 1 (fP mQ).length]]=L1 at h1 h2;generalize yx:(L1.set 1 _++uD mQ _)=L2 at h2;clear ho zw;generalize hu:nS (gI mQ) s=u at *;have R6:u.length<=2*s.length:=by rw[<- hu];exact aY7 s
 have ha:kJ .add .no (.str [34]) (.str u)=N1 (.str (34::u)):=kE soT;have dp:kJ .add .no (.str (34::u)) (.str [34])=N1 (.str (34::u++[34])):=kE soT;simp only[mR];simp only[go_sem,↓aB,seval,AJ,cn,h1,h2,ha,dp];refine bI (pY F.toOutFns (34::(u++[34])) soT) (c.mono siT) hT soT ?_;rintro T2 en k1 k2 k3;simp only[AW,BA,AZ]at k2;have od:bE H.length [] [H.length+1]=[]:=aKs (i:=1);simp only[go_sem,↓aB,seval];exact jX k1 omT (bZ kT k3)
end
def aOi:LA:=[[],[],[110,101,103],[43],[45],[42],[47],[94],[114,111,111,116],[61],[60]].map AV.str
def aPV:LA:=[[100,111,116],[108,105,110,101],[97,114,101,97]].map AV.str
abbrev aF2(id id2 ic lc c1 c2:Nat)(body:ag):ag:=
 qS [⟨N1 c1,.bin .lss .no (.tmp ic) (.tmp lc),N2,[]⟩] <|.seq (.cond (.tmp c1) .skip (.exit id)) <|.seq (.block id2 body) <|.region Po [⟨N1 c2,.bin .add .no (.tmp ic) (.const (vi 1)),N2,[]⟩,⟨N1 ic,.mov (.tmp c2),N2,[]⟩]
def bCl(P:LO->LN->Prop)(H:LO)(ty o v o2 v2 N:Nat)(e:bf)(ρ:bN)(H1:LO)(wr:LN):Prop:=
 e=.normal/\∃L T',P L wr/\T'≠[]/\T'.length<=N/\H1=PSt (H++L) ty o v o2 v2 T'
def kU{A:af}{N:Nat}{c:Ctx}{H L:LO}{ty o v o2 v2:Nat}{T:Str}{ρ:bN}{wr:LN}{Q:bf->bN->LO->LN->Prop}(P:LO->LN->Prop) (id id2 ic lc c1 c2 n m:Nat) {body:ag} {W:LN} {tg:Tg (A,N,c,aF2 id id2 ic lc c1 c2 body,Q)} (hW:xJ (aF2 id id2 ic lc c1 c2 body)=W) (hok:dK N c (aF2 id id2 ic lc c1 c2 body)=Pa) (hs:(W.contains lc || (xJ body).contains ic || (ic==c1) || (lc==c1))=Po) (hi:ρ ic=vi 0) (hl:ρ lc=vi n) (hn:n<=1000000) (hT:T≠[]) (hP:P L wr) (gh:∀i ρ1 L1 T1 dc,i<n->ρ1 ic=vi i->(∀t,W.contains t=Po->ρ1 t=ρ t)->P L1 dc->T1≠[]->T1.length<=T.length+i*m ->wc A N c body ρ1 (PSt (H++L1) ty o v o2 v2 T1) dc (bCl P H ty o v o2 v2 (T1.length+m)) ⟨⟩) (hQ:∀ρ' L' T' ba,P L' ba->T'≠[]->T'.length<=T.length+n*m->(∀t,W.contains t=Po->ρ' t=ρ t)->Q (.exit id) ρ' (PSt (H++L') ty o v o2 v2 T') ba):wl A N c (aF2 id id2 ic lc c1 c2 body) ρ (PSt (H++L) ty o v o2 v2 T) wr Q tg:=by
 simp only[Bool.or_eq_false_iff,beq_eq_false_iff_ne]at hs;obtain⟨⟨⟨s1,s2⟩,s3⟩,s4⟩:=hs;refine bJ (id:=id) (W:=W) (λi ρ1 H1 wr=>∃L1 T1,H1=PSt (H++L1) ty o v o2 v2 T1/\P L1 wr/\T1≠[]/\T1.length<=T.length+i*m/\ρ1 ic=vi i) n
  (λρ1 H1 wr=>∃L1 T1,H1=PSt (H++L1) ty o v o2 v2 T1/\P L1 wr/\T1≠[]/\T1.length<=T.length+n*m)
  hok hW ⟨L,T,rfl,hP,hT,omT,hi⟩ ?_ ?_
 ·rintro i ρ1 H1 dc mg ⟨L1,T1,rfl,g0,g1,g2,e8⟩ hf;have e7:ρ1 lc=vi n:=by rw[hf lc s1];exact hl
  simp only[go_sem,↓aB,seval,e8,e7];refine aD (λhb=>?_) (λhb=>?_)
  ·have hlt:i<n:=by simp at hb;omega
   have dy:=wS (i:=i) omT;have hx:∀x,upd ρ1 c1 x ic=vi i:=λx=>by rw[aAk s3];exact e8
   have Pw:∀x t,W.contains t=Po->upd ρ1 c1 x t=ρ t:=λx t ht=>by
    rw[aAk (λe=>by
     subst e;rw[<- hW]at ht;simp[xJ,kF]at ht),hf t ht]
   simp only[go_sem,seval];refine iF (λe ρ' H' ba hh xb=>?_) (gh i _ L1 T1 dc hlt (hx _) (Pw _) g0 g1 g2);obtain⟨rfl,L2,T2,k0,k1,k2,rfl⟩:=hh;have e9:ρ' ic=vi i:=by rw[xb ic s2];exact hx _
   simp only[go_sem,↓aB,seval,e9,dy];exact⟨hlt,L2,T2,rfl,k0,k1,by rw[JS];omega⟩
  have hi:i=n:=by simp at hb;omega
  subst hi;simp only[go_sem,seval];exact⟨L1,T1,rfl,g0,g1,g2⟩
 rintro ρ' H' ba ⟨L1,T1,rfl,g0,g1,g2⟩ hf;exact hQ ρ' L1 T1 ba g0 g1 g2 hf
def bCm(H:LO)(ty o v o2 v2 k N:Nat)(e:bf)(ρ:bN)(H1:LO)(wr:LN):Prop:=
 e=.normal/\∃L T',L.length=k/\T'≠[]/\T'.length<=N/\H1=PSt (H++L) ty o v o2 v2 T'/\Wr2 o o2 wr
def pZ{A:af}{N:Nat}{c:Ctx}{H L:LO}{ty o v o2 v2:Nat}{T:Str}{ρ:bN}{wr:LN}{Q:bf->bN->LO->LN->Prop} (id id2 ic lc c1 c2 n m:Nat) {body:ag} {W:LN} {tg:Tg (A,N,c,aF2 id id2 ic lc c1 c2 body,Q)} (hW:xJ (aF2 id id2 ic lc c1 c2 body)=W) (hok:dK N c (aF2 id id2 ic lc c1 c2 body)=Pa) (hs:(W.contains lc || (xJ body).contains ic || (ic==c1) || (lc==c1))=Po) (hi:ρ ic=vi 0) (hl:ρ lc=vi n) (hn:n<=1000000) (hT:T≠[]) (ma:Wr2 o o2 wr) (gh:∀i ρ1 L1 T1 dc,i<n->ρ1 ic=vi i->(∀t,W.contains t=Po->ρ1 t=ρ t)->L1.length=L.length->T1≠[]->T1.length<=T.length+i*m->Wr2 o o2 dc ->wc A N c body ρ1 (PSt (H++L1) ty o v o2 v2 T1) dc (bCm H ty o v o2 v2 L.length (T1.length+m)) ⟨⟩) (hQ:∀ρ' L' T' ba,L'.length=L.length->T'≠[]->T'.length<=T.length+n*m->Wr2 o o2 ba->(∀t,W.contains t=Po->ρ' t=ρ t)->Q (.exit id) ρ' (PSt (H++L') ty o v o2 v2 T') ba):wl A N c (aF2 id id2 ic lc c1 c2 body) ρ (PSt (H++L) ty o v o2 v2 T) wr Q tg:=by
 refine kU (λL1 dc=>L1.length=L.length/\Wr2 o o2 dc) id id2 ic lc c1 c2 n m hW hok hs hi hl hn hT ⟨rfl,ma⟩ ?_ ?_
 ·rintro i ρ1 L1 T1 dc hlt h1 h2 ⟨h3,h6⟩ h4 h5;refine iF (λe ρ' H' ba hh xb=>?_) (gh i ρ1 L1 T1 dc hlt h1 h2 h3 h4 h5 h6);obtain⟨rfl,L2,T2,k0,k1,k2,rfl,k3⟩:=hh;exact⟨rfl,L2,T2,⟨k0,k3⟩,k1,k2,rfl⟩
 rintro ρ' L' T' ba ⟨h1,h4⟩ h2 h3 hf;exact hQ ρ' L' T' ba h1 h2 h3 h4 hf
abbrev xZ(g:SN):ag:=qS [qb 29 .lss 28 27]<|.seq (qC 29 (.skip) (.exit 4))<|.seq (.block 5 (qS [qi 30 26 28 3,qla 31 3 30,qq 9 (.alloc [z0,z0,z0]),qs 3 9 31]<|.region Po [qm 32 0,qf 33 0 9,ql 34 1 33,qf 35 1 9,ql 36 1 35,qf 37 2 9,ql 38 1 37,qq 39 (.bsl 1 [z0] 3 [(0,(.tmp 34)),(1,(.tmp 36)),(2,(.tmp 38))]),qc 40 (g "p") [u 32,u 39]]))<|.region Po [qbi 41 .add 28 1,qm 28 41]
abbrev yA:LN:=[29,30,31,9,32,33,34,35,36,37,38,39,40,41,28]
abbrev yB(g:SN):ag:=qS [qb 21 .lss 20 19]<|.seq (qC 21 (.skip) (.exit 2))<|.seq (.block 3 (qS [qi 22 18 20 1,ql 23 1 22,qm 7 23]<|qS [qm 24 0,qc 25 (g "d") [u 24,uc (.str [98,97,114])]]<|qS [qm 26 7,qn 27 26,qmc 28 z0]<|.block 4 (.loop (xZ g))))<|.region Po [qbi 42 .add 20 1,qm 20 42]
abbrev yC:LN:=[21,22,23,7,24,25,26,27,28,29,30,31,9,32,33,34,35,36,37,38,39,40,41,28,42,20]
abbrev yD(g:SN):ag:=qS [qb 13 .lss 12 11]<|.seq (qC 13 (.skip) (.exit 0))<|.seq (.block 1 (qS [qi 14 10 12 1,ql 15 1 14,qm 5 15]<|qS [qm 16 0,qc 17 (g "d") [u 16,uc (.str [104,97,110,100])]]<|qS [qm 18 5,qn 19 18,qmc 20 z0]<|.block 2 (.loop (yB g))))<|.region Po [qbi 43 .add 12 1,qm 12 43]
abbrev yE:LN:=[13,14,15,5,16,17,18,19,20,21,22,23,7,24,25,26,27,28,29,30,31,9,32,33,34,35,36,37,38,39,40,41,28,42,20,43,12]
def hJ(g:SN):bw:=⟨44,[9],[],qS [qm 10 1,qn 11 10,qmc 12 z0]<|.block 0 (.loop (yD g))⟩
def wA(g:SN):ag:=.block 0 (qS [qbi 9 .eql 7 0,qm 8 9]<|qC 8 (qS [qf 10 1 1,ql 11 1 10,qc 12 (g "i") [u 11],qm 2 12]<|.ret) (qS [qbi 14 .eql 7 1,qm 13 14]<|qC 13 (qS [qf 15 1 1,ql 16 1 15,qq 17 (.bin .add .no (ui 97) (u 16)),qq 18 (.conv (.toInt .i32) (u 17)),qq 19 (.conv .i2s (u 18)),qm 2 19]<|.ret) (.skip)))
abbrev aEq(g:SN):ag:=qS [qb 29 .lss 28 27]<|.seq (qC 29 (.skip) (.exit 1))<|.seq (.block 2 (qS [qi 30 26 28 3,qla 31 3 30,qq 5 (.alloc [z0,z0,(.sl Pa [])]),qs 3 5 31]<|.region Po [qm 32 3,qla 33 3 5,qc 34 (g "aU") [u 33],qq 35 (.bin .add .no (uc (.str [32])) (u 34)),qb 36 .add 32 35,qm 3 36]))<|.region Po [qbi 37 .add 28 1,qm 28 37]
def uH(g:SN):bw:=⟨40,[5],[.tmp 2],qS [qx 1 3 0,qmc 2 (.str [])]<|.seq (qS [qf 6 0 1,ql 7 1 6]<|wA g)<|qS [qf 20 0 1,ql 21 1 20,qq 22 (.iaA 11 1 (uc (.ep aOi 0)) (u 21)),ql 23 1 22,qq 24 (.bin .add .no (uc (.str [40])) (u 23)),qm 3 24]<|.seq (qS [qf 25 2 1,ql 26 1 25,qn 27 26,qmc 28 z0]<|.block 1 (.loop (aEq g)))<|qS [qm 38 3,qq 39 (.bin .add .no (u 38) (uc (.str [41]))),qm 2 39]<|.ret⟩
section
variable {A:af}{g:SN}{tB tP:Nat}
def aSn{i n m:Nat}(h:i<n):i*m+m<=n*m:=by rw[<- JS];exact BO _ h
def aNc(F:TextFns A g tB tP)(h:Has A g "aH" (jC g))(l:List mr)(m:Nat)(hl:l.length<=16)(hr:∀r∈l,(r.text.length<=200 /\ -1000000<r.gg/\r.gg<1000000)/\2*r.text.length+20<=m):aNb A (g "aH") [.sl Po (l.map cZ)] (l.length*m):=by
 refine h.prt rfl (by simp[jC]) (λn=>cB) ?_;intro H ty o v o2 v2 T c hT hb;have ax:(l.map cZ).length=l.length:=AF ..;simp only[jC];simp only[go_sem,↓aB,seval,ax];refine pZ 0 1 8 7 9 23 l.length m (W:=zZ) (L:=[.gone 0]) rfT cB rfl rfl rfl omT hT kT ?_ ?_
 ·rintro i ρ1 L1 T1 dc hlt e8 hf hL g1 g2 g3;obtain⟨x,rfl⟩:=FQ.1 hL;have e6:ρ1 6=.sl Po (l.map cZ):=hf 6 rfl;have e0:ρ1 0=.ptr o v 0:=hf 0 rfl;have gq:(0:Int)<=(i:Int):=omT;have lx:(i:Int)<(l.length:Int):=omT;have kx:((i:Int)).toNat=i:=omT;have cj:=mgE cZ hlt;obtain⟨⟨q1,q2,q3⟩,q4⟩:=hr _ (AS hlt);generalize l[i]=r at *;have dp:=aSn (m:=m) hlt;simp only[go_sem,↓aB,seval,e8,e6,e0,gq,kx,cj,cZ,mO c,aFE c,iZ];have c':∀y:ah,gf (H++[y]).length o o2:=λy=>c.mono siT;have I0:=mS F.toOutFns [r.gg] Po siT soT;refine bI (fQ F.toOutFns [114,117,110] deT) (c' _) g1 (by show T1.length+4<=_;omega) ?_;rintro T2 en k1 k2 k3;simp only[go_sem,↓aB,seval,e0,mO c,AD,AA,AE];refine bI I0 (c' _) k1 (by simp at k2 ⊢;omega) ?_;rintro T3 wr3 m1 m2 m3;simp only[go_sem,↓aB,seval,e0,mO c,AB,AD,AA,AE];refine bI (sZ F r.text omT) (c' _) m1 (by simp at k2 m2 ⊢;omega) ?_;rintro T4 wr4 n1 n2 n3;simp only[go_sem,↓aB,seval];refine⟨rfl,_,T4, ?_,n1, ?_,rfl,bZ (bZ (bZ g3 k3) m3) n3⟩
  ·rfl
  simp at k2 m2;omega
 rintro ρ' L' T' ba k0 k1 k2 k3 hf;simp only[go_sem,seval];exact jX k1 k2 k3
def aPW(F:TextFns A g tB tP)(h:Has A g "bu" (hJ g))(l:List (List (List ct)))(m k:Nat)(hl:l.length<=16)(hb:∀x∈l,x.length<=16/\5+x.length*k<=m/\∀b∈x,(b.length<=16/\∀n∈b,aGv n=Pa)/\4+b.length*12<=k):aNb A (g "bu") [.sl Po (l.map bS)] (l.length*m):=by
 refine h.prt rfl (by simp[hJ]) (λn=>cB) ?_;intro H ty o v o2 v2 T c hT Aw;have ax:(l.map bS).length=l.length:=AF ..;have c':∀y:ah,gf (H++[y]).length o o2:=λy=>c.mono siT;simp only[hJ];simp only[go_sem,↓aB,seval,ax];refine pZ 0 1 12 11 13 43 l.length m (W:=yE) (L:=[.gone 0]) rfT cB rfl rfl rfl omT hT kT ?_ ?_
 ·rintro i ρ1 L1 T1 dc hlt e8 hf hL g1 g2 g3;obtain⟨x,rfl⟩:=FQ.1 hL;have e10:ρ1 10=.sl Po (l.map bS):=hf 10 rfl;have e0:ρ1 0=.ptr o v 0:=hf 0 rfl;have gq:(0:Int)<=(i:Int):=omT;have lx:(i:Int)<(l.length:Int):=omT;have kx:((i:Int)).toNat=i:=omT;have cj:=mgE bS hlt;obtain⟨q1,q3,q2⟩:=hb _ (AS hlt);generalize l[i]=hd at *;have gz:(hd.map gH).length=hd.length:=AF ..;have dp:=aSn (m:=m) hlt;simp only[go_sem,↓aB,seval,e8,e10,e0,gq,kx,cj,bS];refine bI (fQ F.toOutFns [104,97,110,100] deT) (c' _) g1 (by show T1.length+5<=_;omega) ?_;rintro T2 en k1 k2 k3;have k2:T2.length<=T1.length+5:=k2;simp only[go_sem,↓aB,seval,gz];refine pZ 2 3 20 19 21 42 hd.length k (W:=yC) (L:=[x]) rfT cB rfl rfl rfl omT k1 (bZ g3 k3) ?_ ?_
  ·rintro j ρ2 L2 T3 wr3 jlt f20 cq yx m1 m2 m3;obtain⟨x2,rfl⟩:=FQ.1 yx;have f18:ρ2 18=.sl Po (hd.map gH):=cq 18 rfl;have f0:ρ2 0=.ptr o v 0:=(cq 0 rfl).trans e0;have jn0:(0:Int)<=(j:Int):=omT;have jn1:(j:Int)<(hd.length:Int):=omT;have jto:((j:Int)).toNat=j:=omT;have fh:=mgE gH jlt;obtain⟨⟨r1,r2⟩,r3⟩:=q2 _ (AS jlt);generalize hd[j]=bar at *;have Ax:(bar.map bV).length=bar.length:=AF ..;have D3:=aSn (m:=k) jlt;simp only[go_sem,↓aB,seval,f20,f18,f0,jn0,jto,fh,gH];refine bI (fQ F.toOutFns [98,97,114] deT) (c' _) m1 (by show T3.length+4<=_;omega) ?_;rintro T4 wr4 p1 p2 p3;have p2:T4.length<=T3.length+4:=p2;simp only[go_sem,↓aB,seval,Ax];refine pZ 4 5 28 27 29 41 bar.length 12 (W:=yA) (L:=[x2]) rfT cB rfl rfl rfl omT p1 (bZ m3 p3) ?_ ?_
   ·rintro k ρ3 L3 T5 wr5 klt u28 im I1 s1 s2 s3;obtain⟨x3,rfl⟩:=FQ.1 I1;have u26:ρ3 26=.sl Po (bar.map bV):=im 26 rfl;have u0:ρ3 0=.ptr o v 0:=(im 0 rfl).trans f0;have kn0:(0:Int)<=(k:Int):=omT;have kn1:(k:Int)<(bar.length:Int):=omT;have kto:((k:Int)).toNat=k:=omT;have aIc:=mgE bV klt;have t1:=r2 _ (AS klt);generalize bar[k]=n at *;have Ot:k*12+12<=bar.length*12:=omT;have Ou:bar.length*12<=192:=omT;have I0:=aF1 F.toOutFns [n.step,n.length,n.alter] Po 4 deT siT (λz hz=>by
     unfold aGv wi at t1;simp at t1 hz;rcases hz with rfl | rfl | rfl<;>exact aOh F.itoa omT omT)
    simp only[go_sem,↓aB,seval,u28,u26,u0,kn0,kto,aIc,bV,mO c,aFE c,iZ,AB,AD,AA,AE];refine bI I0 (c' _) s1 soT ?_;rintro T6 wr6 w1 w2 w3;have w2:T6.length<=T5.length+12:=w2;simp only[go_sem,↓aB,seval];exact⟨rfl,_,T6,rfl,w1,omT,rfl,bZ s3 w3⟩
   rintro ρ' L' T' ba s0 s1 s2 s3 im;simp only[go_sem,seval];exact⟨rfl,L',T',s0,s1,omT,rfl,s3⟩
  rintro ρ' L' T' ba s0 s1 s2 s3 im;simp only[go_sem,seval];exact⟨rfl,L',T',s0,s1,omT,rfl,s3⟩
 rintro ρ' L' T' ba k0 k1 k2 k3 hf;simp only[go_sem,seval];exact jX k1 k2 k3
end
inductive Cu:Expr->Prop
 |mk (op n:Int) (ks:List Expr):0<=op->op<=10->0<=n->n<=aAq op->ks.length<=2->(∀k∈ks,Cu k)->Cu (.mk op n ks)
def aPX:∀{l:List Expr} {d:Int} {s t:Nat},exL l d s=N1 t->∀k∈l,(exS k d).2=Pa
 | [],_,_,_,_,k,hk=>by cases hk
 |e::r,d,s,t,h,k,hk=>by
  unfold exL at h;split at h
  ·rename_i m he;rcases BD.1 hk with rfl | hk
   ·rw[he]
   exact aPX h k hk
  cases h
def aY8:∀(m:Nat) (e:Expr) (d:Int),SizeOf.sizeOf e<m->(exS e d).2=Pa->Cu e:=by
 intro m
 induction m with
 |zero=>intro e d h;omega
 |succ m ih=>
  intro e d hs he;obtain⟨op,n,ks⟩:=e;unfold exS at he;split at he
  ·cases he
  rename_i hc;simp only[Bool.or_eq_true,not_or,GB,Bool.not_eq_false']at hc;obtain⟨⟨⟨c1,c2⟩,c3⟩,c4⟩:=hc;have z8:=aN3 op;simp[wi]at c1 c2 c3 c4;refine .mk op n ks c2.1 c2.2 c3.1 c3.2 omT λk hk=>ih k (d+1) (by
   have:=List.sizeOf_lt_of_mem hk;simp only[Expr.mk.sizeOf_spec]at hs;omega) ?_
  split at he
  ·rename_i t ht;exact aPX ht k hk
  cases he
def aNd{op:Int}(h0:0<=op)(h1:op<=10):∃w:Str,w.length<=4/\(aOi.drop op.toNat).take 1=[.str w]/\op.toNat+1<=aOi.length:=by
 have:∀i<11,∃w:Str,w.length<=4/\(aOi.drop i).take 1=[.str w]/\i+1<=aOi.length:=by
  intro i hi;rcases i with _ | _ | _ | _ | _ | _ | _ | _ | _ | _ | _ | i
  all_goals first | exact⟨_,deT,rfl,deT⟩ | omega
 exact this op.toNat omT
def aIz:∀{l:List Expr} {i:Nat} (h:i<l.length),gY l[i]+cP (l.drop (i+1))=cP (l.drop i)
 |e::r,0,h=>by simp[cP]
 |e::r,i+1,h=>by simpa using aIz (l:=r) (by simpa using h)
def aGK:∀(l:List Expr) (i:Nat),i<=l.length->cP (l.drop i)<=cP l
 |l,0,_=>AQ _
 | [],i+1,h=>by simp
 |e::r,i+1,h=>by
  have:=aGK r i (by simpa using h);simp only[AB,cP];omega
section
variable {A:af}{g:SN}
def aKU(h:Has A g "aU" (uH g))(hi:A.bq (g "i")=N1 sC){e:Expr}(he:Cu e):gY e<=1000->∀H,∃s:Str,s.length<=20*gY e/\aG A (g "aU") [.agg (aF e)] H=N1 (.str s,H,[]):=by
 induction he with
 |mk op n ks o0 o1 n0 n1 hk E7 ih=>
  intro gd H;have Lo:cP ks+1<=1000:=gd;obtain⟨v',H',ba,h1,rfl,s,rfl,rfl,h2⟩:=h.bp (args:=[.agg (aF (.mk op n ks))]) (H:=H) (K:=λv H' wr=>wr=[]/\∃s:Str,v=.str s/\H'=H/\s.length<=20*(cP ks+1)) (by
   simp only[uH];simp only[go_sem,↓aB,seval,aF,aZ];simp only[wA];by_cases e0:op=0
   ·subst e0;obtain⟨s,lq,nu⟩:=aPT hi (n:=n) omT (by unfold aAq at n1;rw[Zy rfl]at n1;omega);simp only[go_sem,↓aB,seval,nu];exact⟨s,rfl,omT⟩
   have b0:(op==0)=false:=by simpa using e0
   by_cases e1:op=1
   ·subst e1;have hn:n<=25:=by unfold aAq at n1;simpa using n1
    have hw:AR.wrap (97+n)=97+n:=wrap_i64 omT omT;have hc:∀H,pT H (.toInt .i32) (vi (97+n))=N1 (.int .i32 (97+n)):=λH=>by
     show N1 (AV.int .i32 (GA .i32 (97+n)))=_;congr 2;simp only[GA,LK,KC];simp;omega
    have nc:∀H,pT H .i2s (.int .i32 (97+n))=N1 (.str [CN (97+n).toNat]):=λH=>by
     show (if 0<=97+n/\97+n<128 then N1 (AV.str [CN (97+n).toNat])else N2)=_;rw[Zy ⟨omT,omT⟩]
    simp only[go_sem,↓aB,seval,hw,hc,nc];exact⟨_,rfl,soT⟩
   have b1:(op==1)=false:=by simpa using e1
   obtain⟨w,dy,gn,pr⟩:=aNd o0 o1;have o2:op<11:=omT;have ha:kJ .add .no (.str [40]) (.str w)=N1 (.str (40::w)):=kE soT;simp only[go_sem,↓aB,seval,b0,b1,o0,o2,gn,pr,BC,FK,ha,AF];have hE:∀i≤ks.length,cP (ks.drop i)<=cP ks:=aGK ks;refine bJ (id:=1) (λi ρ1 H1 wr=>wr=[]/\ρ1 28=vi (i:Nat)/\(∃x,H1=H++[x])/\∃s:Str,ρ1 3=.str s/\s.length+20*cP (ks.drop i)<=5+i+20*cP ks) ks.length
    (λρ1 H1 wr=>wr=[]/\(∃x,H1=H++[x])/\∃s:Str,ρ1 3=.str s/\s.length<=7+20*cP ks)
    cB rfl ⟨rfl,rfl,⟨_,rfl⟩,40::w,rfl,soT⟩ ?_ ?_
   ·rintro i ρ1 H1 dc mg ⟨rfl,e28,⟨x,rfl⟩,s,e3,hs⟩ hf;have e26:ρ1 26=.sl Po (ks.map aF):=hf 26 rfl;have e27:ρ1 27=vi (ks.length:Nat):=hf 27 rfl;simp only[go_sem,↓aB,seval,e28,e27];refine aD (λhb=>?_) (λhb=>?_)
    ·have hlt:i<ks.length:=by simp at hb;omega
     have gq:(0:Int)<=(i:Int):=omT;have lx:(i:Int)<(ks.length:Int):=omT;have kx:((i:Int)).toNat=i:=omT;have dy:=wS (i:=i) omT;have cj:=mgE aF hlt;have hm:=aIz hlt;have Ov:=hE i omT;obtain⟨t,It,Iu⟩:=ih ks[i] (AS hlt) omT (H++[.box (x.ver+1) (aF ks[i])]);have M1:kJ .add .no (.str [32]) (.str t)=N1 (.str (32::t)):=kE soT;have R7:kJ .add .no (.str s) (.str (32::t))=N1 (.str (s++32::t)):=kE soT;generalize ks[i]=k at *;obtain⟨ok,nk,kk⟩:=k;simp only[aF,aZ]at cj Iu;simp only[go_sem,↓aB,seval,e28,e26,gq,kx,cj,e3,Iu,M1,R7,dy];exact⟨hlt,soT⟩
    have hi:i=ks.length:=by simp at hb;omega
    subst hi;simp only[go_sem,seval];refine⟨⟨x,rfl⟩,s,e3, ?_⟩;rw[JX]at hs;simp[cP]at hs;omega
   rintro ρ' H' ba ⟨rfl,⟨x,rfl⟩,s,e3,hs⟩ hf;have Ay:kJ .add .no (.str s) (.str [41])=N1 (.str (s++[41])):=kE soT;simp only[go_sem,↓aB,seval,e3,Ay];exact⟨_,rfl,soT⟩)
  exact⟨s,h2,h1⟩
end
abbrev yF(g:SN):ag:=qS [qb 66 .lss 65 64]<|.seq (qC 66 (.skip) (.exit 3))<|.seq (.block 4 (qS [qi 67 63 65 1,ql 68 1 67,qm 7 68]<|.region Po [qm 69 0,qm 70 7,qc 71 (g "B") [u 69,u 70]]))<|.region Po [qbi 72 .add 65 1,qm 65 72]
abbrev yG:LN:=[66,67,68,7,69,70,71,72,65]
abbrev jD(g:SN):ag:=qS [qb 58 .lss 57 56]<|.seq (qC 58 (.skip) (.exit 1))<|.seq (.block 2 (qS [qi 59 55 57 1,ql 60 1 59,qm 5 60]<|qS [qm 61 0,qc 62 (g "d") [u 61,uc (.str [114,111,119])]]<|qS [qm 63 5,qn 64 63,qmc 65 z0]<|.block 3 (.loop (yF g))))<|.region Po [qbi 73 .add 57 1,qm 57 73]
abbrev yH:LN:=[58,59,60,5,61,62,63,64,65,66,67,68,7,69,70,71,72,65,73,57]
abbrev yI(g:SN):ag:=qS [qb 107 .lss 106 105]<|.seq (qC 107 (.skip) (.exit 7))<|.seq (.block 8 (qS [qi 108 104 106 2,qla 109 2 108,qq 11 (.alloc [z0,z0]),qs 2 11 109]<|.region Po [qm 110 0,qf 111 0 11,ql 112 1 111,qf 113 1 11,ql 114 1 113,qq 115 (.bsl 1 [z0] 2 [(0,(.tmp 112)),(1,(.tmp 114))]),qc 116 (g "p") [u 110,u 115]]))<|.region Po [qbi 117 .add 106 1,qm 106 117]
abbrev yJ:LN:=[107,108,109,11,110,111,112,113,114,115,116,117,106]
abbrev jE(g:SN):ag:=qS [qb 92 .lss 91 90]<|.seq (qC 92 (.skip) (.exit 5))<|.seq (.block 6 (qS [qi 93 89 91 2,qla 94 2 93,qq 9 (.alloc [z0,(.sl Pa [])]),qs 2 9 94]<|qS [qm 95 0,qc 96 (g "d") [u 95,uc (.str [115,104,97,112,101])]]<|qS [qm 97 0,qf 98 0 9,ql 99 1 98,qq 100 (.iaA 3 1 (uc (.ep aPV 0)) (u 99)),ql 101 1 100,qc 102 (g "v") [u 97,u 101]]<|qS [qf 103 1 9,ql 104 1 103,qn 105 104,qmc 106 z0]<|.block 7 (.loop (yI g))))<|.region Po [qbi 118 .add 91 1,qm 91 118]
abbrev yK:LN:=[92,93,94,9,95,96,97,98,99,100,101,102,103,104,105,106,107,108,109,11,110,111,112,113,114,115,116,117,106,118,91]
abbrev jF(g:SN):ag:=qS [qb 136 .lss 135 134]<|.seq (qC 136 (.skip) (.exit 9))<|.seq (.block 10 (qS [qi 137 133 135 1,ql 138 1 137,qm 13 138]<|qS [qm 139 0,qc 140 (g "d") [u 139,uc (.str [108,105,110,101])]]<|.region Po [qm 141 0,qm 142 13,qc 143 (g "B") [u 141,u 142]]))<|.region Po [qbi 144 .add 135 1,qm 135 144]
abbrev yL:LN:=[136,137,138,13,139,140,141,142,143,144,135]
def nN(g:SN):ag:=.block 0 (qS [qbi 17 .eql 15 0,qm 16 17]<|qC 16 (qS [qm 18 0,qc 19 (g "d") [u 18,uc (.str [116,101,120,116])]]<|.region Po [qm 20 0,qf 21 1 3,ql 22 1 21,qc 23 (g "aH") [u 20,u 22]]) (qS [qbi 25 .eql 15 1,qm 24 25]<|qC 24 (qS [qm 26 0,qc 27 (g "d") [u 26,uc (.str [102,111,114,109,117,108,97])]]<|.region Po [qm 28 0,qf 29 2 3,qla 30 3 29,qc 31 (g "aU") [u 30],qc 32 (g "v") [u 28,u 31]]) (qS [qbi 34 .eql 15 2,qm 33 34]<|qC 33 (qS [qm 35 0,qc 36 (g "d") [u 35,uc (.str [99,111,108,117,109,110])]]<|qS [qm 37 0,qf 38 5 3,qf 39 0 38,ql 40 1 39,qq 41 (.iaA 11 1 (uc (.ep aOi 0)) (u 40)),ql 42 1 41,qc 43 (g "v") [u 37,u 42]]<|.region Po [qm 44 0,qf 45 5 3,qf 46 1 45,ql 47 1 46,qc 48 (g "p") [u 44,u 47]]) (qS [qbi 50 .eql 15 3,qm 49 50]<|qC 49 (qS [qm 51 0,qc 52 (g "d") [u 51,uc (.str [101,110,116,114,105,101,115])]]<|qS [qf 53 7 3,qf 54 0 53,ql 55 1 54,qn 56 55,qmc 57 z0]<|.block 1 (.loop (jD g))) (qS [qbi 75 .eql 15 4,qm 74 75]<|qC 74 (qS [qm 76 0,qc 77 (g "d") [u 76,uc (.str [100,114,97,119,105,110,103])]]<|qS [qm 78 0,qf 79 8 3,qf 80 0 79,ql 81 1 80,qf 82 8 3,qf 83 1 82,ql 84 1 83,qq 85 (.bsl 1 [z0] 2 [(0,(.tmp 81)),(1,(.tmp 84))]),qc 86 (g "p") [u 78,u 85]]<|qS [qf 87 8 3,qf 88 2 87,ql 89 1 88,qn 90 89,qmc 91 z0]<|.block 5 (.loop (jE g))) (qS [qbi 120 .eql 15 5,qm 119 120]<|qC 119 (qS [qm 121 0,qc 122 (g "d") [u 121,uc (.str [109,117,115,105,99])]]<|.region Po [qm 123 0,qf 124 11 3,qf 125 0 124,ql 126 1 125,qc 127 (g "bu") [u 123,u 126]]) (qS [qbi 129 .eql 15 6,qm 128 129]<|qC 128 (qS [qm 130 0,qc 131 (g "d") [u 130,uc (.str [108,105,115,116,105,110,103])]]<|qS [qf 132 12 3,ql 133 1 132,qn 134 133,qmc 135 z0]<|.block 9 (.loop (jF g))) (.skip))))))))
def lV(g:SN):bw:=⟨145,[9,11],[],qS [qx 3 13 1]<|qS [qf 14 0 3,ql 15 1 14]<|nN g⟩
def aPY{α:Type}{l:List α}(h:l.length=2):∃a b,l=[a,b]:=by
 match l,h with
 | [a,b],_=>exact⟨a,b,rfl⟩
def eG{n a b:Int}:wi n a b=Pa↔a<=n/\n<=b:=by unfold wi;simp
def aS7{k:Int}(h0:0<=k)(h1:k<=2):∃w:Str,w.length<=4/\(aPV.drop k.toNat).take 1=[.str w]/\k.toNat+1<=aPV.length:=by
 have:∀i<3,∃w:Str,w.length<=4/\(aPV.drop i).take 1=[.str w]/\i+1<=aPV.length:=by
  intro i hi;rcases i with _ | _ | _ | i
  all_goals first | exact⟨_,deT,rfl,deT⟩ | omega
 exact this k.toNat omT
structure BlockPrt(A:af)(g:SN)(tB tP:Nat) extends TextFns A g tB tP where
 runs:Has A g "aH" (jC g)
 bo:Has A g "bu" (hJ g)
 I2:Has A g "aU" (uH g)
 block:Has A g "bW" (lV g)
section
variable {A:af}{g:SN}{tB tP:Nat}
def aS8(F:TextFns A g tB tP){H:LO}{ty o v o2 v2:Nat}{T:Str}{ρ:bN}{wr:LN}{L:LO}{l:List (List Str)}{N m k:Nat}(c:gf H.length o o2)(hl:l.length<=12)(hb:∀r∈l,(r.length<=12/\4+r.length*k<=m)/\∀s∈r,s.length<=20/\2*s.length+3<=k) (h0:ρ 0=.ptr o v 0) (Tn:ρ 55=.sl Po (l.map bY)) (Ft:ρ 56=vi l.length) (Fu:ρ 57=vi 0) (hT:T≠[]) (Aw:T.length+l.length*m<=100000000) (ma:Wr2 o o2 wr) {Q:bf->bN->LO->LN->Prop} {tg:Tg (A,145,(⟨H.length,[9,11]⟩:Ctx),jD g,Q)} (hQ:∀ρ' L' T' ba,L'.length=L.length->T'≠[]->T'.length<=T.length+l.length*m->Wr2 o o2 ba->Q (.exit 1) ρ' (PSt (H++L') ty o v o2 v2 T') ba):wl A 145 ⟨H.length,[9,11]⟩ (jD g) ρ (PSt (H++L) ty o v o2 v2 T) wr Q tg:=by
 have c':∀L:LO,gf (H++L).length o o2:=λy=>c.mono siT;refine pZ 1 2 57 56 58 73 l.length m (W:=yH) rfT cB rfl Fu Ft omT hT ma ?_ ?_
 ·rintro i ρ1 L1 T1 dc hlt e8 hf hL g1 g2 g3;have e55:ρ1 55=.sl Po (l.map bY):=(hf 55 rfl).trans Tn;have e0:ρ1 0=.ptr o v 0:=(hf 0 rfl).trans h0;have cj:=mgE bY hlt;obtain⟨⟨q1,q3⟩,q2⟩:=hb _ (AS hlt);generalize l[i]=r at *;have dp:=aSn (m:=m) hlt;simp only[go_sem,↓aB,seval,e8,e55,e0,AU,AT,cj,bY];refine bI (fQ F.toOutFns [114,111,119] deT) (c' _) g1 (by show T1.length+4<=_;omega) ?_;rintro T2 en k1 k2 k3;have k2:T2.length<=T1.length+4:=k2;simp only[go_sem,↓aB,seval,AF];refine pZ 3 4 65 64 66 72 r.length k (W:=yG) rfT cB rfl rfl rfl omT k1 (bZ g3 k3) ?_ ?_
  ·rintro j ρ2 L2 T3 wr3 jlt f65 cq yx m1 m2 m3;have f63:ρ2 63=.sl Po (r.map aN):=cq 63 rfl;have f0:ρ2 0=.ptr o v 0:=(cq 0 rfl).trans e0;have fh:=mgE aN jlt;have r1:=q2 _ (AS jlt);generalize r[j]=s at *;have D3:=aSn (m:=k) jlt;simp only[go_sem,↓aB,seval,f65,f63,f0,AU,AT,fh,aN];refine bI (sZ F s omT) (c' _) m1 omT ?_;rintro T4 wr4 p1 p2 p3;simp only[go_sem,↓aB,seval];exact⟨rfl,L2,T4,yx,p1,omT,rfl,bZ m3 p3⟩
  rintro ρ' L' T' ba s0 s1 s2 s3 im;simp only[go_sem,seval];exact⟨rfl,L',T',s0.trans hL,s1,omT,rfl,s3⟩
 rintro ρ' L' T' ba k0 k1 k2 k3 hf;exact hQ ρ' L' T' ba k0 k1 omT k3
def aPZ(F:TextFns A g tB tP){H:LO}{ty o v o2 v2:Nat}{T:Str}{ρ:bN}{wr:LN}{x1 x2:ah}{l:List Shape}{N m:Nat}(c:gf H.length o o2)(hl:l.length<=8)(hb:∀s∈l,vQ s=Pa/\11+s.points.length*20<=m) (h0:ρ 0=.ptr o v 0) (Lp:ρ 89=.sl Po (l.map aH)) (Lq:ρ 90=vi l.length) (I0:ρ 91=vi 0) (hT:T≠[]) (Aw:T.length+l.length*m<=100000000) (ma:Wr2 o o2 wr) {Q:bf->bN->LO->LN->Prop} {tg:Tg (A,145,(⟨H.length,[9,11]⟩:Ctx),jE g,Q)} (hQ:∀ρ' L' T' ba,L'.length=2->T'≠[]->T'.length<=T.length+l.length*m->Wr2 o o2 ba->Q (.exit 5) ρ' (PSt (H++L') ty o v o2 v2 T') ba):wl A 145 ⟨H.length,[9,11]⟩ (jE g) ρ (PSt (H++[x1,x2]) ty o v o2 v2 T) wr Q tg:=by
 have c':∀L:LO,gf (H++L).length o o2:=λy=>c.mono siT;refine pZ 5 6 91 90 92 118 l.length m (L:=[x1,x2]) (W:=yK) rfT cB rfl I0 Lq omT hT ma ?_ ?_
 ·rintro i ρ1 L1 T1 dc hlt e8 hf hL g1 g2 g3;obtain⟨y1,y2,rfl⟩:=aPY hL;have e55:ρ1 89=.sl Po (l.map aH):=(hf 89 rfl).trans Lp;have e0:ρ1 0=.ptr o v 0:=(hf 0 rfl).trans h0;have cj:=mgE aH hlt;obtain⟨q1,q2⟩:=hb _ (AS hlt);generalize l[i]=r at *;have dp:=aSn (m:=m) hlt;unfold vQ at q1;simp only[AI,eG]at q1;obtain⟨⟨a1,a2⟩,⟨a3,a4⟩,a5⟩:=q1;rw[AO]at a5;obtain⟨w,dy,gn,pr⟩:=aS7 a1 a2;have a2':r.kind<3:=omT;simp only[go_sem,↓aB,seval,e8,e55,e0,AU,AT,cj,aH,mO c,aFE c,iZ];refine bI (fQ F.toOutFns [115,104,97,112,101] deT) (c' _) g1 (by show T1.length+6<=_;omega) ?_;rintro T2 en k1 k2 k3;have k2:T2.length<=T1.length+6:=k2;simp only[go_sem,↓aB,seval,e0,mO c,AD,AA,AE,a1,a2',gn,pr,BC,FK];refine bI (pY F.toOutFns w omT) (c' _) k1 omT ?_;rintro T7 wr7 n1 n2 n3;simp only[go_sem,↓aB,seval,AF,mO c,AB,AD,AA,AE];refine pZ 7 8 106 105 107 117 r.points.length 20 (W:=yJ) rfT cB rfl rfl rfl omT n1 (bZ (bZ g3 k3) n3) ?_ ?_
  ·rintro j ρ2 L2 T3 wr3 jlt f65 cq yx m1 m2 m3;obtain⟨z1,z2,rfl⟩:=aPY yx;have f63:ρ2 104=.sl Po (r.points.map bL):=cq 104 rfl;have f0:ρ2 0=.ptr o v 0:=(cq 0 rfl).trans e0;have fh:=mgE bL jlt;have r1:=a5 _ (AS jlt);generalize r.points[j]=s at *;unfold aKG at r1;simp only[AI,eG]at r1;have D3:j*20+20<=r.points.length*20:=omT;have I0:=mS F.toOutFns [s.1,s.2] Po siT soT;simp only[go_sem,↓aB,seval,f65,f63,f0,AU,AT,fh,bL,aTb (i:=1) c,aM9 (i:=1) c,iZ,AB,AD,AA,AE];refine bI I0 (c' _) m1 (by show T3.length+18<=_;omega) ?_;rintro T4 wr4 p1 p2 p3;have p2:T4.length<=T3.length+18:=p2;simp only[go_sem,↓aB,seval];exact⟨rfl,_,T4,rfl,p1,omT,rfl,bZ m3 p3⟩
  rintro ρ' L' T' ba s0 s1 s2 s3 im;simp only[go_sem,seval];exact⟨rfl,L',T',s0,s1,omT,rfl,s3⟩
 rintro ρ' L' T' ba k0 k1 k2 k3 hf;exact hQ ρ' L' T' ba k0 k1 omT k3
def aS9(F:TextFns A g tB tP){H:LO}{ty o v o2 v2:Nat}{T:Str}{ρ:bN}{wr:LN}{L:LO}{l:List Str}{N m:Nat}(c:gf H.length o o2)(hl:l.length<=16)(hb:∀s∈l,s.length<=80/\2*s.length+8<=m) (h0:ρ 0=.ptr o v 0) (Tn:ρ 133=.sl Po (l.map aN)) (Ft:ρ 134=vi l.length) (Fu:ρ 135=vi 0) (hT:T≠[]) (Aw:T.length+l.length*m<=100000000) (ma:Wr2 o o2 wr) {Q:bf->bN->LO->LN->Prop} {tg:Tg (A,145,(⟨H.length,[9,11]⟩:Ctx),jF g,Q)} (hQ:∀ρ' L' T' ba,L'.length=L.length->T'≠[]->T'.length<=T.length+l.length*m->Wr2 o o2 ba->Q (.exit 9) ρ' (PSt (H++L') ty o v o2 v2 T') ba):wl A 145 ⟨H.length,[9,11]⟩ (jF g) ρ (PSt (H++L) ty o v o2 v2 T) wr Q tg:=by
 have c':∀L:LO,gf (H++L).length o o2:=λy=>c.mono siT;refine pZ 9 10 135 134 136 144 l.length m (W:=yL) rfT cB rfl Fu Ft omT hT ma ?_ ?_
 ·rintro i ρ1 L1 T1 dc hlt e8 hf hL g1 g2 g3;have e55:ρ1 133=.sl Po (l.map aN):=(hf 133 rfl).trans Tn;have e0:ρ1 0=.ptr o v 0:=(hf 0 rfl).trans h0;have cj:=mgE aN hlt;obtain⟨q1,q2⟩:=hb _ (AS hlt);generalize l[i]=s at *;have dp:=aSn (m:=m) hlt;simp only[go_sem,↓aB,seval,e8,e55,e0,AU,AT,cj,aN];refine bI (fQ F.toOutFns [108,105,110,101] deT) (c' _) g1 (by show T1.length+5<=_;omega) ?_;rintro T2 en k1 k2 k3;have k2:T2.length<=T1.length+5:=k2;simp only[go_sem,↓aB,seval,e0];refine bI (sZ F s omT) (c' _) k1 omT ?_;rintro T4 wr4 p1 p2 p3;simp only[go_sem,↓aB,seval];exact⟨rfl,L1,T4,hL,p1,omT,rfl,bZ (bZ g3 k3) p3⟩
 rintro ρ' L' T' ba k0 k1 k2 k3 hf;exact hQ ρ' L' T' ba k0 k1 omT k3
structure Sc(b:Block)(M:Nat):Prop where
 runs:b.kind=0->∃m,(∀r∈b.runs,2*r.text.length+20<=m)/\5+b.runs.length*m<=M
 expr:b.kind=1->9+20*gY b.expr<=M
 sum:b.kind=2->12+b.eg.length*9<=M
 cd:b.kind=3->∃m k,(∀r∈b.cd,4+r.length*k<=m/\∀s∈r,2*s.length+3<=k)/\8+b.cd.length*m<=M
 ye:b.kind=4->∃m,(∀s∈b.aw,11+s.points.length*20<=m)/\26+b.aw.length*m<=M
 L7:b.kind=5->∃m k,(∀x∈b.bo,5+x.length*k<=m/\∀l∈x,4+l.length*12<=k)/\6+b.bo.length*m<=M
 lines:b.kind=6->∃m,(∀s∈b.lines,2*s.length+8<=m)/\8+b.lines.length*m<=M
def bHb{b:Block}(hk:xU b=Pa)(hb:b.Ok):Sc b 6500:=by
 unfold xU at hk;refine⟨λe=>?_,λe=>?_,λe=>?_,λe=>?_,λe=>?_,λe=>?_,λe=>?_⟩
 ·rw[Zy e]at hk;simp only[aGx,aUL,vP,AI,eG,AO]at hk;exact⟨420,λr hr=>by have:=hk.2.2 r hr;omega,by have:=hk.2.1;omega⟩
 ·rw[Zx omT,Zy e]at hk;have:gY b.expr<=256:=by rw[<- aN1 _ _ hk];exact aT7 hk
  omega
 ·have:=hb.tj;omega
 ·rw[Zx omT,Zx omT,Zx omT,Zy e]at hk;simp only[aUQ,vP,AI,eG,AO]at hk;exact⟨520,43,λr hr=>⟨by have:=(hk.2 r hr).2.1;omega,λs hs=>by have:=(hk.2 r hr).2.2 s hs;omega⟩,by have:=hk.1;omega⟩
 ·rw[Zx omT,Zx omT,Zx omT,Zx omT,Zy e]at hk;simp only[vQ,AI,eG,AO]at hk;exact⟨251,λs hs=>by have:=(hk.2.2 s hs).2.1;omega,by have:=hk.2.1;omega⟩
 ·have h2:b.bo.length<=2:=by
   rw[Zx omT,Zx omT,Zx omT,Zx omT,Zx omT,Zy e]at hk;simp only[aUO,AI,eG]at hk;omega
  exact⟨3141,196,λx hx=>⟨by have:=(hb.bo x hx).1;omega,λl hl=>by have:=((hb.bo x hx).2 l hl).1;omega⟩,omT⟩
 rw[Zx omT,Zx omT,Zx omT,Zx omT,Zx omT,Zx omT,Zy e]at hk;simp only[vP,AI,eG,AO]at hk;exact⟨168,λs hs=>by have:=hk.2 s hs;omega,by have:=hb.vz;omega⟩
def aKV(F:BlockPrt A g tB tP)(b:Block)(hk:xU b=Pa)(hb:b.Ok){M:Nat}(hM:Sc b M):aNb A (g "bW") [.agg (aE b)] M:=by
 refine F.block.prt rfl (by simp[lV]) (λn=>cB) ?_;intro H ty o v o2 v2 T c hT Aw;have c':∀L:LO,gf (H++L).length o o2:=λy=>c.mono siT;obtain⟨op,n,ks,mn⟩:∃op n ks,b.expr=Expr.mk op n ks:=by cases b.expr;exact⟨_,_,_,rfl⟩
 have Ra:aF b.expr=[vi op,vi n,.sl Po (ks.map aF)]:=by rw[mn,aF,aZ]
 have ig:aE b=[vi b.kind,.sl Po (b.runs.map cZ),vi op,vi n,.sl Po (ks.map aF),vi b.dn,.sl Po (b.eg.map bF),.sl Po (b.cd.map bY),vi b.w,vi b.h,.sl Po (b.aw.map aH),.sl Po (b.bo.map bS),.sl Po (b.lines.map aN)]:=by unfold aE;rw[Ra];rfl
 rw[ig];simp only[lV];simp only[go_sem,↓aB,seval];simp only[nN];unfold xU at hk;by_cases k0:b.kind=0
 ·rw[Zy k0]at hk;simp only[aGx,AI,eG]at hk;obtain⟨_,⟨_,U8⟩,B5⟩:=hk;obtain⟨m,V9,Ep⟩:=hM.runs k0;have hr:=aNc F.toTextFns F.runs b.runs m hb.vw (λr hr=>by
   have h2:=V9 r hr;have h1:=AO.1 B5 r hr;simp only[aUL,AI,eG]at h1;simp only[vP,AI,eG]at h1;exact⟨⟨omT,omT,omT⟩,h2⟩)
  have Ow:b.runs.length<=8:=omT;simp only[go_sem,↓aB,seval,k0];refine bI (fQ F.toOutFns [116,101,120,116] deT) (c' _) hT (by show T.length+5<=_;omega) ?_;rintro T2 en k1 k2 k3;have k2:T2.length<=T.length+5:=k2;simp only[go_sem,↓aB,seval,AB,AD,AA,AE];refine bI hr (c' _) k1 omT ?_;rintro T3 wr3 m1 m2 m3;simp only[go_sem,↓aB,seval];exact jX m1 omT (bZ (bZ kT k3) m3)
 rw[Zx k0]at hk;have b0:(b.kind==0)=false:=by simpa using k0
 by_cases k1:b.kind=1
 ·rw[Zy k1]at hk;have hx:=aY8 _ b.expr 1 (Nat.lt_succ_self _) hk;have gd:=hb.size;have Q1:gY b.expr<=256:=by rw[<- aN1 _ _ hk];exact aT7 hk
  have P6:=hM.expr k1;simp only[go_sem,↓aB,seval,k1];refine bI (fQ F.toOutFns [102,111,114,109,117,108,97] deT) (c' _) hT (by show T.length+8<=_;omega) ?_;rintro T2 en j1 j2 j3;have j2:T2.length<=T.length+8:=j2;obtain⟨s,lq,nu⟩:=aKU F.I2 F.itoa hx gd (PSt (H++[.gone 0,.gone 0]) ty o v o2 v2 T2);rw[Ra]at nu;simp only[go_sem,↓aB,seval,AB,AD,AA,AE,nu];refine bI (pY F.toOutFns s omT) (c' _) j1 omT ?_;rintro T3 wr3 m1 m2 m3;simp only[go_sem,↓aB,seval];exact jX m1 omT (bZ (bZ kT j3) m3)
 rw[Zx k1]at hk;have b1:(b.kind==1)=false:=by simpa using k1
 by_cases k2:b.kind=2
 ·rw[Zy k2]at hk;simp only[AI,eG]at hk;obtain⟨Qx,⟨_,Lr⟩,Az⟩:=hk;have R8:0<=b.dn/\b.dn<=10:=by simp at Qx;omega
  have Fv:b.dn<11:=omT;have P6:=hM.sum k2;obtain⟨w,dy,gn,pr⟩:=aNd R8.1 R8.2;have hn:=mS F.toOutFns b.eg Po omT (λn hn=>by
   have h1:=AO.1 Az n hn;simp only[aUP,eG]at h1;omega)
  simp only[go_sem,↓aB,seval,k2];refine bI (fQ F.toOutFns [99,111,108,117,109,110] deT) (c' _) hT (by show T.length+7<=_;omega) ?_;rintro T2 en j1 j2 j3;have j2:T2.length<=T.length+7:=j2;simp only[go_sem,↓aB,seval,AB,AD,AA,AE,R8.1,Fv,gn,pr,BC,FK];refine bI (pY F.toOutFns w omT) (c' _) j1 omT ?_;rintro T3 wr3 m1 m2 m3;simp only[go_sem,↓aB,seval,AB,AD,AA,AE];refine bI hn (c' _) m1 omT ?_;rintro T4 wr4 n1 n2 n3;simp only[go_sem,↓aB,seval];exact jX n1 omT (bZ (bZ (bZ kT j3) m3) n3)
 rw[Zx k2]at hk;have b2:(b.kind==2)=false:=by simpa using k2
 by_cases k3:b.kind=3
 ·rw[Zy k3]at hk;simp only[AI,eG,AO]at hk;obtain⟨⟨_,Ox⟩,Ls⟩:=hk;obtain⟨m,k,V9,Ep⟩:=hM.cd k3;have Lt:∀r∈b.cd,(r.length<=12/\4+r.length*k<=m)/\∀s∈r,s.length<=20/\2*s.length+3<=k:=λr hr=>by
   have h1:=Ls r hr;simp only[aUQ,vP,AI,eG,AO]at h1;exact⟨⟨omT,(V9 r hr).1⟩,λs hs=>⟨by have:=h1.2.2 s hs;omega,(V9 r hr).2 s hs⟩⟩
  simp only[go_sem,↓aB,seval,k3];refine bI (fQ F.toOutFns [101,110,116,114,105,101,115] deT) (c' _) hT (by show T.length+8<=_;omega) ?_;rintro T2 en j1 j2 j3;have j2:T2.length<=T.length+8:=j2;simp only[go_sem,↓aB,seval,AB,AD,AA,AE,AF];refine aS8 (N:=0) F.toTextFns c omT Lt rfT rfT rfT rfT j1 omT (bZ kT j3) ?_;rintro ρ' L' T' ba n0 n1 n2 n3;simp only[go_sem,seval];exact jX n1 omT n3
 rw[Zx k3]at hk;have b3:(b.kind==3)=false:=by simpa using k3
 by_cases k4:b.kind=4
 ·rw[Zy k4]at hk;simp only[AI,eG]at hk;obtain⟨⟨hw,hh⟩,⟨_,Iv⟩,hS⟩:=hk;obtain⟨m,V9,Ep⟩:=hM.ye k4;have hn:=mS F.toOutFns [b.w,b.h] Po siT soT;simp only[go_sem,↓aB,seval,k4];refine bI (fQ F.toOutFns [100,114,97,119,105,110,103] deT) (c' _) hT (by show T.length+8<=_;omega) ?_;rintro T2 en j1 j2 j3;have j2:T2.length<=T.length+8:=j2;simp only[go_sem,↓aB,seval,AB,AD,AA,AE];refine bI hn (c' _) j1 (by show T2.length+18<=_;omega) ?_;rintro T3 wr3 m1 m2 m3;have m2:T3.length<=T2.length+18:=m2;simp only[go_sem,↓aB,seval,AB,AD,AA,AE,AF];refine aPZ (N:=0) F.toTextFns c omT (λs hs=>⟨AO.1 hS s hs,V9 s hs⟩) rfT rfT rfT rfT m1 omT (bZ (bZ kT j3) m3) ?_;rintro ρ' L' T' ba n0 n1 n2 n3;simp only[go_sem,seval];exact jX n1 omT n3
 rw[Zx k4]at hk;have b4:(b.kind==4)=false:=by simpa using k4
 by_cases k5:b.kind=5
 ·rw[Zy k5]at hk;simp only[aUO,AI,eG]at hk;obtain⟨⟨_,Cq⟩,hH⟩:=hk;obtain⟨m,k,V9,Ep⟩:=hM.L7 k5;have hn:=aPW F.toTextFns F.bo b.bo m k hb.uv (λx hx=>⟨(hb.bo x hx).1,(V9 x hx).1,λbar sk=>⟨⟨((hb.bo x hx).2 bar sk).1,λnt Fw=>by
   have h1:=AO.1 hH x hx;simp only[aKL,AI]at h1;have h2:=AO.1 h1.2.2 bar sk;simp only[aT9,AI]at h2;exact AO.1 h2.2 nt Fw⟩,(V9 x hx).2 bar sk⟩⟩)
  have Oy:b.bo.length<=2:=omT;simp only[go_sem,↓aB,seval,k5];refine bI (fQ F.toOutFns [109,117,115,105,99] deT) (c' _) hT (by show T.length+6<=_;omega) ?_;rintro T2 en j1 j2 j3;have j2:T2.length<=T.length+6:=j2;simp only[go_sem,↓aB,seval,AB,AD,AA,AE];refine bI hn (c' _) j1 omT ?_;rintro T3 wr3 m1 m2 m3;simp only[go_sem,↓aB,seval];exact jX m1 omT (bZ (bZ kT j3) m3)
 rw[Zx k5]at hk;have b5:(b.kind==5)=false:=by simpa using k5
 by_cases k6:b.kind=6
 ·rw[Zy k6]at hk;simp only[AI,eG,AO]at hk;obtain⟨m,V9,Ep⟩:=hM.lines k6;have I1:∀s∈b.lines,s.length<=80/\2*s.length+8<=m:=λs hs=>by
   have h1:=hk.2 s hs;have h2:=V9 s hs;simp only[vP,AI,eG]at h1;omega
  simp only[go_sem,↓aB,seval,k6];refine bI (fQ F.toOutFns [108,105,115,116,105,110,103] deT) (c' _) hT (by show T.length+8<=_;omega) ?_;rintro T2 en j1 j2 j3;have j2:T2.length<=T.length+8:=j2;simp only[go_sem,↓aB,seval,AB,AD,AA,AE,AF];refine aS9 (N:=0) F.toTextFns c hb.vz I1 rfT rfT rfT rfT j1 omT (bZ kT j3) ?_;rintro ρ' L' T' ba n0 n1 n2 n3;simp only[go_sem,seval];exact jX n1 omT n3
 rw[Zx k6]at hk;cases hk
end
def aQ0:LA:=[[119,104,111,108,101],[101,110,116,114,121],[105,110,115,105,100,101],[108,101,102,116],[108,111,110,103,101,114],[98,97,114],[114,111,119]].map AV.str
abbrev aFm(g:SN):ag:=qS [qb 37 .lss 36 35]<|.seq (qC 37 (.skip) (.exit 2))<|.seq (.block 3 (qS [qi 38 34 36 13,qla 39 13 38,qq 7 (.alloc [z0,.ar,z0,z0,.ar,z0,.ar,.ar,z0,z0,.ar,.ar,.ar]),qs 13 7 39]<|.region Po [qm 40 3,qla 41 13 7,qc 42 (g "bW") [u 40,u 41]]))<|.region Po [qbi 43 .add 36 1,qm 36 43]
abbrev zN:LN:=[37,38,39,7,40,41,42,43,36]
abbrev aFn(g:SN):ag:=qS [qb 48 .lss 47 46]<|.seq (qC 48 (.skip) (.exit 4))<|.seq (.block 5 (qS [qi 49 45 47 4,qla 50 4 49,qq 9 (.alloc [z0,z0,z0,z0]),qs 4 9 50]<|qS [qm 51 3,qc 52 (g "d") [u 51,uc (.str [102,97,99,116])]]<|qS [qm 53 3,qf 54 0 9,ql 55 1 54,qq 56 (.iaA 7 1 (uc (.ep aQ0 0)) (u 55)),ql 57 1 56,qc 58 (g "v") [u 53,u 57]]<|.region Po [qm 59 3,qf 60 1 9,ql 61 1 60,qf 62 2 9,ql 63 1 62,qf 64 3 9,ql 65 1 64,qq 66 (.bsl 1 [z0] 3 [(0,(.tmp 61)),(1,(.tmp 63)),(2,(.tmp 65))]),qc 67 (g "p") [u 59,u 66]]))<|.region Po [qbi 68 .add 47 1,qm 47 68]
abbrev zO:LN:=[48,49,50,9,51,52,53,54,55,56,57,58,59,60,61,62,63,64,65,66,67,68,47]
abbrev aFo(g:SN):ag:=qS [qb 73 .lss 72 71]<|.seq (qC 73 (.skip) (.exit 6))<|.seq (.block 7 (qS [qi 74 70 72 7,qla 75 7 74,qq 11 (.alloc [z0,.ar,.ar,.ar,(.str []),z0,.ar]),qs 7 11 75]<|.region Po [qm 76 3,qla 77 7 11,qc 78 (g "aG") [u 76,u 77]]))<|.region Po [qbi 79 .add 72 1,qm 72 79]
abbrev zP:LN:=[73,74,75,11,76,77,78,79,72]
abbrev aFp(g:SN):ag:=qS [qb 24 .lss 23 22]<|.seq (qC 24 (.skip) (.exit 0))<|.seq (.block 1 (qS [qi 25 21 23 4,qla 26 4 25,qq 5 (.alloc [(.str []),.ar,.ar,.ar]),qs 4 5 26]<|qS [qm 27 3,qc 28 (g "d") [u 27,uc (.str [105,116,101,109])]]<|qS [qm 29 3,qf 30 0 5,ql 31 1 30,qc 32 (g "v") [u 29,u 31]]<|.seq (qS [qf 33 1 5,ql 34 1 33,qn 35 34,qmc 36 z0]<|.block 2 (.loop (aFm g)))<|.seq (qS [qf 44 2 5,ql 45 1 44,qn 46 45,qmc 47 z0]<|.block 4 (.loop (aFn g)))<|qS [qf 69 3 5,ql 70 1 69,qn 71 70,qmc 72 z0]<|.block 6 (.loop (aFo g))))<|.region Po [qbi 80 .add 23 1,qm 23 80]
abbrev zQ:LN:=[24,25,26,5,27,28,29,30,31,32,33,34,35,36,37,38,39,7,40,41,42,43,36,44,45,46,47,48,49,50,9,51,52,53,54,55,56,57,58,59,60,61,62,63,64,65,66,67,68,47,69,70,71,72,73,74,75,11,76,77,78,79,72,80,23]
def yM(g:SN):bw:=⟨89,[13,5,7,9,11],[.tmp 2],qS [qx 1 2 0,qmc 2 (.str [])]<|qS [qq 12 (.build [.nilPtr,.ar] []),qq 13 (.tbx 153 2 (u 12)),qm 3 13]<|qS [qm 14 3,qc 15 (g "d") [u 14,uc (.str [101,120,97,109])]]<|qS [qm 16 3,qf 17 0 1,ql 18 1 17,qc 19 (g "B") [u 16,u 18]]<|.seq (qS [qf 20 1 1,ql 21 1 20,qn 22 21,qmc 23 z0]<|.block 0 (.loop (aFp g)))<|qS [qm 81 3,qq 82 (.cz (u 81)),qf 83 0 82,qc 84 (g "Q") [u 83,uc (.int .u8 10)]]<|qS [qm 85 3,qq 86 (.cz (u 85)),qf 87 0 86,qc 88 (g "aa") [u 87],qm 2 88]<|.ret⟩
@[go_sem] def aY9{call:Nat->LA->LO->Out}{ρ:bN}{H:LO}{ty k:Nat}{x:aa}{id:Nat}:nB call (N1 id) Po ρ H (.tbx ty k x)=if id<H.length/\(x.at ρ).cells.length=k/\(x.at ρ).cells.all AV.ak then N1 (.ptr id (bH H id) 0,make H id (.cw · ty (x.at ρ).cells),[id])else none:=(rfl)
section
variable {A:af}{g:SN}{tB tP:Nat}
def yN{f:Nat}{args:LA}{H:LO}{r:AV×List (Nat×ah)×LO}(h:(A.bq f).bind (· args H)=N1 r):aG A f args H=N1 (cT H r):=
 oL (n:=0) (by unfold dD qL;rw[h])
def aMa(h:Has A g "f" (cO g))(hp:A.bq (g "w")=N1 (fB tB tP)){H:LO}{o v:Nat}{s:Str} (ho:H[o]? = N1 (.cw v tP [.nilPtr,.ar])) (hs:s≠[]) (hl:s.length<=100000000):aG A (g "f") [.ptr o v 0,.str s] H=N1 (.tup [vi s.length,.bj],H.set o (.cw v tP [.ptr o v 0,.sr H.length 1 s.length])++[.gl 1 5 1 (rb s)],[o]):=by
 refine h.call ?_;have gr:=getElem?_lt ho;have go:∀L,(H++L)[o]? = N1 (.cw v tP [.nilPtr,.ar]):=λL=>by rw[BM gr];exact ho
 have sx:aG A (g "w") [.ptr o v 0] (H++[.gone 0])=N1 (.tup [],H.set o (.cw v tP [.ptr o v 0,.ar])++[.gone 0],[o]):=by
  rw[yN (r:=(.tup [],[(o,.cw v tP [.ptr o v 0,.ar])],[]))]
  ·simp[cT,eU,DX _ _ gr]
  rw[hp];show fB tB tP [.ptr o v 0] _=_;simp[fB,go]
 have g1:∀x L,(H.set o x++L)[o]? = N1 x:=λx L=>by rw[BM (by simpa using gr)];exact BW gr
 have g2:∀x y L,(H.set o x++L).set o y=H.set o y++L:=λx y L=>by rw[DX _ _ (by simpa using gr),List.set_set]
 have bl:(rb s).isEmpty=false:=by cases s with | nil=>exact Zw rfl hs | cons a r=>rfl
 have Lu:vB (H.set o (.cw v tP [.ptr o v 0,.ar])++[.gone 0]) (N1 H.length) 5 1 1 .ar (.str s)=N1 (.sr H.length 1 s.length,H.set o (.cw v tP [.ptr o v 0,.ar])++[.gl 1 5 1 (rb s)],[H.length]):=by
  unfold vB;have tz:dF 1 (aJ s)=true:=aEk s;have hr:bP s.length 1=true:=by unfold bP;simp;omega
  have ax:(aJ s).length=s.length:=kG s;have Fx:(aJ s).isEmpty=false:=bl;simp only[cG,tz,BT,BX,Zu,Fx,ax,hr,Zv];simp[bH,make,rb,aJ];exact⟨rfl,λa _=>rfl⟩
 simp only[cO];simp only[go_sem,↓aB,seval,sx,g1,g2,Lu];have hu:ah.under H.length (.cw v tP [.ptr o v 0,.sr H.length 1 s.length])=false:=by have:decide (H.length<H.length)=false:=siT;simp[ah.under,dJ,AV.under]
 rw[nJ gr,vN,mY (g1 _ _) hu];exact⟨rfl,rfl,rfl⟩
def aIA(F:OutFns A g tB tP){H:LO}{o v:Nat}{s:Str}(ho:H[o]? = N1 (.cw v tP [.nilPtr,.ar]))(hs:s≠[])(hl:s.length<=100000000):aG A (g "d") [.ptr o v 0,.str s] H=N1 (.tup [],H.set o (.cw v tP [.ptr o v 0,.sr H.length 1 s.length])++[.gl 1 5 1 (rb s)],[o]):=by
 refine F.line.call ?_;have gr:=getElem?_lt ho;have h1:aG A (g "aI") [.ptr o v 0] H=N1 (vi 0,H,[]):=by refine F.len.call ?_;simp only[iY];simp only[go_sem,↓aB,seval,AJ,ho]
 have h2:=aMa F.ws F.cc ho hs hl;have g1:∀x L,(H.set o x++L)[o]? = N1 x:=λx L=>by rw[BM (by simpa using gr)];exact BW gr
 simp only[jB];simp only[go_sem,↓aB,seval,AJ,h1,h2,Dd,decide_false];have hu:ah.under H.length (.cw v tP [.ptr o v 0,.sr H.length 1 s.length])=false:=by have:decide (H.length<H.length)=false:=siT;simp[ah.under,dJ,AV.under]
 rw[nJ gr,vN,mY (g1 _ _) hu];exact⟨rfl,rfl,rfl⟩
def aKW(b:Block):jm:=⟨[120],[⟨[97],[b],[],[]⟩]⟩
section
variable {H X:LO}{ty v v2 i:Nat}{T:Str}{x:ah}
def aKX(h0:i≠0)(h5:i≠5):(PSt X ty H.length v (H.length+5) v2 T)[H.length+i]? = X[H.length+i]? := by unfold PSt;rw[CL omT,CL omT]
def aCr(h0:i≠0)(h5:i≠5):(PSt X ty H.length v (H.length+5) v2 T).set (H.length+i) x=PSt (X.set (H.length+i) x) ty H.length v (H.length+5) v2 T:=by unfold PSt;rw[JR (i:=H.length+5) _ _ omT,JR (i:=H.length) _ _ omT]
def aEr(h0:i≠0)(h5:i≠5):bH (PSt X ty H.length v (H.length+5) v2 T) (H.length+i)=bH X (H.length+i):=by unfold bH;rw[aKX h0 h5]
def aBl(h0:i≠0)(h5:i≠5){mk:Nat->ah}:make (PSt X ty H.length v (H.length+5) v2 T) (H.length+i) mk=PSt (make X (H.length+i) mk) ty H.length v (H.length+5) v2 T:=by unfold make;rw[aKX h0 h5,aCr h0 h5]
def aNe{a b c d e f:ah}:H++[.cw v ty [.ptr H.length v 0,.sr (H.length+5) v2 T.length],b,c,d,e,.gl v2 5 1 (rb T)]=PSt (H++[a,b,c,d,e,f]) ty H.length v (H.length+5) v2 T:=by unfold PSt;rw[aBe,eS];rfl
def aNf{L:LO}:(PSt (H++L) ty H.length v (H.length+5) v2 T).take H.length=H:=by unfold PSt;rw[aBe,eS,aD8]
end
def uI{α:Type}{l:List α}(h:l.length=6):∃a b c d e f,l=[a,b,c,d,e,f]:=by
 match l,h with
 | [a,b,c,d,e,f],_=>exact⟨a,b,c,d,e,f,rfl⟩
structure uw(A:af)(g:SN)(tB:Nat) extends BlockPrt A g tB 153 where
 source:Has A g "bL" (yM g)
 str:A.bq (g "aa")=N1 (aAh 5)
def aIB:∀s:Str,aE6 (rb s)=Pa
 | []=>rfl
 |c::s=>by
  have:=EC c;show (decide (0<=((c.toNat:Nat):Int))&&decide (((c.toNat:Nat):Int)<256)&&aE6 (rb s))=Pa;rw[aIB s];simp;omega
def aCs(hp:A.bq (g "aa")=N1 (aAh 5)){H:LO}{ty o v o2 v2:Nat}{T:Str}(c:gf H.length o o2)(hT:T≠[])(hl:T.length<=1000000000):aG A (g "aa") [.ptr o v 0] (PSt H ty o v o2 v2 T)=N1 (.str T,(PSt H ty o v o2 v2 T).set o2 (.gone v2),[o2]):=by
 rw[yN (r:=(.str T,[(o2,.gone v2)],[]))]
 ·simp[cT,eU]
 rw[hp];show aAh 5 [.ptr o v 0] _=_;have hp:=MY.2 hT;simp[aAh,tW c,aM4 c,aIB,oO,Ne.symm c.ne,hl];exact hT
end
def yO(g:SN):bw:=⟨21,[],[.tmp 2],qS [qx 1 4 0,qmc 2 (.bool Po)]<|qS [qf 3 0 1,ql 4 1 3,qc 5 (g "bJ") [u 4],qm 6 5,qT 7 6 (of 1 1),qT 8 6 (ol 1 7),qT 9 6 (oc (g "cV") [u 8,ui 0,ui 8,uf (g "bD")]),qp 10 6 9,qm 11 10,qT 12 11 (of 2 1),qT 13 11 (ol 1 12),qT 14 11 (oc (g "cW") [u 13,ui 0,ui 8,uf (g "aW")]),qp 15 11 14,qm 16 15,qT 17 16 (of 3 1),qT 18 16 (ol 1 17),qT 19 16 (oc (g "cZ") [u 18,ui 0,ui 4,uf (g "aY")]),qp 20 16 19,qm 2 20]<|.ret⟩
def mZ(g:SN):bw:=⟨17,[],[.tmp 2],qS [qx 1 2 0,qmc 2 z0]<|.seq (qS [qf 3 0 1,ql 4 1 3,qc 5 (g "T") [u 4,ui 0,ui 100],qq 6 (.un .not (u 5)),qm 7 6,qF 8 7 (of 1 1),qF 9 7 (ol 1 8),qF 10 7 (oc (g "cX") [u 9,ui 0,ui 12,uf (g "bG")]),qF 11 7 (.un .not (u 10)),qq 12 (.pick (u 7) uT (u 11))]<|qC 12 (qS [qmc 2 (vi 1)]<|.ret) (.skip))<|.seq (qS [qla 13 2 1,qc 14 (g "bL") [u 13],qq 15 (.fg (u 14)),qbi 16 .gtr 15 8192]<|qC 16 (qS [qmc 2 (vi 4)]<|.ret) (.skip))<|qS [qmc 2 z0]<|.ret⟩
structure kc(A:af)(g:SN)(tB:Nat):Prop where
 blk:kb A g
 src:uw A g tB
 valid:Has A g "e" (mZ g)
 item:Has A g "bG" (yO g)
 name:Has A g "bJ" (xP g)
 M3:Has A g "G" (kP g)
 M4:Has A g "al" (nL g)
 R9:fe A g 13 Pa (g "cV")
 B6:fe A g 4 Pa (g "cW")
 S0:fe A g 7 Pa (g "cZ")
 allI:fe A g 4 Pa (g "cX")
section
variable {A:af}{g:SN}
structure sn(A:af):Prop where
 fn:A.fn YF=N2
 bq:A.bq YF=N2
def wC{N:Nat}{c:Ctx}{x:aa}{ps:LN}{body:ag}{ρ:bN}{H:LO}{wr:LN}{Q:bf->bN->LO->LN->Prop}{tg:Tg (A,N,c,ag.dz x ps body,Q)}{id f:Nat}{first ay:LA} (hx:x.at ρ=.fn f first ay) (hs:c.site ps.head? = N1 id) (hid:id<H.length) (ht:∀H,eZ c H=Pa) {v:Nat} {X:LA->LO} (hv:bH H id=v) (hm:∀l,(make H id λv=>.rnd v c.base c.sites ps body l Po N2)=X l) (h:∀l:LA,l.length=N->ck l=ρ->∃r H2 en b' s' p' cc' r' pend,aG A f (first++.yld id v::ay) (X l)=N1 (r,H2,en) /\ H2[id]? = N1 (.rnd v b' s' p' cc' r' Po pend)/\Q (pend.getD .normal) ρ (H2.set id (.gone v)) (bE c.base wr (id::en))):wc A N c (.dz x ps body) ρ H wr Q tg:=by subst hv;unfold wc;rw[wpc];intro l hl he;obtain⟨r,H2,en,b',s',p',cc',r',pend,h1,h2,h3⟩:=h l hl he;rw[<- hm l]at h1;obtain⟨n,hn⟩:=oM h1;refine⟨n+1,pend.getD .normal,⟨l,H2.set id (.gone (bH H id)),bE c.base wr (id::en)⟩, ?_,hl,by rw[he];exact h3⟩;rw[iU,aa.ka];dsimp only;rw[he,hx,hs];dsimp only;rw[Zy ⟨hid,ht _⟩,hn];dsimp only;rw[h2];dsimp only;rw[Zy ⟨rfl,ht _⟩]
def aF3:∀(ps:LN) (xs l:LA),(dH l ps xs).length=l.length
 | [],_,_=>by unfold dH;rfl
 |p::ps,[],_=>by unfold dH;rfl
 |p::ps,x::xs,l=>by rw[dH,aF3 ps xs];simp
def mT(hY:sn A){N:Nat}{H:LO}{o v base:Nat}{sites ps:LN}{asg body:ag}{l xs:LA}{K:bf->LO->LN->Prop} (ho:H[o]? = N1 (.rnd v base sites ps (.seq asg body) l Po N2)) (hx:xs.length=ps.length) (hok:dK N ⟨base,sites++[YF+o,YF+v]⟩ asg=Pa) (Fz:dK N ⟨base,sites++[YF+o,YF+v]⟩ body=Pa) (hl:l.length=N) (h:wc A N ⟨base,sites++[YF+o,YF+v]⟩ asg (ck (dH l ps xs)) H [] (λe ρ1 H1 dc=>e=.normal/\∃b1 t1 p1 c1 r1,H1[o]? = N1 (.rnd v b1 t1 p1 c1 r1 Po N2) /\ wc A N ⟨base,sites++[YF+o,YF+v]⟩ body ρ1 (H1.set o (.rnd v b1 t1 p1 c1 r1 Pa N2)) dc (λe ρ2 H2 en=>∃b' s' p' c' r',H2[o]? = N1 (.rnd v b' s' p' c' r' Pa N2) /\ K e (H2.set o (.rnd v b' s' p' c' r' Po (if e=.normal then N2 else N1 e))) (FM base (H.length - base)++(o::en))) ⟨⟩) ⟨⟩):∃e H' ba,aG A YF (.own 0 []::.yld o v::xs) H=N1 (.bool (decide (e=.normal)),H',ba)/\K e H' ba:=by obtain⟨n,e,s0,h1,h2,rfl,b1,t1,p1,c1,r1,h3,h4⟩:=kM h hok _ (by rw[aF3];exact hl) rfl;obtain⟨m,e2,s,g1,g2,b',s',p',c',r',g3,g4⟩:=kM h4 Fz s0.ρ h2 rfl;refine⟨e2,_,_,oL (n:=max n m) ?_,g4⟩;unfold dD qL;rw[hY.bq,hY.fn];show sO _ H (.own 0 []::.yld o v::xs)=_;rw[aAe,ho];dsimp only;rw[Zy ⟨rfl,hx⟩,eJ (Nat.le_max_left n m) _ _ _ _ h1];dsimp only;rw[h3];dsimp only;rw[Zy rfl,eJ (Nat.le_max_right n m) _ _ _ _ g1];dsimp only;rw[g3];dsimp only;rw[Zy rfl]
def aGL{call:Nat->LA->LO->Out}{H:LO}{site:Option Nat}{o v:Nat}{args:LA}:cX call H site (.yld o v) args=match kA H args with
  |none=>N2
  |some (args',lent)=>match call YF (.own 0 []::.yld o v::args'.map AV.strip) (dL H lent)with
   |none=>N2
   |some (b,H',wr)=>if lent.isEmpty&&b.atomic then N1 (b,H',wr)else none:=rfl
def jG{base:Nat}{v:AV}{H:LO}{wr:LN}(h:H.length<=base):cJ base (v,H,wr)=(v,H,wr):=by
 unfold cJ;dsimp only;split
 ·rw[CH h]
 rfl
end
abbrev aCt(g:SN):List ae:=[qm 28 0,qf 29 1 1,⟨N1 30,ol 1 29,N2,[1]⟩,qm 31 4,⟨N1 32,oi 30 31 2,N2,[2,1,3]⟩,⟨N1 33,ola 2 32,N2,[4,2,1,3]⟩,qf 34 1 1,⟨N1 35,ol 1 34,N2,[6]⟩,qm 36 4,⟨N1 37,obi .add 36 1,N2,[8]⟩,qm 38 3,⟨N1 39,ob .rem 37 38,N2,[9,8,10]⟩,⟨N1 40,oi 35 39 2,N2,[7,6,11,9,8,10]⟩,⟨N1 41,ola 2 40,N2,[12,7,6,11,9,8,10]⟩,⟨N1 42,.build [z0,z0,z0,z0] [(0,2,(.tmp 33)),(2,2,(.tmp 41))],N2,[5,4,2,1,3,13,12,7,6,11,9,8,10]⟩,⟨N1 43,.dm (u 28) [(.tmp 42)],N2,[0,14,5,4,2,1,3,13,12,7,6,11,9,8,10]⟩,⟨N1 44,.un .not (u 43),N2,[15,0,14,5,4,2,1,3,13,12,7,6,11,9,8,10]⟩]
abbrev jH:LN:=[]
abbrev aCu(g:SN):ag:=qS [qb 17 .lss 16 15]<|.seq (qC 17 (.skip) (.exit 0))<|.seq (.block 1 (qS [qm 18 16,qm 4 18]<|.seq (qS [qm 19 4,qm 20 3,qbi 21 .sub 20 1,qb 22 .eql 19 21,qm 23 22,qT 24 23 (of 0 1),qT 25 23 (ol 1 24),qT 26 23 (obi .neq 25 2),qp 27 23 26]<|qC 27 (.ret) (.skip))<|.seq (.region Pa (aCt g))<|qC 44 (.ret) (.skip)))<|.region Po [qbi 45 .add 16 1,qm 16 45]
def jO(g:SN):bw:=⟨46,[],[],qS [qf 5 1 1,ql 6 1 5,qn 7 6,qm 3 7]<|.seq (qS [qf 8 0 1,ql 9 1 8,qbi 10 .eql 9 0,qm 11 10,qF 12 11 (om 3),qF 13 11 (obi .lss 12 2),qq 14 (.pick (u 11) uT (u 13))]<|qC 14 (.ret) (.skip))<|qS [qm 15 3,qmc 16 z0]<|.block 0 (.loop (aCu g))⟩
def uJ(g:SN):bw:=⟨4,[],[.tmp 2],qS [qx 1 2 0,qmc 2 .bx]<|qS [qq 3 (.mkf (g "r") [] [(.tmp 1)]),qm 2 3]<|.ret⟩
section
variable {A:af}{g:SN}
def aAv(A:af)(o v base n:Nat)(I:Nat->LO->Prop)(J:LO->Prop):Prop:=(∀i H,I i H->H.length=n)/\(∀H,J H->H.length=n) /\
 ∀i H (a b c d:Int),i<1000->I i H->∃(e:bf) (H':LO) (wr:LN),aG A YF [.own 0 [],.yld o v,.agg [vi a,vi b,vi c,vi d]] H=N1 (.bool (decide (e=.normal)),H',wr)/\(if e=.normal then I (i+1) H' else J H')/\∀x∈wr,base<=x
def kH{b:Nat}:∀{l wr:LN},(∀x∈l,b<=x)->bE b wr l=wr
 | [],wr,_=>rfl
 |y::r,wr,h=>by
  have hy:=h y HD;unfold bE;rw[Zx (by intro hh;simp at hh;omega)];exact kH λz hz=>h z (BZ _ hz)
def rB{b n:Nat}:∀{l wr:LN},(∀x∈wr,b<=x)->(∀x∈l,b<=x)->∀x∈bE n wr l,b<=x
 | [],wr,h,_=>h
 |y::r,wr,h,hl=>by
  unfold bE;split
  ·exact rB (λz hz=>by
    rcases BD.1 hz with rfl | hz
    ·exact hl _ HD
    exact h z hz) λz hz=>hl z (BZ _ hz)
  exact rB h λz hz=>hl z (BZ _ hz)
def aKY{o v base n i:Nat}{I:Nat->LO->Prop}{J:LO->Prop}(hR:aAv A o v base n I J){H:LO}(hi:i<1000)(hI:I i H){site:Option Nat}{a b c d:Int}{k:AV×LO×LN×Option LN->Prop}{tg} (hk:∀e H' wr,(if e=bf.normal then I (i+1) H' else J H')->(∀x∈wr,base<=x)->H'.length=H.length->bnd (oD H (N1 (.bool (decide (e=.normal)),H',wr))) k):aCi (oD H (cX (aG A) H site (.yld o v) [.agg [vi a,vi b,vi c,vi d]])) k tg:=by
 obtain⟨r1,r2,r3⟩:=hR;obtain⟨e,H',wr,h1,h2,h3⟩:=r3 i H a b c d hi hI;have hl:H'.length=H.length:=by
  rw[r1 i H hI];split at h2
  ·exact r1 _ _ h2
  exact r2 _ h2
 have he:cX (aG A) H site (.yld o v) [.agg [vi a,vi b,vi c,vi d]]=N1 (.bool (decide (e=.normal)),H',wr):=by rw[aGL];have:kA H [.agg [vi a,vi b,vi c,vi d]]=N1 ([.agg [vi a,vi b,vi c,vi d]],[]):=rfl;rw[this];dsimp only;have e2:([AV.agg [vi a,vi b,vi c,vi d]]).map AV.strip=[.agg [vi a,vi b,vi c,vi d]]:=rfl;rw[e2,show dL H []=H from rfl,h1];rfl
 rw[he];exact hk e H' wr h2 h3 hl
def wD(h:Has A g "r" (jO g)){o v base n:Nat}{I:Nat->LO->Prop}{J:LO->Prop}(hR:aAv A o v base n I J)(kind:Int)(pts:List (Int×Int))(hp:pts.length<=1000)(H:LO)(hI:I 0 H):∃H' wr,aG A (g "r") [.yld o v,.ep [vi kind,.sl Po (pts.map bL)] 0] H=N1 (.tup [],H',wr)/\((∃i,i<=1000/\I i H')∨J H')/\∀x∈wr,base<=x:=by
 obtain⟨r1,r2,r3⟩:=hR;have ax:H.length=n:=r1 0 H hI;obtain⟨v',H',ba,h1,rfl,h2,h3⟩:=h.bp (args:=[.yld o v,.ep [vi kind,.sl Po (pts.map bL)] 0]) (H:=H) (K:=λv H' wr=>v=.tup []/\((∃i,i<=1000/\I i H')∨J H')/\∀x∈wr,base<=x) (by
  simp only[jO];have K0:∀{H' wr},((∃i,i<=1000/\I i H')∨J H')->(∀x∈wr,base<=x)->H'.length<=H.length->(cJ H.length (.tup [],H',wr)).1=.tup []/\((∃i,i<=1000/\I i (cJ H.length (.tup [],H',wr)).2.1)∨J (cJ H.length (.tup [],H',wr)).2.1)/\∀x∈(cJ H.length (.tup [],H',wr)).2.2,base<=x:=λ{H' wr} a b c=>by
   rw[jG c];exact⟨rfl,a,b⟩
  cases e1:(kind==0)with
  |true=>simp only[go_sem,↓aB,seval,e1,CE,AJ,AF,AB,AD,AA,AE];exact⟨.inl ⟨0,omT,hI⟩,λx hx=>by cases hx⟩
  |false=>
   simp only[go_sem,↓aB,seval,e1,Zz,AJ,AF,AB,AD,AA,AE];refine aD (λe2=>?_) (λe2=>?_)
   ·simp only[go_sem,↓aB,seval];exact⟨.inl ⟨0,omT,hI⟩,λx hx=>by cases hx⟩
   have xh:2<=pts.length:=by simp at e2;omega
   simp only[go_sem,↓aB,seval];refine bJ (id:=0) (λi ρ1 H1 wr=>ρ1 16=vi (i:Nat)/\I i H1/\∀x∈wr,base<=x) pts.length (λρ1 H1 wr=>(∃i,i<=1000/\I i H1)/\∀x∈wr,base<=x)
    cB rfl ⟨rfl,hI,λx hx=>by cases hx⟩ ?_ ?_
   ·rintro i ρ1 H1 dc mg ⟨e16,yy,dy⟩ hf;have f15:ρ1 15=vi (pts.length:Nat):=hf 15 rfl;have f3:ρ1 3=vi (pts.length:Nat):=hf 3 rfl;have f0:ρ1 0=.yld o v:=hf 0 rfl;have f1:ρ1 1=.ep [vi kind,.sl Po (pts.map bL)] 0:=hf 1 rfl;have qe:=r1 _ H1 yy;simp only[go_sem,↓aB,seval,e16,f15];refine aD (λhb=>?_) (λhb=>?_)
    ·have hlt:i<pts.length:=by simp at hb;omega
     have V1:=wS (i:=i) omT;have K5:AR.wrap ((pts.length:Int) - 1)=((pts.length - 1:Nat):Int):=by rw[wrap_i64 omT omT];omega
     have Ga:(((i:Nat):Int)==((pts.length - 1:Nat):Int))=(i==pts.length - 1):=by rw[DS,beq_iff_eq,beq_iff_eq];omega
     have cj:=mgE bL hlt;have hm:(i+1) % pts.length<pts.length:=Nat.mod_lt _ omT;have B7:(pts.map bL)[(i+1) % pts.length]? = N1 (bL pts[(i+1) % pts.length]):=by rw[BN,AP hm];rfl
     have zu:∀ek,kJ .rem ek (vi ((i+1:Nat):Int)) (vi (pts.length:Nat))=N1 (vi (((i+1) % pts.length:Nat):Int)):=λek=>by
      rw[tS omT];congr 2
     generalize pts[i]=p at *;generalize pts[(i+1) % pts.length]=q at *;cases e3:(i==pts.length - 1)with
     |false=>
      simp only[go_sem,↓aB,seval,e16,f3,K5,Ga,e3,BB];refine aY (aq:=jH) (H0:=_) (by simp only[go_sem,seval,cS];rfl) rfT ?_;simp only[go_sem,↓aB,seval,jH,f3,f1,f0,V1,AU,AT,hlt,cj,B7,zu,bL,AD,AB,AA,AE];refine aKY ⟨r1,r2,r3⟩ omT yy ?_;intro e H2 en I4 gn iq;have Ba:∀x∈bE H.length dc en,base<=x:=rB dy gn;cases hd:decide (e=.normal)with
      |true=>have he:e=.normal:=of_decide_eq_true hd;rw[Zy he]at I4;simp only[go_sem,↓aB,seval,iq,e16,V1];exact⟨hlt,I4,Ba⟩
      |false=>have he:¬e=.normal:=of_decide_eq_false hd;rw[Zx he]at I4;simp only[go_sem,↓aB,seval,iq];exact K0 (.inr I4) Ba omT
     |true=>
      cases e4:(kind != 2)with
      |true=>simp only[go_sem,↓aB,seval,e16,f3,f1,K5,Ga,e3,e4,Zz,AD,AA,AE];exact K0 (.inl ⟨i,omT,yy⟩) dy omT
      |false=>
      simp only[go_sem,↓aB,seval,e16,f3,f1,K5,Ga,e3,e4,Zz,AD,AA,AE];refine aY (aq:=jH) (H0:=_) (by simp only[go_sem,seval,cS];rfl) rfT ?_;simp only[go_sem,↓aB,seval,jH,f3,f1,f0,V1,AU,AT,hlt,cj,B7,zu,bL,AD,AB,AA,AE];refine aKY ⟨r1,r2,r3⟩ omT yy ?_;intro e H2 en I4 gn iq;have Ba:∀x∈bE H.length dc en,base<=x:=rB dy gn;cases hd:decide (e=.normal)with
      |true=>have he:e=.normal:=of_decide_eq_true hd;rw[Zy he]at I4;simp only[go_sem,↓aB,seval,iq,e16,V1];exact⟨hlt,I4,Ba⟩
      |false=>have he:¬e=.normal:=of_decide_eq_false hd;rw[Zx he]at I4;simp only[go_sem,↓aB,seval,iq];exact K0 (.inr I4) Ba omT
    simp only[go_sem,seval];exact⟨⟨i,omT,yy⟩,dy⟩
   rintro ρ' H' ba ⟨⟨j,hj,yy⟩,dy⟩ hf;have qe:=r1 j H' yy;simp only[go_sem,↓aB,seval];rw[jG omT];exact⟨rfl,.inl ⟨j,hj,yy⟩,dy⟩)
 exact⟨H',ba,h1,h2,h3⟩
end
def dR(g:SN):ag:=.block 0 (.dz (.tmp 6) [7] (qS [qq 5 (.alloc [z0,z0,z0,z0]),qs 4 5 7]<|.block 1 (qR [ql 8 1 2,qla 9 4 5,qq 10 (.bsl 4 [z0,z0,z0,z0] 1 [(0,(.tmp 9))]),qa 11 4 32 8 10,qs 1 2 11])))
def bU(g:SN):bw:=⟨13,[2,7,5,11],[.tmp 4],qS [qx 2 1 0,qmc 4 .ar]<|.seq (qS [qm 6 1]<|dR g)<|qS [ql 12 1 2,qm 4 12]<|.ret⟩
def eC(g:SN):bw:=⟨5,[],[.tmp 2],qS [qmc 2 .ar]<|qS [qm 3 0,qc 4 (g "bg") [uc .ar,u 3],qm 2 4]<|.ret⟩
section
variable {A:af}{g:SN}
def lG(h:Has A g "x" (uJ g))(s:Shape)(H:LO):aG A (g "x") [.agg (aH s)] H=N1 (.fn (g "r") [] [.ep [vi s.kind,.sl Po (s.points.map bL)] 0],H,[]):=by refine h.call ?_;simp only[uJ];simp only[go_sem,↓aB,seval,aH,AJ];rw[jG (AQ _)];exact⟨rfl,rfl,rfl⟩
def aEs(rows:List LA):Prop:=∀r∈rows,∃a b c d:Int,r=[vi a,vi b,vi c,vi d]
abbrev aMd:ag:=qS [qq 5 (.alloc [z0,z0,z0,z0]),qs 4 5 7]<|.block 1 (qR [ql 8 1 2,qla 9 4 5,qq 10 (.bsl 4 [z0,z0,z0,z0] 1 [(0,(.tmp 9))]),qa 11 4 32 8 10,qs 1 2 11])
def bB3(H:LO)(i:Nat)(X:LO):Prop:=∃w x2 x3 l,X=H++[.box 1 [w],.rnd 1 H.length [2,7,5,11] [7] aMd l Po N2,x2,x3]/\l.length=13/\ck l 2=.ptr H.length 1 0 /\
 (w=.ar∨∃ver rows,w=.sr (H.length+3) ver rows.length/\x3=.vec ver 4 rows/\rows≠[]/\rows.length<=i/\aEs rows)
def aBm{b a1 a2 a3 a4 o v t:Nat}(h:([a1,a2,a3,a4].contains t)=Po)(ht:t<YF):(⟨b,[a1,a2,a3,a4,YF+o,YF+v]⟩:Ctx).site (N1 t)=none:=by
 unfold Ctx.site;dsimp only;rw[LV.2]
 ·rfl
 rw[<- GB,EH]at h;simp only[BD,List.not_mem_nil,or_false,not_or]at h ⊢;exact⟨h.1,h.2.1,h.2.2.1,h.2.2.2,omT,omT⟩
def aSa(hY:sn A)(H:LO):aAv A (H.length+1) 1 H.length (H.length+4) (bB3 H) (λ_=>False):=by
 refine⟨λi X hX=>?_,λX hX=>hX.elim,λi X a b c d hi hX=>?_⟩
 ·obtain⟨w,x2,x3,l,rfl,_⟩:=hX;simp
 obtain⟨w,x2,x3,l,rfl,hl,h2,hw⟩:=hX;refine mT hY (K:=λe H' wr=>(if e=.normal then bB3 H (i+1) H' else False)/\∀x∈wr,H.length<=x) (N:=13) (l:=l) (by rw[bX];rfl) rfl cB cB hl ?_;have hs:ck (dH l [7] [.agg [vi a,vi b,vi c,vi d]])=upd (ck l) 7 (.agg [vi a,vi b,vi c,vi d]):=nG omT;rw[hs];generalize hρ:ck l=ρ at *;simp only[DO,CW];simp only[go_sem,↓aB,seval];have B8:(⟨H.length,[2,7,5,11,YF+(H.length+1),YF+1]⟩:Ctx).site (N1 10)=none:=aBm rfT deT;have fq:∀{w2:LN} {n:Nat},(∀x∈w2,H.length<=x)->∀x∈FM H.length n++(H.length+1)::w2,H.length<=x:=λ{w2 n} h x hx=>by
  rcases AY.1 hx with hx | hx
  ·rw[FC]at hx;exact hx.1
  rcases BD.1 hx with rfl | hx
  ·omega
  exact h x hx
 refine⟨_,_,_,_,_,rfl, ?_⟩;rcases hw with rfl | ⟨ver,rows,rfl,rfl,bl,ax,lv⟩
 ·have hr:bP 1 32=true:=deT;simp only[go_sem,↓aB,seval,h2,B8,AD,AA,AE,eX,cG,dO,hr,AW,AZ];exact⟨_,_,_,_,_,rfl,⟨_,_,_,l,rfl,hl,by rw[hρ];exact h2,.inr ⟨_,_,rfl,rfl,siT,siT,λr hr=>by rw[CG.1 hr];exact⟨a,b,c,d,rfl⟩⟩⟩,fq siT⟩
 have hr:bP (rows.length+1) 32=true:=by unfold bP;simp;omega
 simp only[go_sem,↓aB,seval,h2,B8,AD,AA,AE,eX,cG,dO,hr,AW,AZ];refine⟨_,_,_,_,_,rfl,⟨_,_,_,l,rfl,hl,by rw[hρ];exact h2,.inr ⟨ver,rows++[[vi a,vi b,vi c,vi d]], ?_,rfl,siT,soT,λr hr=>?_⟩⟩,fq siT⟩
 ·rw[BA];rfl
 rcases AY.1 hr with hr | hr
 ·exact lv r hr
 rw[CG.1 hr];exact⟨a,b,c,d,rfl⟩
def aJu:∀{rows:List LA},aEs rows->gG rows=Pa
 | [],_=>rfl
 |r::rs,h=>by
  obtain⟨a,b,c,d,e⟩:=h r HD;subst e;have:=aJu (rows:=rs) λx hx=>h x (BZ _ hx);rw[gG,this];rfl
def aIC{base:Nat}{H:LO}:aDR base H .ar=N1 (.ar,H,[]):=rfl
def aHI(hY:sn A)(h:Has A g "bg" (bU g))(h1:Has A g "r" (jO g))(s:Shape)(hs:s.points.length<=1000)(H:LO):∃r,(r=.ar∨∃rows,r=.own 4 rows/\rows≠[]/\rows.length<=100000/\aEs rows)/\aG A (g "bg") [.ar,.fn (g "r") [] [.ep [vi s.kind,.sl Po (s.points.map bL)] 0]] H=N1 (r,H,[]):=by
 obtain⟨r,H',ba,e1,rfl,rfl,e2⟩:=h.bp (args:=[.ar,.fn (g "r") [] [.ep [vi s.kind,.sl Po (s.points.map bL)] 0]]) (H:=H) (K:=λr H' wr=>wr=[]/\H'=H/\(r=.ar∨∃rows,r=.own 4 rows/\rows≠[]/\rows.length<=100000/\aEs rows)) (by
  simp only[bU];simp only[go_sem,↓aB,seval];simp only[dR];simp only[go_sem,seval];refine wC (id:=H.length+1) (v:=1) (X:=λl=>H++[.box 1 [.ar],.rnd 1 H.length [2,7,5,11] [7] aMd l Po N2,.gone 0,.gone 0]) rfT rfT siT (λ_=>rfT) (by unfold bH;rw[bX];rfl) (λl=>by rw[sV];rfl) ?_;intro l hl he;have Lw:bB3 H 0 (H++[.box 1 [.ar],.rnd 1 H.length [2,7,5,11] [7] aMd l Po N2,.gone 0,.gone 0]):=⟨_,_,_,l,rfl,hl,by rw[he];rfl,.inl rfl⟩;obtain⟨H2,en,k1,k2,k3⟩:=wD h1 (aSa hY H) s.kind s.points hs _ Lw;rcases k2 with⟨i,hi,w,x2,x3,l2,rfl,iq,_,hw⟩ | k2
  ·refine⟨_,_,_,_,_,_,_,_,N2,k1,by rw[bX];rfl, ?_⟩;rw[kH (λx hx=>by rcases BD.1 hx with rfl | hx;exact EG _ _;exact k3 x hx),eS];show pP 0 _ _ .normal _ _ _;rcases hw with rfl | ⟨ver,rows,rfl,rfl,w1,w2,w3⟩
   ·simp only[go_sem,↓aB,seval,AD,AA,AE,aIC];exact .inl trivial
   have hd:=aJu w3;simp only[go_sem,↓aB,seval,AD,AA,AE,aT hd,aA hd];exact .inr ⟨rows,rfl,w1,omT,w3⟩
  exact k2.elim)
 exact⟨r,e2,e1⟩
def aKZ(hY:sn A)(hc:Has A g "bN" (eC g))(h:Has A g "bg" (bU g))(h1:Has A g "r" (jO g))(s:Shape)(hs:s.points.length<=1000)(H:LO):∃r,(r=.ar∨∃rows,r=.sl Po rows/\rows.length<=100000/\aEs rows)/\aG A (g "bN") [.fn (g "r") [] [.ep [vi s.kind,.sl Po (s.points.map bL)] 0]] H=N1 (r,H,[]):=by
 obtain⟨r,hr,mj⟩:=aHI hY h h1 s hs H;rcases hr with rfl | ⟨rows,rfl,w1,w2,w3⟩
 ·refine⟨.ar,.inl rfl,hc.call ?_⟩;simp only[eC];simp only[go_sem,↓aB,seval,mj,aIC,AJ]
 refine⟨.sl Po rows,.inr ⟨rows,rfl,w2,w3⟩,hc.call ?_⟩;have hd:=aJu w3;simp only[eC];simp only[go_sem,↓aB,seval,mj,AJ];rw[jG (AQ _)];exact⟨rfl,rfl,rfl⟩
end
def aBn(g:SN):bw:=⟨30,[],[.tmp 6],qS [qx 3 2 0,qx 4 2 1,qx 5 2 2,qmc 6 z0]<|qS [qf 7 0 4,ql 8 1 7,qf 9 0 3,ql 10 1 9,qb 11 .sub 8 10,qf 12 1 5,ql 13 1 12,qf 14 1 3,ql 15 1 14,qb 16 .sub 13 15,qb 17 .mul 11 16,qf 18 1 4,ql 19 1 18,qf 20 1 3,ql 21 1 20,qb 22 .sub 19 21,qf 23 0 5,ql 24 1 23,qf 25 0 3,ql 26 1 25,qb 27 .sub 24 26,qb 28 .mul 22 27,qb 29 .sub 17 28,qm 6 29]<|.ret⟩
def aEt(g:SN):bw:=⟨6,[],[.tmp 2],qS [qmc 2 z0]<|qS [qm 3 0,qq 4 (.mm Pa [(.const (.int .i64 (-1))),(.tmp 3)]),qq 5 (.mm Po [(.const (vi 1)),(.tmp 4)]),qm 2 5]<|.ret⟩
def aJv(g:SN):bw:=⟨60,[],[.tmp 4],qS [qx 2 2 0,qx 3 4 1,qmc 4 (.bool Po)]<|qS [qf 5 0 3,qla 6 2 5,qf 7 2 3,qla 8 2 7,qla 9 2 2,qc 10 (g "s") [u 6,u 8,u 9],qbi 11 .eql 10 0,qm 12 11,qT 13 12 (of 0 3),qT 14 12 (of 0 13),qT 15 12 (ol 1 14),qT 16 12 (of 2 3),qT 17 12 (of 0 16),qT 18 12 (ol 1 17),qT 19 12 (.mm Po [(.tmp 15),(.tmp 18)]),qT 20 12 (of 0 2),qT 21 12 (ol 1 20),qT 22 12 (ob .leq 19 21),qp 23 12 22,qm 24 23,qT 25 24 (of 0 2),qT 26 24 (ol 1 25),qT 27 24 (of 0 3),qT 28 24 (of 0 27),qT 29 24 (ol 1 28),qT 30 24 (of 2 3),qT 31 24 (of 0 30),qT 32 24 (ol 1 31),qT 33 24 (.mm Pa [(.tmp 29),(.tmp 32)]),qT 34 24 (ob .leq 26 33),qp 35 24 34,qm 36 35,qT 37 36 (of 0 3),qT 38 36 (of 1 37),qT 39 36 (ol 1 38),qT 40 36 (of 2 3),qT 41 36 (of 1 40),qT 42 36 (ol 1 41),qT 43 36 (.mm Po [(.tmp 39),(.tmp 42)]),qT 44 36 (of 1 2),qT 45 36 (ol 1 44),qT 46 36 (ob .leq 43 45),qp 47 36 46,qm 48 47,qT 49 48 (of 1 2),qT 50 48 (ol 1 49),qT 51 48 (of 0 3),qT 52 48 (of 1 51),qT 53 48 (ol 1 52),qT 54 48 (of 2 3),qT 55 48 (of 1 54),qT 56 48 (ol 1 55),qT 57 48 (.mm Pa [(.tmp 53),(.tmp 56)]),qT 58 48 (ob .leq 50 57),qp 59 48 58,qm 4 59]<|.ret⟩
abbrev aJw(g:SN):List ae:=[qf 27 0 2,⟨N1 28,ola 2 27,N2,[0]⟩,qf 29 2 2,⟨N1 30,ola 2 29,N2,[2]⟩,qf 31 0 3,⟨N1 32,ola 2 31,N2,[4]⟩,⟨N1 33,oc (g "s") [u 28,u 30,u 32],N2,[1,0,3,2,5,4]⟩,⟨N1 34,oc (g "S") [u 33],N2,[6,1,0,3,2,5,4]⟩,qf 35 0 2,⟨N1 36,ola 2 35,N2,[8]⟩,qf 37 2 2,⟨N1 38,ola 2 37,N2,[10]⟩,qf 39 2 3,⟨N1 40,ola 2 39,N2,[12]⟩,⟨N1 41,oc (g "s") [u 36,u 38,u 40],N2,[9,8,11,10,13,12,7,6,1,0,3,2,5,4]⟩,⟨N1 42,oc (g "S") [u 41],N2,[14,9,8,11,10,13,12,7,6,1,0,3,2,5,4]⟩,⟨N1 43,ob .mul 34 42,N2,[15,14,9,8,11,10,13,12,7,6,1,0,3,2,5,4]⟩,⟨N1 44,obi .lss 43 0,N2,[16,15,14,9,8,11,10,13,12,7,6,1,0,3,2,5,4]⟩,⟨N1 45,om 44,N2,[17,16,15,14,9,8,11,10,13,12,7,6,1,0,3,2,5,4]⟩,⟨N1 46,of 0 3,N1 (N1 45,Pa),[18,17,16,15,14,9,8,11,10,13,12,7,6,1,0,3,2,5,4]⟩,⟨N1 47,ola 2 46,N1 (N1 45,Pa),[19,18,17,16,15,14,9,8,11,10,13,12,7,6,1,0,3,2,5,4]⟩,⟨N1 48,of 2 3,N1 (N1 45,Pa),[18,17,16,15,14,9,8,11,10,13,12,7,6,1,0,3,2,5,4]⟩,⟨N1 49,ola 2 48,N1 (N1 45,Pa),[21,18,17,16,15,14,9,8,11,10,13,12,7,6,1,0,3,2,5,4]⟩,⟨N1 50,of 0 2,N1 (N1 45,Pa),[18,17,16,15,14,9,8,11,10,13,12,7,6,1,0,3,2,5,4]⟩,⟨N1 51,ola 2 50,N1 (N1 45,Pa),[23,18,17,16,15,14,9,8,11,10,13,12,7,6,1,0,3,2,5,4]⟩,⟨N1 52,oc (g "s") [u 47,u 49,u 51],N1 (N1 45,Pa),[20,19,22,21,24,23,18,17,16,15,14,9,8,11,10,13,12,7,6,1,0,3,2,5,4]⟩,⟨N1 53,oc (g "S") [u 52],N1 (N1 45,Pa),[25,20,19,22,21,24,23,18,17,16,15,14,9,8,11,10,13,12,7,6,1,0,3,2,5,4]⟩,⟨N1 54,of 0 3,N1 (N1 45,Pa),[18,17,16,15,14,9,8,11,10,13,12,7,6,1,0,3,2,5,4]⟩,⟨N1 55,ola 2 54,N1 (N1 45,Pa),[27,18,17,16,15,14,9,8,11,10,13,12,7,6,1,0,3,2,5,4]⟩,⟨N1 56,of 2 3,N1 (N1 45,Pa),[18,17,16,15,14,9,8,11,10,13,12,7,6,1,0,3,2,5,4]⟩,⟨N1 57,ola 2 56,N1 (N1 45,Pa),[29,18,17,16,15,14,9,8,11,10,13,12,7,6,1,0,3,2,5,4]⟩,⟨N1 58,of 2 2,N1 (N1 45,Pa),[18,17,16,15,14,9,8,11,10,13,12,7,6,1,0,3,2,5,4]⟩,⟨N1 59,ola 2 58,N1 (N1 45,Pa),[31,18,17,16,15,14,9,8,11,10,13,12,7,6,1,0,3,2,5,4]⟩,⟨N1 60,oc (g "s") [u 55,u 57,u 59],N1 (N1 45,Pa),[28,27,30,29,32,31,26,25,20,19,22,21,24,23,18,17,16,15,14,9,8,11,10,13,12,7,6,1,0,3,2,5,4]⟩,⟨N1 61,oc (g "S") [u 60],N1 (N1 45,Pa),[33,28,27,30,29,32,31,26,25,20,19,22,21,24,23,18,17,16,15,14,9,8,11,10,13,12,7,6,1,0,3,2,5,4]⟩,⟨N1 62,ob .mul 53 61,N1 (N1 45,Pa),[34,33,28,27,30,29,32,31,26,25,20,19,22,21,24,23,18,17,16,15,14,9,8,11,10,13,12,7,6,1,0,3,2,5,4]⟩,⟨N1 63,obi .lss 62 0,N1 (N1 45,Pa),[35,34,33,28,27,30,29,32,31,26,25,20,19,22,21,24,23,18,17,16,15,14,9,8,11,10,13,12,7,6,1,0,3,2,5,4]⟩,⟨N1 64,op 45 63,N2,[36,35,34,33,28,27,30,29,32,31,26,25,20,19,22,21,24,23,18,17,16,15,14,9,8,11,10,13,12,7,6,1,0,3,2,5,4]⟩,⟨N1 4,om 64,N2,[37,36,35,34,33,28,27,30,29,32,31,26,25,20,19,22,21,24,23,18,17,16,15,14,9,8,11,10,13,12,7,6,1,0,3,2,5,4]⟩]
abbrev yP:LN:=[6,7,9,11,13,25,26,28,30,32]
def aID(g:SN):bw:=⟨65,[],[.tmp 4],qS [qx 2 4 0,qx 3 4 1,qmc 4 (.bool Po)]<|.seq (qS [qf 5 0 2,qla 6 2 5,qla 7 4 3,qc 8 (g "k") [u 6,u 7],qm 9 8,qF 10 9 (of 2 2),qF 11 9 (ola 2 10),qF 12 9 (ola 4 3),qF 13 9 (oc (g "k") [u 11,u 12]),qq 14 (.pick (u 9) uT (u 13)),qm 15 14,qF 16 15 (of 0 3),qF 17 15 (ola 2 16),qF 18 15 (ola 4 2),qF 19 15 (oc (g "k") [u 17,u 18]),qq 20 (.pick (u 15) uT (u 19)),qm 21 20,qF 22 21 (of 2 3),qF 23 21 (ola 2 22),qF 24 21 (ola 4 2),qF 25 21 (oc (g "k") [u 23,u 24]),qq 26 (.pick (u 21) uT (u 25))]<|qC 26 (qS [qmc 4 (.bool Pa)]<|.ret) (.skip))<|.seq (.region Pa (aJw g))<|.ret⟩
abbrev P2(x y:Int):AV:=.agg [vi x,vi y]
abbrev S4(a b c d:Int):AV:=.agg [vi a,vi b,vi c,vi d]
section
variable {A:af}{g:SN}
def aEu(h:Has A g "s" (aBn g))(a b c d e f:Int)(H:LO):∃n:Int,aG A (g "s") [P2 a b,P2 c d,P2 e f] H=N1 (vi n,H,[]):=by
 obtain⟨v,H',wr,h1,rfl,rfl,n,rfl⟩:=h.bp (args:=[P2 a b,P2 c d,P2 e f]) (H:=H) (K:=λv H' wr=>wr=[]/\H'=H/\∃n:Int,v=vi n) (by
  simp only[aBn];simp only[go_sem,↓aB,seval,AJ,AD,AA,AE,AB];exact⟨_,rfl⟩)
 exact⟨n,h1⟩
def aJx(h:Has A g "S" (aEt g))(n:Int)(H:LO):∃m:Int,aG A (g "S") [vi n] H=N1 (vi m,H,[]):=by
 obtain⟨v,H',wr,h1,rfl,rfl,m,rfl⟩:=h.bp (args:=[vi n]) (H:=H) (K:=λv H' wr=>wr=[]/\H'=H/\∃n:Int,v=vi n) (by
  simp only[aEt];simp only[go_sem,↓aB,seval,AJ];exact⟨_,rfl⟩)
 exact⟨m,h1⟩
def aJy(h:Has A g "k" (aJv g))(ht:Has A g "s" (aBn g))(p q a b c d:Int)(H:LO):∃r:Bool,aG A (g "k") [P2 p q,S4 a b c d] H=N1 (.bool r,H,[]):=by
 obtain⟨v,H',wr,h1,rfl,rfl,m,rfl⟩:=h.bp (args:=[P2 p q,S4 a b c d]) (H:=H) (K:=λv H' wr=>wr=[]/\H'=H/\∃r:Bool,v=.bool r) (by
  obtain⟨n,hn⟩:=aEu ht a b c d p q H;simp only[aJv];cases e1:(n==0)with
  |false=>simp only[go_sem,↓aB,seval,hn,e1,BB,AJ,AD,AA,AE,AB];exact⟨_,rfl⟩
  |true=>
  simp only[go_sem,↓aB,seval,hn,e1,Zz,AJ,AD,AA,AE,AB];refine aD (λhb=>?_) (λhb=>?_);rotate_left
  ·rw[beq_eq_false_iff_ne,ne_eq,GB]at hb;simp only[go_sem,↓aB,seval,hb,BB];exact⟨_,rfl⟩
  rw[beq_iff_eq]at hb;simp only[go_sem,↓aB,seval,hb,Zz,AD,AA,AE,AB];refine aD (λhb=>?_) (λhb=>?_);rotate_left
  ·rw[beq_eq_false_iff_ne,ne_eq,GB]at hb;simp only[go_sem,↓aB,seval,hb,BB];exact⟨_,rfl⟩
  rw[beq_iff_eq]at hb;simp only[go_sem,↓aB,seval,hb,Zz,AD,AA,AE,AB];refine aD (λhb=>?_) (λhb=>?_);rotate_left
  ·rw[beq_eq_false_iff_ne,ne_eq,GB]at hb;simp only[go_sem,↓aB,seval,hb,BB];exact⟨_,rfl⟩
  rw[beq_iff_eq]at hb;simp only[go_sem,↓aB,seval,hb,Zz,AD,AA,AE,AB];exact⟨_,rfl⟩)
 exact⟨m,h1⟩
structure PlaneFns(A:af)(g:SN):Prop where
 yf:sn A
 oe:Has A g "s" (aBn g)
 sign:Has A g "S" (aEt g)
 on:Has A g "k" (aJv g)
 meet:Has A g "aS" (aID g)
 seg:Has A g "x" (uJ g)
 zy:Has A g "r" (jO g)
 Gb:Has A g "bN" (eC g)
 app:Has A g "bg" (bU g)
def aQ1(F:PlaneFns A g)(a b c d a' b' c' d':Int)(H:LO):∃r:Bool,aG A (g "aS") [S4 a b c d,S4 a' b' c' d'] H=N1 (.bool r,H,[]):=by
 obtain⟨v,H',wr,h1,rfl,rfl,m,rfl⟩:=F.meet.bp (args:=[S4 a b c d,S4 a' b' c' d']) (H:=H) (K:=λv H' wr=>wr=[]/\H'=H/\∃r:Bool,v=.bool r) (by
  obtain⟨r1,h1⟩:=aJy F.on F.oe a b a' b' c' d' H;obtain⟨r2,h2⟩:=aJy F.on F.oe c d a' b' c' d' H;obtain⟨r3,h3⟩:=aJy F.on F.oe a' b' a b c d H;obtain⟨r4,h4⟩:=aJy F.on F.oe c' d' a b c d H;obtain⟨n1,t1⟩:=aEu F.oe a b c d a' b' H;obtain⟨n2,t2⟩:=aEu F.oe a b c d c' d' H;obtain⟨n3,t3⟩:=aEu F.oe a' b' c' d' a b H;obtain⟨n4,t4⟩:=aEu F.oe a' b' c' d' c d H;obtain⟨s1,g1⟩:=aJx F.sign n1 H;obtain⟨s2,g2⟩:=aJx F.sign n2 H;obtain⟨s3,g3⟩:=aJx F.sign n3 H;obtain⟨s4,g4⟩:=aJx F.sign n4 H;simp only[aID];cases r1 with
  |true=>simp only[go_sem,↓aB,seval,h1,CE,AJ,AD,AA,AE];exact⟨_,rfl⟩
  |false=>
  cases r2 with
  |true=>simp only[go_sem,↓aB,seval,h1,h2,Zz,CE,AJ,AD,AA,AE,AB];exact⟨_,rfl⟩
  |false=>
  cases r3 with
  |true=>simp only[go_sem,↓aB,seval,h1,h2,h3,Zz,CE,AJ,AD,AA,AE,AB];exact⟨_,rfl⟩
  |false=>
  cases r4 with
  |true=>simp only[go_sem,↓aB,seval,h1,h2,h3,h4,Zz,AJ,AD,AA,AE,AB];exact⟨_,rfl⟩
  |false=>
  simp only[go_sem,↓aB,seval,h1,h2,h3,h4,Zz,AJ,AD,AA,AE,AB];refine aY (aq:=yP) (H0:=H) (by simp only[go_sem,seval,cS]) rfT ?_;cases e:decide (AR.wrap (s1*s2)<0)with
  |false=>simp only[go_sem,↓aB,seval,yP,t1,t2,g1,g2,e,Zz,BB,AJ,AD,AA,AE,AB,eH,dG,aL];exact⟨_,rfl⟩
  |true=>
   simp only[go_sem,↓aB,seval,yP,t1,t2,t3,t4,g1,g2,g3,g4,e,Zz,AJ,AD,AA,AE,AB,eH,dG,aL];exact⟨_,rfl⟩)
 exact⟨m,h1⟩
end
abbrev aGM(g:SN):List ae:=[qm 47 3,qm 48 5,⟨N1 49,oi 47 48 4,N2,[0,1]⟩,⟨N1 50,of 2 49,N2,[2,0,1]⟩,⟨N1 51,ola 2 50,N2,[3,2,0,1]⟩,qm 52 3,qm 53 6,⟨N1 54,oi 52 53 4,N2,[5,6]⟩,⟨N1 55,ola 4 54,N2,[7,5,6]⟩,⟨N1 56,oc (g "k") [u 51,u 55],N2,[4,3,2,0,1,8,7,5,6]⟩,⟨N1 57,om 56,N2,[9,4,3,2,0,1,8,7,5,6]⟩,⟨N1 58,om 3,N1 (N1 57,Po),[10,9,4,3,2,0,1,8,7,5,6]⟩,⟨N1 59,om 6,N1 (N1 57,Po),[10,9,4,3,2,0,1,8,7,5,6]⟩,⟨N1 60,oi 58 59 4,N1 (N1 57,Po),[11,12,10,9,4,3,2,0,1,8,7,5,6]⟩,⟨N1 61,of 0 60,N1 (N1 57,Po),[13,11,12,10,9,4,3,2,0,1,8,7,5,6]⟩,⟨N1 62,ola 2 61,N1 (N1 57,Po),[14,13,11,12,10,9,4,3,2,0,1,8,7,5,6]⟩,⟨N1 63,om 3,N1 (N1 57,Po),[10,9,4,3,2,0,1,8,7,5,6]⟩,⟨N1 64,om 5,N1 (N1 57,Po),[10,9,4,3,2,0,1,8,7,5,6]⟩,⟨N1 65,oi 63 64 4,N1 (N1 57,Po),[16,17,10,9,4,3,2,0,1,8,7,5,6]⟩,⟨N1 66,ola 4 65,N1 (N1 57,Po),[18,16,17,10,9,4,3,2,0,1,8,7,5,6]⟩,⟨N1 67,oc (g "k") [u 62,u 66],N1 (N1 57,Po),[15,14,13,11,12,19,18,16,17,10,9,4,3,2,0,1,8,7,5,6]⟩,⟨N1 68,.pick (u 57) uT (u 67),N2,[20,15,14,13,11,12,19,18,16,17,10,9,4,3,2,0,1,8,7,5,6]⟩]
abbrev aAw:LN:=[]
abbrev aGN(g:SN):List ae:=[qm 71 3,qm 72 6,⟨N1 73,oi 71 72 4,N2,[0,1]⟩,⟨N1 74,of 2 73,N2,[2,0,1]⟩,⟨N1 75,ola 2 74,N2,[3,2,0,1]⟩,qm 76 3,qm 77 5,⟨N1 78,oi 76 77 4,N2,[5,6]⟩,⟨N1 79,ola 4 78,N2,[7,5,6]⟩,⟨N1 80,oc (g "k") [u 75,u 79],N2,[4,3,2,0,1,8,7,5,6]⟩,⟨N1 81,om 80,N2,[9,4,3,2,0,1,8,7,5,6]⟩,⟨N1 82,om 3,N1 (N1 81,Po),[10,9,4,3,2,0,1,8,7,5,6]⟩,⟨N1 83,om 5,N1 (N1 81,Po),[10,9,4,3,2,0,1,8,7,5,6]⟩,⟨N1 84,oi 82 83 4,N1 (N1 81,Po),[11,12,10,9,4,3,2,0,1,8,7,5,6]⟩,⟨N1 85,of 0 84,N1 (N1 81,Po),[13,11,12,10,9,4,3,2,0,1,8,7,5,6]⟩,⟨N1 86,ola 2 85,N1 (N1 81,Po),[14,13,11,12,10,9,4,3,2,0,1,8,7,5,6]⟩,⟨N1 87,om 3,N1 (N1 81,Po),[10,9,4,3,2,0,1,8,7,5,6]⟩,⟨N1 88,om 6,N1 (N1 81,Po),[10,9,4,3,2,0,1,8,7,5,6]⟩,⟨N1 89,oi 87 88 4,N1 (N1 81,Po),[16,17,10,9,4,3,2,0,1,8,7,5,6]⟩,⟨N1 90,ola 4 89,N1 (N1 81,Po),[18,16,17,10,9,4,3,2,0,1,8,7,5,6]⟩,⟨N1 91,oc (g "k") [u 86,u 90],N1 (N1 81,Po),[15,14,13,11,12,19,18,16,17,10,9,4,3,2,0,1,8,7,5,6]⟩,⟨N1 92,.pick (u 81) uT (u 91),N2,[20,15,14,13,11,12,19,18,16,17,10,9,4,3,2,0,1,8,7,5,6]⟩]
abbrev aAx:LN:=[]
abbrev aGO(g:SN):List ae:=[qm 94 3,qm 95 5,⟨N1 96,oi 94 95 4,N2,[0,1]⟩,⟨N1 97,ola 4 96,N2,[2,0,1]⟩,qm 98 3,qm 99 6,⟨N1 100,oi 98 99 4,N2,[4,5]⟩,⟨N1 101,ola 4 100,N2,[6,4,5]⟩,⟨N1 102,oc (g "aS") [u 97,u 101],N2,[3,2,0,1,7,6,4,5]⟩,⟨N1 93,om 102,N2,[8,3,2,0,1,7,6,4,5]⟩]
abbrev aAy:LN:=[]
def rC(g:SN):ag:=.block 4 (qS [qm 41 7,qm 42 41,qT 43 42 (om 8),qp 44 42 43,qm 40 44]<|qC 40 (qS [qmc 2 (.bool Po)]<|.ret) (qS [qm 46 7,qm 45 46]<|qC 45 (.seq (.region Pa (aGM g))<|qC 68 (qS [qmc 2 (.bool Po)]<|.ret) (.skip)) (qS [qm 70 8,qm 69 70]<|qC 69 (.seq (.region Pa (aGN g))<|qC 92 (qS [qmc 2 (.bool Po)]<|.ret) (.skip)) (.seq (.region Pa (aGO g))<|qC 93 (qS [qmc 2 (.bool Po)]<|.ret) (.skip)))))
abbrev aGP(g:SN):ag:=qS [qb 21 .lss 20 19]<|.seq (qC 21 (.skip) (.exit 2))<|.seq (.block 3 (qS [qm 22 20,qm 6 22]<|qS [qm 23 6,qbi 24 .add 23 1,qm 25 5,qb 26 .eql 24 25,qm 7 26]<|qS [qf 27 0 1,ql 28 1 27,qbi 29 .eql 28 2,qm 30 29,qT 31 30 (om 6),qT 32 30 (obi .eql 31 0),qp 33 30 32,qm 34 33,qT 35 34 (om 5),qT 36 34 (om 4),qT 37 34 (obi .sub 36 1),qT 38 34 (ob .eql 35 37),qp 39 34 38,qm 8 39]<|rC g))<|.region Po [qbi 103 .add 20 1,qm 20 103]
abbrev aGQ(g:SN):ag:=qS [qb 17 .lss 16 15]<|.seq (qC 17 (.skip) (.exit 0))<|.seq (.block 1 (qS [qm 18 16,qm 5 18]<|qS [qm 19 5,qmc 20 z0]<|.block 2 (.loop (aGP g))))<|.region Po [qbi 104 .add 16 1,qm 16 104]
def tA(g:SN):bw:=⟨105,[],[.tmp 2],qS [qx 1 2 0,qmc 2 (.bool Po)]<|qS [qla 9 2 1,qc 10 (g "x") [u 9],qc 11 (g "bN") [u 10],qm 3 11]<|qS [qm 12 3,qn 13 12,qm 4 13]<|.seq (qS [qm 14 3,qn 15 14,qmc 16 z0]<|.block 0 (.loop (aGQ g)))<|qS [qmc 2 (.bool Pa)]<|.ret⟩
section
variable {A:af}{g:SN}
def bB4(H:LO)(e:bf)(ρ:bN)(H':LO)(wr:LN):Prop:=H'=H/\wr=[]/\(e=.normal∨(e=.ret/\ρ 2=.bool Po))
def aQ2{H:LO}{ρ:bN}:bB4 H .normal ρ H []:=⟨rfl,rfl,.inl rfl⟩
def aNg{H:LO}{ρ:bN}(h:ρ 2=.bool Po):bB4 H .ret ρ H []:=⟨rfl,rfl,.inr ⟨rfl,h⟩⟩
def aCv(F:PlaneFns A g){H:LO}{b:Nat}{rows:List LA}(hr:aEs rows){ρ:bN}{i k:Nat}{f c:Bool}(hi:i<rows.length)(hk:k<rows.length)(h3:ρ 3=.sl Po rows)(h5:ρ 5=vi i)(h6:ρ 6=vi k)(h7:ρ 7=.bool f)(h8:ρ 8=.bool c):wc A 105 ⟨b,[]⟩ (rC g) ρ H [] (bB4 H) ⟨⟩:=by
 obtain⟨a1,a2,a3,a4,ea⟩:=hr _ (AS hi);obtain⟨b1,b2,b3,b4,eb⟩:=hr _ (AS hk);have gi:rows[i]? = N1 [vi a1,vi a2,vi a3,vi a4]:=by rw[AP hi,ea]
 have gk:rows[k]? = N1 [vi b1,vi b2,vi b3,vi b4]:=by rw[AP hk,eb]
 obtain⟨r1,o1⟩:=aJy F.on F.oe a3 a4 b1 b2 b3 b4 H;obtain⟨r2,o2⟩:=aJy F.on F.oe b1 b2 a1 a2 a3 a4 H;obtain⟨r3,o3⟩:=aJy F.on F.oe b3 b4 a1 a2 a3 a4 H;obtain⟨r4,o4⟩:=aJy F.on F.oe a1 a2 b1 b2 b3 b4 H;obtain⟨r5,o5⟩:=aQ1 F a1 a2 a3 a4 b1 b2 b3 b4 H;simp only[rC];cases f with
 |true=>
  cases c with
  |true=>simp only[go_sem,↓aB,seval,h7,h8,Zz];exact aNg rfl
  |false=>
   simp only[go_sem,↓aB,seval,h7,h8,Zz];refine aY (aq:=aAw) (H0:=H) (by simp only[go_sem,seval,cS]) rfT ?_;cases r1<;>cases r2<;>simp only[go_sem,↓aB,seval,aAw,h3,h5,h6,gi,gk,AU,AT,o1,o2,Zz,CE,AD,AA,AE,AB]
   all_goals first | exact aQ2 | exact aNg rfl
 |false=>
  cases c with
  |true=>
   simp only[go_sem,↓aB,seval,h7,h8,BB];refine aY (aq:=aAx) (H0:=H) (by simp only[go_sem,seval,cS]) rfT ?_;cases r3<;>cases r4<;>simp only[go_sem,↓aB,seval,aAx,h3,h5,h6,gi,gk,AU,AT,o3,o4,Zz,CE,AD,AA,AE,AB]
   all_goals first | exact aQ2 | exact aNg rfl
  |false=>
   simp only[go_sem,↓aB,seval,h7,h8,BB];refine aY (aq:=aAy) (H0:=H) (by simp only[go_sem,seval,cS]) rfT ?_;cases r5<;>simp only[go_sem,↓aB,seval,aAy,h3,h5,h6,gi,gk,AU,AT,o5,AD,AA,AE]
   all_goals first | exact aQ2 | exact aNg rfl
def aQ3(F:PlaneFns A g)(h:Has A g "l" (tA g))(s:Shape)(hs:s.points.length<=1000)(H:LO):∃r:Bool,aG A (g "l") [.agg (aH s)] H=N1 (.bool r,H,[]):=by
 obtain⟨v,H',wr,h1,rfl,rfl,m,rfl⟩:=h.bp (args:=[.agg (aH s)]) (H:=H) (K:=λv H' wr=>wr=[]/\H'=H/\∃r:Bool,v=.bool r) (by
  have ot:=lG F.seg s H;obtain⟨r,hr,hc⟩:=aKZ F.yf F.Gb F.app F.zy s hs H;rcases hr with rfl | ⟨rows,rfl,gu,lv⟩
  ·simp only[tA];simp only[aH]at ot ⊢;simp only[go_sem,↓aB,seval,ot,hc,AJ];refine bJ (id:=0) (λi ρ1 H1 wr=>wr=[]/\H1=H/\ρ1 16=vi 0) 0 (λρ1 H1 wr=>wr=[]/\H1=H) cB rfl ⟨rfl,rfl,rfl⟩ ?_ ?_
   ·rintro i ρ1 H1 dc mg ⟨rfl,rfl,e16⟩ hf;have e15:ρ1 15=vi 0:=hf 15 rfl;simp only[go_sem,↓aB,seval,e16,e15,Dd,decide_false]
   rintro ρ' H' ba ⟨rfl,rfl⟩ hf;simp only[go_sem,↓aB,seval];exact⟨_,rfl⟩
  simp only[tA];simp only[aH]at ot ⊢;simp only[go_sem,↓aB,seval,ot,hc,AJ];refine bJ (id:=0) (λi ρ1 H1 wr=>wr=[]/\H1=H/\ρ1 16=vi (i:Nat)) rows.length (λρ1 H1 wr=>wr=[]/\H1=H) cB rfl ⟨rfl,rfl,rfl⟩ ?_ ?_
  ·rintro i ρ1 H1 dc mg ⟨rfl,rfl,e16⟩ hf;have e15:ρ1 15=vi (rows.length:Nat):=hf 15 rfl;have e4:ρ1 4=vi (rows.length:Nat):=hf 4 rfl;have e3:ρ1 3=.sl Po rows:=hf 3 rfl;have e1:ρ1 1=.ep [vi s.kind,.sl Po (s.points.map bL)] 0:=hf 1 rfl;simp only[go_sem,↓aB,seval,e16,e15];refine aD (λhb=>?_) (λhb=>?_)
   ·have hlt:i<rows.length:=by simp at hb;omega
    have dy:=wS (i:=i) omT;simp only[go_sem,↓aB,seval,e16];refine bJ (id:=2) (λk ρ2 H2 wr=>wr=[]/\H2=H1/\ρ2 20=vi (k:Nat)) i (λρ2 H2 wr=>wr=[]/\H2=H1) cB rfl ⟨rfl,rfl,rfl⟩ ?_ ?_
    ·rintro k ρ2 H2 en zp ⟨rfl,rfl,f20⟩ cq;have f19:ρ2 19=vi (i:Nat):=cq 19 rfl;have f5:ρ2 5=vi (i:Nat):=cq 5 rfl;have f4:ρ2 4=vi (rows.length:Nat):=(cq 4 rfl).trans e4;have f3:ρ2 3=.sl Po rows:=(cq 3 rfl).trans e3;have f1:ρ2 1=.ep [vi s.kind,.sl Po (s.points.map bL)] 0:=(cq 1 rfl).trans e1;simp only[go_sem,↓aB,seval,f20,f19];refine aD (λdp=>?_) (λdp=>?_)
     ·have ow:k<i:=by simp at dp;omega
      have gn:=wS (i:=k) omT;have K5:AR.wrap ((rows.length:Int) - 1)=((rows.length:Int) - 1):=wrap_i64 omT omT;cases k2:(s.kind==2)with
      |false=>
       simp only[go_sem,↓aB,seval,f20,f5,f1,gn,k2,BB,AD,AA,AE];refine iF (λe ρ' H' ba hh xb=>?_) (aCv F lv (i:=i) (k:=k) hlt omT (by simp only[go_sem,seval,f3]) (by simp only[go_sem,seval,f5]) (by simp only[go_sem,seval]) (by simp only[go_sem,seval];rfl) (by simp only[go_sem,seval];rfl));obtain⟨rfl,rfl,hh⟩:=hh;rcases hh with rfl | ⟨rfl,r2⟩
       ·have r20:ρ' 20=vi (k:Nat):=by rw[xb 20 rfT];simp only[go_sem,seval,f20]
        simp only[go_sem,↓aB,seval,r20,gn];exact ow
       simp only[go_sem,↓aB,seval,r2];exact⟨_,rfl⟩
      |true=>
      cases kz:((k:Int)==0)with
      |false=>
       simp only[go_sem,↓aB,seval,f20,f5,f1,gn,k2,kz,Zz,BB,AD,AA,AE];refine iF (λe ρ' H' ba hh xb=>?_) (aCv F lv (i:=i) (k:=k) hlt omT (by simp only[go_sem,seval,f3]) (by simp only[go_sem,seval,f5]) (by simp only[go_sem,seval]) (by simp only[go_sem,seval];rfl) (by simp only[go_sem,seval];rfl));obtain⟨rfl,rfl,hh⟩:=hh;rcases hh with rfl | ⟨rfl,r2⟩
       ·have r20:ρ' 20=vi (k:Nat):=by rw[xb 20 rfT];simp only[go_sem,seval,f20]
        simp only[go_sem,↓aB,seval,r20,gn];exact ow
       simp only[go_sem,↓aB,seval,r2];exact⟨_,rfl⟩
      |true=>
       simp only[go_sem,↓aB,seval,f20,f5,f4,f1,gn,K5,k2,kz,Zz,AD,AA,AE];refine iF (λe ρ' H' ba hh xb=>?_) (aCv F lv (i:=i) (k:=k) hlt omT (by simp only[go_sem,seval,f3]) (by simp only[go_sem,seval,f5]) (by simp only[go_sem,seval]) (by simp only[go_sem,seval];rfl) (by simp only[go_sem,seval];rfl));obtain⟨rfl,rfl,hh⟩:=hh;rcases hh with rfl | ⟨rfl,r2⟩
       ·have r20:ρ' 20=vi (k:Nat):=by rw[xb 20 rfT];simp only[go_sem,seval,f20]
        simp only[go_sem,↓aB,seval,r20,gn];exact ow
       simp only[go_sem,↓aB,seval,r2];exact⟨_,rfl⟩
     simp only[go_sem,seval]
    rintro ρ2 H2 en ⟨rfl,rfl⟩ cq;have f16:ρ2 16=vi (i:Nat):=(cq 16 rfl).trans e16;simp only[go_sem,↓aB,seval,f16,dy];exact hlt
   simp only[go_sem,seval]
  rintro ρ' H' ba ⟨rfl,rfl⟩ hf;simp only[go_sem,↓aB,seval];exact⟨_,rfl⟩)
 exact⟨m,h1⟩
end
def rD(g:SN):ag:=.block 0 (.dz (.tmp 31) [32] (qS [qq 4 (.alloc [z0,z0,z0,z0]),qs 4 4 32]<|.block 1 (qS [qf 33 0 4,qla 34 2 33,qf 35 2 4,qla 36 2 35,qq 37 (.bin .eql (.cells [.int,.int]) (u 34) (u 36))]<|qC 37 (qS [qz (.store 1 (u 2) uF)]<|.ret) (.skip))))
def aAz(g:SN):bw:=⟨38,[2,5,32,4],[.cell 2 1 Po],qS [qx 1 2 0,qq 2 (.alloc [(.bool Po)])]<|qS [qq 5 (.jn),qz (.ins (u 5) (ui 0) (ui 1)),qz (.ins (u 5) (ui 1) (ui 2)),qz (.ins (u 5) (ui 2) (ui 3)),qm 6 5,qf 7 0 1,ql 8 1 7,qq 9 (.look z0 (u 6) (u 8) Po),qm 3 9]<|.seq (qS [qm 10 3,qbi 11 .eql 10 0,qm 12 11,qF 13 12 (of 1 1),qF 14 12 (ol 1 13),qF 15 12 (on 14),qF 16 12 (om 3),qF 17 12 (ob .lss 15 16),qq 18 (.pick (u 12) uT (u 17)),qm 19 18,qF 20 19 (of 0 1),qF 21 19 (ol 1 20),qF 22 19 (obi .eql 21 0),qF 23 19 (om 22),qT 24 23 (of 1 1),qT 25 23 (ol 1 24),qT 26 23 (on 25),qT 27 23 (obi .gtr 26 1),qF 28 19 (op 23 27),qq 29 (.pick (u 19) uT (u 28))]<|qC 29 (qS [qz (.store 1 (u 2) uF)]<|.ret) (.skip))<|.seq (qS [qla 30 2 1,qc 31 (g "x") [u 30]]<|rD g)<|qS [qz (.store 1 (u 2) uT)]<|.ret⟩
section
variable {A:af}{g:SN}
abbrev aTc:ag:=qS [qq 4 (.alloc [z0,z0,z0,z0]),qs 4 4 32]<|.block 1 (qS [qf 33 0 4,qla 34 2 33,qf 35 2 4,qla 36 2 35,qq 37 (.bin .eql (.cells [.int,.int]) (u 34) (u 36))]<|qC 37 (qS [qz (.store 1 (u 2) uF)]<|.ret) (.skip))
def ShI(H:LO)(mp:ah)(pend:Option bf)(X:LO):Prop:=∃x3 l,X=H++[.box 1 [.bool Po],mp,.rnd 1 H.length [2,5,32,4] [32] aTc l Po pend,x3]/\l.length=38/\ck l 2=.ptr H.length 1 0
def aV2(hY:sn A)(H:LO)(mp:ah):aAv A (H.length+2) 1 H.length (H.length+4) (λ_=>ShI H mp N2) (ShI H mp (N1 .ret)):=by
 refine⟨λi X hX=>?_,λX hX=>?_,λi X a b c d hi hX=>?_⟩
 ·obtain⟨x3,l,rfl,_⟩:=hX;simp
 ·obtain⟨x3,l,rfl,_⟩:=hX;simp
 obtain⟨x3,l,rfl,hl,h2⟩:=hX;refine mT hY (K:=λe H' wr=>(if e=.normal then ShI H mp N2 H' else ShI H mp (N1 .ret) H')/\∀x∈wr,H.length<=x) (N:=38) (l:=l) (by rw[bX];rfl) rfl cB cB hl ?_;have hs:ck (dH l [32] [.agg [vi a,vi b,vi c,vi d]])=upd (ck l) 32 (.agg [vi a,vi b,vi c,vi d]):=nG omT;rw[hs];generalize hρ:ck l=ρ at *;simp only[DO,CW];have fq:∀{w2:LN} {n:Nat},(∀x∈w2,H.length<=x)->∀x∈FM H.length n++(H.length+2)::w2,H.length<=x:=λ{w2 n} h x hx=>by
  rcases AY.1 hx with hx | hx
  ·rw[FC]at hx;exact hx.1
  rcases BD.1 hx with rfl | hx
  ·omega
  exact h x hx
 have I5:∃r:Bool,kJ .eql (.cells [.int,.int]) (.agg [vi a,vi b]) (.agg [vi c,vi d])=N1 (.bool r):=⟨a==c&&b==d,by
  have e1:aCO .int (vi a) (vi c)=N1 (a==c):=rfl;have e2:aCO .int (vi b) (vi d)=N1 (b==d):=rfl;simp[kJ,tN,lP,e1,e2];cases (a==c)<;>cases (b==d)<;>rfl⟩
 obtain⟨r,I5⟩:=I5;simp only[go_sem,↓aB,seval];refine⟨_,_,_,_,_,rfl, ?_⟩;cases r with
 |false=>simp only[go_sem,↓aB,seval,I5];exact⟨_,_,_,_,_,rfl,⟨_,l,rfl,hl,by rw[hρ];exact h2⟩,fq siT⟩
 |true=>simp only[go_sem,↓aB,seval,h2,I5,AD,AE,AB];exact⟨_,_,_,_,_,rfl,⟨_,l,rfl,hl,by rw[hρ];exact h2⟩,fq siT⟩
def aGR(F:PlaneFns A g)(s:Shape)(hs:s.points.length<=1000){H:LO}{mp:ah}{ρ:bN}{Q:bf->bN->LO->LN->Prop}(Lx:ρ 31=.fn (g "r") [] [.ep [vi s.kind,.sl Po (s.points.map bL)] 0])(h2:ρ 2=.ptr H.length 1 0) (hQ:∀e x3,e=.normal∨e=.ret->Q e ρ (H++[.box 1 [.bool Po],mp,.gone 1,x3]) []):wc A 38 ⟨H.length,[2,5,32,4]⟩ (rD g) ρ (H++[.box 1 [.bool Po],mp,.gone 0,.gone 0]) [] Q ⟨⟩:=by
 simp only[rD];simp only[go_sem,seval];refine wC (id:=H.length+2) (v:=1) (X:=λl=>H++[.box 1 [.bool Po],mp,.rnd 1 H.length [2,5,32,4] [32] aTc l Po N2,.gone 0]) Lx rfT siT (λ_=>rfT) (by unfold bH;rw[bX];rfl) (λl=>by rw[sV];rfl) ?_;intro l hl he;obtain⟨H2,en,k1,k2,k3⟩:=wD F.zy (aV2 F.yf H mp) s.kind s.points hs _ (⟨.gone 0,l,rfl,hl,by rw[he];exact h2⟩:ShI H mp N2 _);have hw:bE H.length [] ((H.length+2)::en)=[]:=kH (λx hx=>by rcases BD.1 hx with rfl | hx;exact EG _ _;exact k3 x hx);rcases k2 with⟨i,hi,x3,l2,rfl,iq,_⟩ | ⟨x3,l2,rfl,iq,_⟩
 ·refine⟨_,_,_,_,_,_,_,_,N2,k1,by rw[bX];rfl, ?_⟩;rw[hw,eS];show pP 0 _ _ .normal _ _ _;simp only[go_sem,seval];exact hQ .normal x3 (.inl rfl)
 refine⟨_,_,_,_,_,_,_,_,N1 .ret,k1,by rw[bX];rfl, ?_⟩;rw[hw,eS];show pP 0 _ _ .ret _ _ _;simp only[go_sem,seval];exact hQ .ret x3 (.inr rfl)
def aQ4(F:PlaneFns A g)(h:Has A g "m" (aAz g))(s:Shape)(hs:s.points.length<=1000)(hk:0<=s.kind/\s.kind<=2)(H:LO):∃r:Bool,aG A (g "m") [.agg (aH s)] H=N1 (.bool r,H,[]):=by
 obtain⟨v,H',wr,h1,rfl,rfl,m,rfl⟩:=h.bp (args:=[.agg (aH s)]) (H:=H) (K:=λv H' wr=>wr=[]/\H'=H/\∃r:Bool,v=.bool r) (by
  have ot:=λH=>lG F.seg s H;simp only[aAz];simp only[aH]at ot ⊢;obtain⟨Rj,z8⟩:=hk;have Ly:s.kind=0∨s.kind=1∨s.kind=2:=omT;rcases Ly with hk | hk | hk
  ·rw[hk]at ot ⊢;cases e1:decide ((s.points.length:Int)<1)with
   |true=>simp only[go_sem,↓aB,seval,AF,e1];exact⟨_,rfl⟩
   |false=>
    simp only[go_sem,↓aB,seval,AF,e1];refine aD (λhb=>?_) (λhb=>?_)
    ·simp only[go_sem,↓aB,seval];exact⟨_,rfl⟩
    simp only[go_sem,↓aB,seval,ot];refine aGR F s hs (by rw[hk];rfl) rfT ?_;intro e x3 he;rcases he with rfl | rfl
    ·simp only[go_sem,↓aB,seval];exact⟨_,rfl⟩
    simp only[go_sem,↓aB,seval];exact⟨_,rfl⟩
  ·rw[hk]at ot ⊢;cases e1:decide ((s.points.length:Int)<2)with
   |true=>simp only[go_sem,↓aB,seval,AF,e1];exact⟨_,rfl⟩
   |false=>
    simp only[go_sem,↓aB,seval,ot,AF,e1];refine aGR F s hs (by rw[hk];rfl) rfT ?_;intro e x3 he;rcases he with rfl | rfl
    ·simp only[go_sem,↓aB,seval];exact⟨_,rfl⟩
    simp only[go_sem,↓aB,seval];exact⟨_,rfl⟩
  rw[hk]at ot ⊢;cases e1:decide ((s.points.length:Int)<3)with
  |true=>simp only[go_sem,↓aB,seval,AF,e1];exact⟨_,rfl⟩
  |false=>
   simp only[go_sem,↓aB,seval,ot,AF,e1];refine aGR F s hs (by rw[hk];rfl) rfT ?_;intro e x3 he;rcases he with rfl | rfl
   ·simp only[go_sem,↓aB,seval];exact⟨_,rfl⟩
   simp only[go_sem,↓aB,seval];exact⟨_,rfl⟩)
 exact⟨m,h1⟩
end
def aDh(g:SN):bw:=⟨8,[],[.tmp 3],qS [qmc 3 (.bool Po)]<|qS [qf 4 2 1,ql 5 1 4,qm 6 0,qc 7 (g "dc") [u 5,u 6],qm 3 7]<|.ret⟩
def aDi(g:SN):bw:=⟨26,[],[.tmp 3],qS [qx 2 2 0,qmc 3 (.bool Po)]<|qS [qf 4 0 2,ql 5 1 4,qbi 6 .lss 5 0,qm 7 6,qF 8 7 (of 0 2),qF 9 7 (ol 1 8),qF 10 7 (of 0 1),qF 11 7 (ol 1 10),qF 12 7 (ob .gtr 9 11),qq 13 (.pick (u 7) uT (u 12)),qm 14 13,qF 15 14 (of 1 2),qF 16 14 (ol 1 15),qF 17 14 (obi .lss 16 0),qq 18 (.pick (u 14) uT (u 17)),qm 19 18,qF 20 19 (of 1 2),qF 21 19 (ol 1 20),qF 22 19 (of 1 1),qF 23 19 (ol 1 22),qF 24 19 (ob .gtr 21 23),qq 25 (.pick (u 19) uT (u 24)),qm 3 25]<|.ret⟩
def aDj(g:SN):bw:=⟨7,[],[.tmp 2],qS [qx 1 2 0,qmc 2 (.bool Po)]<|qS [qf 3 1 1,ql 4 1 3,qn 5 4,qbi 6 .gtr 5 12,qm 2 6]<|.ret⟩
def aDk(g:SN):bw:=⟨6,[],[.tmp 2],qS [qx 1 2 0,qmc 2 (.bool Po)]<|qS [qla 3 2 1,qc 4 (g "m") [u 3],qq 5 (.un .not (u 4)),qm 2 5]<|.ret⟩
def aDl(g:SN):bw:=⟨8,[],[.tmp 3],qS [qx 2 2 0,qmc 3 (.bool Po)]<|qS [qf 4 1 2,ql 5 1 4,ql 6 1 1,qc 7 (g "bh") [u 5,u 6],qm 3 7]<|.ret⟩
def aDm(g:SN):bw:=⟨6,[],[.tmp 2],qS [qx 1 2 0,qmc 2 (.bool Po)]<|qS [qla 3 2 1,qc 4 (g "l") [u 3],qq 5 (.un .not (u 4)),qm 2 5]<|.ret⟩
def aBW(g:SN):ag:=.block 0 (qS [qf 8 0 1,ql 9 1 8,qf 10 1 1,ql 11 1 10,qq 12 (.mm Po [(.tmp 9),(.tmp 11)]),qbi 13 .lss 12 0,qm 14 13,qF 15 14 (of 0 1),qF 16 14 (ol 1 15),qF 17 14 (of 1 1),qF 18 14 (ol 1 17),qF 19 14 (.mm Pa [(.tmp 16),(.tmp 18)]),qF 20 14 (obi .gtr 19 1000),qq 21 (.pick (u 14) uT (u 20)),qm 22 21,qF 23 22 (of 2 1),qF 24 22 (ol 1 23),qF 25 22 (on 24),qF 26 22 (obi .gtr 25 8),qq 27 (.pick (u 22) uT (u 26)),qm 28 27,qF 29 28 (om 3),qF 30 28 (.dm (u 29) [(.const (.fn (g "bw") [] []))]),qq 31 (.pick (u 28) uT (u 30)),qm 7 31]<|qC 7 (qS [qmc 2 (vi 4)]<|.ret) (qS [qm 33 3,qq 34 (.dm (u 33) [(.const (.fn (g "bx") [] []))]),qm 32 34]<|qC 32 (qS [qmc 2 (vi 1)]<|.ret) (qS [qm 36 3,qq 37 (.mkf (g "by") [] [(.tmp 4)]),qq 38 (.dm (u 36) [(.tmp 37)]),qm 35 38]<|qC 35 (qS [qmc 2 (vi 5)]<|.ret) (qS [qm 40 3,qq 41 (.dm (u 40) [(.const (.fn (g "bz") [] []))]),qm 39 41]<|qC 39 (qS [qmc 2 (vi 2)]<|.ret) (.skip)))))
def aGS(g:SN):bw:=⟨42,[4],[.tmp 2],qS [qx 1 3 0,qmc 2 z0]<|qS [qq 5 (.mkf (g "cb") [] [(.tmp 1)]),qm 3 5]<|qS [qq 6 (.mkf (g "R") [] [(.tmp 1)]),qq 4 (.alloc [.bx]),qs 1 4 6]<|.seq (aBW g)<|qS [qmc 2 z0]<|.ret⟩
section
variable {A:af}{g:SN}{q4 q6:Shape->Bool}
def aAA(A:af)(f k:Nat)(agg:Bool):Prop:=∃fi,(A.fn f=N1 (aLV fi)/\A.bq f=N2)/\(A.fn fi=N1 (aKx k agg)/\A.bq fi=N2)
def aBX{α:Type}{f k:Nat}{agg:Bool}(h:aAA A f k agg){enc:α->LA}(he:mv k agg enc){ay:LA}(hc:jc ay){l:List α}(hl:aRL l){H:LO}{f1:Nat} (hs:∀a∈l,∃r:Bool,aG A f1 (asV agg (enc a)::ay) H=N1 (.bool r,H,[])):∃r:Bool,aG A f [.sl Po (l.map enc),.fn f1 [] ay] H=N1 (.bool r,H,[])/\((∀a∈l,aG A f1 (asV agg (enc a)::ay) H=N1 (.bool Po,H,[]))->r=Po):=by
 obtain⟨fi,⟨a1,a2⟩,b1,b2⟩:=h;refine⟨_,aGr (q:=λa=>match aG A f1 (asV agg (enc a)::ay) H with | some (.bool b,_,_)=>b | _=>Po) a1 a2 hc (aDa b1 b2 he hc hl λa ha=>?_),λhf=>?_⟩
 ·obtain⟨r,hr⟩:=hs a ha;dsimp only;rw[hr]
 rw[KH];intro a ha;rw[hf a ha];exact Bool.false_ne_true
abbrev bEZ(A:af)(f:Nat)(q:Shape->Bool):Prop:=∀(s:Shape),s.points.length<=1000->0<=s.kind/\s.kind<=2->∀H:LO,aG A f [.agg (aH s)] H=N1 (.bool (q s),H,[])
structure ij(A:af)(g:SN)(q4 q6:Shape->Bool):Prop where
 shaped:bEZ A (g "m") q4
 simple:bEZ A (g "l") q6
 Bb:aAA A (g "dc") 2 Pa
 Bc:aAA A (g "bh") 2 Pa
 v1:Has A g "cb" (aDh g)
 v2:Has A g "R" (aDi g)
 v3:Has A g "bw" (aDj g)
 v4:Has A g "bx" (aDk g)
 v5:Has A g "by" (aDl g)
 v6:Has A g "bz" (aDm g)
 valid:Has A g "u" (aGS g)
abbrev aWo(w h:Int)(l:List Shape):AV:=.ep [vi w,vi h,.sl Po (l.map aH)] 0
def aSb(F:ij A g q4 q6){w hh:Int}{l:List Shape}(hl:l.length<=1000){f1:Nat}{ay:LA}(hc:jc ay){H:LO}(hs:∀s∈l,∃r:Bool,aG A f1 (.agg (aH s)::ay) H=N1 (.bool r,H,[])):∃r:Bool,aG A (g "cb") [.fn f1 [] ay,aWo w hh l] H=N1 (.bool r,H,[])/\((∀s∈l,aG A f1 (.agg (aH s)::ay) H=N1 (.bool Po,H,[]))->r=Po):=by obtain⟨r,hr,hf⟩:=aBX F.Bb aKE hc (by show l.length<_;omega) hs;refine⟨r,F.v1.call ?_,hf⟩;simp only[aDh];simp only[go_sem,↓aB,seval,AB,AD,AA,AE,hr,AJ]
def bB5(F:ij A g q4 q6){w hh:Int}{l:List Shape}(p:Int×Int)(H:LO):aG A (g "R") [.agg (bL p),aWo w hh l] H=N1 (.bool (decide (p.1<0) || (decide (p.1>w) || (decide (p.2<0) || decide (p.2>hh)))),H,[]):=by refine F.v2.call ?_;simp only[aDi];cases e1:decide (p.1<0)<;>cases e2:decide (p.1>w)<;>cases e3:decide (p.2<0)<;>simp only[go_sem,↓aB,seval,bL,e1,e2,e3,EP,II,Zz,CE,AB,AD,AA,AE,AJ]
def bB6(F:ij A g q4 q6)(s:Shape)(H:LO):aG A (g "bw") [.agg (aH s)] H=N1 (.bool (decide ((s.points.length:Int)>12)),H,[]):=by refine F.v3.call ?_;simp only[aDj];simp only[go_sem,↓aB,seval,aH,AF,AB,AD,AA,AE,AJ]
def bB7(F:ij A g q4 q6)(s:Shape)(hs:s.points.length<=1000)(hk:0<=s.kind/\s.kind<=2)(H:LO):aG A (g "bx") [.agg (aH s)] H=N1 (.bool (!q4 s),H,[]):=by have hr:=F.shaped s hs hk H;refine F.v4.call ?_;simp only[aDk];simp only[aH]at hr ⊢;simp only[go_sem,↓aB,seval,hr,AJ]
def bB8(F:ij A g q4 q6)(s:Shape)(hs:s.points.length<=1000)(hk:0<=s.kind/\s.kind<=2)(H:LO):aG A (g "bz") [.agg (aH s)] H=N1 (.bool (!q6 s),H,[]):=by have hr:=F.simple s hs hk H;refine F.v6.call ?_;simp only[aDm];simp only[aH]at hr ⊢;simp only[go_sem,↓aB,seval,hr,AJ]
def bB9(F:ij A g q4 q6){w hh:Int}{l:List Shape}(s:Shape)(hs:s.points.length<=1000){X:LO}{o:Nat}(ho:X[o]? = N1 (.box 1 [.fn (g "R") [] [aWo w hh l]])):∃r:Bool,aG A (g "by") [.agg (aH s),.ptr o 1 0] X=N1 (.bool r,X,[])/\((∀p∈s.points,(0<=p.1/\p.1<=w)/\0<=p.2/\p.2<=hh)->r=Po):=by
 obtain⟨r,hr,hf⟩:=aBX (H:=X) F.Bc aGu (cQ.ep [vi w,vi hh,.sl Po (l.map aH)] 0) (by show s.points.length<_;omega) (λp _=>⟨_,bB5 F (w:=w) (hh:=hh) (l:=l) p _⟩);refine⟨r,F.v5.call ?_,λh=>hf λp hp=>?_⟩
 ·simp only[aDl];simp only[go_sem,↓aB,seval,aH,AJ,AB,AD,AA,AE,ho,hr]
 have:=h p hp;show aG A (g "R") [.agg (bL p),aWo w hh l] X=_;rw[bB5 F p X];have:(decide (p.1<0) || (decide (p.1>w) || (decide (p.2<0) || decide (p.2>hh))))=false:=soT;rw[this]
abbrev aDn(w h:Int)(l:List Shape):LA:=[vi w,vi h,.sl Po (l.map aH)]
def aJz(F:ij A g q4 q6)(w hh:Int)(l:List Shape)(hw:1<=w/\w<=1000)(Cw:1<=hh/\hh<=1000)(hl:l.length<=8)(hs:∀s∈l,vQ s=Pa)(H:LO):∃e:Int,aG A (g "u") [.agg (aDn w hh l)] H=N1 (vi e,H,[])/\((∀s∈l,(q4 s=Pa/\q6 s=Pa)/\s.points.length<=12/\∀p∈s.points,(0<=p.1/\p.1<=w)/\0<=p.2/\p.2<=hh)->e=0):=by
 have l9:∀s∈l,s.points.length<=1000/\0<=s.kind/\s.kind<=2:=λs hm=>by
  have q1:=hs s hm;unfold vQ at q1;simp only[AI,eG]at q1;omega
 obtain⟨v,H',wr,h1,rfl,rfl,m,rfl,h2⟩:=F.valid.bp (args:=[.agg (aDn w hh l)]) (H:=H) (K:=λv H' wr=>wr=[]/\H'=H/\∃r:Int,v=vi r/\((∀s∈l,(q4 s=Pa/\q6 s=Pa)/\s.points.length<=12/\∀p∈s.points,(0<=p.1/\p.1<=w)/\0<=p.2/\p.2<=hh)->r=0)) (by
  generalize hX:H++[.box 1 [.fn (g "R") [] [aWo w hh l]]]=X;have ho:X[H.length]? = N1 (.box 1 [.fn (g "R") [] [aWo w hh l]]):=by rw[<- hX,aBd];rfl
  obtain⟨r3,g3,z3⟩:=aSb F (w:=w) (hh:=hh) (l:=l) omT cQ (H:=X) (f1:=g "bw") (λs hm=>⟨_,bB6 F s X⟩);obtain⟨r4,g4,z4⟩:=aSb F (w:=w) (hh:=hh) (l:=l) omT cQ (H:=X) (f1:=g "bx") (λs hm=>⟨_,bB7 F s (l9 s hm).1 (l9 s hm).2 X⟩);obtain⟨r5,g5,z5⟩:=aSb F (w:=w) (hh:=hh) (l:=l) omT (cQ.ptr H.length 1 0) (H:=X) (f1:=g "by") (λs hm=>by obtain⟨r,h,_⟩:=bB9 F s (l9 s hm).1 ho;exact⟨r,h⟩);obtain⟨r6,g6,z6⟩:=aSb F (w:=w) (hh:=hh) (l:=l) omT cQ (H:=X) (f1:=g "bz") (λs hm=>⟨_,bB8 F s (l9 s hm).1 (l9 s hm).2 X⟩);have hz:(∀s∈l,(q4 s=Pa/\q6 s=Pa)/\s.points.length<=12/\∀p∈s.points,(0<=p.1/\p.1<=w)/\0<=p.2/\p.2<=hh)->r3=Po/\r4=Po/\r5=Po/\r6=false:=λhg=>by
   refine⟨z3 λs hm=>?_,z4 λs hm=>?_,z5 λs hm=>?_,z6 λs hm=>?_⟩
   ·rw[bB6 F s X];have:decide ((s.points.length:Int)>12)=false:=by have:=(hg s hm).2.1;simp;omega
    rw[this]
   ·rw[bB7 F s (l9 s hm).1 (l9 s hm).2 X,(hg s hm).1.1];rfl
   ·obtain⟨r,h,h0⟩:=bB9 F s (l9 s hm).1 ho;rw[h,h0 (hg s hm).2.2]
   rw[bB8 F s (l9 s hm).1 (l9 s hm).2 X,(hg s hm).1.2];rfl
  subst hX;simp only[aGS];simp only[go_sem,↓aB,seval];simp only[aBW];have c1:decide ((if hh<w then hh else w)<0)=false:=by rw[decide_eq_false_iff_not];split<;>omega
  have c2:decide ((if w<hh then hh else w)>1000)=false:=by rw[decide_eq_false_iff_not];split<;>omega
  have c3:decide ((l.length:Int)>8)=false:=by rw[decide_eq_false_iff_not];omega
  cases r3 with
  |true=>simp only[go_sem,↓aB,seval,c1,c2,c3,g3,AF,AB,AD,AA,AE,Zz];exact⟨_,rfl,λh=>Zw (hz h).1 deT⟩
  |false=>
  cases r4 with
  |true=>simp only[go_sem,↓aB,seval,c1,c2,c3,g3,g4,AF,AB,AD,AA,AE,Zz];exact⟨_,rfl,λh=>Zw (hz h).2.1 deT⟩
  |false=>
  cases r5 with
  |true=>simp only[go_sem,↓aB,seval,c1,c2,c3,g3,g4,g5,AF,AB,AD,AA,AE,Zz];exact⟨_,rfl,λh=>Zw (hz h).2.2.1 deT⟩
  |false=>
  cases r6 with
  |true=>simp only[go_sem,↓aB,seval,c1,c2,c3,g3,g4,g5,g6,AF,AB,AD,AA,AE,Zz];exact⟨_,rfl,λh=>Zw (hz h).2.2.2 deT⟩
  |false=>
   simp only[go_sem,↓aB,seval,c1,c2,c3,g3,g4,g5,g6,AF,AB,AD,AA,AE,Zz];exact⟨_,rfl,λ_=>rfl⟩)
 exact⟨m,h1,h2⟩
end
abbrev aAB(g:SN):List ae:=[qf 10 2 4,⟨N1 11,of 0 10,N2,[0]⟩,⟨N1 12,ol 1 11,N2,[1,0]⟩,qf 13 0 4,⟨N1 14,of 0 13,N2,[3]⟩,⟨N1 15,ol 1 14,N2,[4,3]⟩,⟨N1 16,ob .sub 12 15,N2,[2,1,0,5,4,3]⟩,qf 17 2 4,⟨N1 18,of 1 17,N2,[7]⟩,⟨N1 19,ol 1 18,N2,[8,7]⟩,qf 20 0 4,⟨N1 21,of 1 20,N2,[10]⟩,⟨N1 22,ol 1 21,N2,[11,10]⟩,⟨N1 23,ob .sub 19 22,N2,[9,8,7,12,11,10]⟩,⟨N1 5,om 16,N2,[6,2,1,0,5,4,3]⟩,⟨N1 6,om 23,N2,[13,9,8,7,12,11,10,14,6,2,1,0,5,4,3]⟩]
abbrev aAC:LN:=[]
def aAD(g:SN):ag:=.block 0 (.dz (.tmp 8) [9] (qS [qq 4 (.alloc [z0,z0,z0,z0]),qs 4 4 9]<|.block 1 (.seq (.region Pa (aAB g))<|.region Po [ql 24 1 3,qm 25 5,qm 26 5,qq 27 (.un .neg (u 26)),qm 28 6,qm 29 6,qq 30 (.un .neg (u 29)),qq 31 (.mm Pa [(.tmp 25),(.tmp 27),(.tmp 28),(.tmp 30)]),qb 32 .add 24 31,qs 1 3 32])))
def tC(g:SN):bw:=⟨34,[1,3,9,4],[.tmp 2],qS [qx 1 2 0,qmc 2 z0]<|qS [qq 3 (.alloc [z0]),qz (.store 1 (u 3) (ui 0))]<|.seq (qS [qla 7 2 1,qc 8 (g "x") [u 7]]<|aAD g)<|qS [ql 33 1 3,qm 2 33]<|.ret⟩
abbrev aGT(g:SN):List ae:=[qla 5 2 2,⟨N1 6,oc (g "ai") [u 5],N2,[0]⟩,qla 7 2 3,⟨N1 8,oc (g "ai") [u 7],N2,[2,1,0]⟩,⟨N1 9,ob .gtr 6 8,N2,yq3⟩,⟨N1 4,om 9,N2,yq4⟩]
abbrev aAE:LN:=[1,2]
def aAF(g:SN):bw:=⟨10,[],[.tmp 4],qS [qx 2 2 0,qx 3 2 1,qmc 4 (.bool Po)]<|.seq (.region Pa (aGT g))<|.ret⟩
abbrev aTd(g:SN):ag:=qS [qq 4 (.alloc [z0,z0,z0,z0]),qs 4 4 9]<|.block 1 (.seq (.region Pa (aAB g))<|.region Po [ql 24 1 3,qm 25 5,qm 26 5,qq 27 (.un .neg (u 26)),qm 28 6,qm 29 6,qq 30 (.un .neg (u 29)),qq 31 (.mm Pa [(.tmp 25),(.tmp 27),(.tmp 28),(.tmp 30)]),qb 32 .add 24 31,qs 1 3 32])
section
variable {A:af}{g:SN}
def LnI(g:SN)(H:LO)(x0:ah)(X:LO):Prop:=∃(n:Int) (x3:ah) (l:LA),X=H++[x0,.box 1 [vi n],.rnd 1 H.length [1,3,9,4] [9] (aTd g) l Po N2,x3]/\l.length=34/\ck l 3=.ptr (H.length+1) 1 0
def aV3(hY:sn A)(H:LO)(x0:ah):aAv A (H.length+2) 1 H.length (H.length+4) (λ_=>LnI g H x0) (λ_=>False):=by
 refine⟨λi X hX=>?_,λX hX=>hX.elim,λi X a b c d hi hX=>?_⟩
 ·obtain⟨n,x3,l,rfl,_⟩:=hX;simp
 obtain⟨n,x3,l,rfl,hl,h3⟩:=hX;refine mT hY (K:=λe H' wr=>(if e=.normal then LnI g H x0 H' else False)/\∀x∈wr,H.length<=x) (N:=34) (l:=l) (by rw[bX];rfl) rfl cB cB hl ?_;have hs:ck (dH l [9] [.agg [vi a,vi b,vi c,vi d]])=upd (ck l) 9 (.agg [vi a,vi b,vi c,vi d]):=nG omT;rw[hs];generalize hρ:ck l=ρ at *;simp only[DO,CW];have fq:∀{w2:LN} {n:Nat},(∀x∈w2,H.length<=x)->∀x∈FM H.length n++(H.length+2)::w2,H.length<=x:=λ{w2 n} h x hx=>by
  rcases AY.1 hx with hx | hx
  ·rw[FC]at hx;exact hx.1
  rcases BD.1 hx with rfl | hx
  ·omega
  exact h x hx
 simp only[go_sem,↓aB,seval];refine⟨_,_,_,_,_,rfl, ?_⟩;refine aY (aq:=aAC) rfT rfT ?_;simp only[go_sem,↓aB,seval,aAC,h3,AD,AA,AE,AB];exact⟨_,_,_,_,_,rfl,⟨_,_,l,rfl,hl,by rw[hρ];exact h3⟩,fq siT⟩
def aL0(F:PlaneFns A g)(h:Has A g "ai" (tC g))(s:Shape)(hs:s.points.length<=1000)(H:LO):∃n:Int,aG A (g "ai") [.agg (aH s)] H=N1 (vi n,H,[]):=by
 obtain⟨v,H',wr,h1,rfl,rfl,m,rfl⟩:=h.bp (args:=[.agg (aH s)]) (H:=H) (K:=λv H' wr=>wr=[]/\H'=H/\∃n:Int,v=vi n) (by
  have ot:=λH=>lG F.seg s H;simp only[tC];simp only[aH]at ot ⊢;simp only[go_sem,↓aB,seval,ot,AD,AA,AE];simp only[aAD];simp only[go_sem,seval];generalize ah.box 1 [vi s.kind,AV.sl Po (s.points.map bL)]=x0;refine wC (id:=H.length+2) (v:=1) (X:=λl=>H++[x0,.box 1 [vi 0],.rnd 1 H.length [1,3,9,4] [9] (aTd g) l Po N2,.gone 0]) rfT rfT siT (λ_=>rfT) (by unfold bH;rw[bX];rfl) (λl=>by rw[sV];rfl) ?_;intro l hl he;obtain⟨H2,en,k1,k2,k3⟩:=wD F.zy (aV3 (g:=g) F.yf H x0) s.kind s.points hs _ (⟨0,.gone 0,l,rfl,hl,by rw[he];rfl⟩:LnI g H x0 _);have hw:bE H.length [] ((H.length+2)::en)=[]:=kH (λx hx=>by rcases BD.1 hx with rfl | hx;exact EG _ _;exact k3 x hx);rcases k2 with⟨i,hi,n,x3,l2,rfl,iq,_⟩ | k2
  ·refine⟨_,_,_,_,_,_,_,_,N2,k1,by rw[bX];rfl, ?_⟩;rw[hw,eS];show pP 0 _ _ .normal _ _ _;simp only[go_sem,↓aB,seval,AD,AA,AE];exact⟨_,rfl⟩
  exact k2.elim)
 exact⟨m,h1⟩
def aQ5(F:PlaneFns A g)(h:Has A g "ai" (tC g))(h2:Has A g "F" (aAF g))(s t:Shape)(hs:s.points.length<=1000)(ht:t.points.length<=1000)(H:LO):∃r:Bool,aG A (g "F") [.agg (aH s),.agg (aH t)] H=N1 (.bool r,H,[]):=by obtain⟨n,hn⟩:=aL0 F h s hs H;obtain⟨m,hm⟩:=aL0 F h t ht H;refine⟨decide (n>m),h2.call ?_⟩;simp only[aAF];simp only[aH]at hn hm ⊢;simp only[go_sem,↓aB,seval];refine aY (aq:=aAE) rfT rfT ?_;simp only[go_sem,↓aB,seval,aAE,hn,hm,eH,dG,aL,AD,AA,AE]
end
def rE(g:SN):ag:=.block 2 (qS [qla 11 2 2,qla 12 4 6,qc 13 (g "k") [u 11,u 12],qm 10 13]<|qC 10 (qS [qz (.store 1 (u 4) uF)]<|.ret) (qS [qf 15 0 6,qf 16 1 15,ql 17 1 16,qf 18 1 2,ql 19 1 18,qb 20 .leq 17 19,qm 21 20,qT 22 21 (of 2 6),qT 23 21 (of 1 22),qT 24 21 (ol 1 23),qT 25 21 (of 1 2),qT 26 21 (ol 1 25),qT 27 21 (ob .gtr 24 26),qp 28 21 27,qm 29 28,qT 30 29 (of 0 6),qT 31 29 (ola 2 30),qT 32 29 (of 2 6),qT 33 29 (ola 2 32),qT 34 29 (ola 2 2),qT 35 29 (oc (g "s") [u 31,u 33,u 34]),qT 36 29 (obi .gtr 35 0),qp 37 29 36,qm 14 37]<|qC 14 (qR [ql 38 1 5,qbi 39 .add 38 1,qs 1 5 39]) (qS [qf 41 0 6,qf 42 1 41,ql 43 1 42,qf 44 1 2,ql 45 1 44,qb 46 .gtr 43 45,qm 47 46,qT 48 47 (of 2 6),qT 49 47 (of 1 48),qT 50 47 (ol 1 49),qT 51 47 (of 1 2),qT 52 47 (ol 1 51),qT 53 47 (ob .leq 50 52),qp 54 47 53,qm 55 54,qT 56 55 (of 0 6),qT 57 55 (ola 2 56),qT 58 55 (of 2 6),qT 59 55 (ola 2 58),qT 60 55 (ola 2 2),qT 61 55 (oc (g "s") [u 57,u 59,u 60]),qT 62 55 (obi .lss 61 0),qp 63 55 62,qm 40 63]<|qC 40 (qR [ql 64 1 5,qbi 65 .sub 64 1,qs 1 5 65]) (.skip))))
def aAG(g:SN):ag:=.block 0 (.dz (.tmp 8) [9] (qS [qq 6 (.alloc [z0,z0,z0,z0]),qs 4 6 9]<|.block 1 (rE g)))
def oY(g:SN):bw:=⟨68,[4,5,9,6],[.cell 4 1 Po],qS [qx 2 2 0,qx 3 2 1,qq 4 (.alloc [(.bool Po)])]<|qS [qq 5 (.alloc [z0]),qz (.store 1 (u 5) (ui 0))]<|.seq (qS [qla 7 2 3,qc 8 (g "x") [u 7]]<|aAG g)<|qS [ql 66 1 5,qbi 67 .neq 66 0,qs 1 4 67]<|.ret⟩
abbrev aQ6(g:SN):ag:=qS [qq 6 (.alloc [z0,z0,z0,z0]),qs 4 6 9]<|.block 1 (rE g)
section
variable {A:af}{g:SN}
def WtI(g:SN)(H:LO)(px py:Int)(pend:Option bf)(X:LO):Prop:=∃(n:Int) (x3:ah) (l:LA),X=H++[.box 1 [.bool Po],.box 1 [vi n],.rnd 1 H.length [4,5,9,6] [9] (aQ6 g) l Po pend,x3]/\l.length=68/\ck l 4=.ptr H.length 1 0/\ck l 5=.ptr (H.length+1) 1 0/\ck l 2=.ep [vi px,vi py] 0
def aV4(F:PlaneFns A g)(H:LO)(px py:Int):aAv A (H.length+2) 1 H.length (H.length+4) (λ_=>WtI g H px py N2) (WtI g H px py (N1 .ret)):=by
 refine⟨λi X hX=>?_,λX hX=>?_,λi X a b c d hi hX=>?_⟩
 ·obtain⟨n,x3,l,rfl,_⟩:=hX;simp
 ·obtain⟨n,x3,l,rfl,_⟩:=hX;simp
 obtain⟨n,x3,l,rfl,hl,h4,h5,h2⟩:=hX;refine mT F.yf (K:=λe H' wr=>(if e=.normal then WtI g H px py N2 H' else WtI g H px py (N1 .ret) H')/\∀x∈wr,H.length<=x) (N:=68) (l:=l) (by rw[bX];rfl) rfl cB cB hl ?_;have hs:ck (dH l [9] [.agg [vi a,vi b,vi c,vi d]])=upd (ck l) 9 (.agg [vi a,vi b,vi c,vi d]):=nG omT;rw[hs];generalize hρ:ck l=ρ at *;simp only[DO,CW];have fq:∀{w2:LN} {n:Nat},(∀x∈w2,H.length<=x)->∀x∈FM H.length n++(H.length+2)::w2,H.length<=x:=λ{w2 n} h x hx=>by
  rcases AY.1 hx with hx | hx
  ·rw[FC]at hx;exact hx.1
  rcases BD.1 hx with rfl | hx
  ·omega
  exact h x hx
 have s13:(⟨H.length,[4,5,9,6,YF+(H.length+2),YF+1]⟩:Ctx).site (N1 13)=none:=aBm rfT deT;have s35:(⟨H.length,[4,5,9,6,YF+(H.length+2),YF+1]⟩:Ctx).site (N1 35)=none:=aBm rfT deT;have s61:(⟨H.length,[4,5,9,6,YF+(H.length+2),YF+1]⟩:Ctx).site (N1 61)=none:=aBm rfT deT;simp only[go_sem,↓aB,seval];refine⟨_,_,_,_,_,rfl, ?_⟩;simp only[rE];generalize Gc:H++[ah.box 1 [.bool Po],.box 1 [vi n],.rnd 1 H.length [4,5,9,6] [9] (aQ6 g) l Pa N2,.box (x3.ver+1) [vi a,vi b,vi c,vi d]]=HH;obtain⟨r1,gj⟩:=aJy F.on F.oe px py a b c d HH;obtain⟨m1,V9⟩:=aEu F.oe a b c d px py HH;subst Gc;have B:True:=trivial;cases r1 with
 |true=>simp only[go_sem,↓aB,seval,h4,h2,s13,gj,AD,AA,AE,AB];exact⟨_,_,_,_,_,rfl,⟨_,_,l,rfl,hl,by rw[hρ];exact h4,by rw[hρ];exact h5,by rw[hρ];exact h2⟩,fq siT⟩
 |false=>
  have e4:decide (b>py) = !decide (b<=py):=by rw[DS];simp
  have e5:decide (d<=py) = !decide (d>py):=by rw[DS];simp
  cases e1:decide (b<=py)<;>cases e2:decide (d>py)<;>cases e3:decide (m1>0)<;>cases e6:decide (m1<0) <;>
   (rw[e1]at e4;rw[e2]at e5;simp only[go_sem,↓aB,seval,h5,h2,s13,s35,s61,gj,V9,e1,e2,e3,e4,e5,e6,AD,AA,AE,AB,Zz,BB];exact⟨_,_,_,_,_,rfl,⟨_,_,l,rfl,hl,by rw[hρ];exact h4,by rw[hρ];exact h5,by rw[hρ];exact h2⟩,fq siT⟩)
def aQ7(F:PlaneFns A g)(h:Has A g "aj" (oY g))(px py:Int)(s:Shape)(hs:s.points.length<=1000)(H:LO):∃r:Bool,aG A (g "aj") [P2 px py,.agg (aH s)] H=N1 (.bool r,H,[]):=by
 obtain⟨v,H',wr,h1,rfl,rfl,m,rfl⟩:=h.bp (args:=[P2 px py,.agg (aH s)]) (H:=H) (K:=λv H' wr=>wr=[]/\H'=H/\∃r:Bool,v=.bool r) (by
  have ot:=λH=>lG F.seg s H;simp only[oY];simp only[aH]at ot ⊢;simp only[go_sem,↓aB,seval,ot,AD,AA,AE];simp only[aAG];simp only[go_sem,seval];refine wC (id:=H.length+2) (v:=1) (X:=λl=>H++[.box 1 [.bool Po],.box 1 [vi 0],.rnd 1 H.length [4,5,9,6] [9] (aQ6 g) l Po N2,.gone 0]) rfT rfT siT (λ_=>rfT) (by unfold bH;rw[bX];rfl) (λl=>by rw[sV];rfl) ?_;intro l hl he;obtain⟨H2,en,k1,k2,k3⟩:=wD F.zy (aV4 (g:=g) F H px py) s.kind s.points hs _ (⟨0,.gone 0,l,rfl,hl,by rw[he];rfl,by rw[he];rfl,by rw[he];rfl⟩:WtI g H px py N2 _);have hw:bE H.length [] ((H.length+2)::en)=[]:=kH (λx hx=>by rcases BD.1 hx with rfl | hx;exact EG _ _;exact k3 x hx);rcases k2 with⟨i,hi,n,x3,l2,rfl,iq,_⟩ | ⟨n,x3,l2,rfl,iq,_⟩
  ·refine⟨_,_,_,_,_,_,_,_,N2,k1,by rw[bX];rfl, ?_⟩;rw[hw,eS];show pP 0 _ _ .normal _ _ _;simp only[go_sem,↓aB,seval,AD,AA,AE];exact⟨_,rfl⟩
  refine⟨_,_,_,_,_,_,_,_,N1 .ret,k1,by rw[bX];rfl, ?_⟩;rw[hw,eS];show pP 0 _ _ .ret _ _ _;simp only[go_sem,↓aB,seval,AD,AA,AE];exact⟨_,rfl⟩)
 exact⟨m,h1⟩
end
abbrev aL1(g:SN):List ae:=[qf 14 1 1,⟨N1 15,ol 1 14,N2,[0]⟩,⟨N1 16,.iaV (u 15) (ui 0) 2,N2,[1,0]⟩,⟨N1 17,ola 2 16,N2,[2,1,0]⟩,qf 18 1 1,⟨N1 19,ol 1 18,N2,[4]⟩,⟨N1 20,.iaV (u 19) (ui 0) 2,N2,[5,4]⟩,⟨N1 21,ola 2 20,N2,[6,5,4]⟩,qq 4 (.alloc [z0,z0]),qq 5 (.alloc [z0,z0]),⟨N2,os 2 4 17,N2,[3,2,1,0,8,9]⟩,⟨N2,os 2 5 21,N2,[7,6,5,4,10,3,2,1,0,8,9]⟩]
abbrev aF4:LN:=[5,7,10]
abbrev aL2(g:SN):ag:=qS [qb 26 .lss 25 24]<|.seq (qC 26 (.skip) (.exit 0))<|.seq (.block 1 (qS [qi 27 23 25 2,qla 28 2 27,qq 7 (.alloc [z0,z0]),qs 2 7 28]<|qS [qf 29 0 4,ql 30 1 29,qf 31 0 7,ql 32 1 31,qq 33 (.mm Po [(.tmp 30),(.tmp 32)]),qf 34 1 4,ql 35 1 34,qf 36 1 7,ql 37 1 36,qq 38 (.mm Po [(.tmp 35),(.tmp 37)]),qq 39 (.build [z0,z0] [(0,1,(.tmp 33)),(1,1,(.tmp 38))]),qs 2 4 39]<|.region Po [qf 40 0 5,ql 41 1 40,qf 42 0 7,ql 43 1 42,qq 44 (.mm Pa [(.tmp 41),(.tmp 43)]),qf 45 1 5,ql 46 1 45,qf 47 1 7,ql 48 1 47,qq 49 (.mm Pa [(.tmp 46),(.tmp 48)]),qq 50 (.build [z0,z0] [(0,1,(.tmp 44)),(1,1,(.tmp 49))]),qs 2 5 50]))<|.region Po [qbi 51 .add 25 1,qm 25 51]
abbrev aL3(g:SN):List ae:=[qla 52 2 4,qla 53 2 5,⟨N2,os 2 2 52,N2,[0]⟩,⟨N2,os 2 3 53,N2,[1,2,0]⟩]
abbrev aF5:LN:=[1,2]
def aDo(g:SN):bw:=⟨54,[1,2,3,4,5,7],[.cell 2 2 Pa,.cell 3 2 Pa],qS [qx 1 2 0,qq 2 (.alloc [z0,z0]),qq 3 (.alloc [z0,z0])]<|.seq (qS [qf 8 1 1,ql 9 1 8,qn 10 9,qbi 11 .eql 10 0]<|qC 11 (qS [qq 12 (.build [z0,z0] []),qq 13 (.build [z0,z0] []),qs 2 2 12,qs 2 3 13]<|.ret) (.skip))<|.seq (.region Pa (aL1 g))<|.seq (qS [qf 22 1 1,ql 23 1 22,qn 24 23,qmc 25 z0]<|.block 0 (.loop (aL2 g)))<|.seq (.region Pa (aL3 g))<|.ret⟩
def aEv(g:SN):bw:=⟨36,[5,6,7,8],[.tmp 4],qS [qx 2 2 0,qx 3 2 1,qmc 4 (.bool Po)]<|qS [qla 10 2 2,qc 11 (g "ag") [u 10],qm 9 11,qq 12 (.ext 0 (u 9)),qq 13 (.ext 1 (u 9)),qq 5 (.alloc [z0,z0]),qq 6 (.alloc [z0,z0]),qs 2 5 12,qs 2 6 13]<|qS [qla 15 2 3,qc 16 (g "ag") [u 15],qm 14 16,qq 17 (.ext 0 (u 14)),qq 18 (.ext 1 (u 14)),qq 7 (.alloc [z0,z0]),qq 8 (.alloc [z0,z0]),qs 2 7 17,qs 2 8 18]<|qS [qf 19 1 2,ql 20 1 19,qn 21 20,qbi 22 .gtr 21 0,qm 23 22,qT 24 23 (of 1 3),qT 25 23 (ol 1 24),qT 26 23 (on 25),qT 27 23 (obi .gtr 26 0),qp 28 23 27,qm 29 28,qT 30 29 (of 0 6),qT 31 29 (ol 1 30),qT 32 29 (of 0 7),qT 33 29 (ol 1 32),qT 34 29 (ob .lss 31 33),qp 35 29 34,qm 4 35]<|.ret⟩
section
variable {A:af}{g:SN}
def aTe(h:Has A g "ag" (aDo g))(s:Shape)(hs:s.points.length<=1000)(H:LO):∃a b c d:Int,aG A (g "ag") [.agg (aH s)] H=N1 (.tup [P2 a b,P2 c d],H,[]):=by
 obtain⟨v,H',wr,h1,rfl,rfl,a,b,c,d,rfl⟩:=h.bp (args:=[.agg (aH s)]) (H:=H) (K:=λv H' wr=>wr=[]/\H'=H/\∃a b c d:Int,v=.tup [P2 a b,P2 c d]) (by
  simp only[aDo];cases hp:s.points with
  |nil=>simp only[go_sem,↓aB,seval,aH,hp,BY,AZ,AD,AB,AA,AE];simp only[go_sem,↓aB,seval,iE,aEP,aNP,aBv,AD,AA,AE];exact⟨_,_,_,_,rfl⟩
  |cons p ps=>
   have hz:(((ps.length+1:Nat):Int)==0)=false:=soT;have Qk:ps.length+1<=1000:=by rw[hp]at hs;exact hs
   simp only[go_sem,↓aB,seval,aH,hp,BI,AW,AF,hz,AD,AB,AA,AE];refine aY (aq:=aF4) (H0:=_) (by simp only[go_sem,seval,cS];rfl) rfT ?_;simp only[go_sem,↓aB,seval,aF4,BG,bL,AW,AF,eH,dG,aL,AD,AB,AA,AE];have Ta:([vi p.1,vi p.2]::ps.map bL)=(p::ps).map bL:=rfl;rw[Ta];have Bd:(p::ps).length=ps.length+1:=rfl;rw[<- Bd]at Qk ⊢;generalize (p::ps)=L at *;refine bJ (id:=0) (λi ρ1 H1 wr=>wr=[]/\ρ1 25=vi (i:Nat)/\∃(x0:ah) (x1 x2:LA) (a b c d:Int) (x5:ah),H1=H++[x0,.box 1 x1,.box 1 x2,.box 1 [vi a,vi b],.box 1 [vi c,vi d],x5]/\x1.length=2/\x2.length=2) L.length
    (λρ1 H1 wr=>wr=[]/\∃(x0:ah) (x1 x2:LA) (a b c d:Int) (x5:ah),H1=H++[x0,.box 1 x1,.box 1 x2,.box 1 [vi a,vi b],.box 1 [vi c,vi d],x5]/\x1.length=2/\x2.length=2) cB rfl ⟨rfl,rfl,_,_,_,_,_,_,_,_,rfl,rfl,rfl⟩ ?_ ?_
   ·rintro i ρ1 H1 dc mg ⟨rfl,e25,x0,x1,x2,a,b,c,d,x5,rfl,l1,l2⟩ hf;have f23:ρ1 23=.sl Po (L.map bL):=hf 23 rfl;have f24:ρ1 24=vi (L.length:Nat):=hf 24 rfl;have f4:ρ1 4=.ptr (H.length+3) 1 0:=hf 4 rfl;have f5:ρ1 5=.ptr (H.length+4) 1 0:=hf 5 rfl;simp only[go_sem,↓aB,seval,e25,f24];refine aD (λe3=>?_) (λe3=>?_)
    ·have hlt:i<L.length:=by simp at e3;omega
     have dy:=wS (i:=i) omT;have cj:=mgE bL hlt;generalize L[i]=q at *;simp only[go_sem,↓aB,seval,e25,f23,f4,f5,cj,hlt,bL,dy,AU,AT,AD,AB,AA,AE];exact⟨_,_,_,_,_,_,_,_,rfl,l1,l2⟩
    have:i=L.length:=by simp at e3;omega
    subst this;simp only[go_sem,seval];exact⟨_,_,_,_,_,_,_,_,rfl,l1,l2⟩
   rintro ρ' H' ba ⟨rfl,x0,x1,x2,a,b,c,d,x5,rfl,l1,l2⟩ hf;have f2:ρ' 2=.ptr (H.length+1) 1 0:=hf 2 rfl;have f3:ρ' 3=.ptr (H.length+2) 1 0:=hf 3 rfl;have f4:ρ' 4=.ptr (H.length+3) 1 0:=hf 4 rfl;have f5:ρ' 5=.ptr (H.length+4) 1 0:=hf 5 rfl
   match x1,l1,x2,l2 with
   | [u1,u2],_,[v1,v2],_=>
   simp only[go_sem,seval];refine aY (aq:=aF5) rfT rfT ?_;simp only[go_sem,↓aB,seval,aF5,f2,f3,f4,f5,eH,dG,aL,iE,aEP,aNP,aBv,AD,AB,AA,AE];exact⟨_,_,_,_,rfl⟩)
 exact⟨a,b,c,d,h1⟩
def aV5(h:Has A g "ag" (aDo g))(h2:Has A g "E" (aEv g))(s t:Shape)(hs:s.points.length<=1000)(ht:t.points.length<=1000)(H:LO):∃r:Bool,aG A (g "E") [.agg (aH s),.agg (aH t)] H=N1 (.bool r,H,[]):=by
 obtain⟨v,H',wr,h1,rfl,rfl,m,rfl⟩:=h2.bp (args:=[.agg (aH s),.agg (aH t)]) (H:=H) (K:=λv H' wr=>wr=[]/\H'=H/\∃r:Bool,v=.bool r) (by
  obtain⟨a,b,c,d,fo⟩:=aTe h s hs (H++[.gone 0,.gone 0,.gone 0,.gone 0]);obtain⟨a',b',c',d',dp⟩:=aTe h t ht (H++[.box 1 [vi a,vi b],.box 1 [vi c,vi d],.gone 0,.gone 0]);simp only[aEv];simp only[aH]at fo dp ⊢;simp only[go_sem,↓aB,seval,fo,dp,AF,AD,AB,AA,AE];cases e1:decide ((s.points.length:Int)>0)with
  |false=>simp only[go_sem,↓aB,seval,BB];exact⟨_,rfl⟩
  |true=>cases e2:decide ((t.points.length:Int)>0)with
   |false=>simp only[go_sem,↓aB,seval,e2,AF,AD,AB,AA,AE,Zz,BB];exact⟨_,rfl⟩
   |true=>simp only[go_sem,↓aB,seval,e2,AF,AD,AB,AA,AE,Zz];exact⟨_,rfl⟩)
 exact⟨m,h1⟩
end
def rF(g:SN):ag:=.block 2 (.dz (.tmp 24) [25] (qS [qq 6 (.alloc [z0,z0,z0,z0]),qs 4 6 25]<|.block 3 (qS [qla 26 4 5,qla 27 4 6,qc 28 (g "aS") [u 26,u 27]]<|qC 28 (qS [qz (.store 1 (u 4) uF)]<|.ret) (.skip))))
def aAH(g:SN):ag:=.block 0 (.dz (.tmp 21) [22] (qS [qq 5 (.alloc [z0,z0,z0,z0]),qs 4 5 22]<|.block 1 (qS [qla 23 2 3,qc 24 (g "x") [u 23]]<|rF g)))
def aAI(g:SN):bw:=⟨29,[4,22,5,25,6],[.cell 4 1 Po],qS [qx 2 2 0,qx 3 2 1,qq 4 (.alloc [(.bool Po)])]<|.seq (qS [qf 7 0 3,ql 8 1 7,qbi 9 .neq 8 2,qm 10 9,qF 11 10 (of 1 2),qF 12 10 (ol 1 11),qF 13 10 (on 12),qF 14 10 (obi .eql 13 0),qq 15 (.pick (u 10) uT (u 14))]<|qC 15 (qS [qz (.store 1 (u 4) uF)]<|.ret) (.skip))<|.seq (qS [qf 16 1 2,ql 17 1 16,qq 18 (.mkf (g "ah") [] [(.tmp 3)]),qc 19 (g "bh") [u 17,u 18]]<|qC 19 (qS [qz (.store 1 (u 4) uF)]<|.ret) (.skip))<|.seq (qS [qla 20 2 2,qc 21 (g "x") [u 20]]<|aAH g)<|qS [qz (.store 1 (u 4) uT)]<|.ret⟩
def oP(g:SN):bw:=⟨8,[],[.tmp 3],qS [qx 2 2 0,qmc 3 (.bool Po)]<|qS [qla 4 2 2,qla 5 2 1,qc 6 (g "aj") [u 4,u 5],qq 7 (.un .not (u 6)),qm 3 7]<|.ret⟩
section
variable {A:af}{g:SN}
def aOk{N:Nat}{c:Ctx}{x:aa}{ps:LN}{body:ag}{ρ:bN}{H:LO}{wr:LN}{Q:bf->bN->LO->LN->Prop}{tg:Tg (A,N,c,ag.dz x ps body,Q)}{id f:Nat}{first ay:LA} (hx:x.at ρ=.fn f first ay) (hs:c.site ps.head? = N1 id) (hid:id<H.length) (ht:eZ c H=Pa) {v:Nat} {X:LA->LO} (hv:bH H id=v) (hm:∀l,(make H id λv=>.rnd v c.base c.sites ps body l Po N2)=X l) (h:∀l:LA,l.length=N->ck l=ρ->∃r H2 en b' s' p' cc' r' pend,aG A f (first++.yld id v::ay) (X l)=N1 (r,H2,en) /\ H2[id]? = N1 (.rnd v b' s' p' cc' r' Po pend)/\eZ c H2=Pa/\Q (pend.getD .normal) ρ (H2.set id (.gone v)) (bE c.base wr (id::en))):wc A N c (.dz x ps body) ρ H wr Q tg:=by subst hv;unfold wc;rw[wpc];intro l hl he;obtain⟨r,H2,en,b',s',p',cc',r',pend,h1,h2,h4,h3⟩:=h l hl he;rw[<- hm l]at h1;obtain⟨n,hn⟩:=oM h1;refine⟨n+1,pend.getD .normal,⟨l,H2.set id (.gone (bH H id)),bE c.base wr (id::en)⟩, ?_,hl,by rw[he];exact h3⟩;rw[iU,aa.ka];dsimp only;rw[he,hx,hs];dsimp only;rw[Zy ⟨hid,ht⟩,hn];dsimp only;rw[h2];dsimp only;rw[Zy ⟨rfl,h4⟩]
def aIE{b t:Nat}{l ys:LN}(h:l.contains t=Po)(ht:t<YF)(hy:∀y∈ys,YF<=y):(⟨b,l++ys⟩:Ctx).site (N1 t)=none:=by
 unfold Ctx.site;dsimp only;rw[LV.2]
 ·rfl
 rw[<- GB,EH]at h;intro hm;rcases AY.1 hm with hm | hm
 ·exact h hm
 have:=hy t hm;omega
abbrev aQ8(g:SN):ag:=qS [qq 6 (.alloc [z0,z0,z0,z0]),qs 4 6 25]<|.block 3 (qS [qla 26 4 5,qla 27 4 6,qc 28 (g "aS") [u 26,u 27]]<|qC 28 (qS [qz (.store 1 (u 4) uF)]<|.ret) (.skip))
def InI(g:SN)(H:LO)(x1:ah)(v5 v2 o1:Nat)(a1 b1 c1 d1:Int)(pend:Option bf)(X:LO):Prop:=∃(x4:ah) (l:LA),X=H++[.box 1 [.bool Po],x1,.box v5 [vi a1,vi b1,vi c1,vi d1],.rnd v2 H.length [4,22,5,25,6,YF+o1,YF+1] [25] (aQ8 g) l Po pend,x4] /\
 l.length=29/\ck l 4=.ptr H.length 1 0/\ck l 5=.ptr (H.length+2) v5 0
def aV6(F:PlaneFns A g)(H:LO)(x1:ah)(v5 v2 o1:Nat)(a1 b1 c1 d1:Int):aAv A (H.length+3) v2 H.length (H.length+5) (λ_=>InI g H x1 v5 v2 o1 a1 b1 c1 d1 N2) (InI g H x1 v5 v2 o1 a1 b1 c1 d1 (N1 .ret)):=by
 refine⟨λi X hX=>?_,λX hX=>?_,λi X a b c d hi hX=>?_⟩
 ·obtain⟨x4,l,rfl,_⟩:=hX;simp
 ·obtain⟨x4,l,rfl,_⟩:=hX;simp
 obtain⟨x4,l,rfl,hl,h4,h5⟩:=hX;refine mT F.yf (K:=λe H' wr=>(if e=.normal then InI g H x1 v5 v2 o1 a1 b1 c1 d1 N2 H' else InI g H x1 v5 v2 o1 a1 b1 c1 d1 (N1 .ret) H')/\∀x∈wr,H.length<=x) (N:=29) (l:=l) (by rw[bX];rfl) rfl cB cB hl ?_;have hs:ck (dH l [25] [.agg [vi a,vi b,vi c,vi d]])=upd (ck l) 25 (.agg [vi a,vi b,vi c,vi d]):=nG omT;rw[hs];generalize hρ:ck l=ρ at *;simp only[DO,CW];have fq:∀{w2:LN} {n:Nat},(∀x∈w2,H.length<=x)->∀x∈FM H.length n++(H.length+3)::w2,H.length<=x:=λ{w2 n} h x hx=>by
  rcases AY.1 hx with hx | hx
  ·rw[FC]at hx;exact hx.1
  rcases BD.1 hx with rfl | hx
  ·omega
  exact h x hx
 have s28:(⟨H.length,[4,22,5,25,6,YF+o1,YF+1,YF+(H.length+3),YF+v2]⟩:Ctx).site (N1 28)=none:=aIE (l:=[4,22,5,25,6]) (ys:=[YF+o1,YF+1,YF+(H.length+3),YF+v2]) rfT deT (λy hy=>by simp at hy;omega);simp only[go_sem,↓aB,seval];refine⟨_,_,_,_,_,rfl, ?_⟩;generalize Gc:H++[ah.box 1 [.bool Po],x1,.box v5 [vi a1,vi b1,vi c1,vi d1],.rnd v2 H.length [4,22,5,25,6,YF+o1,YF+1] [25] (aQ8 g) l Pa N2,.box (x4.ver+1) [vi a,vi b,vi c,vi d]]=HH;obtain⟨r1,gj⟩:=aQ1 F a1 b1 c1 d1 a b c d HH;subst Gc;cases r1 with
 |true=>simp only[go_sem,↓aB,seval,h4,h5,s28,gj,AD,AA,AE,AB];exact⟨_,_,_,_,_,rfl,⟨_,l,rfl,hl,by rw[hρ];exact h4,by rw[hρ];exact h5⟩,fq siT⟩
 |false=>simp only[go_sem,↓aB,seval,h5,s28,gj,AD,AA,AE];exact⟨_,_,_,_,_,rfl,⟨_,l,rfl,hl,by rw[hρ];exact h4,by rw[hρ];exact h5⟩,fq siT⟩
def aJA{b o v:Nat}{l:LN}{X:LO}{b':Nat}{s' p':LN}{c':ag}{r':LA}(h:X[o]? = N1 (.rnd v b' s' p' c' r' Pa N2)):eZ ⟨b,l++[YF+o,YF+v]⟩ X=true:=by
 have zj:Ctx.rd ⟨b,l++[YF+o,YF+v]⟩=N1 (o,v):=by unfold Ctx.rd;dsimp only;rw[List.reverse_append];show (if YF<=YF+v/\YF<=YF+o then N1 (YF+o - YF,YF+v - YF)else N2)=_;rw[Zy ⟨EG _ _,EG _ _⟩,FL,FL]
 unfold eZ;rw[zj];dsimp only;rw[h];simp
abbrev aJB(g:SN):ag:=qS [qq 5 (.alloc [z0,z0,z0,z0]),qs 4 5 22]<|.block 1 (qS [qla 23 2 3,qc 24 (g "x") [u 23]]<|rF g)
def aYa(g:SN)(H:LO)(t:Shape)(pend:Option bf)(X:LO):Prop:=∃(x5 x3 x4:ah) (l:LA),X=H++[.box 1 [.bool Po],.rnd 1 H.length [4,22,5,25,6] [22] (aJB g) l Po pend,x5,x3,x4] /\
 l.length=29/\ck l 4=.ptr H.length 1 0/\ck l 3=.ep (aH t) 0
def aSc(F:PlaneFns A g)(H:LO)(t:Shape)(ht:t.points.length<=1000):aAv A (H.length+1) 1 H.length (H.length+5) (λ_=>aYa g H t N2) (aYa g H t (N1 .ret)):=by
 refine⟨λi X hX=>?_,λX hX=>?_,λi X a b c d hi hX=>?_⟩
 ·obtain⟨x5,x3,x4,l,rfl,_⟩:=hX;simp
 ·obtain⟨x5,x3,x4,l,rfl,_⟩:=hX;simp
 obtain⟨x5,x3,x4,l,rfl,hl,h4,h3⟩:=hX;refine mT F.yf (K:=λe H' wr=>(if e=.normal then aYa g H t N2 H' else aYa g H t (N1 .ret) H')/\∀x∈wr,H.length<=x) (N:=29) (l:=l) (by rw[bX];rfl) rfl cB cB hl ?_;have hs:ck (dH l [22] [.agg [vi a,vi b,vi c,vi d]])=upd (ck l) 22 (.agg [vi a,vi b,vi c,vi d]):=nG omT;rw[hs];generalize hρ:ck l=ρ at *;simp only[DO,CW];have fq:∀{w2:LN} {n:Nat},(∀x∈w2,H.length<=x)->∀x∈FM H.length n++(H.length+1)::w2,H.length<=x:=λ{w2 n} h x hx=>by
  rcases AY.1 hx with hx | hx
  ·rw[FC]at hx;exact hx.1
  rcases BD.1 hx with rfl | hx
  ·omega
  exact h x hx
 have s24:(⟨H.length,[4,22,5,25,6,YF+(H.length+1),YF+1]⟩:Ctx).site (N1 24)=none:=aIE (l:=[4,22,5,25,6]) (ys:=[YF+(H.length+1),YF+1]) rfT deT (λy hy=>by simp at hy;omega);have ot:=λH=>lG F.seg t H;simp only[aH]at ot h3;simp only[go_sem,↓aB,seval];refine⟨_,_,_,_,_,rfl, ?_⟩;simp only[go_sem,↓aB,seval,h3,s24,ot,AD,AA,AE];simp only[rF];simp only[go_sem,seval];refine aOk (id:=H.length+3) (v:=x3.ver+1) (X:=λl2=>H++[.box 1 [.bool Po],.rnd 1 H.length [4,22,5,25,6] [22] (aJB g) l Pa N2,.box (x5.ver+1) [vi a,vi b,vi c,vi d],.rnd (x3.ver+1) H.length [4,22,5,25,6,YF+(H.length+1),YF+1] [25] (aQ8 g) l2 Po N2,x4]) rfT rfT siT (aJA (l:=[4,22,5,25,6]) (by rw[bX];rfl)) (by unfold bH;rw[bX];rfl) (λl=>by rw[sV];rfl) ?_;intro l2 iq V7;obtain⟨H2,en,k1,k2,k3⟩:=wD F.zy (aV6 F H (.rnd 1 H.length [4,22,5,25,6] [22] (aJB g) l Pa N2) (x5.ver+1) (x3.ver+1) (H.length+1) a b c d) t.kind t.points ht _ (⟨x4,l2,rfl,iq,by rw[V7];exact h4,by rw[V7];rfl⟩:InI g H _ _ _ _ a b c d N2 _);have hw:bE H.length [] ((H.length+3)::en)=[]:=kH (λx hx=>by rcases BD.1 hx with rfl | hx;exact EG _ _;exact k3 x hx);rcases k2 with⟨i,_,x4',l2',rfl,Gd,_⟩ | ⟨x4',l2',rfl,Gd,_⟩
 ·refine⟨_,_,_,_,_,_,_,_,N2,k1,by rw[bX];rfl,aJA (l:=[4,22,5,25,6]) (by rw[bX];rfl), ?_⟩;rw[hw,eS];show pP 2 _ _ .normal _ _ _;simp only[go_sem,seval];exact⟨_,_,_,_,_,rfl,⟨_,_,_,l,rfl,hl,by rw[hρ];exact h4,by rw[hρ];simpa only[aH]using h3⟩,fq siT⟩
 refine⟨_,_,_,_,_,_,_,_,N1 .ret,k1,by rw[bX];rfl,aJA (l:=[4,22,5,25,6]) (by rw[bX];rfl), ?_⟩;rw[hw,eS];show pP 2 _ _ .ret _ _ _;simp only[go_sem,seval];exact⟨_,_,_,_,_,rfl,⟨_,_,_,l,rfl,hl,by rw[hρ];exact h4,by rw[hρ];simpa only[aH]using h3⟩,fq siT⟩
end
section
variable {A:af}{g:SN}
def aYb(F:PlaneFns A g)(hw:Has A g "aj" (oY g))(h:Has A g "ah" (oP g))(p:Int×Int)(t:Shape)(ht:t.points.length<=1000)(H:LO):∃r:Bool,aG A (g "ah") [.agg (bL p),.ep (aH t) 0] H=N1 (.bool r,H,[]):=by obtain⟨r,hr⟩:=aQ7 F hw p.1 p.2 t ht H;refine⟨!r,h.call ?_⟩;simp only[oP];simp only[aH,bL]at hr ⊢;simp only[go_sem,↓aB,seval,hr,AD,AA,AE]
def aQ9(F:PlaneFns A g)(hw:Has A g "aj" (oY g))(hc:aAA A (g "bh") 2 Pa)(h1:Has A g "ah" (oP g))(h:Has A g "D" (aAI g))(s t:Shape)(hs:s.points.length<=1000)(ht:t.points.length<=1000)(H:LO):∃r:Bool,aG A (g "D") [.agg (aH s),.agg (aH t)] H=N1 (.bool r,H,[]):=by
 obtain⟨v,H',wr,h1,rfl,rfl,m,rfl⟩:=h.bp (args:=[.agg (aH s),.agg (aH t)]) (H:=H) (K:=λv H' wr=>wr=[]/\H'=H/\∃r:Bool,v=.bool r) (by
  have po:=λH=>aBX (H:=H) hc aGu (cQ.ep (aH t) 0) (l:=s.points) (f1:=g "ah") (by show s.points.length<_;omega) (λp _=>aYb F hw h1 p t ht H);obtain⟨r1,gj⟩:=po (H++[.box 1 [.bool Po],.gone 0,.gone 0,.gone 0,.gone 0]);have ot:=λH=>lG F.seg s H;simp only[aAI];simp only[aH]at ot gj ⊢;cases e1:(t.kind != 2)with
  |true=>simp only[go_sem,↓aB,seval,e1,CE,AD,AA,AE,AB];exact⟨_,rfl⟩
  |false=>
   cases e2:((s.points.length:Int)==0)with
   |true=>simp only[go_sem,↓aB,seval,e1,e2,AF,Zz,AD,AA,AE,AB];exact⟨_,rfl⟩
   |false=>
    cases r1 with
    |true=>simp only[go_sem,↓aB,seval,e1,e2,gj,AF,Zz,AD,AA,AE,AB];exact⟨_,rfl⟩
    |false=>
     simp only[go_sem,↓aB,seval,e1,e2,gj,ot,AF,Zz,AD,AA,AE,AB];simp only[aAH];simp only[go_sem,seval];refine wC (id:=H.length+1) (v:=1) (X:=λl=>H++[.box 1 [.bool Po],.rnd 1 H.length [4,22,5,25,6] [22] (aJB g) l Po N2,.gone 0,.gone 0,.gone 0]) rfT rfT siT (λ_=>rfT) (by unfold bH;rw[bX];rfl) (λl=>by rw[sV];rfl) ?_;intro l hl he;obtain⟨H2,en,k1,k2,k3⟩:=wD F.zy (aSc (g:=g) F H t ht) s.kind s.points hs _ (⟨.gone 0,.gone 0,.gone 0,l,rfl,hl,by rw[he];rfl,by rw[he];rfl⟩:aYa g H t N2 _);have hw:bE H.length [] ((H.length+1)::en)=[]:=kH (λx hx=>by rcases BD.1 hx with rfl | hx;exact EG _ _;exact k3 x hx);rcases k2 with⟨i,hi,x5,x3,x4,l2,rfl,iq,_⟩ | ⟨x5,x3,x4,l2,rfl,iq,_⟩
     ·refine⟨_,_,_,_,_,_,_,_,N2,k1,by rw[bX];rfl, ?_⟩;rw[hw,eS];show pP 0 _ _ .normal _ _ _;simp only[go_sem,↓aB,seval,AD,AA,AE];exact⟨_,rfl⟩
     refine⟨_,_,_,_,_,_,_,_,N1 .ret,k1,by rw[bX];rfl, ?_⟩;rw[hw,eS];show pP 0 _ _ .ret _ _ _;simp only[go_sem,↓aB,seval,AD,AA,AE];exact⟨_,rfl⟩)
 exact⟨m,h1⟩
end
def yQ(g:SN):bw:=⟨21,[1],[.tmp 2],qS [qx 1 4 0,qmc 2 (.bool Po)]<|qS [qf 3 0 1,ql 4 1 3,qc 5 (g "c") [u 4,ui 0,ui 6],qm 6 5,qT 7 6 (of 1 1),qT 8 6 (ol 1 7),qT 9 6 (oc (g "c") [u 8,ui 0,ui 7]),qp 10 6 9,qm 11 10,qT 12 11 (of 2 1),qT 13 11 (ol 1 12),qT 14 11 (oc (g "c") [u 13,ui 0,ui 99]),qp 15 11 14,qm 16 15,qT 17 16 (of 3 1),qT 18 16 (ol 1 17),qT 19 16 (oc (g "c") [u 18,ui 0,ui 99]),qp 20 16 19,qm 2 20]<|.ret⟩
def jI(g:SN):bw:=⟨5,[],[.tmp 2],qS [qmc 2 (.bool Po)]<|qS [qm 3 0,qc 4 (g "c") [u 3,ui 0,ui 7],qm 2 4]<|.ret⟩
abbrev aBz(g:SN):List ae:=[qf 3 0 1,⟨N1 4,ol 1 3,N2,[0]⟩,⟨N1 5,oc (g "c") [u 4,ui 0,ui 2],N2,[1,0]⟩,⟨N1 6,om 5,N2,[2,1,0]⟩,⟨N1 7,of 1 1,N1 (N1 6,Pa),yq3⟩,⟨N1 8,ol 1 7,N1 (N1 6,Pa),yq4⟩,⟨N1 9,oc (g "aZ") [u 8],N1 (N1 6,Pa),yq5⟩,⟨N1 10,op 6 9,N2,yq6⟩,⟨N1 11,om 10,N2,yq7⟩,⟨N1 12,of 2 1,N1 (N1 11,Pa),yq8⟩,⟨N1 13,ol 1 12,N1 (N1 11,Pa),yq9⟩,⟨N1 14,on 13,N1 (N1 11,Pa),bBZ⟩,⟨N1 15,of 6 1,N1 (N1 11,Pa),yq8⟩,⟨N1 16,ol 1 15,N1 (N1 11,Pa),12::yq8⟩,⟨N1 17,on 16,N1 (N1 11,Pa),13::12::yq8⟩,⟨N1 18,ob .eql 14 17,N1 (N1 11,Pa),11::10::9::14::13::12::yq8⟩,⟨N1 19,op 11 18,N2,15::11::10::9::14::13::12::yq8⟩,⟨N1 20,om 19,N2,16::15::11::10::9::14::13::12::yq8⟩,⟨N1 21,of 2 1,N1 (N1 20,Pa),17::16::15::11::10::9::14::13::12::yq8⟩,⟨N1 22,ol 1 21,N1 (N1 20,Pa),18::17::16::15::11::10::9::14::13::12::yq8⟩,⟨N1 23,oc (g "U") [ui 1,ui 40],N1 (N1 20,Pa),17::16::15::11::10::9::14::13::12::yq8⟩,⟨N1 24,oc (g "ak") [u 22,ui 0,ui 6,u 23],N1 (N1 20,Pa),19::18::20::17::16::15::11::10::9::14::13::12::yq8⟩,⟨N1 25,op 20 24,N2,21::19::18::20::17::16::15::11::10::9::14::13::12::yq8⟩,⟨N1 26,om 25,N2,22::21::19::18::20::17::16::15::11::10::9::14::13::12::yq8⟩,⟨N1 27,of 6 1,N1 (N1 26,Pa),23::22::21::19::18::20::17::16::15::11::10::9::14::13::12::yq8⟩,⟨N1 28,ol 1 27,N1 (N1 26,Pa),24::23::22::21::19::18::20::17::16::15::11::10::9::14::13::12::yq8⟩,⟨N1 29,oc (g "U") [ui 0,ui 60],N1 (N1 26,Pa),23::22::21::19::18::20::17::16::15::11::10::9::14::13::12::yq8⟩,⟨N1 30,oc (g "ak") [u 28,ui 0,ui 6,u 29],N1 (N1 26,Pa),25::24::26::23::22::21::19::18::20::17::16::15::11::10::9::14::13::12::yq8⟩,⟨N1 31,op 26 30,N2,27::25::24::26::23::22::21::19::18::20::17::16::15::11::10::9::14::13::12::yq8⟩,⟨N1 32,om 31,N2,28::27::25::24::26::23::22::21::19::18::20::17::16::15::11::10::9::14::13::12::yq8⟩,⟨N1 33,of 3 1,N1 (N1 32,Pa),29::28::27::25::24::26::23::22::21::19::18::20::17::16::15::11::10::9::14::13::12::yq8⟩,⟨N1 34,ol 1 33,N1 (N1 32,Pa),30::29::28::27::25::24::26::23::22::21::19::18::20::17::16::15::11::10::9::14::13::12::yq8⟩,⟨N1 35,oc (g "ct") [u 34,ui 0,ui 8,uf (g "am")],N1 (N1 32,Pa),31::30::29::28::27::25::24::26::23::22::21::19::18::20::17::16::15::11::10::9::14::13::12::yq8⟩,⟨N1 36,op 32 35,N2,32::31::30::29::28::27::25::24::26::23::22::21::19::18::20::17::16::15::11::10::9::14::13::12::yq8⟩,⟨N1 37,om 36,N2,33::32::31::30::29::28::27::25::24::26::23::22::21::19::18::20::17::16::15::11::10::9::14::13::12::yq8⟩,⟨N1 38,of 4 1,N1 (N1 37,Pa),34::33::32::31::30::29::28::27::25::24::26::23::22::21::19::18::20::17::16::15::11::10::9::14::13::12::yq8⟩,⟨N1 39,ol 1 38,N1 (N1 37,Pa),35::34::33::32::31::30::29::28::27::25::24::26::23::22::21::19::18::20::17::16::15::11::10::9::14::13::12::yq8⟩,⟨N1 40,oc (g "T") [u 39,ui 0,ui 40],N1 (N1 37,Pa),36::35::34::33::32::31::30::29::28::27::25::24::26::23::22::21::19::18::20::17::16::15::11::10::9::14::13::12::yq8⟩,⟨N1 41,op 37 40,N2,37::36::35::34::33::32::31::30::29::28::27::25::24::26::23::22::21::19::18::20::17::16::15::11::10::9::14::13::12::yq8⟩,⟨N1 42,om 41,N2,38::37::36::35::34::33::32::31::30::29::28::27::25::24::26::23::22::21::19::18::20::17::16::15::11::10::9::14::13::12::yq8⟩,⟨N1 43,of 5 1,N1 (N1 42,Pa),39::38::37::36::35::34::33::32::31::30::29::28::27::25::24::26::23::22::21::19::18::20::17::16::15::11::10::9::14::13::12::yq8⟩,⟨N1 44,ol 1 43,N1 (N1 42,Pa),40::39::38::37::36::35::34::33::32::31::30::29::28::27::25::24::26::23::22::21::19::18::20::17::16::15::11::10::9::14::13::12::yq8⟩,⟨N1 45,oc (g "c") [u 44,ui 0,ui 100],N1 (N1 42,Pa),41::40::39::38::37::36::35::34::33::32::31::30::29::28::27::25::24::26::23::22::21::19::18::20::17::16::15::11::10::9::14::13::12::yq8⟩,⟨N1 46,op 42 45,N2,42::41::40::39::38::37::36::35::34::33::32::31::30::29::28::27::25::24::26::23::22::21::19::18::20::17::16::15::11::10::9::14::13::12::yq8⟩,⟨N1 2,om 46,N2,43::42::41::40::39::38::37::36::35::34::33::32::31::30::29::28::27::25::24::26::23::22::21::19::18::20::17::16::15::11::10::9::14::13::12::yq8⟩]
abbrev cL:LN:=[19,20,25,26]
def oH(g:SN):bw:=⟨47,[1],[.tmp 2],qS [qx 1 7 0,qmc 2 (.bool Po)]<|.seq (.region Pa (aBz g))<|.ret⟩
def aHJ(f:Fact):Bool:=wi f.kind 0 6&&wi f.block 0 7&&wi f.a 0 99&&wi f.b 0 99
def aOl(n:Int):Bool:=wi n 0 7
def aWp(q:Question):Bool:=wi q.kind 0 2&&aGx q.lk&&((q.options.length:Int)==(q.dv.length:Int))&&(wi q.options.length 0 6&&q.options.all (vP 1 40)) &&
 (wi q.dv.length 0 6&&q.dv.all (vP 0 60))&&(wi q.cy.length 0 8&&q.cy.all aOl)&&vP 0 40 q.key&&wi q.points 0 100
noncomputable def aGU(x:Item):Bool:=aO7 x.name&&(wi x.blocks.length 0 8&&x.blocks.all dQ)&&(wi x.facts.length 0 8&&x.facts.all aHJ)&&(wi x.ask.length 0 4&&x.ask.all aWp)
section
variable {A:af}{g:SN}{tB:Nat}
def aMe(h:Has A g "aW" (yQ g))(hw:eO A g)(f:Fact)(H:LO):aG A (g "aW") [.agg (aI f)] H=N1 (.bool (aHJ f),H,[]):=by
 refine h.call ?_;simp only[yQ,aHJ];have h1:=λH=>hw f.kind 0 6 H;have h2:=λH=>hw f.block 0 7 H;have h3:=λH=>hw f.a 0 99 H;have h4:=λH=>hw f.b 0 99 H;cases e1:wi f.kind 0 6 with
 |false=>simp only[go_sem,↓aB,seval,aI,h1,e1,BQ,BB]
 |true=>cases e2:wi f.block 0 7 with
  |false=>simp only[go_sem,↓aB,seval,aI,h1,h2,e1,e2,BQ,BR,Zz,BB]
  |true=>cases e3:wi f.a 0 99 with
   |false=>simp only[go_sem,↓aB,seval,aI,h1,h2,h3,e1,e2,e3,BQ,BR,Zz,BB]
   |true=>simp only[go_sem,↓aB,seval,aI,h1,h2,h3,h4,e1,e2,e3,BR,Zz]
def aQa(h:Has A g "am" (jI g))(hw:eO A g)(n:Int)(H:LO):aG A (g "am") [vi n] H=N1 (.bool (aOl n),H,[]):=by refine h.call ?_;have hw:=hw n 0 7;simp only[jI,aOl];simp only[go_sem,↓aB,seval,hw]
def aGV(h:Has A g "aY" (oH g))(h1:Has A g "am" (jI g))(hB:kb A g)(q:Question)(hq:q.Ok)(H:LO):aG A (g "aY") [.agg (gR q)] H=N1 (.bool (aWp q),H,[]):=by
 refine h.call ?_;have hw:=kO hB.within;have ht:=qW hB.text hB.wg hB.sj hw;have tx:∀{s:Str},lI s->s.length<=1000000:=λh=>by have:_<=1000:=h;omega
 have k1:=λH=>hw q.kind 0 2 H;have k2:=λH=>aGy hB.runs hB.L8 hB.Q8 hw ht q.lk (by have:=hq.fg;omega) (λr hr=>tx (hq.lk r hr).text) H;have k4:=λH=>aBj hB q.options hq.Q3 (λs hs=>tx (hq.options s hs)) 1 40 0 6 H;have k5:=λH=>aBj hB q.dv hq.vw (λs hs=>tx (hq.dv s hs)) 0 60 0 6 H;have k6:=λH=>hB.allI.spec hw aLX cQ (l:=q.cy) (H:=H) (f1:=g "am") (q:=aOl) (lo:=0) (hi:=8) (by have:=hq.Q4;show q.cy.length<_;omega) λ_ n _=>aQa h1 hw n H;have k7:=λH=>ht q.key 0 40 H (tx hq.key);have k8:=λH=>hw q.points 0 100 H;have u1:=λH=>aDb hB.Sb 1 40 H;have u2:=λH=>aDb hB.Sb 0 60 H;simp only[oH,aWp];simp only[go_sem,↓aB,seval,gR];refine aY (aq:=cL) rfT rfT ?_;cases e1:wi q.kind 0 2 with
 |false=>simp only[go_sem,↓aB,seval,cL,k1,e1,BQ,BB]
 |true=>cases e2:aGx q.lk with
  |false=>simp only[go_sem,↓aB,seval,cL,k1,k2,e1,e2,BQ,BR,Zz,BB]
  |true=>cases e3:((q.options.length:Int)==(q.dv.length:Int))with
   |false=>simp only[go_sem,↓aB,seval,cL,k1,k2,e1,e2,e3,AF,BQ,BR,Zz,BB]
   |true=>cases e4:(wi q.options.length 0 6&&q.options.all (vP 1 40))with
    |false=>simp only[go_sem,↓aB,seval,cL,k1,k2,k4,u1,e1,e2,e3,e4,AF,BQ,BR,Zz,BB,eH,dG,aL]
    |true=>cases e5:(wi q.dv.length 0 6&&q.dv.all (vP 0 60))with
     |false=>simp only[go_sem,↓aB,seval,cL,k1,k2,k4,k5,u1,u2,e1,e2,e3,e4,e5,AF,BQ,BR,Zz,BB,eH,dG,aL]
     |true=>cases e6:(wi q.cy.length 0 8&&q.cy.all aOl)with
      |false=>simp only[go_sem,↓aB,seval,cL,k1,k2,k4,k5,k6,u1,u2,e1,e2,e3,e4,e5,e6,AF,BQ,BR,Zz,BB,eH,dG,aL]
      |true=>cases e7:vP 0 40 q.key with
       |false=>simp only[go_sem,↓aB,seval,cL,k1,k2,k4,k5,k6,k7,u1,u2,e1,e2,e3,e4,e5,e6,e7,AF,BQ,BR,Zz,BB,eH,dG,aL]
       |true=>simp only[go_sem,↓aB,seval,cL,k1,k2,k4,k5,k6,k7,k8,u1,u2,e1,e2,e3,e4,e5,e6,e7,AF,BR,Zz,eH,dG,aL]
end
abbrev aFq(g:SN):ag:=qS [qb 12 .lss 11 10]<|.seq (qC 12 (.skip) (.exit 2))<|.seq (.block 3 (qS [qm 13 11,qm 5 13]<|qS [qm 14 0,qm 15 4,qm 16 5,qq 17 (.dm (u 14) [(.tmp 15),(.tmp 16)]),qq 18 (.un .not (u 17))]<|qC 18 (.ret) (.skip)))<|.region Po [qbi 19 .add 11 1,qm 11 19]
abbrev aFr(g:SN):ag:=qS [qb 8 .lss 7 6]<|.seq (qC 8 (.skip) (.exit 0))<|.seq (.block 1 (qS [qm 9 7,qm 4 9]<|qS [ql 10 1 2,qmc 11 z0]<|.block 2 (.loop (aFq g))))<|.region Po [qbi 20 .add 7 1,qm 7 20]
def yR(g:SN):bw:=⟨21,[],[],qS [ql 6 1 1,qmc 7 z0]<|.block 0 (.loop (aFr g))⟩
abbrev aDp(g:SN):ag:=qS [qb 19 .lss 18 17]<|.seq (qC 19 (.skip) (.exit 2))<|.seq (.block 3 (qS [qm 20 18,qi 21 16 18 2,qla 22 2 21,qq 6 (.alloc [z0,(.sl Pa [])]),qm 5 20,qs 2 6 22]<|qS [qm 23 4,qm 24 5,qb 25 .neq 23 24,qm 26 25,qT 27 26 (ol 1 2),qT 28 26 (obi .neq 27 2),qT 29 26 (om 28),qF 30 29 (of 0 6),qF 31 29 (ol 1 30),qF 32 29 (obi .eql 31 2),qT 33 26 (.pick (u 29) uT (u 32)),qp 34 26 33,qm 35 34,qT 36 35 (om 0),qT 37 35 (om 4),qT 38 35 (om 5),qT 39 35 (.dm (u 36) [(.tmp 37),(.tmp 38)]),qT 40 35 (.un .not (u 39)),qp 41 35 40]<|qC 41 (.ret) (.skip)))<|.region Po [qbi 42 .add 18 1,qm 18 42]
abbrev aDq(g:SN):ag:=qS [qb 12 .lss 11 10]<|.seq (qC 12 (.skip) (.exit 0))<|.seq (.block 1 (qS [qm 13 11,qm 4 13]<|qS [qf 14 8 1,qf 15 2 14,ql 16 1 15,qn 17 16,qmc 18 z0]<|.block 2 (.loop (aDp g))))<|.region Po [qbi 43 .add 11 1,qm 11 43]
def rG(g:SN):bw:=⟨44,[6],[],qS [qf 7 8 1,qf 8 2 7,ql 9 1 8,qn 10 9,qmc 11 z0]<|.block 0 (.loop (aDq g))⟩
def aGW(g:SN):bw:=⟨6,[],[.tmp 4],qS [qx 2 1 0,qx 3 1 1,qmc 4 .bx]<|qS [qq 5 (.mkf (g "H") [] [(.tmp 2),(.tmp 3)]),qm 4 5]<|.ret⟩
def aDr(g:SN):bw:=⟨6,[],[.tmp 4],qS [qx 2 13 0,qx 3 1 1,qmc 4 .bx]<|qS [qq 5 (.mkf (g "be") [] [(.tmp 2),(.tmp 3)]),qm 4 5]<|.ret⟩
abbrev aEw:=List (Nat×Nat)
def aMf{base:Nat}{v:AV}{H:LO}{wr:LN}:cJ base (v,H,wr)=(v,H.take base,wr)∨cJ base (v,H,wr)=(v,H,wr):=by
 unfold cJ;dsimp only;split
 ·exact .inl rfl
 exact .inr rfl
section
variable {A:af}{g:SN}
structure ux(A:af)(o v base n:Nat)(I:aEw->LO->Prop):Prop where
 len:∀p H,I p H->H.length=n
 go:∀p H X (a b:Nat),p.length<10000->a<1000->b<1000->I p H->∃(H':LO) (wr:LN),aG A YF [.own 0 [],.yld o v,vi a,vi b] (H++X)=N1 (.bool Pa,H'++X,wr)/\I (p++[(a,b)]) H'/\∀x∈wr,base<=x
def aV7(A:af)(f:Nat)(ay:LA)(L:aEw):Prop:=∀(o v base n:Nat) (I:aEw->LO->Prop) (H:LO),ux A o v base n I->I [] H ->
 ∃H' X wr,aG A f (.yld o v::ay) H=N1 (.tup [],H'++X,wr)/\I L H'/\∀x∈wr,base<=x
def aGX{o v base n:Nat}{I:aEw->LO->Prop}(hR:ux A o v base n I){p:aEw}{H X:LO}{a b:Nat}(hp:p.length<10000)(ha:a<1000)(hb:b<1000)(hI:I p H){site:Option Nat}{k:AV×LO×LN->Prop}{tg} (hk:∀H' wr,I (p++[(a,b)]) H'->(∀x∈wr,base<=x)->H'.length=H.length->k (.bool Pa,H'++X,wr)):aCi (cX (aG A) (H++X) site (.yld o v) [vi a,vi b]) k tg:=by
 obtain⟨H',wr,h1,h2,h3⟩:=hR.go p H X a b hp ha hb hI;have he:cX (aG A) (H++X) site (.yld o v) [vi a,vi b]=N1 (.bool Pa,H'++X,wr):=by rw[aGL];have:kA (H++X) [vi a,vi b]=N1 ([vi a,vi b],[]):=rfl;rw[this];dsimp only;have e2:([vi a,vi b]:LA).map AV.strip=[vi a,vi b]:=rfl;rw[e2,show dL (H++X) []=H++X from rfl,h1];rfl
 rw[he];exact hk H' wr h2 h3 ((hR.len _ _ h2).trans (hR.len _ _ hI).symm)
def aOm{o v base n:Nat}{I:aEw->LO->Prop}(hR:ux A o v base n I){p:aEw}{H:LO}{a b:Nat}(hp:p.length<10000)(ha:a<1000)(hb:b<1000)(hI:I p H){site:Option Nat}{k:AV×LO×LN->Prop}{tg} (hk:∀H' wr,I (p++[(a,b)]) H'->(∀x∈wr,base<=x)->H'.length=H.length->k (.bool Pa,H',wr)):aCi (cX (aG A) H site (.yld o v) [vi a,vi b]) k tg:=by
 have:=aGX (X:=[]) hR hp ha hb hI (site:=site) (k:=k) (tg:=tg) (λH' wr h1 h2 h3=>by rw[AJ];exact hk H' wr h1 h2 h3)
 rwa [AJ]at this
def aMg(i m:Nat):aEw:=(GZ m).map λk=>(i,k)
def qA(n m:Nat):aEw:=(GZ n).flatMap λi=>aMg i m
def aL4{i m:Nat}:aMg i (m+1)=aMg i m++[(i,m)]:=by unfold aMg;rw[LQ,DQ];rfl
def aEx{n m:Nat}:qA (n+1) m=qA n m++aMg n m:=by unfold qA;rw[LQ,JK];simp
def aJC{i m:Nat}:(aMg i m).length=m:=by simp[aMg]
def rH{n m:Nat}:(qA n m).length=n*m:=by
 induction n with
 |zero=>simp[qA]
 |succ n ih=>rw[aEx,BA,ih,aJC,JS]
def aNh{i m a b:Nat}:(a,b)∈aMg i m↔a=i/\b<m:=by
 unfold aMg;rw[DB];constructor
 ·rintro⟨k,hk,e⟩;cases e;exact⟨rfl,HE.1 hk⟩
 rintro⟨rfl,h⟩;exact⟨b,HE.2 h,rfl⟩
def aDs{n m a b:Nat}:(a,b)∈qA n m↔a<n/\b<m:=by
 unfold qA;rw[List.mem_flatMap];constructor
 ·rintro⟨i,hi,h⟩;obtain⟨rfl,h2⟩:=aNh.1 h;exact⟨HE.1 hi,h2⟩
 rintro⟨h1,h2⟩;exact⟨a,HE.2 h1,aNh.2 ⟨rfl,h2⟩⟩
def aDt(h:Has A g "H" (yR g)){n m:Nat}(hn:n<=64)(hm:m<=64):aV7 A (g "H") [.ep [vi n] 0,.ep [vi m] 0] (qA n m):=by
 intro o v base N I H hR hI;have ax:H.length=N:=hR.len _ _ hI;obtain⟨v',H',ba,h1,rfl,h2,h3⟩:=h.bp (args:=[.yld o v,.ep [vi n] 0,.ep [vi m] 0]) (H:=H) (K:=λv H' wr=>v=.tup []/\I (qA n m) H'/\∀x∈wr,base<=x) (by
  simp only[yR];simp only[go_sem,↓aB,seval,AJ,AD,AA,AE];refine bJ (id:=0) (λi ρ1 H1 wr=>ρ1 7=vi (i:Nat)/\I (qA i m) H1/\∀x∈wr,base<=x) n (λρ1 H1 wr=>I (qA n m) H1/\∀x∈wr,base<=x)
   cB rfl ⟨rfl,hI,λx hx=>by cases hx⟩ ?_ ?_
  ·rintro i ρ1 H1 dc mg ⟨e7,yy,dy⟩ hf;have f6:ρ1 6=vi (n:Nat):=hf 6 rfl;have f0:ρ1 0=.yld o v:=hf 0 rfl;have f2:ρ1 2=.ep [vi m] 0:=hf 2 rfl;simp only[go_sem,↓aB,seval,e7,f6];refine aD (λe3=>?_) (λe3=>?_)
   ·have hlt:i<n:=by simp at e3;omega
    have hw:=wS (i:=i) omT;have V4:i*m<=64*64:=JL omT hm;simp only[go_sem,↓aB,seval,e7,f2,AD,AA,AE];refine bJ (id:=2) (λj ρ2 H2 wr=>ρ2 11=vi (j:Nat)/\I (qA i m++aMg i j) H2/\∀x∈wr,base<=x) m (λρ2 H2 wr=>I (qA (i+1) m) H2/\∀x∈wr,base<=x)
     cB rfl ⟨rfl,by simpa [aMg]using yy,dy⟩ ?_ ?_
    ·rintro j ρ2 H2 en mo ⟨e11,I6,gn⟩ cq;have k10:ρ2 10=vi (m:Nat):=cq 10 rfl;have k0:ρ2 0=.yld o v:=(cq 0 rfl).trans f0;have k4:ρ2 4=vi (i:Nat):=cq 4 rfl;simp only[go_sem,↓aB,seval,e11,k10];refine aD (λe4=>?_) (λe4=>?_)
     ·have jlt:j<m:=by simp at e4;omega
      have tv:=wS (i:=j) omT;simp only[go_sem,↓aB,seval,e11,k0,k4];refine aOm hR (p:=qA i m++aMg i j) (by rw[BA,rH,aJC];omega) omT omT I6 ?_;rintro H3 wr3 I7 pr yz;simp only[go_sem,↓aB,seval,tv,e11];exact⟨jlt,by rw[aL4,<- CJ];exact I7,rB gn pr⟩
     have:j=m:=by simp at e4;omega
     subst this;simp only[go_sem,seval];rw[aEx];exact⟨I6,gn⟩
    rintro ρ3 H3 wr3 ⟨I7,pr⟩ im;have e7':ρ3 7=vi (i:Nat):=(im 7 rfl).trans e7;simp only[go_sem,↓aB,seval,e7',hw];exact⟨hlt,I7,pr⟩
   have:i=n:=by simp at e3;omega
   subst this;simp only[go_sem,seval];exact⟨yy,dy⟩
  rintro ρ' H' ba ⟨W0,tv⟩ hf;simp only[go_sem,↓aB,seval];rw[jG (by have:=hR.len _ _ W0;omega)];exact⟨rfl,W0,tv⟩)
 exact⟨H',[],ba,by rw[AJ];exact h1,h2,h3⟩
def aGY(l:List Shape)(kind:Int)(i k:Nat):Bool:=((i:Int) != (k:Int))&&((kind != 2) || (((l[k]?).map Shape.kind).getD 0==2))
def tD(l:List Shape)(kind:Int)(i m:Nat):aEw:=(aMg i m).filter λp=>aGY l kind p.1 p.2
def iI(l:List Shape)(kind:Int)(n m:Nat):aEw:=(qA n m).filter λp=>aGY l kind p.1 p.2
def aGZ{l:List Shape}{kind:Int}{i m:Nat}:tD l kind i (m+1)=tD l kind i m++(if aGY l kind i m then [(i,m)] else []):=by unfold tD;rw[aL4,NG];congr 1;cases h:aGY l kind i m<;>simp[h]
def aL5{l:List Shape}{kind:Int}{n m:Nat}:iI l kind (n+1) m=iI l kind n m++tD l kind n m:=by unfold iI tD;rw[aEx,NG]
def aV8{l:List Shape}{kind:Int}{n m i j:Nat}:(iI l kind n m++tD l kind i j).length<=n*m+j:=by rw[BA];have h1:=MJ (λp:Nat×Nat=>aGY l kind p.1 p.2) (qA n m);have h2:=MJ (λp:Nat×Nat=>aGY l kind p.1 p.2) (aMg i j);rw[rH]at h1;rw[aJC]at h2;unfold iI tD;omega
def aCw(h:Has A g "be" (rG g))(b:Block)(kind:Int)(hl:b.aw.length<=64):aV7 A (g "be") [.ep (aE b) 0,.ep [vi kind] 0] (iI b.aw kind b.aw.length b.aw.length):=by
 intro o v base N I H hR hI;have ax:H.length=N:=hR.len _ _ hI;obtain⟨c0,c1,c2,c3,c4,c5,c6,c7,c11,c12,ig⟩:∃c0 c1 c2 c3 c4 c5 c6 c7 c11 c12,aE b=[c0,c1,c2,c3,c4,c5,c6,c7,vi b.w,vi b.h,.sl Po (b.aw.map aH),c11,c12]:=by obtain⟨_,_,⟨_,_,_⟩,_,_,_,_,_,_,_,_⟩:=b;exact⟨_,_,_,_,_,_,_,_,_,_,rfl⟩
 have E3:(b.aw.map aH).length=b.aw.length:=AF ..;obtain⟨v',H',ba,h1,rfl,h2,h3⟩:=h.bp (args:=[.yld o v,.ep (aE b) 0,.ep [vi kind] 0]) (H:=H) (K:=λv H' wr=>v=.tup []/\(∃H0 X,H'=H0++X/\I (iI b.aw kind b.aw.length b.aw.length) H0)/\∀x∈wr,base<=x) (by
  rw[ig];simp only[rG];simp only[go_sem,↓aB,seval,AB,AD,AA,AE,BC,E3];generalize Dl:b.aw=l at *;refine bJ (id:=0) (λi ρ1 H1 wr=>ρ1 11=vi (i:Nat)/\(∃H0 x,H1=H0++[x]/\I (iI l kind i l.length) H0)/\∀x∈wr,base<=x) l.length (λρ1 H1 wr=>(∃H0 x,H1=H0++[x]/\I (iI l kind l.length l.length) H0)/\∀x∈wr,base<=x)
   cB rfl ⟨rfl,⟨H,_,rfl,hI⟩,λx hx=>by cases hx⟩ ?_ ?_
  ·rintro i ρ1 H1 dc mg ⟨e7,⟨H0,x0,rfl,yy⟩,dy⟩ hf;have f10:ρ1 10=vi (l.length:Nat):=hf 10 rfl;have f0:ρ1 0=.yld o v:=hf 0 rfl;have f1:ρ1 1=.ep [c0,c1,c2,c3,c4,c5,c6,c7,vi b.w,vi b.h,.sl Po (l.map aH),c11,c12] 0:=hf 1 rfl;have f2:ρ1 2=.ep [vi kind] 0:=hf 2 rfl;simp only[go_sem,↓aB,seval,e7,f10];refine aD (λe3=>?_) (λe3=>?_)
   ·have hlt:i<l.length:=by simp at e3;omega
    have hw:=wS (i:=i) omT;have V4:i*l.length<=64*64:=JL omT hl;simp only[go_sem,↓aB,seval,e7,f1,AB,AD,AA,AE,BC,E3];refine bJ (id:=2) (λj ρ2 H2 wr=>ρ2 18=vi (j:Nat)/\(∃H0 x,H2=H0++[x]/\I (iI l kind i l.length++tD l kind i j) H0)/\∀x∈wr,base<=x) l.length (λρ2 H2 wr=>(∃H0 x,H2=H0++[x]/\I (iI l kind (i+1) l.length) H0)/\∀x∈wr,base<=x)
     cB rfl ⟨rfl,⟨H0,x0,rfl,by simpa [tD,aMg]using yy⟩,dy⟩ ?_ ?_
    ·rintro j ρ2 H2 en mo ⟨e11,⟨H0',x1,rfl,I6⟩,gn⟩ cq;have k10:ρ2 17=vi (l.length:Nat):=cq 17 rfl;have k16:ρ2 16=.sl Po (l.map aH):=cq 16 rfl;have k0:ρ2 0=.yld o v:=(cq 0 rfl).trans f0;have k2:ρ2 2=.ep [vi kind] 0:=(cq 2 rfl).trans f2;have k4:ρ2 4=vi (i:Nat):=cq 4 rfl;simp only[go_sem,↓aB,seval,e11,k10];refine aD (λe4=>?_) (λe4=>?_)
     ·have jlt:j<l.length:=by simp at e4;omega
      have tv:=wS (i:=j) omT;have fh:=mgE aH jlt;have V2:H0'.length=H.length:=(hR.len _ _ I6).trans ax.symm;have g1:∀y:ah,(H0'++[y])[H.length]? = N1 y:=λy=>by rw[<- V2];simp
      have g2:∀y z:ah,(H0'++[y]).set H.length z=H0'++[z]:=λy z=>by rw[<- V2];simp
      have g3:∀(y:ah) (mk:Nat->ah),make (H0'++[y]) H.length mk=H0'++[mk (y.ver+1)]:=λy mk=>by unfold make;rw[g1,g2];rfl
      have g4:∀y:ah,bH (H0'++[y]) H.length=y.ver+1:=λy=>by unfold bH;rw[g1];rfl
      have g5:H.length<H0'.length+1:=omT;have hok:aGY l kind i j=(((i:Int) != (j:Int))&&((kind != 2) || (l[j].kind==2))):=by unfold aGY;rw[AP jlt];rfl
      have Qk:(iI l kind i l.length++tD l kind i j).length<10000:=by have:=aV8 (l:=l) (kind:=kind) (n:=i) (m:=l.length) (i:=i) (j:=j);omega
      have tp:aGY l kind i j=Po->tD l kind i (j+1)=tD l kind i j:=λh=>by rw[aGZ,h];simp
      have Be:aGY l kind i j=Pa->iI l kind i l.length++tD l kind i (j+1)=iI l kind i l.length++tD l kind i j++[(i,j)]:=λh=>by rw[aGZ,h];simp
      cases e5:((i:Int) != (j:Int))with
      |false=>simp only[go_sem,↓aB,seval,e5,tv,e11,k16,k4,AU,AT,jlt,fh,aH,g1,g2,g5,AB,AD,AA,AE,BB];exact⟨⟨H0',_,rfl,by rw[tp (by rw[hok,e5];rfl)];exact I6⟩,gn⟩
      |true=>cases e6:(kind != 2)with
       |true=>simp only[go_sem,↓aB,seval,e5,e6,e11,k16,k4,k2,k0,AU,AT,jlt,fh,aH,g1,g2,g5,AB,AD,AA,AE,Zz,CE];refine aGX hR Qk (by have:=E3;omega) omT I6 ?_;rintro H3 wr3 I7 pr yz;simp only[go_sem,↓aB,seval,tv,e11,Zz];exact⟨jlt,⟨H3,_,rfl,by rw[Be (by rw[hok,e5,e6];rfl)];exact I7⟩,rB gn pr⟩
       |false=>cases e7:(l[j].kind==2)with
        |true=>simp only[go_sem,↓aB,seval,e5,e6,e7,e11,k16,k4,k2,k0,AU,AT,jlt,fh,aH,g1,g2,g5,AB,AD,AA,AE,Zz];refine aGX hR Qk omT omT I6 ?_;rintro H3 wr3 I7 pr yz;simp only[go_sem,↓aB,seval,tv,e11,Zz];exact⟨jlt,⟨H3,_,rfl,by rw[Be (by rw[hok,e5,e6,e7];rfl)];exact I7⟩,rB gn pr⟩
        |false=>simp only[go_sem,↓aB,seval,e5,e6,e7,tv,e11,k16,k4,k2,AU,AT,jlt,fh,aH,g1,g2,g5,AB,AD,AA,AE,Zz,BB];exact⟨⟨H0',_,rfl,by rw[tp (by rw[hok,e5,e6,e7];rfl)];exact I6⟩,gn⟩
     have:j=l.length:=by simp at e4;omega
     subst this;simp only[go_sem,seval];rw[aL5];exact⟨⟨H0',x1,rfl,I6⟩,gn⟩
    rintro ρ3 H3 wr3 ⟨⟨H0',x1,rfl,I7⟩,pr⟩ im;have e7':ρ3 11=vi (i:Nat):=(im 11 rfl).trans e7;simp only[go_sem,↓aB,seval,e7',hw];exact⟨hlt,⟨H0',x1,rfl,I7⟩,pr⟩
   have:i=l.length:=by simp at e3;omega
   subst this;simp only[go_sem,seval];exact⟨⟨H0,x0,rfl,yy⟩,dy⟩
  rintro ρ' H' ba ⟨⟨H0,x0,rfl,W0⟩,tv⟩ hf;have V2:H0.length=H.length:=(hR.len _ _ W0).trans ax.symm;simp only[go_sem,↓aB,seval];rcases aMf (base:=H.length) (v:=AV.tup []) (H:=H0++[x0]) (wr:=ba)with e | e
  ·rw[e,<- V2,List.take_left];exact⟨rfl,⟨H0,[],by rw[AJ],W0⟩,tv⟩
  rw[e];exact⟨rfl,⟨H0,[x0],rfl,W0⟩,tv⟩)
 obtain⟨H0,X,rfl,h2⟩:=h2;exact⟨H0,X,ba,h1,h2,h3⟩
end
def aAJ(g:SN):ag:=.block 0 (qS [qbi 16 .eql 14 1,qm 15 16]<|qC 15 (qS [qf 17 2 1,qla 18 3 17,qc 19 (g "bs") [u 18],qm 2 19]<|.ret) (qS [qbi 21 .eql 14 4,qm 20 21]<|qC 20 (qS [qf 22 8 1,qla 23 3 22,qc 24 (g "u") [u 23],qm 2 24]<|.ret) (.skip)))
def tE(g:SN):bw:=⟨25,[],[.tmp 2],qS [qx 1 13 0,qmc 2 z0]<|.seq (qS [qla 4 13 1,qq 5 (.bsl 13 [z0,(.sl Po []),z0,z0,(.sl Po []),z0,(.sl Po []),(.sl Po []),z0,z0,(.sl Po []),(.sl Po []),(.sl Po [])] 1 [(0,(.tmp 4))]),qq 6 (.build [(.str []),(.sl Pa []),(.sl Pa []),(.sl Pa [])] [(0,1,(.const (.str [97]))),(1,1,(.tmp 5))]),qq 7 (.bsl 4 [(.str []),(.sl Po []),(.sl Po []),(.sl Po [])] 1 [(0,(.tmp 6))]),qq 8 (.build [(.str []),(.sl Pa [])] [(0,1,(.const (.str [120]))),(1,1,(.tmp 7))]),qc 9 (g "e") [u 8],qm 3 9]<|qS [qm 10 3,qbi 11 .neq 10 0]<|qC 11 (qS [qm 12 3,qm 2 12]<|.ret) (.skip))<|.seq (qS [qf 13 0 1,ql 14 1 13]<|aAJ g)<|qS [qmc 2 z0]<|.ret⟩
def aDu(g:SN):bw:=⟨8,[],[.tmp 4],qS [qmc 4 z0]<|qS [qm 5 0,qm 6 1,qc 7 (g "cG") [u 5,u 6],qm 4 7]<|.ret⟩
def kI(g:SN):ag:=.block 0 (qS [qm 17 5,qbi 18 .eql 17 0,qm 19 18,qF 20 19 (om 1),qF 21 19 (om 0),qF 22 19 (ob .eql 20 21),qq 23 (.pick (u 19) uT (u 22)),qm 16 23]<|qC 16 (qS [qmc 4 z0]<|.ret) (qS [qm 25 5,qbi 26 .eql 25 1,qm 24 26]<|qC 24 (qS [qm 27 0,qm 28 1,qq 29 (.ixS (u 28) (ui 0)),qc 30 (g "bM") [u 27,u 29],qm 4 30]<|.ret) (qS [qm 32 5,qm 33 0,qq 34 (.fg (u 33)),qb 35 .geq 32 34,qm 31 35]<|qC 31 (qS [qmc 4 (.int .i64 (-1))]<|.ret) (qS [qm 37 5,qq 38 (.bad),qb 39 .leq 37 38,qm 40 39,qT 41 40 (om 0),qT 42 40 (.fg (u 41)),qT 43 40 (obi .leq 42 64),qp 44 40 43,qm 36 44]<|qC 36 (qS [qm 45 0,qm 46 1,qc 47 (g "db") [u 45,u 46],qm 4 47]<|.ret) (.skip)))))
abbrev qB(g:SN):ag:=.seq (qS [qm 57 8,qm 58 9,qb 59 .lss 57 58]<|qC 59 (.skip) (.exit 1))<|.block 2 (.seq (qS [qm 60 0,qm 61 8,qq 62 (.ixS (u 60) (u 61)),qm 63 6,qb 64 .neq 62 63]<|qC 64 (qS [qm 65 0,qm 66 8,qbi 67 .add 66 1,qm 68 9,qq 69 (.fm (u 65) (N1 (.tmp 67)) (N1 (.tmp 68))),qm 70 6,qc 71 (g "bM") [u 69,u 70],qm 11 71]<|.seq (qS [qm 72 11,qbi 73 .lss 72 0]<|qC 73 (qS [qmc 4 (.int .i64 (-1))]<|.ret) (.skip))<|.region Po [qm 74 8,qm 75 11,qbi 76 .add 75 1,qb 77 .add 74 76,qm 8 77]) (.skip))<|.seq (qS [qm 78 0,qm 79 8,qbi 80 .add 79 1,qq 81 (.ixS (u 78) (u 80)),qm 82 7,qb 83 .eql 81 82,qm 84 83,qT 85 84 (om 0),qT 86 84 (om 8),qT 87 84 (om 8),qT 88 84 (om 5),qT 89 84 (ob .add 87 88),qT 90 84 (.fm (u 85) (N1 (.tmp 86)) (N1 (.tmp 89))),qT 91 84 (om 1),qT 92 84 (ob .eql 90 91),qp 93 84 92]<|qC 93 (qS [qm 94 8,qm 4 94]<|.ret) (.skip))<|qS [qm 95 8,qbi 96 .add 95 1,qm 8 96]<|qS [qm 97 10,qbi 98 .add 97 1,qm 10 98]<|qS [qm 99 5,qq 100 (.bad),qb 101 .leq 99 100,qm 102 101,qT 103 102 (om 10),qT 104 102 (om 8),qT 105 102 (oc (g "di") [u 104]),qT 106 102 (ob .gtr 103 105),qp 107 102 106]<|qC 107 (qS [qm 108 0,qm 109 8,qq 110 (.fm (u 108) (N1 (.tmp 109)) N2),qm 111 1,qc 112 (g "db") [u 110,u 111],qm 12 112]<|.seq (qS [qm 113 12,qbi 114 .geq 113 0]<|qC 114 (qS [qm 115 12,qm 116 8,qb 117 .add 115 116,qm 4 117]<|.ret) (.skip))<|qS [qmc 4 (.int .i64 (-1))]<|.ret) (qS [qm 118 5,qq 119 (.bad),qb 120 .gtr 118 119,qm 121 120,qT 122 121 (om 10),qT 123 121 (om 8),qT 124 121 (.bin .shr .no (u 123) (uc (.int .u64 4))),qT 125 121 (.bin .add .no (ui 4) (u 124)),qT 126 121 (ob .geq 122 125),qp 127 121 126,qm 128 127,qT 129 128 (om 8),qT 130 128 (om 9),qT 131 128 (ob .lss 129 130),qp 132 128 131]<|qC 132 (qS [qm 133 0,qm 134 8,qq 135 (.fm (u 133) (N1 (.tmp 134)) N2),qm 136 1,qc 137 (g "dj") [u 135,u 136],qm 13 137]<|.seq (qS [qm 138 13,qbi 139 .lss 138 0]<|qC 139 (qS [qmc 4 (.int .i64 (-1))]<|.ret) (.skip))<|qS [qm 140 8,qm 141 13,qb 142 .add 140 141,qm 4 142]<|.ret) (.skip)))
def lX(g:SN):bw:=⟨143,[],[.tmp 4],qS [qmc 4 z0]<|qS [qm 14 1,qq 15 (.fg (u 14)),qm 5 15]<|.seq (kI g)<|qS [qm 48 1,qq 49 (.ixS (u 48) (ui 0)),qm 6 49]<|qS [qm 50 1,qq 51 (.ixS (u 50) (ui 1)),qm 7 51]<|qS [qmc 8 z0]<|qS [qm 52 0,qq 53 (.fg (u 52)),qm 54 5,qb 55 .sub 53 54,qbi 56 .add 55 1,qm 9 56]<|qS [qmc 10 z0]<|.seq (.block 1 (.loop (qB g)))<|qS [qmc 4 (.int .i64 (-1))]<|.ret⟩
abbrev aDv(g:SN):ag:=qS [qb 54 .lss 53 52]<|.seq (qC 54 (.skip) (.exit 0))<|.seq (.block 1 (qS [qm 55 11,qm 56 0,qm 57 11,qq 58 (.fm (u 56) (N1 (.tmp 57)) N2),qm 59 1,qc 60 (g "cJ") [u 58,u 59],qb 61 .add 55 60,qm 12 61]<|qS [qm 62 0,qm 63 11,qm 64 12,qq 65 (.fm (u 62) (N1 (.tmp 63)) (N1 (.tmp 64))),qc 66 (g "f") [u 10,u 65]]<|qS [qm 67 2,qc 68 (g "f") [u 10,u 67]]<|.region Po [qm 69 12,qm 70 1,qq 71 (.fg (u 70)),qb 72 .add 69 71,qm 11 72]))<|.region Po [qbi 73 .add 53 1,qm 53 73]
abbrev aDw(g:SN):ag:=qS [qb 79 .lss 78 77]<|.seq (qC 79 (.skip) (.exit 2))<|.seq (.block 3 (qS [qm 81 0,qm 82 11,qq 83 (.fm (u 81) (N1 (.tmp 82)) N2),qc 84 (g "dm") [u 83],qm 80 84,qq 85 (.ext 0 (u 80)),qq 86 (.ext 1 (u 80)),qm 13 85,qm 14 86]<|qS [qm 87 11,qm 88 14,qb 89 .add 87 88,qm 15 89]<|qS [qm 90 0,qm 91 11,qm 92 15,qq 93 (.fm (u 90) (N1 (.tmp 91)) (N1 (.tmp 92))),qc 94 (g "f") [u 10,u 93]]<|qS [qm 95 2,qc 96 (g "f") [u 10,u 95]]<|.region Po [qm 97 15,qm 11 97]))<|.region Po [qbi 98 .add 78 1,qm 78 98]
def aAK(g:SN):bw:=⟨104,[10],[.tmp 8],qS [qmc 8 (.str [])]<|.seq (qS [qm 16 1,qm 17 2,qb 18 .eql 16 17,qm 19 18,qF 20 19 (om 3),qF 21 19 (obi .eql 20 0),qq 22 (.pick (u 19) uT (u 21))]<|qC 22 (qS [qm 23 0,qm 8 23]<|.ret) (.skip))<|.seq (qS [qm 24 0,qm 25 1,qc 26 (g "W") [u 24,u 25],qm 9 26]<|qS [qm 27 9,qbi 28 .eql 27 0]<|qC 28 (qS [qm 29 0,qm 8 29]<|.ret) (qS [qm 30 3,qbi 31 .lss 30 0,qm 32 31,qF 33 32 (om 9),qF 34 32 (om 3),qF 35 32 (ob .lss 33 34),qq 36 (.pick (u 32) uT (u 35))]<|qC 36 (qR [qm 37 9,qm 3 37]) (.skip)))<|qS [qq 10 (.gv 151 [.nilPtr,.ar])]<|qS [qm 38 0,qq 39 (.fg (u 38)),qm 40 3,qm 41 2,qq 42 (.fg (u 41)),qm 43 1,qq 44 (.fg (u 43)),qb 45 .sub 42 44,qb 46 .mul 40 45,qb 47 .add 39 46,qc 48 (g "bX") [u 10,u 47]]<|qS [qmc 11 z0]<|.seq (qS [qm 49 1,qq 50 (.fg (u 49)),qbi 51 .gtr 50 0]<|qC 51 (qS [qm 52 3,qmc 53 z0]<|.block 0 (.loop (aDv g))) (qS [qm 74 2,qc 75 (g "f") [u 10,u 74]]<|qS [qm 76 3,qbi 77 .sub 76 1,qmc 78 z0]<|.block 2 (.loop (aDw g))))<|qS [qm 99 0,qm 100 11,qq 101 (.fm (u 99) (N1 (.tmp 100)) N2),qc 102 (g "f") [u 10,u 101]]<|qS [qc 103 (g "aa") [u 10],qm 8 103]<|.ret⟩
def tF(g:SN):bw:=⟨11,[],[.tmp 6],qS [qmc 6 (.str [])]<|qS [qm 7 0,qm 8 1,qm 9 2,qc 10 (g "cK") [u 7,u 8,u 9,ui (-1)],qm 6 10]<|.ret⟩
def aIF{c:UInt8}:∀{l:Str},0<l.count c->∃u w,l=u++c::w/\c∉u/\EV l c=(u.length:Nat)/\w.count c+1=l.count c
 | [],h=>by simp at h
 |b::l,h=>by
  by_cases e:b=c
  ·subst e;refine⟨[],l,rfl,siT, ?_, ?_⟩
   ·unfold EV;simp
   simp[]
  have hb:(b==c)=false:=by simpa using e
  rw[LP,hb]at h;obtain⟨u,w,h1,h2,h3,h4⟩:=aIF (l:=l) (by simpa using h);refine⟨b::u,w,by rw[h1];rfl,by simp[Ne.symm e,h2], ?_, ?_⟩
  ·unfold EV;rw[hb,h3];simp
  rw[LP,hb];simpa using h4
def aL6{n l:Nat}(h:l<=n):dU n (N1 (vi l)) N2 N2=N1 (l,n,n):=by unfold dU iL vi;dsimp only;rw[Zy ⟨omT,omT⟩];rfl
def aH0{n l k:Nat}(h1:l<=k)(h2:k<=n):dU n (N1 (vi l)) (N1 (vi k)) N2=N1 (l,k,n):=by unfold dU iL vi;dsimp only;rw[Zy ⟨omT,omT⟩];dsimp only;rw[Zy ⟨omT,omT⟩];rfl
def aCx(a b:Str):esc mL (a++b)=esc mL a++esc mL b:=JK
def aDx:∀{u:Str},(126:UInt8)∉u->esc mL u=u
 | [],_=>rfl
 |c::u,h=>by
  simp only[BD,not_or]at h;rw[aFC,aDx h.2];have:mL c=false:=by unfold mL;rw[beq_eq_false_iff_ne];exact Ne.symm h.1
  rw[this];rfl
def yS:∀u:Str,(esc mL u).length<=2*u.length
 | []=>by simp[esc]
 |c::u=>by
  rw[aFC,BA,AW];have:=yS u;split<;>simp<;>omega
@[go_sem] def aTf{call:Nat->LA->LO->Out}{ρ:bN}{H:LO}{ty:Nat}{zs:LA}{id:Nat}:nB call (N1 id) Po ρ H (.gv ty zs)=if id<H.length then N1 (.ptr id (bH H id) 0,make H id (.cw · ty zs),[id])else none:=(rfl)
section
variable {A:af}{g:SN}{tB tP:Nat}
structure RepAll(A:af)(g:SN)(tB tP:Nat):Prop where
 ws:Has A g "f" (cO g)
 cc:A.bq (g "w")=N1 (fB tB tP)
 str:A.bq (g "aa")=N1 (aAh 5)
 grow:A.bq (g "bX")=N1 (aNR 151 5)
 cnt:A.bq (g "W")=N1 aE7
 ix1:A.bq (g "bM")=N1 aYu
 ix2:Has A g "cG" (lX g)
 ix:Has A g "cJ" (aDu g)
 rep:Has A g "cK" (aAK g)
 So:Has A g "bR" (tF g)
def aOn(F:RepAll A g tB tP)(s:Str)(c:UInt8)(H:LO):aG A (g "cJ") [.str s,.str [c]] H=N1 (vi (EV s c),H,[]):=by
 have h1:aG A (g "bM") [.str s,.int .u8 c.toNat] H=N1 (vi (EV s c),H,[]):=dT (by
  rw[F.ix1];show N1 (AV.int .i64 (EV s (((c.toNat:Nat):Int).toNat.toUInt8)),[],[])=_;have:((((c.toNat:Nat):Int)).toNat).toUInt8=c:=siT;rw[this])
 have h2:aG A (g "cG") [.str s,.str [c]] H=N1 (vi (EV s c),H,[]):=by
  refine F.ix2.call ?_;simp only[lX];simp only[go_sem,↓aB,seval,AJ];simp only[kI];simp only[go_sem,↓aB,seval,Zz];cases z:([c]==s)with
  |true=>
   have hz:[c]=s:=by simpa using z
   have:EV s c=0:=by rw[<- hz];unfold EV;simp
   rw[this];simp only[go_sem,↓aB,seval]
  |false=>simp only[go_sem,↓aB,seval,h1,AJ,BG]
 refine F.ix.call ?_;simp only[aDu];simp only[go_sem,↓aB,seval,h2,AJ]
def aL7(F:RepAll A g tB tP)(s:Str)(hs:s.length<=10000)(H:LO):aG A (g "cK") [.str s,.str [126],.str [126,126],vi (-1)] H=N1 (.str (esc mL s),H,[]):=by
 refine F.rep.call ?_;have Bf:∀H,aG A (g "W") [.str s,.str [126]] H=N1 (vi (s.count 126:Nat),H,[]):=λH=>dT (by rw[F.cnt];rfl);have kq:s.count 126<=s.length:=Ce;simp only[aAK];have bl:(([126]:Str)==[126,126])=false:=deT;cases z:(((s.count 126:Nat):Int)==0)with
 |true=>
  have hz:s.count 126=0:=by simpa using z
  have hq:esc mL s=s:=aDx (NH.1 hz);simp only[go_sem,↓aB,seval,bl,Bf,z,hq,Zz,AJ]
 |false=>
  have hz:0<s.count 126:=Nat.pos_of_ne_zero (by simpa using z);have dy:AR.wrap (((s.count 126:Nat):Int)*1)=((s.count 126:Nat):Int):=by rw[wrap_i64 omT omT];omega
  have gn:AR.wrap ((s.length:Int)+((s.count 126:Nat):Int))=((s.length+s.count 126:Nat):Int):=by rw[wrap_i64 omT omT];omega
  have pr:AR.wrap 1=1:=wrap_i64 deT deT;have Bg:aG A (g "bX") [.ptr H.length 1 0,vi ((s.length+s.count 126:Nat):Int)] (H++[.cw 1 151 [.nilPtr,.ar]])=N1 (.tup [],PSt (H++[.gone 0,.gone 0]) 151 H.length 1 (H.length+1) 1 [],[H.length]):=by
   rw[yN (r:=(.tup [],[(H.length,.cw 1 151 [.ptr H.length 1 0,.sr (H.length+1) 1 0])],[.gl 1 5 1 []]))]
   ·simp[cT,eU,PSt]
   rw[F.grow];show aNR 151 5 [.ptr H.length 1 0,.int .i64 ((s.length+s.count 126:Nat):Int)] _=_;simp[aNR];omega
  have B8:decide ((1:Int)>0)=true:=deT;have c:gf (H++[ah.gone 0,ah.gone 0]).length H.length (H.length+1):=⟨siT,siT,omT⟩;have od:∀{w:LN},Wr2 H.length (H.length+1) w->bE H.length [] w=[]:=λ{w} h=>kH λx hx=>by rcases h x hx with e | e<;>omega
  simp only[go_sem,↓aB,seval,bl,Bf,z,Zz,CE,AW,AZ,dy,gn,pr,Bg];refine bJ (id:=0) (λi ρ1 H1 wr=>wr=[]/\ρ1 53=vi (i:Nat)/\∃p q,s=p++q/\H1=PSt (H++[.gone 0,.gone 0]) 151 H.length 1 (H.length+1) 1 (esc mL p)/\ρ1 11=vi (p.length:Nat)/\q.count 126+i=s.count 126) (s.count 126)
   (λρ1 H1 wr=>wr=[]/\∃p q,s=p++q/\H1=PSt (H++[.gone 0,.gone 0]) 151 H.length 1 (H.length+1) 1 (esc mL p)/\ρ1 11=vi (p.length:Nat)/\q.count 126=0)
   cB rfl ⟨rfl,rfl,[],s,rfl,rfl,rfl,rfl⟩ ?_ ?_
  ·rintro i ρ1 H1 dc mg ⟨rfl,e53,p,q,p0,rfl,e11,W3⟩ hf;have e52:ρ1 52=vi (s.count 126:Nat):=hf 52 rfl;have e0:ρ1 0=.str s:=hf 0 rfl;have e1:ρ1 1=.str [126]:=hf 1 rfl;have e2:ρ1 2=.str [126,126]:=hf 2 rfl;have e10:ρ1 10=.ptr H.length 1 0:=hf 10 rfl;simp only[go_sem,↓aB,seval,e53,e52];refine aD (λhb=>?_) (λhb=>?_)
   ·have hlt:i<s.count 126:=by simp at hb;omega
    obtain⟨u,w,k1,k2,k3,k4⟩:=aIF (c:=126) (l:=q) omT;have G6:s.length=p.length+u.length+1+w.length:=by rw[p0,k1];simp;omega
    have fo:dU s.length (N1 (vi (p.length:Nat))) N2 N2=N1 (p.length,s.length,s.length):=aL6 omT;have lq:s.drop p.length=q:=by rw[p0,KU]
    have l8:=λH=>aOn F q 126 H;rw[k3]at l8;have As:AR.wrap ((p.length:Int)+(u.length:Int))=((p.length+u.length:Nat):Int):=by rw[wrap_i64 omT omT];omega
    have dp:dU s.length (N1 (vi (p.length:Nat))) (N1 (vi ((p.length+u.length:Nat):Int))) N2=N1 (p.length,p.length+u.length,s.length):=aH0 omT omT;have nu:(s.take (p.length+u.length)).drop p.length=u:=by rw[p0,k1,<- CJ,List.take_left' siT,KU]
    have Iw:=yS p;obtain⟨wa,f1,f2⟩:=vY F.ws F.cc (ty:=151) (v:=1) (v2:=1) (T:=esc mL p) (s:=u) c omT;obtain⟨wb,f3,f4⟩:=vY F.ws F.cc (ty:=151) (v:=1) (v2:=1) (T:=esc mL p++u) (s:=[126,126]) c soT;have Au:AR.wrap (((p.length+u.length:Nat):Int)+1)=((p.length+u.length+1:Nat):Int):=by rw[wrap_i64 omT omT];omega
    have Lz:=wS (i:=i) omT;simp only[go_sem,↓aB,seval,e53,e0,e1,e2,e10,e11,fo,dp,lq,nu,l8,As,Au,Lz,f1,f3,od f2,od f4,AW,AZ];refine⟨hlt,p++u++[126],w,by rw[p0,k1];simp, ?_, ?_,omT⟩
    ·rw[aCx,aCx,aDx k2];rfl
    simp;omega
   have hi:i=s.count 126:=by simp at hb;omega
   subst hi;simp only[go_sem,seval];exact⟨p,q,p0,rfl,e11,omT⟩
  rintro ρ2 H2 en ⟨rfl,p,q,p0,rfl,e11,W3⟩ hf;have e0:ρ2 0=.str s:=hf 0 rfl;have e10:ρ2 10=.ptr H.length 1 0:=hf 10 rfl;have G6:s.length=p.length+q.length:=by rw[p0];simp
  have fo:dU s.length (N1 (vi (p.length:Nat))) N2 N2=N1 (p.length,s.length,s.length):=aL6 omT;have lq:s.drop p.length=q:=by rw[p0,KU]
  have Iw:=yS p;have Ge:esc mL p++q=esc mL s:=by rw[p0,aCx,aDx (NH.1 W3)]
  have Ma:esc mL s≠[]:=λe=>by
   have:=yS s;cases s with
   |nil=>simp at hz
   |cons a r=>rw[aFC]at e;split at e<;>cases e
  obtain⟨wa,f1,f2⟩:=vY F.ws F.cc (ty:=151) (v:=1) (v2:=1) (T:=esc mL p) (s:=q) c omT;rw[Ge]at f1;have bd:=aCs F.str (ty:=151) (v:=1) (v2:=1) (T:=esc mL s) c Ma (by have:=yS s;omega);simp only[go_sem,↓aB,seval,e0,e10,e11,fo,lq,f1,od f2,bd];unfold PSt;rw[aBe,eS,eS,aD8]
def aAL(F:RepAll A g tB tP)(s:Str)(hs:s.length<=10000)(H:LO):aG A (g "bR") [.str s,.str [126],.str [126,126]] H=N1 (.str (esc mL s),H,[]):=by refine F.So.call ?_;have h1:=aL7 F s hs H;simp only[tF];simp only[go_sem,↓aB,seval,h1,AJ]
end
def aDy(b:Nat)(H:LO)(o:Nat):Bool:=match H[o]? with
 |some x=>x.under b
 |none=>Pa
@[go_sem] def aV9{base o:Nat}{v:AV}{H:LO}(h:v.under base=Pa)(h2:aDy base H o=Pa):cJ base (v,H,[o])=(v,H.take base,[o]):=
 aEb h (by rw[List.all_cons,List.all_nil,Bool.and_true];exact h2)
def aF6{b o:Nat}{H:LO}{x:ah}(h:o<H.length):aDy b (H.set o x) o=x.under b:=by unfold aDy;rw[BW h]
def aW{b o:Nat}{H L:LO}{x:ah}(h:o<H.length):aDy b (H.set o x++L) o=x.under b:=by unfold aDy;rw[aP h]
def ew.len{id k:Nat}{rows:List LA}{v:AV}{o:ah}(h:ew id k rows v o):aW6 v=N1 (.int .i64 rows.length):=by cases h<;>rfl
def ew.inv{id k:Nat}{rows:List LA}{v:AV}{o:ah}(h:ew id k rows v o)(bl:rows≠[]):∃ver,v=.sr id ver rows.length/\o=.vec ver k rows:=by
 cases h with
 |nil=>exact Zw rfl bl
 |obj ver=>exact⟨ver,rfl,rfl⟩
abbrev aBA(g:SN):ag:=qS [qb 9 .lss 8 7]<|.seq (qC 9 (.skip) (.exit 0))<|.seq (.block 1 (qS [qi 10 6 8 1,ql 11 1 10,qm 5 11]<|.region Po [qm 12 3,qm 13 5,qc 14 (g "bR") [u 13,uc (.str [126]),uc (.str [126,126])],qq 15 (.bsl 1 [(.str [])] 1 [(0,(.tmp 14))]),qa 16 1 16 12 15,qm 3 16]))<|.region Po [qbi 17 .add 8 1,qm 8 17]
def wE(g:SN):bw:=⟨20,[16],[.tmp 2],qS [qmc 2 (.str [])]<|qS [qmc 3 (.sl Pa [])]<|.seq (qS [qm 6 0,qn 7 6,qmc 8 z0]<|.block 0 (.loop (aBA g)))<|qS [qm 18 3,qc 19 (g "t") [u 18,uc (.str [126,124])],qm 2 19]<|.ret⟩
abbrev aCy(g:SN):ag:=qS [qb 10 .lss 9 8]<|.seq (qC 10 (.skip) (.exit 0))<|.seq (.block 1 (qS [qi 11 7 9 2,qla 12 2 11,qq 6 (.alloc [z0,(.str [])]),qs 2 6 12]<|.seq (qS [qf 13 0 6,ql 14 1 13,qm 15 4,qb 16 .neq 14 15]<|qC 16 (qR [qm 17 3,qq 18 (.bin .add .no (u 17) (uc (.str [126,124]))),qm 3 18]) (.skip))<|qS [qf 19 0 6,ql 20 1 19,qm 4 20]<|.region Po [qm 21 3,qf 22 1 6,ql 23 1 22,qc 24 (g "bR") [u 23,uc (.str [126]),uc (.str [126,126])],qb 25 .add 21 24,qm 3 25]))<|.region Po [qbi 26 .add 9 1,qm 9 26]
def zR(g:SN):bw:=⟨28,[6],[.tmp 2],qS [qmc 2 (.str [])]<|qS [qmc 3 (.str []),qmc 4 z0]<|.seq (qS [qm 7 0,qn 8 7,qmc 9 z0]<|.block 0 (.loop (aCy g)))<|qS [qm 27 3,qm 2 27]<|.ret⟩
abbrev aDz(g:SN):ag:=qS [qb 18 .lss 17 16]<|.seq (qC 18 (.skip) (.exit 0))<|.seq (.block 1 (qS [qi 19 15 17 1,ql 20 1 19,qm 5 20]<|.region Po [qm 21 3,qm 22 5,qc 23 (g "i") [u 22],qq 24 (.bin .add .no (uc (.str [32])) (u 23)),qb 25 .add 21 24,qm 3 25]))<|.region Po [qbi 26 .add 17 1,qm 17 26]
def aAM(g:SN):bw:=⟨28,[],[.tmp 2],qS [qx 1 2 0,qmc 2 (.str [])]<|qS [qf 6 0 1,ql 7 1 6,qbi 8 .sub 7 3,qf 9 0 1,ql 10 1 9,qbi 11 .sub 10 3,qbi 12 .add 11 1,qq 13 (.fm (uc (.str [43,45,42,47])) (N1 (.tmp 8)) (N1 (.tmp 12))),qm 3 13]<|.seq (qS [qf 14 1 1,ql 15 1 14,qn 16 15,qmc 17 z0]<|.block 0 (.loop (aDz g)))<|qS [qm 27 3,qm 2 27]<|.ret⟩
section
variable {A:af}{g:SN}{tB tP:Nat}
def aNi(sep:Str):∀l:List Str,aJ7 sep (l.map aN)=N1 (sb sep l)
 | []=>rfl
 | [s]=>rfl
 |s::t::r=>by
  have ih:aJ7 sep (aN t::r.map aN)=N1 (sb sep (t::r)):=aNi sep (t::r);show aJ7 sep (aN s::aN t::r.map aN)=_;show (match aJ7 sep (aN t::r.map aN)with
   |some u=>N1 (s++sep++u)
   |none=>N2)=_
  rw[ih];rfl
def aF7{sep:Str}{M:Nat}:∀{l:List Str},(∀s∈l,s.length<=M)->(sb sep l).length<=l.length*(M+sep.length)
 | [],_=>by simp[sb]
 | [s],h=>by have:=h s siT;simp[sb];omega
 |s::t::r,h=>by
  have ih:=aF7 (l:=t::r) (sep:=sep) (M:=M) λx hx=>h x (BZ _ hx);have:=h s siT;show (s++sep++sb sep (t::r)).length<=_;rw[BA,BA,AW,JS];omega
def aVa(hp:A.bq (g "t")=N1 aKm)(l:List Str)(sep:Str)(H:LO)(hl:l.length<=1000000000)(hj:(sb sep l).length<=1000000000000):aG A (g "t") [.sl Po (l.map aN),.str sep] H=N1 (.str (sb sep l),H,[]):=by refine dT ?_;rw[hp];show aKm [.sl Po (l.map aN),.str sep] H=_;unfold aKm;dsimp only;rw[aNi];dsimp only;rw[Zy ⟨omT,by rw[AF];omega⟩]
def qI(hp:A.bq (g "t")=N1 aKm){id:Nat}{l:List Str}{w:AV}{o:ah}(hg:ew id 1 (l.map aN) w o)(sep:Str)(hl:l.length<=1000000000)(hj:(sb sep l).length<=1000000000000):∀H site,H[id]? = N1 o->cX (aG A) H site (.fn (g "t") [] []) [w,.str sep]=N1 (.str (sb sep l),H,[]):=by
 intro H site ho;have hb:=λH=>aVa hp l sep H hl hj;generalize hr:l.map aN=rows at *;cases hg with
 |nil=>simp only[go_sem,seval,hb]
 |obj ver=>
  have bd:(rows.all λr=>r.all AV.still)=true:=by rw[<- hr];exact aT (aC bO _)
  simp only[go_sem,seval,ho,bd,hb]
def aEy{id:Nat}{L:List Str}{w:AV}{o:ah}(hg:ew id 1 (L.map aN) w o)(hL:L.length<=1000000)(s:Str):∃w' o',ew id 1 ((L++[s]).map aN) w' o'/\∀X f,X[id]? = N1 o->eX X (N1 id) 1 16 w (.sl f [[.str s]])=N1 (w',X.set id o',[id]):=by obtain⟨v',o',eu,db⟩:=hg.app (new:=[aN s]) (bytes:=16) siT rfT (by rw[AF];simp;omega);refine⟨v',o', ?_,db⟩;rw[DQ];exact eu
def lH{α β:Type}(f:α->β){l:List α}{i:Nat}(h:i<l.length):(l.take (i+1)).map f=(l.take i).map f++[f l[i]]:=by rw[oG h,DQ];rfl
structure WrtFns(A:af)(g:SN)(tB tP:Nat) extends RepAll A g tB tP where
 join:A.bq (g "t")=N1 aKm
 itoa:A.bq (g "i")=N1 sC
 lines:Has A g "cl" (wE g)
 runs:Has A g "co" (zR g)
 sum:Has A g "cp" (aAM g)
def aH1(F:WrtFns A g tB tP)(l:List Str)(hl:l.length<=64)(hs:∀s∈l,s.length<=1000)(H:LO):aG A (g "cl") [.sl Po (l.map aN)] H=N1 (.str (aPJ l),H,[]):=by
 refine F.lines.call ?_;simp only[wE];simp only[go_sem,↓aB,seval,AF];refine bJ (id:=0) (λi ρ1 H1 wr=>wr=[]/\ρ1 8=vi (i:Nat)/\∃w o,H1=H++[o]/\ρ1 3=w/\ew H.length 1 (((l.take i).map (esc mL)).map aN) w o) l.length
  (λρ1 H1 wr=>wr=[]/\∃w o,H1=H++[o]/\ρ1 3=w/\ew H.length 1 ((l.map (esc mL)).map aN) w o)
  cB rfl ⟨rfl,rfl,.sl Pa [],.gone 0,rfl,rfl,.nil _⟩ ?_ ?_
 ·rintro i ρ1 H1 dc mg ⟨rfl,e8,w,o,rfl,e3,hg⟩ hf;have e7:ρ1 7=vi (l.length:Nat):=hf 7 rfl;have e6:ρ1 6=.sl Po (l.map aN):=hf 6 rfl;simp only[go_sem,↓aB,seval,e8,e7];refine aD (λhb=>?_) (λhb=>?_)
  ·have hlt:i<l.length:=by simp at hb;omega
   have cj:=mgE aN hlt;have hq:=hs _ (AS hlt);have pk:=lH (esc mL) hlt;generalize l[i]=s at *;have B5:=λH=>aAL F.toRepAll s omT H;obtain⟨w',o',eu,db⟩:=aEy hg soT (esc mL s);rw[<- pk]at eu;have dy:=wS (i:=i) omT;have y7:=λf=>db (H++[o]) f (by rw[aBd];rfl);simp only[go_sem,↓aB,seval,e8,e6,e3,AU,AT,hlt,cj,aN,B5,y7,dy];exact⟨w',o',rfl,rfl,eu⟩
  have hi:i=l.length:=by simp at hb;omega
  subst hi;rw[DM]at hg;simp only[go_sem,seval];exact⟨w,o,rfl,e3,hg⟩
 rintro ρ2 H2 en ⟨rfl,w,o,rfl,e3,hg⟩ hf;have hj:=qI F.join hg [126,124] soT (by
  have:=aF7 (l:=l.map (esc mL)) (sep:=[126,124]) (M:=2000) (λs ml=>by
   obtain⟨t,ht,rfl⟩:=DB.1 ml;have:=yS t;have:=hs t ht;omega)
  simp at this;omega)
 have tt:=λsite=>hj (H++[o]) site (by rw[aBd];rfl);simp only[go_sem,↓aB,seval,e3,tt];rfl
def aQb:∀(k n:Nat),n<10 ^ (k+1)->nC (k+1) n=dec n
 |0,n,h=>by
  have h':n<10:=by simpa using h
  rw[dec,nC,Zy h',Zy h']
 |k+1,n,h=>by
  rw[dec,nC];split
  ·rfl
  rw[aQb k (n / 10) (by rw[Nat.pow_succ]at h;omega)]
def aD7:∀k m,(nC k m).length<=k:=by
 intro k
 induction k with
 |zero=>intro m;exact AQ _
 |succ k ih=>
  intro m;unfold nC;split
  ·simp
  have:=ih (m / 10);simp;omega
def aVb(hp:A.bq (g "i")=N1 sC){n:Int}(h0:0<=n)(h1:n<=999999):(dec n.toNat).length<=7/\∀H,aG A (g "i") [vi n] H=N1 (.str (dec n.toNat),H,[]):=by have e7:nC 7 n.toNat=dec n.toNat:=aQb 6 n.toNat (by have:(10:Nat) ^ (6+1)=10000000:=deT;omega);refine⟨by rw[<- e7];exact aD7 7 _,λH=>dT ?_⟩;rw[hp];show sC [.int .i64 n] H=_;simp only[sC];rw[Zy ⟨h0,omT⟩,e7]
def aJD(F:WrtFns A g tB tP)(op:Int)(l:List Int)(Qx:3<=op/\op<=6)(hl:l.length<=16)(hs:∀n∈l,0<=n/\n<=999999)(H:LO):aG A (g "cp") [.agg [vi op,.sl Po (l.map bF)]] H=N1 (.str (aWn op l),H,[]):=by
 refine F.sum.call ?_;have dy:AR.wrap (op - 3)=((op - 3).toNat:Nat):=by rw[wrap_i64 omT omT];omega
 have gn:AR.wrap ((((op - 3).toNat:Nat):Int)+1)=((op - 3).toNat+1:Nat):=by rw[wrap_i64 omT omT];omega
 have hb:dU 4 (N1 (vi ((op - 3).toNat:Nat))) (N1 (vi ((op - 3).toNat+1:Nat))) N2=N1 ((op - 3).toNat,(op - 3).toNat+1,4):=aH0 omT omT;have ot:(([43,45,42,47]:Str).take ((op - 3).toNat+1)).drop (op - 3).toNat=[sg op]:=by have:op=3∨op=4∨op=5∨op=6:=omT;rcases this with rfl | rfl | rfl | rfl<;>rfl
 have Gf:(43::([45,42,47]:Str).take (op - 3).toNat).drop (op - 3).toNat=[sg op]:=ot;simp only[aAM];simp only[go_sem,↓aB,seval,dy,gn,hb,Gf,AF,AW,AZ];refine bJ (id:=0) (λi ρ1 H1 wr=>wr=[]/\ρ1 17=vi (i:Nat)/\H1=H/\∃s:Str,ρ1 3=.str s/\s++aUN (l.drop i)=aWn op l/\s.length<=1+i*8) l.length
  (λρ1 H1 wr=>wr=[]/\H1=H/\ρ1 3=.str (aWn op l))
  cB rfl ⟨rfl,rfl,siT,[sg op],rfl,rfl,siT⟩ ?_ ?_
 ·rintro i ρ1 H1 dc mg ⟨rfl,e17,rfl,s,e3,xc,G6⟩ hf;have e16:ρ1 16=vi (l.length:Nat):=hf 16 rfl;have e15:ρ1 15=.sl Po (l.map bF):=hf 15 rfl;simp only[go_sem,↓aB,seval,e17,e16];refine aD (λhb=>?_) (λhb=>?_)
  ·have hlt:i<l.length:=by simp at hb;omega
   have cj:=mgE bF hlt;obtain⟨q1,q2⟩:=hs _ (AS hlt);have Gg:l.drop i=l[i]::l.drop (i+1):=FD hlt;rw[Gg]at xc;generalize l[i]=n at *;obtain⟨d1,d2⟩:=aVb F.itoa q1 q2;have M1:kJ .add .no (.str [32]) (.str (dec n.toNat))=N1 (.str (32::dec n.toNat)):=kE soT;have R7:kJ .add .no (.str s) (.str (32::dec n.toNat))=N1 (.str (s++32::dec n.toNat)):=kE soT;have dy:=wS (i:=i) omT;simp only[go_sem,↓aB,seval,e17,e15,e3,AU,AT,hlt,cj,bF,d2,M1,R7,dy];refine⟨_,rfl,by rw[<- xc,CJ];rfl,soT⟩
  have hi:i=l.length:=by simp at hb;omega
  subst hi;rw[JX]at xc;have xc:s++[]=aWn op l:=xc;rw[AJ]at xc;simp only[go_sem,seval];rw[e3,xc]
 rintro ρ2 H2 en ⟨rfl,rfl,e3⟩ hf;simp only[go_sem,↓aB,seval,e3]
def aHK(F:WrtFns A g tB tP)(l:List mr)(hl:l.length<=16)(hs:∀r∈l,r.text.length<=1000)(H:LO):aG A (g "co") [.sl Po (l.map cZ)] H=N1 (.str (aHA 0 l),H,[]):=by
 refine F.runs.call ?_;simp only[zR];simp only[go_sem,↓aB,seval,AF];refine bJ (id:=0) (λi ρ1 H1 wr=>wr=[]/\ρ1 9=vi (i:Nat)/\(∃o,H1=H++[o])/\∃(s:Str) (p:Int),ρ1 3=.str s/\ρ1 4=vi p/\s++aHA p (l.drop i)=aHA 0 l/\s.length<=i*2100) l.length
  (λρ1 H1 wr=>wr=[]/\(∃o,H1=H++[o])/\ρ1 3=.str (aHA 0 l))
  cB rfl ⟨rfl,rfl,⟨_,rfl⟩,[],0,rfl,rfl,rfl,siT⟩ ?_ ?_
 ·rintro i ρ1 H1 dc mg ⟨rfl,e9,⟨o,rfl⟩,s,p,e3,e4,xc,G6⟩ hf;have e8:ρ1 8=vi (l.length:Nat):=hf 8 rfl;have e7:ρ1 7=.sl Po (l.map cZ):=hf 7 rfl;simp only[go_sem,↓aB,seval,e9,e8];refine aD (λhb=>?_) (λhb=>?_)
  ·have hlt:i<l.length:=by simp at hb;omega
   have cj:=mgE cZ hlt;have q1:=hs _ (AS hlt);have Gg:l.drop i=l[i]::l.drop (i+1):=FD hlt;rw[Gg]at xc;generalize l[i]=r at *;have B5:=λH=>aAL F.toRepAll r.text omT H;have Iw:=yS r.text;have dy:=wS (i:=i) omT;have M1:kJ .add .no (.str s) (.str [126,124])=N1 (.str (s++[126,124])):=kE (by simp only[AW,AZ];omega);have R7:kJ .add .no (.str (s++[126,124])) (.str (esc mL r.text))=N1 (.str (s++[126,124]++esc mL r.text)):=kE (by simp only[BA,AW,AZ];omega);have Ay:kJ .add .no (.str s) (.str (esc mL r.text))=N1 (.str (s++esc mL r.text)):=kE omT;cases z:(r.gg != p)with
   |true=>
    have hz:r.gg≠p:=by simpa using z
    simp only[go_sem,↓aB,seval,e9,e7,e3,e4,AU,AT,hlt,cj,cZ,z,B5,M1,R7,dy];refine⟨⟨_,rfl⟩,_,_,rfl,rfl, ?_,soT⟩;rw[<- xc];simp[aHA,hz]
   |false=>
    have hz:r.gg=p:=by simpa using z
    simp only[go_sem,↓aB,seval,e9,e7,e3,e4,AU,AT,hlt,cj,cZ,z,B5,Ay,dy];refine⟨⟨_,rfl⟩,_,_,rfl,rfl, ?_,soT⟩;rw[<- xc];simp[aHA,hz]
  have hi:i=l.length:=by simp at hb;omega
  subst hi;rw[JX]at xc;have xc:s++[]=aHA 0 l:=xc;rw[AJ]at xc;simp only[go_sem,seval];exact⟨⟨o,rfl⟩,by rw[e3,xc]⟩
 rintro ρ2 H2 en ⟨rfl,⟨o,rfl⟩,e3⟩ hf;simp only[go_sem,↓aB,seval,e3]
end
def mU(g:SN):ag:=.block 0 (qS [qbi 20 .eql 18 1,qm 19 20]<|qC 19 (qR [qm 21 3,qq 22 (.bsl 1 [(.int .u8 0)] 1 [(0,(.const (.int .u8 35)))]),qa 23 1 1 21 22,qm 3 23]) (qS [qbi 25 .eql 18 (-1),qm 24 25]<|qC 24 (qR [qm 26 3,qq 27 (.bsl 1 [(.int .u8 0)] 1 [(0,(.const (.int .u8 95)))]),qa 28 1 1 26 27,qm 3 28]) (.skip)))
def zS(g:SN):bw:=⟨48,[9,16,23,28,39,46],[.tmp 2],qS [qx 1 3 0,qmc 2 (.str [])]<|qS [qmc 3 (.sl Pa [])]<|.seq (qS [qf 4 0 1,ql 5 1 4,qbi 6 .lss 5 0]<|qC 6 (qR [qm 7 3,qq 8 (.bsl 1 [(.int .u8 0)] 1 [(0,(.const (.int .u8 114)))]),qa 9 1 1 7 8,qm 3 9]) (qR [qm 10 3,qf 11 0 1,ql 12 1 11,qbi 13 .rem 12 7,qq 14 (.ixS (uc (.str [99,100,101,102,103,97,98])) (u 13)),qq 15 (.bsl 1 [(.int .u8 0)] 1 [(0,(.tmp 14))]),qa 16 1 1 10 15,qm 3 16]))<|.seq (qS [qf 17 2 1,ql 18 1 17]<|mU g)<|.seq (qS [qf 29 0 1,ql 30 1 29,qbi 31 .geq 30 0]<|qC 31 (qR [qm 32 3,qf 33 0 1,ql 34 1 33,qbi 35 .quo 34 7,qq 36 (.bin .add .no (ui 48) (u 35)),qq 37 (.conv (.toInt .u8) (u 36)),qq 38 (.bsl 1 [(.int .u8 0)] 1 [(0,(.tmp 37))]),qa 39 1 1 32 38,qm 3 39]) (.skip))<|qS [qm 40 3,qf 41 1 1,ql 42 1 41,qq 43 (.bin .add .no (ui 48) (u 42)),qq 44 (.conv (.toInt .u8) (u 43)),qq 45 (.bsl 1 [(.int .u8 0)] 1 [(0,(.tmp 44))]),qa 46 1 1 40 45,qq 47 (.conv .b2s (u 46)),qm 2 47]<|.ret⟩
abbrev aDA(g:SN):ag:=qS [qb 9 .lss 8 7]<|.seq (qC 9 (.skip) (.exit 0))<|.seq (.block 1 (qS [qi 10 6 8 3,qla 11 3 10,qq 5 (.alloc [z0,z0,z0]),qs 3 5 11]<|.region Po [qm 12 3,qla 13 3 5,qc 14 (g "cn") [u 13],qq 15 (.bsl 1 [(.str [])] 1 [(0,(.tmp 14))]),qa 16 1 16 12 15,qm 3 16]))<|.region Po [qbi 17 .add 8 1,qm 8 17]
def aAN(g:SN):bw:=⟨20,[5,16],[.tmp 2],qS [qmc 2 (.str [])]<|qS [qmc 3 (.sl Pa [])]<|.seq (qS [qm 6 0,qn 7 6,qmc 8 z0]<|.block 0 (.loop (aDA g)))<|qS [qm 18 3,qc 19 (g "t") [u 18,uc (.str [32])],qm 2 19]<|.ret⟩
abbrev aAO(g:SN):ag:=qS [qb 19 .lss 18 17]<|.seq (qC 19 (.skip) (.exit 2))<|.seq (.block 3 (qS [qi 20 16 18 1,ql 21 1 20,qm 8 21]<|.region Po [qm 22 6,qm 23 8,qc 24 (g "bC") [u 23],qq 25 (.bsl 1 [(.str [])] 1 [(0,(.tmp 24))]),qa 26 1 16 22 25,qm 6 26]))<|.region Po [qbi 27 .add 18 1,qm 18 27]
abbrev aAP(g:SN):ag:=qS [qb 13 .lss 12 11]<|.seq (qC 13 (.skip) (.exit 0))<|.seq (.block 1 (qS [qi 14 10 12 1,ql 15 1 14,qm 5 15]<|qS [qmc 6 (.sl Pa [])]<|.seq (qS [qm 16 5,qn 17 16,qmc 18 z0]<|.block 2 (.loop (aAO g)))<|.region Po [qm 28 3,qm 29 6,qc 30 (g "t") [u 29,uc (.str [124])],qq 31 (.bsl 1 [(.str [])] 1 [(0,(.tmp 30))]),qa 32 1 16 28 31,qm 3 32]))<|.region Po [qbi 33 .add 12 1,qm 12 33]
def tG(g:SN):bw:=⟨36,[26,32],[.tmp 2],qS [qx 1 1 0,qmc 2 (.str [])]<|qS [qmc 3 (.sl Pa [])]<|.seq (qS [qf 9 0 1,ql 10 1 9,qn 11 10,qmc 12 z0]<|.block 0 (.loop (aAP g)))<|qS [qm 34 3,qc 35 (g "t") [u 34,uc (.str [47])],qm 2 35]<|.ret⟩
section
variable {A:af}{g:SN}{tB tP:Nat}
def aSd{n:Int}(h0:0<=n)(h1:n<256):GA .u8 n=n:=by simp only[GA,LK,KC];simp;omega
structure MelFns(A:af)(g:SN)(tB tP:Nat) extends WrtFns A g tB tP where
 note:Has A g "cn" (zS g)
 bar:Has A g "bC" (aAN g)
 yb:Has A g "cm" (tG g)
def aQc{H:LO}{n:Int}(h0:0<=n)(h1:n<256):pT H (.toInt .u8) (vi n)=N1 (.int .u8 n):=by show N1 (AV.int .u8 (GA .u8 n))=_;rw[aSd h0 h1]
def wF{H:LO}{x:AV}:pT H .b2s x=match dO H x with
  |some rows=>(cM rows).map .str
  |none=>none:=rfl
def aEz:cM []=N1 []:=rfl
def aBo{n:Int}{r:List LA}:cM ([.int .u8 n]::r)=(cM r).map (CN n.toNat :: ·):=rfl
def aQd:∀k<7,([99,100,101,102,103,97,98]:Str)[k]? = N1 (aPK k):=deT
def aHL(F:MelFns A g tB tP)(n:ct)(hn:aGv n=Pa)(H:LO):aG A (g "cn") [.agg (bV n)] H=N1 (.str (aBy n),H,[]):=by
 refine F.note.call ?_;unfold aGv at hn;simp only[AI,eG]at hn;obtain⟨⟨⟨s0,s1⟩,l0,l1⟩,a0,a1⟩:=hn;have L9:AR.wrap (48+n.length)=48+n.length:=wrap_i64 omT omT;have kq:=λH=>aQc (H:=H) (n:=48+n.length) omT omT;have ax:(48+n.length).toNat=48+n.length.toNat:=omT;have r1:bP 1 1=true:=deT;have r2:bP 2 1=true:=deT;have r3:bP 3 1=true:=deT;have r4:bP 4 1=true:=deT;simp only[zS];cases z:decide (n.step<0)with
 |true=>
  have hz:n.step<0:=of_decide_eq_true z;have z2:decide (n.step ≥ 0)=false:=by rw[decide_eq_false_iff_not];omega
  simp only[go_sem,↓aB,seval,bV,z,eX,cG,dO,r1,AW,AZ,AB,AD,AA,AE];simp only[mU];by_cases e1:n.alter=1
  ·simp only[go_sem,↓aB,seval,e1,z2,L9,kq,eX,cG,dO,r2,r3,AW,AZ,AB,AD,AA,AE,wF,aEz,aBo,DE];simp[aBy,hz,e1,show ¬0<=n.step by omega,ax]
  by_cases e2:n.alter = -1
  ·simp only[go_sem,↓aB,seval,e2,z2,L9,kq,eX,cG,dO,r2,r3,AW,AZ,AB,AD,AA,AE,wF,aEz,aBo,DE];simp[aBy,hz,e2,show ¬0<=n.step by omega,ax]
  have e1':(n.alter==1)=false:=by simpa using e1
  have e2':(n.alter == -1)=false:=by simpa using e2
  simp only[go_sem,↓aB,seval,e1',e2',z2,L9,kq,eX,cG,dO,r2,AW,AZ,AB,AD,AA,AE,wF,aEz,aBo,DE];simp[aBy,hz,e1,e2,show ¬0<=n.step by omega,ax]
 |false=>
  have hz:¬n.step<0:=of_decide_eq_false z;have z2:decide (n.step ≥ 0)=true:=by rw[decide_eq_true_eq];omega
  have hk:(n.step % 7).toNat<7:=omT;have zu:∀ek,kJ .rem ek (vi n.step) (vi 7)=N1 (vi ((n.step % 7).toNat:Nat)):=λek=>by
   rw[tS deT];have:n.step.tmod 7=n.step % 7:=Int.tmod_eq_emod_of_nonneg omT;rw[this];congr 2;omega
  have S2:∀ek,kJ .quo ek (vi n.step) (vi 7)=N1 (vi ((n.step / 7).toNat:Nat)):=λek=>by
   rw[aAl deT];have:n.step.tdiv 7=n.step / 7:=Int.tdiv_eq_ediv_of_nonneg omT;rw[this,wrap_i64 omT omT];congr 2;omega
  have hlt:=aQd _ hk;have z8:(((n.step % 7).toNat:Nat):Int)<7:=omT;have Bh:AR.wrap (48+(((n.step / 7).toNat:Nat):Int))=48+(((n.step / 7).toNat:Nat):Int):=wrap_i64 omT omT;have W3:=λH=>aQc (H:=H) (n:=48+(((n.step / 7).toNat:Nat):Int)) omT omT;have Gh:(48+(((n.step / 7).toNat:Nat):Int)).toNat=48+(n.step / 7).toNat:=omT;simp only[go_sem,↓aB,seval,zu,hlt,AU,AT,bV,z,eX,cG,dO,r1,AW,AZ,AB,AD,AA,AE,DE];simp only[mU];by_cases e1:n.alter=1
  ·simp only[go_sem,↓aB,seval,e1,S2,Bh,W3,z2,L9,kq,eX,cG,dO,r2,r3,r4,AW,AZ,AB,AD,AA,AE,wF,aEz,aBo,DE];rw[Gh];simp[aBy,hz,e1,show 0<=n.step by omega,ax]
  by_cases e2:n.alter = -1
  ·simp only[go_sem,↓aB,seval,e2,S2,Bh,W3,z2,L9,kq,eX,cG,dO,r2,r3,r4,AW,AZ,AB,AD,AA,AE,wF,aEz,aBo,DE];rw[Gh];simp[aBy,hz,e2,show 0<=n.step by omega,ax]
  have e1':(n.alter==1)=false:=by simpa using e1
  have e2':(n.alter == -1)=false:=by simpa using e2
  simp only[go_sem,↓aB,seval,e1',e2',S2,Bh,W3,z2,L9,kq,eX,cG,dO,r2,r3,AW,AZ,AB,AD,AA,AE,wF,aEz,aBo,DE];rw[Gh];simp[aBy,hz,e1,e2,show 0<=n.step by omega,ax]
def aL8(n:ct):(aBy n).length<=4:=by unfold aBy;simp only[BA];split<;>split<;>(try split)<;>(try split)<;>simp
def aDB(F:MelFns A g tB tP)(l:List ct)(hl:l.length<=16)(hs:∀n∈l,aGv n=Pa)(H:LO):aG A (g "bC") [.sl Po (l.map bV)] H=N1 (.str (aO9 l),H,[]):=by
 refine F.bar.call ?_;simp only[aAN];simp only[go_sem,↓aB,seval,AF];refine bJ (id:=0) (λi ρ1 H1 wr=>wr=[]/\ρ1 8=vi (i:Nat)/\∃w o x,H1=H++[x,o]/\ρ1 3=w/\ew (H.length+1) 1 (((l.take i).map aBy).map aN) w o) l.length
  (λρ1 H1 wr=>wr=[]/\∃w o x,H1=H++[x,o]/\ρ1 3=w/\ew (H.length+1) 1 ((l.map aBy).map aN) w o)
  cB rfl ⟨rfl,rfl,.sl Pa [],.gone 0,.gone 0,rfl,rfl,.nil _⟩ ?_ ?_
 ·rintro i ρ1 H1 dc mg ⟨rfl,e8,w,o,x,rfl,e3,hg⟩ hf;have e7:ρ1 7=vi (l.length:Nat):=hf 7 rfl;have e6:ρ1 6=.sl Po (l.map bV):=hf 6 rfl;simp only[go_sem,↓aB,seval,e8,e7];refine aD (λhb=>?_) (λhb=>?_)
  ·have hlt:i<l.length:=by simp at hb;omega
   have cj:=mgE bV hlt;have hq:=hs _ (AS hlt);have pk:=lH aBy hlt;generalize l[i]=s at *;have B5:=λH=>aHL F s hq H;simp only[bV]at B5;obtain⟨w',o',eu,db⟩:=aEy hg soT (aBy s);rw[<- pk]at eu;have dy:=wS (i:=i) omT;have y7:=λy f=>db (H++[y,o]) f (by rw[bX];rfl);simp only[go_sem,↓aB,seval,e8,e6,e3,AU,AT,hlt,cj,bV,B5,y7,dy];exact⟨w',o',_,rfl,rfl,eu⟩
  have hi:i=l.length:=by simp at hb;omega
  subst hi;rw[DM]at hg;simp only[go_sem,seval];exact⟨w,o,x,rfl,e3,hg⟩
 rintro ρ2 H2 en ⟨rfl,w,o,x,rfl,e3,hg⟩ hf;have hj:=qI F.join hg [32] soT (by
  have:=aF7 (l:=l.map aBy) (sep:=[32]) (M:=4) (λs ml=>by
   obtain⟨t,ht,rfl⟩:=DB.1 ml;exact aL8 t)
  simp at this;omega)
 have tt:=λsite=>hj (H++[x,o]) site (by rw[bX];rfl);simp only[go_sem,↓aB,seval,e3,tt];rfl
def aSe{l:List ct}(hl:l.length<=16):(aO9 l).length<=80:=by
 have:=aF7 (l:=l.map aBy) (sep:=[32]) (M:=4) (λs ml=>by
  obtain⟨t,ht,rfl⟩:=DB.1 ml;exact aL8 t)
 simp at this;unfold aO9;omega
end
section
variable {A:af}{g:SN}{tB tP:Nat}
def aNj{h:List (List ct)}(h1:h.length<=16)(h2:∀b∈h,b.length<=16):(sb [124] (h.map aO9)).length<=1300:=by
 have:=aF7 (l:=h.map aO9) (sep:=[124]) (M:=80) (λs ml=>by
  obtain⟨t,ht,rfl⟩:=DB.1 ml;exact aSe (h2 t ht))
 simp at this;omega
def aFs(F:MelFns A g tB tP)(l:List (List (List ct)))(hl:l.length<=16)(hs:∀h∈l,h.length<=16/\∀b∈h,b.length<=16/\∀n∈b,aGv n=Pa)(H:LO):aG A (g "cm") [.agg [.sl Po (l.map bS)]] H=N1 (.str (aJm l),H,[]):=by
 refine F.yb.call ?_;simp only[tG];simp only[go_sem,↓aB,seval,AF];have hW:aJm l=sb [47] (l.map λh=>sb [124] (h.map aO9)):=rfl;generalize hE:(λh:List (List ct)=>sb [124] (h.map aO9))=E at hW;refine bJ (id:=0) (λi ρ1 H1 wr=>wr=[]/\ρ1 12=vi (i:Nat)/\∃w o x,H1=H++[x,o]/\ρ1 3=w/\ew (H.length+1) 1 (((l.take i).map E).map aN) w o) l.length
  (λρ1 H1 wr=>wr=[]/\∃w o x,H1=H++[x,o]/\ρ1 3=w/\ew (H.length+1) 1 ((l.map E).map aN) w o)
  cB rfl ⟨rfl,rfl,.sl Pa [],.gone 0,.gone 0,rfl,rfl,.nil _⟩ ?_ ?_
 ·rintro i ρ1 H1 dc mg ⟨rfl,e12,w,o,x,rfl,e3,hg⟩ hf;have e11:ρ1 11=vi (l.length:Nat):=hf 11 rfl;have e10:ρ1 10=.sl Po (l.map bS):=hf 10 rfl;simp only[go_sem,↓aB,seval,e12,e11];refine aD (λhb=>?_) (λhb=>?_)
  ·have hlt:i<l.length:=by simp at hb;omega
   have cj:=mgE bS hlt;obtain⟨q1,q2⟩:=hs _ (AS hlt);have pk:=lH E hlt;generalize l[i]=hd at *;have Gi:(E hd).length<=1300:=by rw[<- hE];exact aNj q1 λb hb=>(q2 b hb).1
   have W4:sb [124] (hd.map aO9)=E hd:=by rw[<- hE]
   have dy:=wS (i:=i) omT;simp only[go_sem,↓aB,seval,e12,e10,AF,AU,AT,hlt,cj,bS];refine bJ (id:=2) (λj ρ2 H2 wr=>wr=[]/\ρ2 18=vi (j:Nat)/\∃w2 o2,H2=H++[o2,o]/\ρ2 6=w2/\ew H.length 1 (((hd.take j).map aO9).map aN) w2 o2) hd.length
    (λρ2 H2 wr=>wr=[]/\∃w2 o2,H2=H++[o2,o]/\ρ2 6=w2/\ew H.length 1 ((hd.map aO9).map aN) w2 o2)
    cB rfl ⟨rfl,rfl,.sl Pa [],x,rfl,rfl,.nil _⟩ ?_ ?_
   ·rintro j ρ2 H2 en mo ⟨rfl,f18,w2,o2,rfl,f6,qu⟩ cq;have f17:ρ2 17=vi (hd.length:Nat):=cq 17 rfl;have f16:ρ2 16=.sl Po (hd.map gH):=cq 16 rfl;simp only[go_sem,↓aB,seval,f18,f17];refine aD (λdp=>?_) (λdp=>?_)
    ·have jlt:j<hd.length:=by simp at dp;omega
     have fh:=mgE gH jlt;obtain⟨r1,r2⟩:=q2 _ (AS jlt);have sh:=lH aO9 jlt;generalize hd[j]=bar at *;have B5:=λH=>aDB F bar r1 r2 H;obtain⟨w',o',eu,db⟩:=aEy qu soT (aO9 bar);rw[<- sh]at eu;have gn:=wS (i:=j) omT;have y7:=λf=>db (H++[o2,o]) f (by rw[aBd];rfl);simp only[go_sem,↓aB,seval,f18,f16,f6,AU,AT,jlt,fh,gH,B5,y7,gn];exact⟨w',o',rfl,rfl,eu⟩
    have hj:j=hd.length:=by simp at dp;omega
    subst hj;rw[DM]at qu;simp only[go_sem,seval];exact⟨w2,o2,rfl,f6,qu⟩
   rintro ρ2 H2 en ⟨rfl,w2,o2,rfl,f6,qu⟩ cq;have f3:ρ2 3=w:=(cq 3 rfl).trans e3;have f12:ρ2 12=vi (i:Nat):=(cq 12 rfl).trans e12;have hj:=qI F.join qu [124] soT (by rw[W4];omega);rw[W4]at hj;have tt:=λsite=>hj (H++[o2,o]) site (by rw[aBd];rfl);obtain⟨w',o',eu,db⟩:=aEy hg soT (E hd);rw[<- pk]at eu;have y7:=λf=>db (H++[o2,o]) f (by rw[bX];rfl);simp only[go_sem,↓aB,seval,f3,f6,f12,tt,y7,dy];exact⟨hlt,w',o',_,rfl,rfl,eu⟩
  have hi:i=l.length:=by simp at hb;omega
  subst hi;rw[DM]at hg;simp only[go_sem,seval];exact⟨w,o,x,rfl,e3,hg⟩
 rintro ρ2 H2 en ⟨rfl,w,o,x,rfl,e3,hg⟩ hf;have hj:=qI F.join hg [47] soT (by
  have:=aF7 (l:=l.map E) (sep:=[47]) (M:=1300) (λs ml=>by
   obtain⟨t,ht,rfl⟩:=DB.1 ml;rw[<- hE];exact aNj (hs t ht).1 λb hb=>((hs t ht).2 b hb).1)
  simp at this;omega)
 have tt:=λsite=>hj (H++[x,o]) site (by rw[bX];rfl);simp only[go_sem,↓aB,seval,e3,tt,hW]
end
abbrev aCz(g:SN):ag:=qS [qb 22 .lss 21 20]<|.seq (qC 22 (.skip) (.exit 2))<|.seq (.block 3 (qS [qi 23 19 21 1,ql 24 1 23,qm 9 24]<|.region Po [qm 25 7,qm 26 3,qm 27 9,qc 28 (g "ab") [u 26,u 27],qq 29 (.bsl 1 [(.str [])] 1 [(0,(.tmp 28))]),qa 30 1 16 25 29,qm 7 30]))<|.region Po [qbi 31 .add 21 1,qm 21 31]
abbrev aCA(g:SN):ag:=qS [qb 16 .lss 15 14]<|.seq (qC 16 (.skip) (.exit 0))<|.seq (.block 1 (qS [qi 17 13 15 1,ql 18 1 17,qm 6 18]<|qS [qmc 7 (.sl Pa [])]<|.seq (qS [qm 19 6,qn 20 19,qmc 21 z0]<|.block 2 (.loop (aCz g)))<|.region Po [qm 32 4,qm 33 7,qc 34 (g "t") [u 33,uc (.str [124])],qq 35 (.bsl 1 [(.str [])] 1 [(0,(.tmp 34))]),qa 36 1 16 32 35,qm 4 36]))<|.region Po [qbi 37 .add 15 1,qm 15 37]
def zT(g:SN):bw:=⟨40,[30,36],[.tmp 2],qS [qx 1 1 0,qmc 2 (.str [])]<|qS [qq 10 (.bsl 1 [(.str [])] 6 [(0,(.const (.str [126]))),(1,(.const (.str [126,126]))),(2,(.const (.str [124]))),(3,(.const (.str [126,124]))),(4,(.const (.str [59]))),(5,(.const (.str [126,59])))]),qc 11 (g "at") [u 10],qm 3 11]<|qS [qmc 4 (.sl Pa [])]<|.seq (qS [qf 12 0 1,ql 13 1 12,qn 14 13,qmc 15 z0]<|.block 0 (.loop (aCA g)))<|qS [qm 38 4,qc 39 (g "t") [u 38,uc (.str [59])],qm 2 39]<|.ret⟩
def mGp:List (UInt8×Str):=[(126,[126,126]),(124,[126,124]),(59,[126,59])]
def aMh:∀s:Str,nS (gI mGp) s=esc mG s
 | []=>rfl
 |c::s=>by
  rw[aAu,aFC,aMh s];congr 1;unfold mG;by_cases e1:c=126
  ·subst e1;rfl
  by_cases e2:c=124
  ·subst e2;rfl
  by_cases e3:c=59
  ·subst e3;rfl
  have:gI mGp c=none:=by simp[gI,mGp,e1,e2,e3]
  rw[aEo this];simp[e1,e2,e3]
def aSf(s:Str):(esc mG s).length<=2*s.length:=by
 rw[<- aMh];exact aDf (λc t e=>by
  have:=aDg e;have h2:∀p∈mGp,p.2.length<=2:=deT;exact h2 _ this) omT s
def aA0(H:LO)(r:Bool)(a b:ah):LO:=H++(if r then [a,b,.vec 1 1 (fP mGp),qZ 1 (H.length+5)]++uD mGp (H.length+4)else [a,b,.vec 1 1 (fP mGp),aIw 1 (H.length+2) 1 6])
section
variable {H:LO}{r:Bool}{a b x:ah}
def bC4:(aA0 H r a b)[H.length]? = N1 a:=by unfold aA0;rw[aBd];cases r<;>rfl
def bC5:(aA0 H r a b)[H.length+1]? = N1 b:=by unfold aA0;rw[bX];cases r<;>rfl
def bBa:(aA0 H r a b).set H.length x=aA0 H r x b:=by unfold aA0;rw[aBe];cases r<;>rfl
def bBb:(aA0 H r a b).set (H.length+1) x=aA0 H r a x:=by unfold aA0;rw[eS];cases r<;>rfl
def aVc:(aA0 H r a b).take H.length=H:=by unfold aA0;rw[aD8]
end
section
variable {A:af}{g:SN}{tB tP:Nat}
structure rj(A:af)(g:SN)(tB tP:Nat) extends MelFns A g tB tP where
 R5:Has A g "at" (jA g)
 rpl:mh A g
 bsr:Has A g "ac" (dB g)
 num:g "ac" = 371
 cd:Has A g "ck" (zT g)
def aSg(F:rj A g tB tP){H:LO}{r:Bool}{a b:ah}{s:Str}(hs:s.length<=1000):∃wr,aG A (g "ab") [.ptr (H.length+3) 1 0,.str s] (aA0 H r a b)=N1 (.str (esc mG s),aA0 H Pa a b,wr)/\∀x∈wr,H.length<=x:=by
 have hB:=aNa F.bsr F.num F.cnt mGp deT deT deT deT;rw[<- aMh];cases r with
 |true=>
  have h1:(aA0 H Pa a b)[H.length+3]? = N1 (qZ 1 (H.length+5)):=by unfold aA0;rw[bX];rfl
  have h2:(aA0 H Pa a b)[H.length+5]? = N1 (.box 1 (bsr (gI mGp) (.sr (H.length+4) 1 mGp.length))):=by unfold aA0;rw[bX];rfl
  have h3:(aA0 H Pa a b)[H.length+4]? = N1 (.vec 1 1 (mGp.reverse.map λp=>[.str [p.1]])):=by unfold aA0;rw[bX];rfl
  exact⟨[],aJs F.rpl hB hs h1 h2 h3,λx hx=>by cases hx⟩
 |false=>
  have h1:(aA0 H Po a b)[H.length+3]? = N1 (aIw 1 (H.length+2) 1 (fP mGp).length):=by unfold aA0;rw[bX];rfl
  have h2:(aA0 H Po a b)[H.length+2]? = N1 (.vec 1 1 (fP mGp)):=by unfold aA0;rw[bX];rfl
  have h3:=aDd F.rpl hB deT deT deT deT hs h1 h2;refine⟨[H.length+3], ?_,λx hx=>by rw[CG.1 hx];omega⟩;rw[h3];have hl:(aA0 H Po a b).length=H.length+4:=by unfold aA0;simp
  rw[hl];unfold aA0;simp only[BX,Zu,Zv];rw[eS,CJ];rfl
def aHM(F:rj A g tB tP)(l:List (List Str))(hl:l.length<=16)(hs:∀r∈l,r.length<=16/\∀s∈r,s.length<=1000)(H:LO):aG A (g "ck") [.agg [.sl Po (l.map bY)]] H=N1 (.str (aRX l),H,[]):=by
 refine F.cd.call ?_;have h1:=zL F.R5 mGp deT deT (H++[.gone 0,.gone 0]);rw[show (H++[ah.gone 0,.gone 0]).length+1=H.length+3 by simp,show H++[ah.gone 0,.gone 0]++[.vec 1 1 (fP mGp),.box 1 [.int .u32 0,.int .i32 0,.int .u32 0,.bj,.sr (H++[ah.gone 0,.gone 0]).length 1 (fP mGp).length]]=aA0 H Po (.gone 0) (.gone 0)from by
  unfold aA0 aIw;rw[show (H++[ah.gone 0,.gone 0]).length=H.length+2 by simp,CJ];rfl]at h1
 have cn:[[AV.str [126]],[AV.str [126,126]],[AV.str [124]],[AV.str [126,124]],[AV.str [59]],[AV.str [126,59]]]=fP mGp:=rfl;simp only[zT];simp only[go_sem,↓aB,seval,AF,cn,h1];have hW:aRX l=sb [59] (l.map λr=>sb [124] (r.map (esc mG))):=rfl;have Gi:∀r∈l,(sb [124] (r.map (esc mG))).length<=33000:=λr hr=>by
  obtain⟨q1,q2⟩:=hs r hr;have:=aF7 (l:=r.map (esc mG)) (sep:=[124]) (M:=2000) (λs ml=>by
   obtain⟨t,ht,rfl⟩:=DB.1 ml;have:=aSf t;have:=q2 t ht;omega)
  simp at this;omega
 generalize hE:(λr:List Str=>sb [124] (r.map (esc mG)))=E at hW;refine bJ (id:=0) (λi ρ1 H1 wr=>wr=[]/\ρ1 15=vi (i:Nat)/\∃w o x r,H1=aA0 H r x o/\ρ1 4=w/\ew (H.length+1) 1 (((l.take i).map E).map aN) w o) l.length
  (λρ1 H1 wr=>wr=[]/\∃w o x r,H1=aA0 H r x o/\ρ1 4=w/\ew (H.length+1) 1 ((l.map E).map aN) w o)
  cB rfl ⟨rfl,rfl,.sl Pa [],.gone 0,.gone 0,Po,rfl,rfl,.nil _⟩ ?_ ?_
 ·rintro i ρ1 H1 dc mg ⟨rfl,e15,w,o,x,rb,rfl,e4,hg⟩ hf;have e14:ρ1 14=vi (l.length:Nat):=hf 14 rfl;have e13:ρ1 13=.sl Po (l.map bY):=hf 13 rfl;have e3:ρ1 3=.ptr (H.length+3) 1 0:=hf 3 rfl;simp only[go_sem,↓aB,seval,e15,e14];refine aD (λhb=>?_) (λhb=>?_)
  ·have hlt:i<l.length:=by simp at hb;omega
   have cj:=mgE bY hlt;obtain⟨q1,q2⟩:=hs _ (AS hlt);have pk:=lH E hlt;have W4:sb [124] (l[i].map (esc mG))=E l[i]:=by rw[<- hE]
   have Gj:=Gi _ (AS hlt);generalize l[i]=row at *;rw[W4]at Gj;have dy:=wS (i:=i) omT;simp only[go_sem,↓aB,seval,e15,e13,AF,AU,AT,hlt,cj,bY];refine bJ (id:=2) (λj ρ2 H2 wr=>wr=[]/\ρ2 21=vi (j:Nat)/\∃w2 o2 r2,H2=aA0 H r2 o2 o/\ρ2 7=w2/\ew H.length 1 (((row.take j).map (esc mG)).map aN) w2 o2) row.length
    (λρ2 H2 wr=>wr=[]/\∃w2 o2 r2,H2=aA0 H r2 o2 o/\ρ2 7=w2/\ew H.length 1 ((row.map (esc mG)).map aN) w2 o2)
    cB rfl ⟨rfl,rfl,.sl Pa [],x,rb,rfl,rfl,.nil _⟩ ?_ ?_
   ·rintro j ρ2 H2 en mo ⟨rfl,f21,w2,o2,r2,rfl,f7,qu⟩ cq;have f20:ρ2 20=vi (row.length:Nat):=cq 20 rfl;have f19:ρ2 19=.sl Po (row.map aN):=cq 19 rfl;have f3:ρ2 3=.ptr (H.length+3) 1 0:=(cq 3 rfl).trans e3;simp only[go_sem,↓aB,seval,f21,f20];refine aD (λdp=>?_) (λdp=>?_)
    ·have jlt:j<row.length:=by simp at dp;omega
     have fh:=mgE aN jlt;have q3:=q2 _ (AS jlt);have sh:=lH (esc mG) jlt;generalize row[j]=s at *;obtain⟨wr3,c1,c2⟩:=aSg F (H:=H) (r:=r2) (a:=o2) (b:=o) q3;obtain⟨w',o',eu,db⟩:=aEy qu soT (esc mG s);rw[<- sh]at eu;have gn:=wS (i:=j) omT;have y7:=λf=>db (aA0 H Pa o2 o) f bC4;rw[bBa]at y7;simp only[go_sem,↓aB,seval,f21,f19,f3,f7,AU,AT,jlt,fh,aN,c1,kH c2,y7,gn];exact⟨w',o',Pa,rfl,rfl,eu⟩
    have hj:j=row.length:=by simp at dp;omega
    subst hj;rw[DM]at qu;simp only[go_sem,seval];exact⟨w2,o2,r2,rfl,f7,qu⟩
   rintro ρ2 H2 en ⟨rfl,w2,o2,r2,rfl,f7,qu⟩ cq;have f4:ρ2 4=w:=(cq 4 rfl).trans e4;have f15:ρ2 15=vi (i:Nat):=(cq 15 rfl).trans e15;have hj:=qI F.join qu [124] soT (by rw[W4];omega);rw[W4]at hj;have tt:=λsite=>hj (aA0 H r2 o2 o) site bC4;obtain⟨w',o',eu,db⟩:=aEy hg soT (E row);rw[<- pk]at eu;have y7:=λf=>db (aA0 H r2 o2 o) f bC5;rw[bBb]at y7;simp only[go_sem,↓aB,seval,f4,f7,f15,tt,y7,dy];exact⟨hlt,w',o',_,_,rfl,rfl,eu⟩
  have hi:i=l.length:=by simp at hb;omega
  subst hi;rw[DM]at hg;simp only[go_sem,seval];exact⟨w,o,x,rb,rfl,e4,hg⟩
 rintro ρ2 H2 en ⟨rfl,w,o,x,rb,rfl,e4,hg⟩ hf;have hj:=qI F.join hg [59] soT (by
  have:=aF7 (l:=l.map E) (sep:=[59]) (M:=33000) (λs ml=>by
   obtain⟨t,ht,rfl⟩:=DB.1 ml;rw[<- hE];exact Gi t ht)
  simp at this;omega)
 have tt:=λsite=>hj (aA0 H rb x o) site bC5;simp only[go_sem,↓aB,seval,e4,tt,hW,aVc]
end
def aCB(g:SN):bw:=⟨9,[1],[.tmp 0],qS [qmc 0 .undef]<|qS [qq 1 (.jn),qq 2 (.build [.bx,.bx] [(0,1,(.const (.fn (g "ce") [] []))),(1,1,(.const (.fn (g "cP") [] [])))]),qz (.ins (u 1) (ui 0) (u 2)),qq 3 (.build [.bx,.bx] [(0,1,(.const (.fn (g "cg") [] []))),(1,1,(.const (.fn (g "cN") [] [])))]),qz (.ins (u 1) (ui 1) (u 3)),qq 4 (.build [.bx,.bx] [(0,1,(.const (.fn (g "ch") [] []))),(1,1,(.const (.fn (g "cQ") [] [])))]),qz (.ins (u 1) (ui 2) (u 4)),qq 5 (.build [.bx,.bx] [(0,1,(.const (.fn (g "ci") [] []))),(1,1,(.const (.fn (g "cR") [] [])))]),qz (.ins (u 1) (ui 3) (u 5)),qq 6 (.build [.bx,.bx] [(0,1,(.const (.fn (g "cj") [] []))),(1,1,(.const (.fn (g "cS") [] [])))]),qz (.ins (u 1) (ui 5) (u 6)),qq 7 (.build [.bx,.bx] [(0,1,(.const (.fn (g "cf") [] []))),(1,1,(.const (.fn (g "cO") [] [])))]),qz (.ins (u 1) (ui 6) (u 7)),qm 8 1,qm 0 8]<|.ret⟩
def aDC(g:SN):bw:=⟨6,[],[.tmp 2],qS [qx 1 13 0,qmc 2 (.str [])]<|qS [qf 3 1 1,ql 4 1 3,qc 5 (g "co") [u 4],qm 2 5]<|.ret⟩
def aDD(g:SN):bw:=⟨6,[],[.tmp 2],qS [qx 1 13 0,qmc 2 (.str [])]<|qS [qf 3 2 1,qla 4 3 3,qc 5 (g "ca") [u 4],qm 2 5]<|.ret⟩
def aDE(g:SN):bw:=⟨6,[],[.tmp 2],qS [qx 1 13 0,qmc 2 (.str [])]<|qS [qf 3 5 1,qla 4 2 3,qc 5 (g "cp") [u 4],qm 2 5]<|.ret⟩
def aDF(g:SN):bw:=⟨6,[],[.tmp 2],qS [qx 1 13 0,qmc 2 (.str [])]<|qS [qf 3 7 1,qla 4 1 3,qc 5 (g "ck") [u 4],qm 2 5]<|.ret⟩
def aDG(g:SN):bw:=⟨6,[],[.tmp 2],qS [qx 1 13 0,qmc 2 (.str [])]<|qS [qf 3 11 1,qla 4 1 3,qc 5 (g "cm") [u 4],qm 2 5]<|.ret⟩
def aBY(g:SN):bw:=⟨6,[],[.tmp 2],qS [qx 1 13 0,qmc 2 (.str [])]<|qS [qf 3 12 1,ql 4 1 3,qc 5 (g "cl") [u 4],qm 2 5]<|.ret⟩
abbrev aHN(g:SN):List ae:=[qc 13 (g "bB") [],qf 14 0 1,⟨N1 15,ol 1 14,N2,[1]⟩,⟨N1 16,.look (.agg [.bx,.bx]) (u 13) (u 15) Pa,N2,[0,2,1]⟩,⟨N1 12,om 16,N2,[3,0,2,1]⟩,⟨N1 17,.ext 0 (u 12),N2,[4,3,0,2,1]⟩,⟨N1 18,.ext 1 (u 12),N2,[4,3,0,2,1]⟩,qq 5 (.alloc [.bx,.bx]),⟨N2,os 2 5 17,N2,[5,4,3,0,2,1,7]⟩,⟨N1 6,om 18,N2,[6,8,5,4,3,0,2,1,7]⟩]
abbrev aBZ:LN:=[0,2,7]
def aH2(g:SN):bw:=⟨25,[5],[.tmp 2,.tmp 3],qS [qx 1 13 0,qmc 2 (.str []),qmc 3 z0]<|.seq (qS [qla 7 13 1,qc 8 (g "M") [u 7],qm 4 8]<|qS [qm 9 4,qbi 10 .neq 9 0]<|qC 10 (qS [qm 11 4,qmc 2 (.str []),qm 3 11]<|.ret) (.skip))<|.seq (.region Pa (aHN g))<|.seq (qS [qm 19 6,qq 20 (.un .not (u 19))]<|qC 20 (qS [qmc 2 (.str []),qmc 3 (vi 13)]<|.ret) (.skip))<|qS [qf 21 0 5,ql 22 1 21,qla 23 13 1,qq 24 (.dm (u 22) [(.tmp 23)]),qm 2 24,qmc 3 z0]<|.ret⟩
section
variable {A:af}{g:SN}{tB tP:Nat}
def aH3:LA:=[vi 0,vi 1,vi 2,vi 3,vi 5,vi 6]
def aH4(g:SN):LA:=[("ce","cP"),("cg","cN"),("ch","cQ"),("ci","cR"),("cj","cS"),("cf","cO")].map λp=>.agg [.fn (g p.1) [] [],.fn (g p.2) [] []]
def aVd{base o v:Nat}{H:LO}:aDR base H (.mp o v)=match H[o]? with
  |some (.map v' es)=>if v'=v/\base<=o then N1 (.fmp (es.map EM) (es.map Prod.snd),H.set o (.gone v),[o])else N1 (.mp o v,H,[])
  |_=>N1 (.mp o v,H,[]):=rfl
def aQe(h:Has A g "bB" (aCB g))(H:LO):aG A (g "bB") [] H=N1 (.fmp aH3 (aH4 g),H,[]):=by refine h.call ?_;simp only[aCB];simp only[go_sem,↓aB,seval,aVd,AQ];rw[qQ rfT,aD8];exact⟨rfl,rfl,rfl⟩
structure og(A:af)(g:SN)(tB tP:Nat):Prop where
 form:lu A g
 wrt:rj A g tB tP
 B9:aBk A g
 ways:Has A g "bB" (aCB g)
 w1:Has A g "ce" (aDC g)
 w3:Has A g "cg" (aDD g)
 w4:Has A g "ch" (aDE g)
 w6:Has A g "ci" (aDF g)
 w8:Has A g "cj" (aDG g)
 w10:Has A g "cf" (aBY g)
 text:Has A g "cc" (aH2 g)
def aYc(F:og A g tB tP)(b:Block)(hb:b.Ok)(h:dQ b=Pa)(h1:b.kind=1->aBV b.expr=0):b.kind≠4 ->∃j,j<6/\aH3[j]? = N1 (vi b.kind)/\∃f1 f2,(aH4 g)[j]? = N1 (.agg [.fn f1 [] [],.fn f2 [] []])/\∀H,aG A f1 [.agg (aE b)] H=N1 (.str (wB b),H,[]):=by
 intro h4;have hk:xU b=true:=by unfold dQ at h;simp only[AI]at h;exact h.2
 obtain⟨op,n,ks,mn⟩:∃op n ks,b.expr=Expr.mk op n ks:=by cases b.expr;exact⟨_,_,_,rfl⟩
 have Ra:aF b.expr=[vi op,vi n,.sl Po (ks.map aF)]:=by rw[mn,aF,aZ]
 have ig:aE b=[vi b.kind,.sl Po (b.runs.map cZ),vi op,vi n,.sl Po (ks.map aF),vi b.dn,.sl Po (b.eg.map bF),.sl Po (b.cd.map bY),vi b.w,vi b.h,.sl Po (b.aw.map aH),.sl Po (b.bo.map bS),.sl Po (b.lines.map aN)]:=by unfold aE;rw[Ra];rfl
 unfold xU at hk;by_cases k0:b.kind=0
 ·refine⟨0,deT,by rw[k0];rfl,_,_,rfl,λH=>?_⟩;have hw:wB b=aHA 0 b.runs:=by unfold wB;rw[Zy k0]
  have hr:=aHK F.wrt.toWrtFns b.runs hb.vw (λr hr=>(hb.runs r hr).text) H;rw[hw,ig];refine F.w1.call ?_;simp only[aDC];simp only[go_sem,↓aB,seval,hr,AB,AD,AA,AE,AJ]
 by_cases k1:b.kind=1
 ·refine⟨1,deT,by rw[k1];rfl,_,_,rfl,λH=>?_⟩;have hw:wB b=wX b.expr:=by unfold wB;rw[Zx k0,Zy k1]
  have hr:=aJt F.form F.B9 b.expr hb.expr hb.size (h1 k1) H;rw[Ra]at hr;rw[hw,ig];refine F.w3.call ?_;simp only[aDD];simp only[go_sem,↓aB,seval,hr,AB,AD,AA,AE,AJ]
 by_cases k2:b.kind=2
 ·refine⟨2,deT,by rw[k2];rfl,_,_,rfl,λH=>?_⟩;rw[Zx k0,Zx k1,Zy k2]at hk;simp only[AI,eG]at hk;obtain⟨Qx,_,Az⟩:=hk;have hw:wB b=aWn b.dn b.eg:=by unfold wB;rw[Zx k0,Zx k1,Zy k2]
  have hr:=aJD F.wrt.toWrtFns b.dn b.eg (by simp at Qx;omega) hb.tj (λn hn=>by
   have:=AO.1 Az n hn;simp only[aUP,eG]at this;exact this) H
  rw[hw,ig];refine F.w4.call ?_;simp only[aDE];simp only[go_sem,↓aB,seval,hr,AB,AD,AA,AE,AJ]
 by_cases k3:b.kind=3
 ·refine⟨3,deT,by rw[k3];rfl,_,_,rfl,λH=>?_⟩;have hw:wB b=aRX b.cd:=by unfold wB;rw[Zx k0,Zx k1,Zx k2,Zy k3]
  have hr:=aHM F.wrt b.cd hb.uu hb.cd H;rw[hw,ig];refine F.w6.call ?_;simp only[aDF];simp only[go_sem,↓aB,seval,hr,AB,AD,AA,AE,AJ]
 by_cases k5:b.kind=5
 ·refine⟨4,deT,by rw[k5];rfl,_,_,rfl,λH=>?_⟩;rw[Zx k0,Zx k1,Zx k2,Zx k3,Zx h4,Zy k5]at hk;simp only[aUO,AI,eG]at hk;obtain⟨_,hH⟩:=hk;have hw:wB b=aJm b.bo:=by unfold wB;rw[Zx k0,Zx k1,Zx k2,Zx k3,Zy k5]
  have hr:=aFs F.wrt.toMelFns b.bo hb.uv (λx hx=>⟨(hb.bo x hx).1,λbar sk=>⟨((hb.bo x hx).2 bar sk).1,λnt Fw=>by
   have h1:=AO.1 hH x hx;simp only[aKL,AI]at h1;have h2:=AO.1 h1.2.2 bar sk;simp only[aT9,AI]at h2;exact AO.1 h2.2 nt Fw⟩⟩) H
  rw[hw,ig];refine F.w8.call ?_;simp only[aDG];simp only[go_sem,↓aB,seval,hr,AB,AD,AA,AE,AJ]
 by_cases k6:b.kind=6
 ·refine⟨5,deT,by rw[k6];rfl,_,_,rfl,λH=>?_⟩;have hw:wB b=aPJ b.lines:=by unfold wB;rw[Zx k0,Zx k1,Zx k2,Zx k3,Zx k5]
  have hr:=aH1 F.wrt.toWrtFns b.lines (by have:=hb.vz;omega) hb.lines H;rw[hw,ig];refine F.w10.call ?_;simp only[aBY];simp only[go_sem,↓aB,seval,hr,AB,AD,AA,AE,AJ]
 rw[Zx k0,Zx k1,Zx k2,Zx k3,Zx h4,Zx k5,Zx k6]at hk;cases hk
def aSi{k:Int}{v:AV}:∀j<6,aH3[j]? = N1 (vi k)->(aH4 g)[j]? = N1 v->iB (vi k) (aH3.zip (aH4 g)) 0=N1 (N1 (j,v)):=by
 intro j hj h1 h2;rcases j with _ | _ | _ | _ | _ | _ | j
 all_goals first
  |omega
  | (simp only[aH3,BG,CT,AG,AV.int.injEq,true_and]at h1;subst h1;simp only[aH4,BI,BG,CT,AG]at h2;subst h2;rfl)
end
def tH(g:SN)(b:Int)(n:String):AV:=.agg [vi b,.fn (g n) [] []]
def aMi(g:SN):LA:=[tH g (-1) "cz",tH g 3 "cA",tH g 4 "cB",tH g 4 "cC",tH g 4 "cD",
 tH g 5 "cE",tH g 6 "cF"]
def aSj(g:SN):LA:=[.fmp [vi 0,vi 1,vi 2,vi 3,vi 4,vi 5,vi 6] (aMi g)]
def wG(g:SN):bw:=⟨18,[],[.tmp 4],qS [qx 2 2 0,qmc 4 (.bool Po)]<|qS [qf 5 0 2,ql 6 1 5,qm 7 1,qb 8 .eql 6 7,qm 9 8,qF 10 9 (of 0 2),qF 11 9 (ol 1 10),qF 12 9 (obi .lss 11 0),qF 13 9 (om 12),qT 14 13 (om 1),qT 15 13 (obi .neq 14 4),qF 16 9 (op 13 15),qq 17 (.pick (u 9) uT (u 16)),qm 4 17]<|.ret⟩
def aC0(g:SN):bw:=⟨14,[],[.tmp 2],qS [qx 1 13 0,qmc 2 z0]<|.seq (qS [qf 3 7 1,qf 4 0 3,ql 5 1 4,qn 6 5,qbi 7 .eql 6 0]<|qC 7 (qS [qmc 2 z0]<|.ret) (.skip))<|qS [qf 8 7 1,qf 9 0 8,ql 10 1 9,qq 11 (.iaV (u 10) (ui 0) 1),ql 12 1 11,qn 13 12,qm 2 13]<|.ret⟩
def aH5(g:SN):bw:=⟨14,[],[.tmp 2],qS [qx 1 13 0,qmc 2 z0]<|.seq (qS [qf 3 11 1,qf 4 0 3,ql 5 1 4,qn 6 5,qbi 7 .eql 6 0]<|qC 7 (qS [qmc 2 z0]<|.ret) (.skip))<|qS [qf 8 11 1,qf 9 0 8,ql 10 1 9,qq 11 (.iaV (u 10) (ui 0) 1),ql 12 1 11,qn 13 12,qm 2 13]<|.ret⟩
def wH(g:SN):bw:=⟨4,[],[.tmp 2],qS [qx 1 13 0,qmc 2 .bx]<|qS [qc 3 (g "y") [ui 1,ui 1],qm 2 3]<|.ret⟩
abbrev aBB(g:SN):List ae:=[qf 3 7 1,⟨N1 4,of 0 3,N2,[0]⟩,⟨N1 5,ol 1 4,N2,[1,0]⟩,⟨N1 6,on 5,N2,[2,1,0]⟩,qla 7 13 1,⟨N1 8,oc (g "cy") [u 7],N2,[4]⟩,⟨N1 9,oc (g "y") [u 6,u 8],N2,[3,2,1,0,5,4]⟩,⟨N1 2,om 9,N2,[6,3,2,1,0,5,4]⟩]
abbrev pQ:LN:=[2,5]
def wI(g:SN):bw:=⟨10,[],[.tmp 2],qS [qx 1 13 0,qmc 2 .bx]<|.seq (.region Pa (aBB g))<|.ret⟩
def wJ(g:SN):bw:=⟨5,[],[.tmp 2],qS [qx 1 13 0,qmc 2 .bx]<|qS [qla 3 13 1,qc 4 (g "bd") [u 3,ui 2],qm 2 4]<|.ret⟩
def wK(g:SN):bw:=⟨5,[],[.tmp 2],qS [qx 1 13 0,qmc 2 .bx]<|qS [qla 3 13 1,qc 4 (g "bd") [u 3,ui 3],qm 2 4]<|.ret⟩
def wL(g:SN):bw:=⟨5,[],[.tmp 2],qS [qx 1 13 0,qmc 2 .bx]<|qS [qla 3 13 1,qc 4 (g "bd") [u 3,ui 4],qm 2 4]<|.ret⟩
abbrev aBC(g:SN):List ae:=[qla 3 13 1,⟨N1 4,oc (g "cx") [u 3],N2,[0]⟩,qf 5 11 1,⟨N1 6,of 0 5,N2,[2]⟩,⟨N1 7,ol 1 6,N2,[3,2]⟩,⟨N1 8,on 7,N2,[4,3,2]⟩,⟨N1 9,oc (g "y") [u 4,u 8],N2,yq5⟩,⟨N1 2,om 9,N2,yq6⟩]
abbrev pR:LN:=[1,4]
def wM(g:SN):bw:=⟨10,[],[.tmp 2],qS [qx 1 13 0,qmc 2 .bx]<|.seq (.region Pa (aBC g))<|.ret⟩
def wN(g:SN):bw:=⟨7,[],[.tmp 2],qS [qx 1 13 0,qmc 2 .bx]<|qS [qf 3 12 1,ql 4 1 3,qn 5 4,qc 6 (g "y") [u 5,ui 1],qm 2 6]<|.ret⟩
structure j0(A:af)(g:SN):Prop where
 noY:sn A
 has:Has A g "bZ" (wG g)
 cd:Has A g "y" (aGW g)
 za:Has A g "H" (yR g)
 aw:Has A g "bd" (aDr g)
 uy:Has A g "be" (rG g)
 I8:Has A g "cy" (aC0 g)
 bars:Has A g "cx" (aH5 g)
 f1:Has A g "cz" (wH g)
 f2:Has A g "cA" (wI g)
 f3:Has A g "cB" (wJ g)
 f4:Has A g "cC" (wK g)
 f5:Has A g "cD" (wL g)
 f6:Has A g "cE" (wM g)
 f7:Has A g "cF" (wN g)
def lJ(b kind:Int):Bool:=(b==kind) || (decide (b<0)&&(kind != 4))
section
variable {A:af}{g:SN}
def eW(b:Block):∃(op n:Int) (ks:List Expr),aE b=[vi b.kind,.sl Po (b.runs.map cZ),vi op,vi n,.sl Po (ks.map aF),vi b.dn,.sl Po (b.eg.map bF),.sl Po (b.cd.map bY),vi b.w,vi b.h,.sl Po (b.aw.map aH),.sl Po (b.bo.map bS),.sl Po (b.lines.map aN)]:=by
 obtain⟨op,n,ks,mn⟩:∃op n ks,b.expr=Expr.mk op n ks:=by cases b.expr;exact⟨_,_,_,rfl⟩
 refine⟨op,n,ks, ?_⟩;unfold aE;rw[mn,aF,aZ];rfl
def aL9(F:j0 A g)(b kind:Int)(n:String)(H:LO):aG A (g "bZ") [tH g b n,vi kind] H=N1 (.bool (lJ b kind),H,[]):=by
 refine F.has.call ?_;simp only[wG,lJ,tH];cases e1:(b==kind)with
 |true=>simp only[go_sem,↓aB,seval,e1,CE,EP]
 |false=>cases e2:decide (b<0)with
  |false=>simp only[go_sem,↓aB,seval,e1,e2,Zz,BB,II,BQ]
  |true=>simp only[go_sem,↓aB,seval,e1,e2,Zz,II,BR]
def aDH(F:j0 A g)(n m:Nat)(H:LO):aG A (g "y") [vi n,vi m] H=N1 (.fn (g "H") [] [.ep [vi n] 0,.ep [vi m] 0],H,[]):=by refine F.cd.call ?_;simp only[aGW];simp only[go_sem,↓aB,seval,AJ]
def aCC(F:j0 A g)(b:Block)(kind:Int)(H:LO):aG A (g "bd") [.agg (aE b),vi kind] H=N1 (.fn (g "be") [] [.ep (aE b) 0,.ep [vi kind] 0],H,[]):=by refine F.aw.call ?_;simp only[aDr];obtain⟨c2,c3,c4,ig⟩:=eW b;rw[ig];simp only[go_sem,↓aB,seval,AJ];rw[jG (AQ _)];exact⟨rfl,rfl,rfl⟩
def aFt(b:Block):Nat:=(b.cd.headD []).length
def aFu(b:Block):Nat:=(b.bo.headD []).length
def aLa(F:j0 A g)(b:Block)(H:LO):aG A (g "cy") [.agg (aE b)] H=N1 (vi (aFt b),H,[]):=by
 refine F.I8.call ?_;simp only[aC0];obtain⟨c2,c3,c4,ig⟩:=eW b;rw[ig];cases hg:b.cd with
 |nil=>simp only[go_sem,↓aB,seval,aFt,hg,AJ,AB,AD,AA,AE,BY,AZ,OW]
 |cons r rs=>have hz:(((rs.length+1:Nat):Int)==0)=false:=soT;simp only[go_sem,↓aB,seval,aFt,hg,hz,AJ,AB,AD,AA,AE,AF,ON,BI,BG,bY]
def aQf(F:j0 A g)(b:Block)(H:LO):aG A (g "cx") [.agg (aE b)] H=N1 (vi (aFu b),H,[]):=by
 refine F.bars.call ?_;simp only[aH5];obtain⟨c2,c3,c4,ig⟩:=eW b;rw[ig];cases hg:b.bo with
 |nil=>simp only[go_sem,↓aB,seval,aFu,hg,AJ,AB,AD,AA,AE,BY,AZ,OW]
 |cons r rs=>have hz:(((rs.length+1:Nat):Int)==0)=false:=soT;simp only[go_sem,↓aB,seval,aFu,hg,hz,AJ,AB,AD,AA,AE,AF,ON,BI,BG,bS]
def aWq(b:Block):Nat->aEw
 |0=>qA 1 1
 |1=>qA b.cd.length (aFt b)
 |2=>iI b.aw 2 b.aw.length b.aw.length
 |3=>iI b.aw 3 b.aw.length b.aw.length
 |4=>iI b.aw 4 b.aw.length b.aw.length
 |5=>qA (aFu b) b.bo.length
 |_=>qA b.lines.length 1
def aBp:Nat->Int
 |0 => -1
 |1=>3
 |2=>4
 |3=>4
 |4=>4
 |5=>5
 |_=>6
def aVe:Nat->String
 |0=> "cz"
 |1=> "cA"
 |2=> "cB"
 |3=> "cC"
 |4=> "cD"
 |5=> "cE"
 |_=> "cF"
def aJE{α:Type}{l:List (List α)}{n:Nat}(h:∀r∈l,r.length<=n):(l.headD []).length<=n:=by
 cases l with
 |nil=>exact Nat.zero_le _
 |cons r rs=>exact h r HD
def aSk(F:j0 A g)(b:Block)(hb:b.Ok)(k:Nat)(hk:k<7):∃f ay,jc ay/\aV7 A f ay (aWq b k)/\∀H:LO,aG A (g (aVe k)) [.agg (aE b)] H=N1 (.fn f [] ay,H,[]):=by
 have hc:aFt b<=16:=aJE λr hr=>(hb.cd r hr).1;have Ix:aFu b<=16:=aJE λr hr=>(hb.bo r hr).1;have hg:=hb.uu;have hs:=hb.fg;have hh:=hb.uv;have hl:=hb.vz;have cg:∀n m:Nat,jc [.ep [vi n] 0,.ep [vi m] 0]:=λn m=>(cQ.ep _ _).ep _ _;have cs:∀k:Int,jc [.ep (aE b) 0,.ep [vi k] 0]:=λk=>(cQ.ep _ _).ep _ _;obtain⟨c2,c3,c4,ig⟩:=eW b
 match k,hk with
 |0,_=>refine⟨_,_,cg 1 1,aDt F.za omT omT,λH=>?_⟩;have h1:aG A (g "y") [vi 1,vi 1] H=N1 (.fn (g "H") [] [.ep [vi 1] 0,.ep [vi 1] 0],H,[]):=aDH F 1 1 H;refine F.f1.call ?_;simp only[wH];rw[ig];simp only[go_sem,↓aB,seval,h1,AJ,BC]
 |1,_=>refine⟨_,_,cg b.cd.length (aFt b),aDt F.za omT omT,λH=>?_⟩;have h1:aG A (g "y") [vi b.cd.length,vi (aFt b)] H=N1 (.fn (g "H") [] [.ep [vi b.cd.length] 0,.ep [vi (aFt b)] 0],H,[]):=aDH F b.cd.length (aFt b) H;have h2:=aLa F b H;rw[ig]at h2;refine F.f2.call ?_;simp only[wI];rw[ig];simp only[go_sem,↓aB,seval];refine aY (aq:=pQ) rfT rfT ?_;simp only[go_sem,↓aB,seval,pQ,h1,h2,AJ,AB,AD,AA,AE,AF,BC,Zz,eH,dG,aL]
 |2,_=>refine⟨_,_,cs 2,aCw F.uy b 2 omT,λH=>?_⟩;have h1:=aCC F b 2 H;rw[ig]at h1;refine F.f3.call ?_;simp only[wJ];rw[ig];simp only[go_sem,↓aB,seval,h1,AJ,AD,AA,AE,BC];rw[jG (AQ _)];exact⟨rfl,rfl,rfl⟩
 |3,_=>refine⟨_,_,cs 3,aCw F.uy b 3 omT,λH=>?_⟩;have h1:=aCC F b 3 H;rw[ig]at h1;refine F.f4.call ?_;simp only[wK];rw[ig];simp only[go_sem,↓aB,seval,h1,AJ,AD,AA,AE,BC];rw[jG (AQ _)];exact⟨rfl,rfl,rfl⟩
 |4,_=>refine⟨_,_,cs 4,aCw F.uy b 4 omT,λH=>?_⟩;have h1:=aCC F b 4 H;rw[ig]at h1;refine F.f5.call ?_;simp only[wL];rw[ig];simp only[go_sem,↓aB,seval,h1,AJ,AD,AA,AE,BC];rw[jG (AQ _)];exact⟨rfl,rfl,rfl⟩
 |5,_=>refine⟨_,_,cg (aFu b) b.bo.length,aDt F.za omT omT,λH=>?_⟩;have h1:aG A (g "y") [vi (aFu b),vi b.bo.length] H=N1 (.fn (g "H") [] [.ep [vi (aFu b)] 0,.ep [vi b.bo.length] 0],H,[]):=aDH F (aFu b) b.bo.length H;have h2:=aQf F b H;rw[ig]at h2;refine F.f6.call ?_;simp only[wM];rw[ig];simp only[go_sem,↓aB,seval];refine aY (aq:=pR) rfT rfT ?_;simp only[go_sem,↓aB,seval,pR,h1,h2,AJ,AB,AD,AA,AE,AF,BC,Zz,eH,dG,aL]
 |6,_=>refine⟨_,_,cg b.lines.length 1,aDt F.za omT omT,λH=>?_⟩;have h1:aG A (g "y") [vi b.lines.length,vi 1] H=N1 (.fn (g "H") [] [.ep [vi b.lines.length] 0,.ep [vi 1] 0],H,[]):=aDH F b.lines.length 1 H;refine F.f7.call ?_;simp only[wN];rw[ig];simp only[go_sem,↓aB,seval,h1,AJ,AB,AD,AA,AE,AF,BC]
end
end Go.AM
end
