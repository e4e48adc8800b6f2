/- Part 12: lemmas for the last text. -/
import Derived.Test.YtdljbhnhogpopaaGreatDoorK03
import Derived.Test.YtdljbhnhogpopaaGreatDoorK10
import Derived.Test.YtdljbhnhogpopaaGreatDoorK11
set_option linter.defProp false
set_option linter.unusedVariables false
set_option linter.unusedSimpArgs false
set_option maxHeartbeats 6400000
set_option maxRecDepth 100000
open Bool renaming and_eq_true -> AI, false_and -> BQ, false_beq -> BB, true_and -> BR, true -> Pa, false -> Po
open Go.BinOp renaming eql -> JT
open Go.IntKind renaming i64 -> AR, wrap -> GA, bits -> LK, signed -> KC, u8 -> KD
open Int renaming natCast_nonneg -> AU, toNat_natCast -> AT, tmod_nonneg -> HV, tmod_lt_of_pos -> GX, eq_ofNat_of_zero_le -> DN, le_trans -> Jo, tmod_eq_emod_of_nonneg -> Ai
open List renaming range -> GZ, range_succ -> LQ, flatMap_append -> JK, length_append -> BA, length_map -> AF, mem_cons -> BD, not_mem_nil -> CC, append_assoc -> CJ, cons_append -> DO, nil_append -> CW, mem_append -> AY, map_append -> DQ, drop_zero -> AD, drop_succ_cons -> AB, take_succ_cons -> AA, take_zero -> AE, length_cons -> AW, length_nil -> AZ, append_nil -> AJ, map_nil -> BY, all_eq_true -> AO, getElem_mem -> AS, getElem?_cons_succ -> CT, getElem?_cons_zero -> BG, mem_singleton -> CG, map_cons -> BI, getElem?_eq_getElem -> AP, replicate -> AX, getElem?_map -> BN, getD_eq_getElem?_getD -> KV, map -> DR, getElem?_append_left -> BM, getElem?_eq_some_iff -> AH, length -> FN, take -> FW, drop_eq_nil_of_le -> DH, mem_cons_self -> HD, mem_cons_of_mem -> BZ, mem_flatMap -> IM, mem_map -> DB, mem_range -> HE, mem_filter -> OK, take_of_length_le -> CH, length_pos_iff -> MY, drop -> KW, mem_of_getElem? -> AN, headD_cons -> ON, take_succ_eq_append_getElem -> EW, take_length -> DM
open Nat renaming mul_le_mul -> JL, le_refl -> AQ, succ_mul -> JS, zero_le -> FF, zero_add -> BC, mul_one -> FK, ble_eq_true_of_le -> CI, pow_succ -> PL, le_trans -> HX, strongRecOn -> KK, lt_or_ge -> MH, min_eq_left -> Gy, min_eq_right -> Fa
open Option renaming some -> N1, none -> N2
open Option.some renaming injEq -> AG
open UInt8 renaming ofNat -> CN
section
namespace Go.AM
open Go
def aAQ(g:SN):ag:=.block 2 (.dz (.tmp 24) [25,26] (.seq (qS [qm 8 25]<|.region Po [qm 9 26])<|.block 3 (qR [ql 27 1 5,ql 28 1 6,ql 29 1 3,qm 30 8,qm 31 9,qq 32 (.build [z0,z0,z0,z0] [(0,1,(.tmp 28)),(1,1,(.tmp 29)),(2,1,(.tmp 30)),(3,1,(.tmp 31))]),qq 33 (.bsl 4 [z0,z0,z0,z0] 1 [(0,(.tmp 32))]),qa 34 4 32 27 33,qs 1 5 34])))
abbrev aH6(g:SN):ag:=qS [qbi 11 .lss 10 7]<|.seq (qC 11 (.skip) (.exit 0))<|.seq (.block 1 (qS [qm 12 10,qq 6 (.alloc [z0]),qs 1 6 12]<|qS [qq 13 (.load 1 Po (uc (.ep (aSj g) 0))),ql 14 1 6,qq 15 (.look (.agg [z0,.bx]) (u 13) (u 14) Po),qq 7 (.alloc [z0,.bx]),qs 2 7 15]<|.seq (qS [qla 16 2 7,qf 17 0 2,ql 18 1 17,qc 19 (g "bZ") [u 16,u 18],qq 20 (.un .not (u 19))]<|qC 20 (.exit 1) (.skip))<|qS [qf 21 1 7,ql 22 1 21,qla 23 13 2,qq 24 (.dm (u 22) [(.tmp 23)])]<|aAQ g))<|.region Po [qbi 35 .add 10 1,qm 10 35]
def oZ(g:SN):bw:=⟨37,[5,6,7,25,34],[.tmp 4],qS [qx 2 13 0,qx 3 1 1,qmc 4 (.sl Pa [])]<|qS [qq 5 (.alloc [(.sl Pa [])])]<|.seq (qS [qmc 10 z0]<|.block 0 (.loop (aH6 g)))<|qS [ql 36 1 5,qm 4 36]<|.ret⟩
def aF8(b:Block)(at':Int)(k:Nat):List Fact:=if lJ (aBp k) b.kind then (aWq b k).map λp=>⟨k,at',p.1,p.2⟩ else []
def nO(b:Block)(at':Int)(n:Nat):List Fact:=(GZ n).flatMap (aF8 b at')
def eM(b:Block)(at':Int):List Fact:=nO b at' 7
def aAR{b:Block}{at':Int}{n:Nat}:nO b at' (n+1)=nO b at' n++aF8 b at' n:=by unfold nO;rw[LQ,JK];simp
def aNk{b:Block}(hb:b.Ok)(k:Nat):(aWq b k).length<=256:=by
 have hc:aFt b<=16:=aJE λr hr=>(hb.cd r hr).1;have Ix:aFu b<=16:=aJE λr hr=>(hb.bo r hr).1;have hs:∀kind,(iI b.aw kind b.aw.length b.aw.length).length<=256:=λkind=>by
  have h1:=List.length_filter_le (λp:Nat×Nat=>aGY b.aw kind p.1 p.2) (qA b.aw.length b.aw.length);rw[rH]at h1;have h2:b.aw.length*b.aw.length<=16*16:=JL hb.fg hb.fg;unfold iI;omega
 unfold aWq;split
 ·rw[rH];decide
 ·rw[rH];exact JL hb.uu hc
 ·exact hs _
 ·exact hs _
 ·exact hs _
 ·rw[rH];exact JL Ix hb.uv
 rw[rH];have:=hb.vz;omega
def yT{b:Block}(hb:b.Ok){at':Int}(n:Nat):(nO b at' n).length<=n*256:=by
 induction n with
 |zero=>exact AQ _
 |succ n ih=>
  rw[aAR,BA,JS];have:(aF8 b at' n).length<=256:=by
   unfold aF8;split
   ·rw[AF];exact aNk hb n
   exact FF _
  omega
def bBc(base:Nat)(w:AV)(x4:ah)(rows:List Fact):Prop:=(rows=[]/\w=.sl Pa [])∨(rows≠[]/\∃ver,w=.sr (base+4) ver rows.length/\x4=.vec ver 4 (rows.map aI))
abbrev bBd:ag:=.seq (qS [qm 8 25]<|.region Po [qm 9 26])<|.block 3 (qR [ql 27 1 5,ql 28 1 6,ql 29 1 3,qm 30 8,qm 31 9,qq 32 (.build [z0,z0,z0,z0] [(0,1,(.tmp 28)),(1,1,(.tmp 29)),(2,1,(.tmp 30)),(3,1,(.tmp 31))]),qq 33 (.bsl 4 [z0,z0,z0,z0] 1 [(0,(.tmp 32))]),qa 34 4 32 27 33,qs 1 5 34])
abbrev bBe(base v:Nat)(l:LA):ah:=.rnd v base [5,6,7,25,34] [25,26] bBd l Po N2
def FI(H:LO)(k:Nat)(at':Int)(v v6:Nat)(x2:ah)(tail:LO)(pre:List Fact)(p:aEw)(X:LO):Prop:=∃w x4 l,X=H++(.box 1 [w]::.box v6 [vi k]::x2::bBe H.length v l::x4::tail)/\l.length=37 /\
 ck l 5=.ptr H.length 1 0/\ck l 6=.ptr (H.length+1) v6 0/\ck l 3=.ep [vi at'] 0/\bBc H.length w x4 (pre++p.map λq=>⟨k,at',q.1,q.2⟩)
def aOo{b a1 a2 a3 a4 a5 o v t:Nat}(h:([a1,a2,a3,a4,a5].contains t)=Po)(ht:t<YF):(⟨b,[a1,a2,a3,a4,a5,YF+o,YF+v]⟩:Ctx).site (N1 t)=none:=by
 unfold Ctx.site;dsimp only;rw[List.idxOf?_eq_none_iff.2]
 ·rfl
 rw[<- Bool.not_eq_true,List.contains_iff_mem]at h;simp only[BD,CC,or_false,not_or]at h ⊢;exact⟨h.1,h.2.1,h.2.2.1,h.2.2.2.1,h.2.2.2.2,omT,omT⟩
section
variable {A:af}{g:SN}
def aYd(hY:sn A)(H:LO)(k:Nat)(at':Int)(v v6:Nat)(x2:ah)(tail:LO)(pre:List Fact)(sd:pre.length<=10000):ux A (H.length+3) v H.length (H.length+5+tail.length) (FI H k at' v v6 x2 tail pre):=by
 refine⟨λp X hX=>?_,λp X Y a b hp ha hb hX=>?_⟩
 ·obtain⟨w,x4,l,rfl,_⟩:=hX;simp;omega
 obtain⟨w,x4,l,rfl,hl,h5,h6,h3,hw⟩:=hX;rw[CJ];simp only[DO];obtain⟨e,H',wr,h1,he,h2,h4⟩:=mT hY (K:=λe H' wr=>e=.normal/\(∃H0,H'=H0++Y/\FI H k at' v v6 x2 tail pre (p++[(a,b)]) H0)/\∀x∈wr,H.length<=x) (N:=37) (l:=l) (xs:=[vi a,vi b]) (o:=H.length+3) (v:=v)
  (H:=H++(.box 1 [w]::.box v6 [vi k]::x2::bBe H.length v l::x4::(tail++Y))) (by rw[bX];rfl) rfl cB cB hl (by
   have hs:ck (dH l [25,26] [vi a,vi b])=upd (upd (ck l) 25 (vi a)) 26 (vi b):=by show ck ((l.set 25 (vi a)).set 26 (vi b))=_;rw[nG (by rw[List.length_set];omega),nG omT]
   rw[hs];generalize hρ:ck l=ρ at *;simp only[DO,CW];simp only[go_sem,↓aB,seval];have Iy:(⟨H.length,[5,6,7,25,34,YF+(H.length+3),YF+v]⟩:Ctx).site (N1 33)=none:=aOo rfT deT;have fq:∀{w2:LN} {n:Nat},(∀x∈w2,H.length<=x)->∀x∈List.range' H.length n++(H.length+3)::w2,H.length<=x:=λ{w2 n} h x hx=>by
    rcases AY.1 hx with hx | hx
    ·rw[List.mem_range'_1]at hx;exact hx.1
    rcases BD.1 hx with rfl | hx
    ·omega
    exact h x hx
   refine⟨_,_,_,_,_,rfl, ?_⟩;have Qk:(pre++p.map λq=>(⟨k,at',q.1,q.2⟩:Fact)).length<=20000:=by rw[BA,AF];omega
   have lv:(pre++(p++[(a,b)]).map λq=>(⟨k,at',q.1,q.2⟩:Fact))=(pre++p.map λq=>(⟨k,at',q.1,q.2⟩:Fact))++[⟨k,at',a,b⟩]:=by rw[DQ,CJ];rfl
   generalize hR:(pre++p.map λq=>(⟨k,at',q.1,q.2⟩:Fact))=R at *;have Gk:4<tail.length+Y.length+1+1+1+1+1:=omT;rcases hw with⟨rfl,rfl⟩ | ⟨bl,ver,rfl,rfl⟩
   ·have hr:bP 1 32=true:=deT;simp only[go_sem,↓aB,seval,h5,h6,h3,Iy,AD,AB,AA,AE,eX,cG,dO,hr,AW,AZ,CW,AJ,Gk];exact⟨_,_,_,_,_,rfl,⟨_,(CJ H (_::_::_::_::_::tail) Y).symm,⟨_,_,l,rfl,hl,by rw[hρ];exact h5,by rw[hρ];exact h6,by rw[hρ];exact h3,by rw[lv];exact .inr ⟨siT,_,rfl,rfl⟩⟩⟩,fq siT⟩
   have hr:bP (R.length+1) 32=true:=by unfold bP;simp;omega
   simp only[go_sem,↓aB,seval,h5,h6,h3,Iy,AD,AB,AA,AE,eX,cG,dO,hr,AW,AZ,AF];exact⟨_,_,_,_,_,rfl,⟨_,(CJ H (_::_::_::_::_::tail) Y).symm,⟨_,_,l,rfl,hl,by rw[hρ];exact h5,by rw[hρ];exact h6,by rw[hρ];exact h3,by rw[lv];exact .inr ⟨siT,ver,by rw[BA];rfl,by rw[DQ];rfl⟩⟩⟩,fq siT⟩)
 subst he;obtain⟨H0,rfl,h2⟩:=h2;exact⟨H0,wr,h1,h2,h4⟩
def aNl{k:Nat}(hk:k<7):iB (vi k) ([vi 0,vi 1,vi 2,vi 3,vi 4,vi 5,vi 6].zip (aMi g)) 0=N1 (N1 (k,tH g (aBp k) (aVe k))):=by
 match k,hk with
 |0,_=>rfl
 |1,_=>rfl
 |2,_=>rfl
 |3,_=>rfl
 |4,_=>rfl
 |5,_=>rfl
 |6,_=>rfl
def aOp(F:j0 A g)(h:Has A g "V" (oZ g))(b:Block)(hb:b.Ok)(at':Int)(H:LO):∃r,((eM b at'=[]/\r=.sl Po [])∨(eM b at'≠[]/\r=.own 4 ((eM b at').map aI)))/\aG A (g "V") [.agg (aE b),vi at'] H=N1 (r,H,[]):=by
 obtain⟨r,H',ba,e1,rfl,rfl,e2⟩:=h.bp (args:=[.agg (aE b),vi at']) (H:=H) (K:=λr H' wr=>wr=[]/\H'=H/\((eM b at'=[]/\r=.sl Po [])∨(eM b at'≠[]/\r=.own 4 ((eM b at').map aI)))) (by
  obtain⟨op,n,ks,ig⟩:=eW b;have Bi:=λk hk=>aSk F b hb k hk;simp only[oZ];rw[ig];rw[ig]at Bi;simp only[go_sem,↓aB,seval];refine bJ (id:=0) (λk ρ1 H1 wr=>wr=[]/\ρ1 10=vi (k:Nat)/\∃w x1 x2 x3 x4 tail,H1=H++(.box 1 [w]::x1::x2::x3::x4::tail)/\bBc H.length w x4 (nO b at' k)) 7
   (λρ1 H1 wr=>wr=[]/\∃w x1 x2 x3 x4 tail,H1=H++(.box 1 [w]::x1::x2::x3::x4::tail)/\bBc H.length w x4 (eM b at')) cB rfl ⟨rfl,rfl,_,_,_,_,_,_,rfl,.inl ⟨rfl,rfl⟩⟩ ?_ ?_
  ·rintro k ρ1 H1 dc zp ⟨rfl,e10,w,x1,x2,x3,x4,tail,rfl,hw⟩ hf;have f2:ρ1 2=.ep [vi b.kind,.sl Po (b.runs.map cZ),vi op,vi n,.sl Po (ks.map aF),vi b.dn,.sl Po (b.eg.map bF),.sl Po (b.cd.map bY),vi b.w,vi b.h,.sl Po (b.aw.map aH),.sl Po (b.bo.map bS),.sl Po (b.lines.map aN)] 0:=hf 2 rfl;have f3:ρ1 3=.ep [vi at'] 0:=hf 3 rfl;have f5:ρ1 5=.ptr H.length 1 0:=hf 5 rfl;simp only[go_sem,↓aB,seval,e10];refine aD (λe3=>?_) (λe3=>?_)
   ·have hlt:k<7:=by simp at e3;omega
    have dy:=wS (i:=k) omT;have wj:=aNl (g:=g) hlt;obtain⟨f,ay,cm,M5,az⟩:=Bi k hlt;have C0:=λH=>aL9 F (aBp k) b.kind (aVe k) H;simp only[tH]at wj C0;have qe:1<tail.length+1+1+1+1+1:=omT;have iq:2<tail.length+1+1+1+1+1:=omT;simp only[go_sem,↓aB,seval,e10,f2,aSj,wj,qe,iq,AW,AJ,AB,AD,AA,AE,C0];cases hh:lJ (aBp k) b.kind with
    |false=>
     have hk:nO b at' (k+1)=nO b at' k:=by rw[aAR];unfold aF8;rw[hh];simp
     simp only[go_sem,↓aB,seval,e10,dy];exact⟨hlt,_,_,_,_,_,_,rfl,by rw[hk];exact hw⟩
    |true=>
     have hk:nO b at' (k+1)=nO b at' k++(aWq b k).map λq=>⟨k,at',q.1,q.2⟩:=by rw[aAR];unfold aF8;rw[hh];rfl
     simp only[go_sem,↓aB,seval,f2,az,AJ,AB,AD,AA,AE];simp only[aAQ];simp only[go_sem,seval];have I9:=aNk hb k;have sd:(nO b at' k).length<=10000:=by have:=yT hb (at':=at') k;omega
     refine wC (id:=H.length+3) (v:=x3.ver+1) (X:=λl=>H++(.box 1 [w]::.box (x1.ver+1) [vi k]::.box (x2.ver+1) [vi (aBp k),.fn (g (aVe k)) [] []]::bBe H.length (x3.ver+1) l::x4::tail)) rfT rfT siT (λ_=>rfT) (by unfold bH;rw[bX];rfl) (λl=>by rw[sV];rfl) ?_;intro l hl he;obtain⟨H',X,en,j1,⟨w',x4',l',rfl,jl,j5,j6,j3,jw⟩,j4⟩:=M5 (H.length+3) (x3.ver+1) H.length (H.length+5+tail.length) (FI H k at' (x3.ver+1) (x1.ver+1) (.box (x2.ver+1) [vi (aBp k),.fn (g (aVe k)) [] []]) tail (nO b at' k)) _ (aYd F.noY H k at' _ _ _ tail _ sd) ⟨w,x4,l,rfl,hl,by rw[he];exact f5,by rw[he];rfl,by rw[he];exact f3,by rw[BY,AJ];exact hw⟩;rw[<- hk]at jw;refine⟨_,_,_,_,_,_,_,_,N2,j1,by rw[CJ];simp only[DO];rw[bX];rfl, ?_⟩;rw[kH (λx hx=>by rcases BD.1 hx with rfl | hx;exact Nat.le_add_right _ _;exact j4 x hx),CJ];simp only[DO];rw[eS];show pP 2 _ _ .normal _ _ _;simp only[go_sem,↓aB,seval,e10,dy];exact⟨hlt,_,_,_,_,_,_,rfl,jw⟩
   have:k=7:=by simp at e3;omega
   subst this;simp only[go_sem,seval];exact⟨w,x1,x2,x3,x4,tail,rfl,hw⟩
  rintro ρ' H' ba ⟨rfl,w,x1,x2,x3,x4,tail,rfl,hw⟩ hf;have f5:ρ' 5=.ptr H.length 1 0:=hf 5 rfl;rcases hw with⟨e0,rfl⟩ | ⟨bl,ver,rfl,rfl⟩
  ·simp only[go_sem,↓aB,seval,f5,AD,AA,AE];exact .inl e0
  have hd:gG ((eM b at').map aI)=true:=aC eL _;simp only[go_sem,↓aB,seval,f5,AD,AA,AE,aT hd,aA hd,AF];exact .inr bl)
 exact⟨r,e2,e1⟩
end
def aQg:LA:=[[99,104,111,105,99,101],[99,111,117,110,116],[111,112,101,110]].map AV.str
abbrev sD(g:SN):ag:=qS [qb 29 .lss 28 27]<|.seq (qC 29 (.skip) (.exit 0))<|.seq (.block 1 (qS [qi 30 26 28 1,ql 31 1 30,qm 5 31]<|qS [qm 32 0,qc 33 (g "d") [u 32,uc (.str [110,101,101,100])]]<|.region Po [qm 34 0,qm 35 5,qq 36 (.bsl 1 [z0] 1 [(0,(.tmp 35))]),qc 37 (g "p") [u 34,u 36]]))<|.region Po [qbi 38 .add 28 1,qm 28 38]
abbrev sE:LN:=[29,30,31,5,32,33,34,35,36,37,38,28]
abbrev sF(g:SN):ag:=qS [qb 47 .lss 46 45]<|.seq (qC 47 (.skip) (.exit 2))<|.seq (.block 3 (qS [qm 48 46,qi 49 44 46 1,ql 50 1 49,qm 6 48,qm 7 50]<|qS [qm 51 0,qc 52 (g "d") [u 51,uc (.str [111,112,116,105,111,110])]]<|qS [qm 53 0,qm 54 7,qc 55 (g "B") [u 53,u 54]]<|.region Po [qm 56 0,qf 57 6 3,ql 58 1 57,qm 59 6,qi 60 58 59 1,ql 61 1 60,qc 62 (g "B") [u 56,u 61]]))<|.region Po [qbi 63 .add 46 1,qm 46 63]
abbrev sG:LN:=[47,48,49,50,6,7,51,52,53,54,55,56,57,58,59,60,61,62,63,46]
def eN(g:SN):bw:=⟨64,[3],[],qS [qx 3 7 1]<|qS [qm 8 0,qc 9 (g "d") [u 8,uc (.str [97,115,107])]]<|qS [qm 10 0,qf 11 0 3,ql 12 1 11,qq 13 (.iaA 3 1 (uc (.ep aQg 0)) (u 12)),ql 14 1 13,qc 15 (g "v") [u 10,u 14]]<|qS [qm 16 0,qf 17 5 3,ql 18 1 17,qq 19 (.bsl 1 [z0] 1 [(0,(.tmp 18))]),qc 20 (g "p") [u 16,u 19]]<|qS [qm 21 0,qf 22 4 3,ql 23 1 22,qc 24 (g "B") [u 21,u 23]]<|.seq (qS [qf 25 3 3,ql 26 1 25,qn 27 26,qmc 28 z0]<|.block 0 (.loop (sD g)))<|qS [qm 39 0,qf 40 1 3,ql 41 1 40,qc 42 (g "aH") [u 39,u 41]]<|qS [qf 43 2 3,ql 44 1 43,qn 45 44,qmc 46 z0]<|.block 2 (.loop (sF g))⟩
def aSl{k:Int}(h0:0<=k)(h1:k<=2):∃w:Str,w.length<=6/\(aQg.drop k.toNat).take 1=[.str w]/\k.toNat+1<=aQg.length:=by
 have:∀i<3,∃w:Str,w.length<=6/\(aQg.drop i).take 1=[.str w]/\i+1<=aQg.length:=by
  intro i hi
  match i,hi with
  |0,_=>exact⟨_,deT,rfl,deT⟩
  |1,_=>exact⟨_,deT,rfl,deT⟩
  |2,_=>exact⟨_,deT,rfl,deT⟩
 exact this _ omT
section
variable {A:af}{g:SN}{tB tP:Nat}
def bI6(q:Question)(M:Nat):Prop:=∃m k,(∀r∈q.lk,2*r.text.length+20<=m)/\(∀s∈q.options,∀t∈q.dv,2*s.length+2*t.length+13<=k)/\23+2*q.key.length+q.cy.length*20+q.lk.length*m+q.options.length*k<=M
def bHp{q:Question}(hq:q.Ok)(hb:aWp q=Pa):bI6 q 150000:=by unfold aWp aGx at hb;simp only[AI,eG,aUL,vP,AO]at hb;obtain⟨⟨⟨⟨⟨⟨⟨b1,b2⟩,b3⟩,b4⟩,b5⟩,b6⟩,b7⟩,b8⟩:=hb;exact⟨420,213,λr hr=>by have:=b2.2.2 r hr;omega,λs hs t ht=>by have:=b4.2 s hs;have:=b5.2 t ht;omega,by have:=hq.fg;omega⟩
def aLb(F:BlockPrt A g tB tP)(h:Has A g "aG" (eN g))(q:Question)(hq:q.Ok)(hb:aWp q=Pa){M:Nat}(hM:bI6 q M):aNb A (g "aG") [.agg (gR q)] M:=by
 obtain⟨m,k,V9,Ep,Dc⟩:=hM;refine h.prt rfl (by simp[eN]) (λn=>cB) ?_;intro H ty o v o2 v2 T c hT Aw;unfold aWp aGx at hb;simp only[AI,eG]at hb;obtain⟨⟨⟨⟨⟨⟨⟨⟨b1,b2⟩,b3⟩,b4⟩,⟨b5,b6⟩⟩,⟨b7,b8⟩⟩,⟨b9,b10⟩⟩,b11⟩,b12,b13⟩:=hb;rw[AO]at b10;have b2':q.kind<3:=omT;have b4':q.options.length=q.dv.length:=by simp at b4;omega
 obtain⟨w,dy,gn,pr⟩:=aSl b1 b2;have c':∀y:ah,gf (H++[y]).length o o2:=λy=>c.mono siT;have tx:∀{s:Str},lI s->s.length<=1000:=λh=>h;have hr:∀r∈q.lk,(r.text.length<=200 /\ -1000000<r.gg/\r.gg<1000000)/\2*r.text.length+20<=m:=λr hr=>by
  have h1:=b3.2.2;rw[AO]at h1;have:=h1 r hr;unfold aUL vP at this;simp only[AI,eG]at this;exact⟨⟨omT,omT,omT⟩,V9 r hr⟩
 have Mb:=mS F.toOutFns [q.points] Po siT soT;simp only[eN];simp only[go_sem,↓aB,seval,gR,mO c,aFE c,iZ];refine bI (fQ F.toOutFns [97,115,107] deT) (c' _) hT (by show T.length+4<=_;omega) ?_;rintro T1 dc k1 k2 k3;have k2:T1.length<=T.length+4:=k2;simp only[go_sem,↓aB,seval,mO c,AD,AA,AE,b1,b2',gn,pr,BC,FK];refine bI (pY F.toOutFns w omT) (c' _) k1 omT ?_;rintro T2 en m1 m2 m3;simp only[go_sem,↓aB,seval,mO c,AB,AD,AA,AE];refine bI Mb (c' _) m1 soT ?_;rintro T3 wr3 n1 n2 n3;have n2:T3.length<=T2.length+9:=n2;simp only[go_sem,↓aB,seval,mO c,AB,AD,AA,AE];have Y2:q.key.length<=1000:=hq.key;refine bI (sZ F.toTextFns q.key Y2) (c' _) n1 omT ?_;rintro T4 wr4 p1 p2 p3;simp only[go_sem,↓aB,seval,mO c,AB,AD,AA,AE,AF];generalize hx:ah.box _ [vi q.kind,AV.sl Po (q.lk.map cZ),.sl Po (q.options.map aN),.sl Po (q.cy.map bF),.str q.key,vi q.points,.sl Po (q.dv.map aN)]=x;refine kU (λL wr=>L=[x]/\Wr2 o o2 wr) 0 1 28 27 29 38 q.cy.length 20 (W:=sE) rfT cB rfl rfl rfl omT p1 ⟨rfl,bZ (bZ (bZ (bZ kT k3) m3) n3) p3⟩ ?_ ?_
 ·rintro i ρ1 L1 T5 wr5 hlt e8 hf ⟨rfl,g3⟩ g1 g2;have e6:ρ1 26=.sl Po (q.cy.map bF):=hf 26 rfl;have e0:ρ1 0=.ptr o v 0:=hf 0 rfl;have cj:=mgE bF hlt;have a1:=b10 _ (AS hlt);generalize q.cy[i]=nd at *;unfold aOl at a1;rw[eG]at a1;have I0:=mS F.toOutFns [nd] Po siT soT;have dp:i*20+20<=q.cy.length*20:=omT;simp only[go_sem,↓aB,seval,e8,e6,e0,AU,AT,cj,bF];refine bI (fQ F.toOutFns [110,101,101,100] deT) (c' _) g1 (by show T5.length+5<=_;omega) ?_;rintro T6 wr6 r1 r2 r3;have r2:T6.length<=T5.length+5:=r2;simp only[go_sem,↓aB,seval,e0];refine bI I0 (c' _) r1 soT ?_;rintro T7 wr7 s1 s2 s3;have s2:T7.length<=T6.length+9:=s2;simp only[go_sem,↓aB,seval];exact⟨rfl,_,T7,⟨rfl,bZ (bZ g3 r3) s3⟩,s1,omT,rfl⟩
 rintro ρ2 L2 T5 wr5 ⟨rfl,g3⟩ g1 g2 hf;have e0:ρ2 0=.ptr o v 0:=hf 0 rfl;have e3:ρ2 3=.ptr H.length 1 0:=hf 3 rfl;subst hx;simp only[go_sem,↓aB,seval,e0,e3,mO c,AB,AD,AA,AE];refine bI (aNc F.toTextFns F.runs q.lk m hq.fg hr) (c' _) g1 omT ?_;rintro T6 wr6 r1 r2 r3;simp only[go_sem,↓aB,seval,e3,mO c,AB,AD,AA,AE,AF];generalize hx:ah.box _ [vi q.kind,AV.sl Po (q.lk.map cZ),.sl Po (q.options.map aN),.sl Po (q.cy.map bF),.str q.key,vi q.points,.sl Po (q.dv.map aN)]=x;refine kU (λL wr=>L=[x]/\Wr2 o o2 wr) 2 3 46 45 47 63 q.options.length k (W:=sG) rfT cB rfl rfl rfl omT r1 ⟨rfl,bZ g3 r3⟩ ?_ ?_
 ·rintro i ρ1 L1 T7 wr7 hlt e8 cq ⟨rfl,j3⟩ j1 j2;have f44:ρ1 44=.sl Po (q.options.map aN):=cq 44 rfl;have f0:ρ1 0=.ptr o v 0:=(cq 0 rfl).trans e0;have f3:ρ1 3=.ptr H.length 1 0:=(cq 3 rfl).trans e3;have cj:=mgE aN hlt;have Bj:i<q.dv.length:=omT;have Bk:=mgE aN Bj;have a3:=Ep _ (AS hlt) _ (AS Bj);have a1:=hq.options _ (AS hlt);have a2:=hq.dv _ (AS Bj);generalize q.options[i]=s1 at *;generalize q.dv[i]=s2 at *;have a1:s1.length<=1000:=a1;have a2:s2.length<=1000:=a2;have dp:=aSn (m:=k) hlt;simp only[go_sem,↓aB,seval,e8,f44,f0,AU,AT,cj,aN];refine bI (fQ F.toOutFns [111,112,116,105,111,110] deT) (c' _) j1 (by show T7.length+7<=_;omega) ?_;rintro T8 wr8 l1 l2 l3;have l2:T8.length<=T7.length+7:=l2;simp only[go_sem,↓aB,seval,f0];refine bI (sZ F.toTextFns s1 a1) (c' _) l1 omT ?_;rintro T9 wr9 t1 t2 t3;subst hx;simp only[go_sem,↓aB,seval,f0,f3,mO c,AU,AT,Bk,aN,AB,AD,AA,AE];refine bI (sZ F.toTextFns s2 a2) (c' _) t1 omT ?_;rintro T10 wr10 u1 u2 u3;simp only[go_sem,↓aB,seval];exact⟨rfl,_,T10,⟨rfl,bZ (bZ (bZ j3 l3) t3) u3⟩,u1,omT,rfl⟩
 rintro ρ3 L3 T7 wr7 ⟨rfl,j3⟩ j1 j2 cq;simp only[go_sem,seval];exact⟨rfl,[x],T7,j1,omT,rfl,j3⟩
end
structure oh(A:af)(g:SN)(tB:Nat):Prop where
 val:kc A g tB
 fact:Has A g "aW" (yQ g)
 ask:Has A g "aY" (oH g)
 Gl:Has A g "am" (jI g)
 Bl:Has A g "aG" (eN g)
def aSm{k:Int}(h0:0<=k)(h1:k<=6):∃w:Str,w.length<=6/\(aQ0.drop k.toNat).take 1=[.str w]/\k.toNat+1<=aQ0.length:=by
 have:∀i<7,∃w:Str,w.length<=6/\(aQ0.drop i).take 1=[.str w]/\i+1<=aQ0.length:=by
  intro i hi
  match i,hi with
  |0,_=>exact⟨_,deT,rfl,deT⟩
  |1,_=>exact⟨_,deT,rfl,deT⟩
  |2,_=>exact⟨_,deT,rfl,deT⟩
  |3,_=>exact⟨_,deT,rfl,deT⟩
  |4,_=>exact⟨_,deT,rfl,deT⟩
  |5,_=>exact⟨_,deT,rfl,deT⟩
  |6,_=>exact⟨_,deT,rfl,deT⟩
 exact this _ omT
section
variable {A:af}{g:SN}{tB:Nat}
def aVf(h:oh A g tB)(x:Item)(hx:x.Ok)(H:LO):aG A (g "bG") [.agg (aO x)] H=N1 (.bool (aGU x),H,[]):=by
 refine h.val.item.call ?_;have hw:=kO h.val.blk.within;have hl:∀{n:Nat},n<=16->n<4611686018427387904:=λh=>by omega
 have h0:=λH=>aGw h.val.name h.val.M3 h.val.M4 h.val.blk.sj hw x.name H (by have:x.name.length<=1000:=hx.name;omega);have h1:=λH=>h.val.R9.spec hw bT cQ (l:=x.blocks) (H:=H) (f1:=g "bD") (q:=dQ) (lo:=0) (hi:=8) (hl hx.zq) λ_ b hb=>aEX h.val.blk b (hx.blocks b hb) H;have h2:=λH=>h.val.B6.spec hw lF cQ (l:=x.facts) (H:=H) (f1:=g "aW") (q:=aHJ) (lo:=0) (hi:=8) (hl hx.B1) λ_ b _=>aMe h.fact hw b H;have h3:=λH=>h.val.S0.spec hw aY1 cQ (l:=x.ask) (H:=H) (f1:=g "aY") (q:=aWp) (lo:=0) (hi:=4) (hl hx.tj) λ_ b hb=>aGV h.ask h.Gl h.val.blk b (hx.ask b hb) H;simp only[yO,aGU];cases e0:aO7 x.name with
 |false=>simp only[go_sem,↓aB,seval,aO,h0,e0,BQ,BB]
 |true=>cases e1:(wi x.blocks.length 0 8&&x.blocks.all dQ)with
  |false=>simp only[go_sem,↓aB,seval,aO,h0,h1,e0,e1,BQ,BR,Zz,BB]
  |true=>cases e2:(wi x.facts.length 0 8&&x.facts.all aHJ)with
   |false=>simp only[go_sem,↓aB,seval,aO,h0,h1,h2,e0,e1,e2,BQ,BR,Zz,BB]
   |true=>simp only[go_sem,↓aB,seval,aO,h0,h1,h2,h3,e0,e1,e2,BR,Zz]
def yU{b:Block}(h:dQ b=Pa):xU b=true:=by unfold dQ at h;simp only[AI]at h;exact h.2
def bI7(x:Item)(M:Nat):Prop:=∃m k,(∀b∈x.blocks,Sc b m)/\(∀q∈x.ask,bI6 q k)/\6+x.name.length+x.blocks.length*m+x.facts.length*60+x.ask.length*k<=M
def bHq{x:Item}(hx:x.Ok)(hi:aGU x=Pa):bI7 x 5600000:=by unfold aGU at hi;simp only[AI,eG,AO]at hi;obtain⟨⟨⟨b1,⟨b2,b3⟩,b4⟩,⟨b5,b6⟩,b7⟩,⟨b8,b9⟩,b10⟩:=hi;exact⟨6500,150000,λb hb=>bHb (yU (b4 b hb)) (hx.blocks b hb),λq hq=>bHp (hx.ask q hq) (b10 q hq),by have:x.name.length<=1000:=hx.name;omega⟩
def aVg(F:uw A g tB)(Mc:Has A g "aG" (eN g))(x:jm)(hx:x.Ok)(hn:x.items.length<=12)(hi:∀i∈x.items,aGU i=Pa)(M:Nat)(hM:∀i∈x.items,bI7 i M)(Vu:x.items.length*M<=70000000)(H:LO):∃s:Str,s.length<=8+2*x.title.length+x.items.length*M/\aG A (g "bL") [dE x] H=N1 (.str s,H,[]):=by
 obtain⟨v',H',ba,h1,rfl,rfl,s,rfl,hs⟩:=F.source.bp (args:=[dE x]) (H:=H) (K:=λv H' wr=>wr=[]/\H'=H/\∃s:Str,v=.str s/\s.length<=8+2*x.title.length+x.items.length*M) (by
  have hf:=aIA F.toOutFns (H:=H++[.cw 1 153 [.nilPtr,.ar],.gone 0,.gone 0,.gone 0,.gone 0]) (o:=H.length) (v:=1) (s:=[101,120,97,109]) siT siT deT;rw[show (H++[ah.cw 1 153 [.nilPtr,.ar],.gone 0,.gone 0,.gone 0,.gone 0]).length=H.length+5 by simp,aBe,List.set_cons_zero,CJ]at hf;have c':∀{L:LO},L.length=6->gf (H++L).length H.length (H.length+5):=λh=>⟨soT,soT,omT⟩;have gy:=λ(T:Str) (b c d e:ah)=>aNe (H:=H) (ty:=153) (v:=1) (v2:=1) (T:=T) (a:=.gone 0) (b:=b) (c:=c) (d:=d) (e:=e) (f:=.gone 0);rw[show [ah.cw 1 153 [.ptr H.length 1 0,.sr (H.length+5) 1 ([101,120,97,109]:Str).length],ah.gone 0,.gone 0,.gone 0,.gone 0]++[.gl 1 5 1 (rb [101,120,97,109])]=[.cw 1 153 [.ptr H.length 1 0,.sr (H.length+5) 1 ([101,120,97,109]:Str).length],.gone 0,.gone 0,.gone 0,.gone 0,.gl 1 5 1 (rb [101,120,97,109])] from rfl,gy]at hf;have od:∀{w:LN},Wr2 H.length (H.length+5) w->bE H.length [] w=[]:=λ{w} h=>by
   induction w with
   |nil=>rfl
   |cons x r ih=>
    have hx:H.length<=x:=by rcases h x siT with e | e<;>omega
    unfold bE;rw[Zx (by intro hh;simp at hh;omega)];exact ih λy hy=>h y (by simp[hy])
  have m1:∀{i:Nat} {X:LO} {T:Str},i≠0->i≠5->(PSt X 153 H.length 1 (H.length+5) 1 T)[H.length+i]? = X[H.length+i]? := λh h'=>aKX h h';have n1:∀{X:LO} {T:Str},(PSt X 153 H.length 1 (H.length+5) 1 T)[H.length+1]? = X[H.length+1]? := m1 deT deT;have S3:x.title.length<=1000:=hx.title;simp only[yM];simp only[go_sem,↓aB,seval,dE,hf];refine bI (sZ F.toTextFns x.title S3) (c' rfl) siT (by show 4+_<=_;omega) ?_;rintro T1 dc a1 a2 a3;have a2:T1.length<=4+(2*x.title.length+3):=a2;simp only[go_sem,↓aB,seval,od a3,AB,AD,AA,AE,AF];refine kU (λL wr=>L.length=6/\wr=[]) 0 1 23 22 24 80 x.items.length M (W:=zQ) rfT cB rfl rfT rfT omT a1 ⟨rfl,rfl⟩ ?_ ?_
  ·rintro i ρ1 L1 T2 en hlt e23 cq ⟨hL,rfl⟩ g1 g2;obtain⟨x0,x1,x2,x3,x4,x5,rfl⟩:=uI hL;have e3:ρ1 3=.ptr H.length 1 0:=cq 3 rfl;have e21:ρ1 21=.sl Po (x.items.map aO):=cq 21 rfl;have cj:=mgE aO hlt;have W5:=hi _ (AS hlt);have kh:=hx.items _ (AS hlt);have Y0:=aSn (m:=M) hlt;obtain⟨m,k,V9,Ep,Dc⟩:=hM _ (AS hlt);generalize x.items[i]=it at *;unfold aGU at W5;simp only[AI,eG,AO]at W5;obtain⟨⟨⟨b1,⟨b2,b3⟩,b4⟩,⟨b5,b6⟩,b7⟩,⟨b8,b9⟩,b10⟩:=W5;have W6:it.name.length<=1000:=kh.name;have Iz:it.blocks.length<=8:=omT;have Ja:it.facts.length<=8:=omT;have Jb:it.ask.length<=4:=omT;have n2:∀{X:LO} {T:Str} {x:ah},(PSt X 153 H.length 1 (H.length+5) 1 T).set (H.length+1) x=PSt (X.set (H.length+1) x) 153 H.length 1 (H.length+5) 1 T:=aCr deT deT;have n3:∀{X:LO} {T:Str},bH (PSt X 153 H.length 1 (H.length+5) 1 T) (H.length+1)=bH X (H.length+1):=aEr deT deT;have n4:∀{X:LO} {T:Str} {mk:Nat->ah},make (PSt X 153 H.length 1 (H.length+5) 1 T) (H.length+1) mk=PSt (make X (H.length+1) mk) 153 H.length 1 (H.length+5) 1 T:=aBl deT deT;simp only[go_sem,↓aB,seval,e23,e21,e3,iZ,n1,n2,AU,AT,cj,aO];refine bI (fQ F.toOutFns [105,116,101,109] deT) (c' rfl) g1 (by show T2.length+5<=_;omega) ?_;rintro T3 wr3 b1 b2 b3;have b2:T3.length<=T2.length+5:=b2;simp only[go_sem,↓aB,seval,od b3,e3,n1,AD,AA,AE];refine bI (pY F.toOutFns it.name omT) (c' rfl) b1 omT ?_;rintro T4 wr4 d1 d2 d3;simp only[go_sem,↓aB,seval,od d3,n1,AB,AD,AA,AE,AF];refine kU (λL wr=>L.length=6/\wr=[]/\L[1]? = N1 (.box (x1.ver+1) [.str it.name,.sl Po (it.blocks.map aE),.sl Po (it.facts.map aI),.sl Po (it.ask.map gR)])) 2 3 36 35 37 43 it.blocks.length m (W:=zN) rfT cB rfl rfT rfT omT d1 ⟨rfl,rfl,rfl⟩ ?_ ?_
   ·rintro j ρ2 L2 T5 wr5 jlt f36 im ⟨yx,rfl,I1⟩ p1 p2;obtain⟨y0,y1,y2,y3,y4,y5,rfl⟩:=uI yx;have f3:ρ2 3=.ptr H.length 1 0:=(im 3 rfl).trans e3;have f34:ρ2 34=.sl Po (it.blocks.map aE):=im 34 rfl;have fh:=mgE aE jlt;have td:=kh.blocks _ (AS jlt);have dx:=yU (b4 _ (AS jlt));have u6:=aSn (m:=m) jlt;have P6:=V9 _ (AS jlt);generalize it.blocks[j]=b at *;have m2:∀{X:LO} {T:Str} {x:ah},(PSt X 153 H.length 1 (H.length+5) 1 T).set (H.length+2) x=PSt (X.set (H.length+2) x) 153 H.length 1 (H.length+5) 1 T:=aCr deT deT;have m1':∀{X:LO} {T:Str},(PSt X 153 H.length 1 (H.length+5) 1 T)[H.length+2]? = X[H.length+2]? := m1 deT deT;have m3:∀{X:LO} {T:Str},bH (PSt X 153 H.length 1 (H.length+5) 1 T) (H.length+2)=bH X (H.length+2):=aEr deT deT;have m4:∀{X:LO} {T:Str} {mk:Nat->ah},make (PSt X 153 H.length 1 (H.length+5) 1 T) (H.length+2) mk=PSt (make X (H.length+2) mk) 153 H.length 1 (H.length+5) 1 T:=aBl deT deT;have iz:(aE b).all AV.ak=true:=bQ (bG b);simp only[go_sem,↓aB,seval,f36,f34,f3,iZ,m1',m2,AU,AT,fh,cF,bT.take,aS (bG b),aK (bG b),iz,AD,AW,AZ];refine bI (aKV F.toBlockPrt b dx td P6) (c' rfl) p1 omT ?_;rintro T6 wr6 q1 q2 q3;simp only[go_sem,↓aB,seval,od q3];exact⟨rfl,[y0,y1,.box (y2.ver+1) (aE b),y3,y4,y5],T6,⟨rfl,rfl,I1⟩,q1,omT,rfl⟩
   rintro ρ' L' T' ba ⟨k0,rfl,k3⟩ k1 k2 I3;obtain⟨y0,y1,y2,y3,y4,y5,rfl⟩:=uI k0;have h5:ρ' 5=.ptr (H.length+1) (x1.ver+1) 0:=I3 5 rfl;have h3:ρ' 3=.ptr H.length 1 0:=(I3 3 rfl).trans e3;simp only[CT,BG,AG]at k3;subst k3;simp only[go_sem,↓aB,seval,h5,n1,AB,AD,AA,AE,AF];refine kU (λL wr=>L.length=6/\wr=[]/\L[1]? = N1 (.box (x1.ver+1) [.str it.name,.sl Po (it.blocks.map aE),.sl Po (it.facts.map aI),.sl Po (it.ask.map gR)])) 4 5 47 46 48 68 it.facts.length 60 (W:=zO) rfT cB rfl rfT rfT omT k1 ⟨rfl,rfl,rfl⟩ ?_ ?_
   ·rintro j ρ2 L2 T5 wr5 jlt f47 im ⟨yx,rfl,I1⟩ p1 p2;obtain⟨y0,y1,y2,y3,y4,y5,rfl⟩:=uI yx;have f3:ρ2 3=.ptr H.length 1 0:=(im 3 rfl).trans h3;have f45:ρ2 45=.sl Po (it.facts.map aI):=im 45 rfl;have fh:=mgE aI jlt;have W7:=b7 _ (AS jlt);have u6:=aSn (m:=60) jlt;generalize it.facts[j]=f at *;unfold aHJ at W7;simp only[AI,eG]at W7;obtain⟨⟨⟨⟨v1,v2⟩,v3,v4⟩,v5,v6⟩,v7,v8⟩:=W7;obtain⟨w,dy,gn,pr⟩:=aSm v1 v2;have v2':f.kind<7:=omT;have Gm:=mS F.toOutFns [f.block,f.a,f.b] Po siT soT;have r1:∀{X:LO} {T:Str},(PSt X 153 H.length 1 (H.length+5) 1 T)[H.length+3]? = X[H.length+3]? := m1 deT deT;have r2:∀{X:LO} {T:Str} {x:ah},(PSt X 153 H.length 1 (H.length+5) 1 T).set (H.length+3) x=PSt (X.set (H.length+3) x) 153 H.length 1 (H.length+5) 1 T:=aCr deT deT;have r3:∀{X:LO} {T:Str},bH (PSt X 153 H.length 1 (H.length+5) 1 T) (H.length+3)=bH X (H.length+3):=aEr deT deT;have r4:∀{X:LO} {T:Str} {mk:Nat->ah},make (PSt X 153 H.length 1 (H.length+5) 1 T) (H.length+3) mk=PSt (make X (H.length+3) mk) 153 H.length 1 (H.length+5) 1 T:=aBl deT deT;simp only[go_sem,↓aB,seval,f47,f45,f3,iZ,r1,r2,AU,AT,fh,aI];refine bI (fQ F.toOutFns [102,97,99,116] deT) (c' rfl) p1 (by show T5.length+5<=_;omega) ?_;rintro T6 wr6 q1 q2 q3;have q2:T6.length<=T5.length+5:=q2;simp only[go_sem,↓aB,seval,od q3,f3,r1,AD,AA,AE,v1,v2',gn,pr,BC,FK];refine bI (pY F.toOutFns w omT) (c' rfl) q1 omT ?_;rintro T7 wr7 s1 s2 s3;simp only[go_sem,↓aB,seval,od s3,f3,r1,AB,AD,AA,AE];refine bI Gm (c' rfl) s1 soT ?_;rintro T8 wr8 t1 t2 t3;have t2:T8.length<=T7.length+27:=t2;simp only[go_sem,↓aB,seval,od t3];exact⟨rfl,[y0,y1,y2,.box (y3.ver+1) (aI f),y4,y5],T8,⟨rfl,rfl,I1⟩,t1,omT,rfl⟩
   rintro ρ'' L'' T'' wr'' ⟨q0,rfl,q3⟩ q1 q2 Cv;obtain⟨z0,z1,z2,z3,z4,z5,rfl⟩:=uI q0;have Fy:ρ'' 5=.ptr (H.length+1) (x1.ver+1) 0:=(Cv 5 rfl).trans h5;have D9:ρ'' 3=.ptr H.length 1 0:=(Cv 3 rfl).trans h3;simp only[CT,BG,AG]at q3;subst q3;simp only[go_sem,↓aB,seval,Fy,n1,AB,AD,AA,AE,AF];refine kU (λL wr=>L.length=6/\wr=[]) 6 7 72 71 73 79 it.ask.length k (W:=zP) rfT cB rfl rfT rfT omT q1 ⟨rfl,rfl⟩ ?_ ?_
   ·rintro j ρ2 L2 T5 wr5 jlt f72 im ⟨yx,rfl⟩ p1 p2;obtain⟨y0,y1,y2,y3,y4,y5,rfl⟩:=uI yx;have f3:ρ2 3=.ptr H.length 1 0:=by rw[im 3 rfT];exact D9
    have f70:ρ2 70=.sl Po (it.ask.map gR):=im 70 rfl;have fh:=mgE gR jlt;have J0:=kh.ask _ (AS jlt);have Mf:=b10 _ (AS jlt);have u6:=aSn (m:=k) jlt;have P6:=Ep _ (AS jlt);generalize it.ask[j]=q at *;have r1:∀{X:LO} {T:Str},(PSt X 153 H.length 1 (H.length+5) 1 T)[H.length+4]? = X[H.length+4]? := m1 deT deT;have r2:∀{X:LO} {T:Str} {x:ah},(PSt X 153 H.length 1 (H.length+5) 1 T).set (H.length+4) x=PSt (X.set (H.length+4) x) 153 H.length 1 (H.length+5) 1 T:=aCr deT deT;have r3:∀{X:LO} {T:Str},bH (PSt X 153 H.length 1 (H.length+5) 1 T) (H.length+4)=bH X (H.length+4):=aEr deT deT;have r4:∀{X:LO} {T:Str} {mk:Nat->ah},make (PSt X 153 H.length 1 (H.length+5) 1 T) (H.length+4) mk=PSt (make X (H.length+4) mk) 153 H.length 1 (H.length+5) 1 T:=aBl deT deT;have p0:=aLb F.toBlockPrt Mc q J0 Mf P6;simp only[gR]at p0;simp only[go_sem,↓aB,seval,f72,f70,f3,iZ,r1,r2,AU,AT,fh,gR];refine bI p0 (c' rfl) p1 omT ?_;rintro T6 wr6 s1 s2 s3;simp only[go_sem,↓aB,seval,od s3];exact⟨rfl,[y0,y1,y2,y3,.box (y4.ver+1) (gR q),y5],T6,⟨rfl,rfl⟩,s1,omT,rfl⟩
   rintro ρ3 L3 T3' wr3' ⟨r0,rfl⟩ r1 r2 Lv;simp only[go_sem,seval];exact⟨rfl,L3,T3',⟨r0,rfl⟩,r1,omT,rfl⟩
  rintro ρ' L' T' ba ⟨k0,rfl⟩ k1 k2 hf;have h3:ρ' 3=.ptr H.length 1 0:=hf 3 rfl;obtain⟨wr8,w1,w2⟩:=tX F.wb F.cc (ty:=153) (v:=1) (v2:=1) (T:=T') (b:=10) (c' k0) omT;have w1:aG A (g "Q") [.ptr H.length 1 0,.int .u8 10] (PSt (H++L') 153 H.length 1 (H.length+5) 1 T')=N1 (.bj,PSt (H++L') 153 H.length 1 (H.length+5) 1 (T'++[10]),wr8):=w1;have bd:=aCs F.str (ty:=153) (v:=1) (v2:=1) (T:=T'++[10]) (c' k0) siT soT;have pk:((PSt (H++L') 153 H.length 1 (H.length+5) 1 (T'++[10])).set (H.length+5) (.gone 1)).take H.length=H:=by rw[List.take_set_of_le omT,aNf]
  simp only[go_sem,↓aB,seval,h3,w1,bd,od w2,qQ,pk];exact⟨T'++[10],rfl,soT⟩)
 exact⟨s,hs,h1⟩
end
section
variable {A:af}{g:SN}{tB:Nat}
noncomputable def bDt(x:jm):Bool:=vP 0 100 x.title&&(wi x.items.length 0 12&&x.items.all aGU)
def aTh(h:oh A g tB)(x:jm)(hx:x.Ok)(H:LO):∃e:Int,aG A (g "e") [dE x] H=N1 (vi e,H,[])/\(bDt x=Po->e=1)/\(bDt x=Pa->e=0∨e=4)/\(bDt x=Pa->∀M,(∀i∈x.items,bI7 i M)->8+2*x.title.length+x.items.length*M<=8192->e=0):=by
 have hw:=kO h.val.blk.within;have h0:=λH=>qW h.val.blk.text h.val.blk.wg h.val.blk.sj hw x.title 0 100 H (by have:x.title.length<=1000:=hx.title;omega);have h1:=λH=>h.val.allI.spec hw aJl cQ (l:=x.items) (H:=H) (f1:=g "bG") (q:=aGU) (lo:=0) (hi:=12) (by have:=hx.G8;show x.items.length<_;omega) λ_ i hi=>aVf h i (hx.items i hi) H;cases e0:vP 0 100 x.title with
 |false=>refine⟨1, ?_,λ_=>rfl,λh=>by simp[bDt,e0]at h,λh=>by simp[bDt,e0]at h⟩;refine h.val.valid.call ?_;simp only[mZ];simp only[go_sem,↓aB,seval,dE,h0,e0,AD,AA,AE,Bool.true_beq,AJ]
 |true=>
  cases e1:(wi x.items.length 0 12&&x.items.all aGU)with
  |false=>refine⟨1, ?_,λ_=>rfl,λh=>by simp[bDt,e0,e1]at h,λh=>by simp[bDt,e0,e1]at h⟩;refine h.val.valid.call ?_;simp only[mZ];simp only[go_sem,↓aB,seval,dE,h0,h1,e0,e1,AB,AD,AA,AE,Zz,AJ]
  |true=>
   have e1':=e1;simp only[AI,eG,AO]at e1';have hB:bDt x=true:=by unfold bDt;rw[e0,e1];rfl
   have go:∀s:Str,aG A (g "bL") [dE x] H=N1 (.str s,H,[])->aG A (g "e") [dE x] H=N1 (vi (if decide ((s.length:Int)>8192)then 4 else 0),H,[]):=λs nu=>by
    refine h.val.valid.call ?_;simp only[mZ];simp only[dE]at nu ⊢;simp only[go_sem,↓aB,seval,h0,h1,e0,e1,nu,AB,AD,AA,AE,Zz,AJ];refine aD (λdp=>?_) (λdp=>?_)
    ·simp only[go_sem,↓aB,seval,dp]
    rw[dp];simp only[go_sem,↓aB,seval]
   have src:=λM h1 h2=>aVg h.val.src h.Bl x hx omT e1'.2 M h1 h2 H;obtain⟨s,lq,nu⟩:=src 5600000 (λi hi=>bHq (hx.items i hi) (e1'.2 i hi)) omT;refine⟨_,go s nu,λh=>(by rw[hB]at h;cases h),λ_=>(by split;exact .inr rfl;exact .inl rfl),λ_ M k1 k2=>?_⟩;obtain⟨s',F1,Uf⟩:=src M k1 omT;rw[nu]at Uf;cases Uf;rw[Zx soT]
abbrev aCD(A:af)(g:SN)(E:Int->Int->List Shape->Int):Prop:=∀(w hh:Int) (l:List Shape),1<=w/\w<=1000->1<=hh/\hh<=1000->l.length<=8->(∀s∈l,vQ s=Pa)->∀H:LO,aG A (g "u") [.agg (aDn w hh l)] H=N1 (vi (E w hh l),H,[])
noncomputable def nU(E:Int->Int->List Shape->Int)(b:Block):Int:=if dQ b then (if b.kind=1 then aBV b.expr else if b.kind=4 then E b.w b.h b.aw else 0)else 1
def aTi(h:oh A g tB)(b:Block)(hb:b.Ok)(H:LO):aG A (g "e") [dE (aKW b)] H=N1 (vi (if dQ b then 0 else 1),H,[]):=by
 have hx:(aKW b).Ok:=⟨by show 1<=1000;decide,by show 1<=16;decide,λi hi=>by
  rw[CG.1 hi];exact⟨by show 1<=1000;decide,by show 1<=16;decide,λx hx=>by rw[CG.1 hx];exact hb,FF _,λf hf=>(by cases hf),FF _,λq hq=>(by cases hq)⟩⟩
 obtain⟨e,h1,h2,h3,h4⟩:=aTh h (aKW b) hx H;have hB:bDt (aKW b)=dQ b:=by have e1:vP 0 100 [120]=true:=deT;have e2:aO7 [97]=true:=deT;simp[bDt,aKW,aGU,e1,e2,wi]
 rw[hB]at h2 h3 h4;rw[h1];cases dp:dQ b with
 |false=>rw[h2 dp];rfl
 |true=>
  have:=h4 dp 6700 (λi hi=>by
   rw[CG.1 hi];exact⟨6500,0,λx hx=>by rw[CG.1 hx];exact bHb (yU dp) hb,(λq hq=>by cases hq),by show 6+1+1*6500+0*60+0*0<=6700;decide⟩) (by show 8+2*1+1*6700<=8192;decide)
  rw[this];rfl
def aMj{E:Int->Int->List Shape->Int}(hE:aCD A g E)(hv:oh A g tB)(hf:lu A g)(hc:Has A g "M" (tE g))(b:Block)(hb:b.Ok)(H:LO):aG A (g "M") [.agg (aE b)] H=N1 (vi (nU E b),H,[]):=by
 have h0:=aTi hv b hb H;obtain⟨op,n,ks,mn⟩:∃op n ks,b.expr=Expr.mk op n ks:=by cases b.expr;exact⟨_,_,_,rfl⟩
 have Ra:aF b.expr=[vi op,vi n,.sl Po (ks.map aF)]:=by rw[mn,aF,aZ]
 have ig:aE b=[vi b.kind,.sl Po (b.runs.map cZ),vi op,vi n,.sl Po (ks.map aF),vi b.dn,.sl Po (b.eg.map bF),.sl Po (b.cd.map bY),vi b.w,vi b.h,.sl Po (b.aw.map aH),.sl Po (b.bo.map bS),.sl Po (b.lines.map aN)]:=by unfold aE;rw[Ra];rfl
 have yp:=aCp hf b.expr hb.expr hb.size H;rw[Ra]at yp;simp only[dE,aKW,BI,BY,aO,ig]at h0;refine hc.call ?_;rw[ig];simp only[tE,nU];cases hB:dQ b with
 |false=>rw[hB]at h0;simp only[go_sem,↓aB,seval,h0,AJ]
 |true=>
  rw[hB]at h0;simp only[go_sem,↓aB,seval,h0];simp only[aAJ];by_cases k1:b.kind=1
  ·simp only[go_sem,↓aB,seval,k1,AB,AD,AA,AE,yp,AJ]
  have b1:(b.kind==1)=false:=by simpa using k1
  by_cases k4:b.kind=4
  ·have hk:xU b=true:=by unfold dQ at hB;simp only[AI]at hB;exact hB.2
   unfold xU at hk;rw[Zx omT,Zx omT,Zx omT,Zx omT,Zy k4]at hk;simp only[AI,eG]at hk;obtain⟨⟨hw,hh⟩,⟨_,Iv⟩,hS⟩:=hk;have Gn:=hE b.w b.h b.aw hw hh omT (AO.1 hS) H;simp only[go_sem,↓aB,seval,k4,AB,AD,AA,AE,Gn,AJ]
  have b4:(b.kind==4)=false:=by simpa using k4
  simp only[go_sem,↓aB,seval,b1,b4,k1,k4]
end
abbrev aFv(g:SN):ag:=qS [qb 15 .lss 14 13]<|.seq (qC 15 (.skip) (.exit 0))<|.seq (.block 1 (qS [qm 16 14,qi 17 12 14 13,qla 18 13 17,qq 5 (.alloc [z0,(.sl Pa []),z0,z0,(.sl Pa []),z0,(.sl Pa []),(.sl Pa []),z0,z0,(.sl Pa []),(.sl Pa []),(.sl Pa [])]),qm 4 16,qs 13 5 18]<|.region Po [qm 19 3,qla 20 13 5,qm 21 4,qc 22 (g "V") [u 20,u 21],qa 23 4 32 19 22,qm 3 23]))<|.region Po [qbi 24 .add 14 1,qm 14 24]
def yV(g:SN):bw:=⟨26,[5,23],[.tmp 2],qS [qx 1 4 0,qmc 2 (.sl Pa [])]<|.seq (qS [qla 6 4 1,qq 7 (.bsl 4 [(.str []),(.sl Po []),(.sl Po []),(.sl Po [])] 1 [(0,(.tmp 6))]),qq 8 (.build [(.str []),(.sl Pa [])] [(0,1,(.const (.str [120]))),(1,1,(.tmp 7))]),qc 9 (g "e") [u 8],qbi 10 .neq 9 0]<|qC 10 (qS [qmc 2 (.sl Pa [])]<|.ret) (.skip))<|qS [qmc 3 (.sl Pa [])]<|.seq (qS [qf 11 1 1,ql 12 1 11,qn 13 12,qmc 14 z0]<|.block 0 (.loop (aFv g)))<|qS [qm 25 3,qm 2 25]<|.ret⟩
def aSo(R:List Fact):AV:=if R.isEmpty then .sl Po [] else .own 4 (R.map aI)
def aLc{A:af}{g:SN}(F:j0 A g)(h:Has A g "V" (oZ g))(b:Block)(hb:b.Ok)(at':Int)(H:LO):aG A (g "V") [.agg (aE b),vi at'] H=N1 (aSo (eM b at'),H,[]):=by
 obtain⟨r,h1,h2⟩:=aOp F h b hb at' H;rw[h2];unfold aSo;rcases h1 with⟨e,rfl⟩ | ⟨bl,rfl⟩
 ·rw[e];rfl
 cases he:eM b at' with
 |nil=>exact Zw he bl
 |cons a r=>rfl
def aFF:aSo []=.sl Po []:=rfl
def aDI{f:Fact}{r:List Fact}:aSo (f::r)=.own 4 ((f::r).map aI):=rfl
def aVh{R:List Fact}(h:R≠[]):aSo R=.own 4 (R.map aI):=by
 cases R with
 |nil=>exact Zw rfl h
 |cons f r=>rfl
def mI(l:List Block)(n:Nat):List Fact:=(GZ n).flatMap λ(k:Nat)=>match l[k]? with
 |some b=>eM b (k:Int)
 |none=>[]
def tI(x:Item):List Fact:=mI x.blocks x.blocks.length
def yW{l:List Block}{n:Nat}(h:n<l.length):mI l (n+1)=mI l n++eM l[n] n:=by unfold mI;rw[LQ,JK];simp[AP h]
def aEA{l:List Block}(hl:∀b∈l,b.Ok):∀n,n<=l.length->(mI l n).length<=n*1792
 |0,_=>FF _
 |n+1,h=>by
  have h1:=aEA hl n omT;have h2:=yT (hl _ (AS (by omega:n<l.length))) (at':=(n:Int)) 7;rw[yW omT,BA];have:(eM l[n] (n:Int)).length<=7*256:=h2;omega
def bC6(o:Nat)(w:AV)(x:ah)(rows:List Fact):Prop:=(rows=[]/\w=.sl Pa [])∨(rows≠[]/\∃ver,w=.sr o ver rows.length/\x=.vec ver 4 (rows.map aI))
section
variable {A:af}{g:SN}{tB:Nat}
def aH7(F:j0 A g)(hf:Has A g "V" (oZ g))(h:Has A g "bc" (yV g))(x:Item)(hx:x.Ok){P P':Prop} (hV:∀H,∃e:Int,aG A (g "e") [dE ⟨[120],[x]⟩] H=N1 (vi e,H,[])/\(e=0->P)/\(P'->e=0)) (H:LO):∃R,aG A (g "bc") [.agg (aO x)] H=N1 (aSo R,H,[])/\((R=[]/\¬P')∨(P/\R=tI x)):=by
 obtain⟨r,H',ba,e1,rfl,rfl,R,rfl,e2⟩:=h.bp (args:=[.agg (aO x)]) (H:=H) (K:=λr H' wr=>wr=[]/\H'=H/\∃R,r=aSo R/\((R=[]/\¬P')∨(P/\R=tI x))) (by
  simp only[yV];obtain⟨e,h1,h2,h3⟩:=hV (H++[.gone 0,.gone 0]);simp only[dE,aO,BI,BY]at h1;cases z:(e != 0)with
  |true=>
   have hz:e≠0:=by simpa using z
   simp only[go_sem,↓aB,seval,aO,h1,z,AJ,AB,AD,AA,AE];exact⟨[],rfl,.inl ⟨rfl,λhp=>hz (h3 hp)⟩⟩
  |false=>
  have hz:e=0:=by simpa using z
  have hP:=h2 hz;simp only[go_sem,↓aB,seval,aO,h1,z,AJ,AB,AD,AA,AE,AF];refine bJ (id:=0) (λk ρ1 H1 wr=>wr=[]/\ρ1 14=vi (k:Nat)/\∃x0 x1,H1=H++[x0,x1]/\bC6 (H.length+1) (ρ1 3) x1 (mI x.blocks k)) x.blocks.length
   (λρ1 H1 wr=>wr=[]/\∃x0 x1,H1=H++[x0,x1]/\bC6 (H.length+1) (ρ1 3) x1 (tI x)) cB rfl ⟨rfl,rfl,_,_,rfl,.inl ⟨rfl,rfl⟩⟩ ?_ ?_
  ·rintro k ρ1 H1 dc zp ⟨rfl,e14,x0,x1,rfl,hw⟩ cq;have f12:ρ1 12=.sl Po (x.blocks.map aE):=cq 12 rfl;have f13:ρ1 13=vi (x.blocks.length:Nat):=cq 13 rfl;simp only[go_sem,↓aB,seval,e14,f13];refine aD (λe3=>?_) (λe3=>?_)
   ·have hlt:k<x.blocks.length:=by simp at e3;omega
    have dy:AR.wrap ((k:Int)+1)=((k+1:Nat):Int):=by rw[wrap_i64 omT (by have:=hx.zq;omega)];omega
    have cj:=mgE aE hlt;have td:=hx.blocks _ (AS hlt);have C7:=yW hlt;have R6:=aEA hx.blocks (k+1) hlt;have Bm:=hx.zq;generalize x.blocks[k]=b at *;have az:=λH=>aLc F hf b td k H;have iz:(aE b).all AV.ak=true:=bQ (bG b);rw[C7,BA]at R6;cases hR:eM b k with
    |nil=>
     rw[hR,AJ]at C7;simp only[hR]at az;rcases hw with⟨e0,e3'⟩ | ⟨bl,ver,e3',rfl⟩
     ·simp only[go_sem,↓aB,seval,e14,dy,f12,AU,AT,hlt,cj,cF,bT.take,aS (bG b),aK (bG b),iz,AD,AW,AZ,az,aFF,e3',eX,cG,dO];exact⟨_,_,rfl,by rw[C7];exact .inl ⟨e0,rfl⟩⟩
     have hr:bP (mI x.blocks k).length 32=true:=by unfold bP;simp;omega
     simp only[go_sem,↓aB,seval,e14,dy,f12,AF,AU,AT,hlt,cj,cF,bT.take,aS (bG b),aK (bG b),iz,AD,AW,AZ,az,aFF,e3',eX,cG,dO,hr];exact⟨_,_,rfl,by rw[C7];exact .inr ⟨bl,ver,rfl,rfl⟩⟩
    |cons f r=>
     rw[hR]at C7 R6;simp only[hR]at az;have hd:gG ((f::r).map aI)=true:=aC eL _;rcases hw with⟨e0,e3'⟩ | ⟨bl,ver,e3',rfl⟩
     ·have hr:bP (r.length+1) 32=true:=by unfold bP;simp at R6 ⊢;omega
      simp only[go_sem,↓aB,seval,e14,dy,f12,AF,AU,AT,hlt,cj,cF,bT.take,aS (bG b),aK (bG b),iz,AD,AW,AZ,az,aDI,e3',eX,cG,dO,hr,BI,aI];exact⟨_,_,rfl,by rw[C7,e0,CW];exact .inr ⟨siT,_,rfl,rfl⟩⟩
     have hr:bP ((mI x.blocks k).length+(r.length+1)) 32=true:=by unfold bP;simp at R6 ⊢;omega
     simp only[go_sem,↓aB,seval,e14,dy,f12,AF,AU,AT,hlt,cj,cF,bT.take,aS (bG b),aK (bG b),iz,AD,AW,AZ,az,aDI,e3',eX,cG,dO,hr,BI,aI];exact⟨_,_,rfl,by rw[C7];exact .inr ⟨siT,ver,by rw[BA];rfl,by rw[DQ];rfl⟩⟩
   have:k=x.blocks.length:=by simp at e3;omega
   subst this;simp only[go_sem,seval];exact⟨x0,x1,rfl,hw⟩
  rintro ρ' H' ba ⟨rfl,x0,x1,rfl,hw⟩ cq;rcases hw with⟨e0,e3⟩ | ⟨bl,ver,e3,rfl⟩
  ·simp only[go_sem,↓aB,seval,e3];exact⟨[],rfl,.inr ⟨hP,e0.symm⟩⟩
  have hd:gG ((tI x).map aI)=true:=aC eL _;simp only[go_sem,↓aB,seval,e3,aT hd,aA hd,AF];exact⟨_,(aVh bl).symm,.inr ⟨hP,rfl⟩⟩)
 exact⟨R,e1,e2⟩
end
end Go.AM
end
section

end
section
namespace Go.AM
open Go
abbrev aH8(A:af)(g:SN):Prop:=∀(n:Nat) (H:LO),n<1000000->aG A (g "K") [vi n] H=N1 (.str (dec n),H,[])
abbrev bEl(g:SN):List ae:=[qm 34 5,qm 35 6,qm 36 5,qm 37 6,qm 38 5,qm 39 6,qm 40 3,qf 41 0 7,⟨N1 42,ol 1 41,N2,[7]⟩,⟨N1 43,.look (.str []) (u 40) (u 42) Po,N2,[6,8,7]⟩,qf 44 6 7,⟨N1 45,ol 1 44,N2,[10]⟩,⟨N1 46,on 45,N2,[11,10]⟩,⟨N1 47,.mks 1 16 [(.str [])] (u 46) (u 46),N2,[12,11,10]⟩,⟨N1 48,oi 34 35 7,N2,[0,1,9,6,8,7]⟩,⟨N1 49,of 5 48,N2,[14,0,1,9,6,8,7]⟩,⟨N2,.store 1 (u 49) (ui 0),N2,[15,14,0,1,9,6,8,7]⟩,⟨N1 50,oi 36 37 7,N2,[2,3,16,15,14,0,1,9,6,8,7]⟩,⟨N1 51,of 4 50,N2,[17,2,3,16,15,14,0,1,9,6,8,7]⟩,⟨N2,os 1 51 43,N2,[18,17,2,3,16,15,14,0,1,9,6,8,7]⟩,⟨N1 52,oi 38 39 7,N2,[4,5,13,12,11,10,19,18,17,2,3,16,15,14,0,1,9,6,8,7]⟩,⟨N1 53,of 6 52,N2,[20,4,5,13,12,11,10,19,18,17,2,3,16,15,14,0,1,9,6,8,7]⟩,⟨N2,os 1 53 47,N2,[21,20,4,5,13,12,11,10,19,18,17,2,3,16,15,14,0,1,9,6,8,7]⟩]
abbrev bDu(g:SN):ag:=qS [qb 30 .lss 29 28]<|.seq (qC 30 (.skip) (.exit 2))<|.seq (.block 3 (qS [qm 31 29,qi 32 27 29 7,qla 33 7 32,qq 7 (.alloc [z0,(.sl Pa []),(.sl Pa []),(.sl Pa []),(.str []),z0,(.sl Pa [])]),qm 6 31,qs 7 7 33]<|.region Pa (bEl g)))<|.region Po [qbi 54 .add 29 1,qm 29 54]
abbrev bEm:LN:=[30,31,32,33,7,6,34,35,36,37,38,39,40,41,42,43,44,45,46,47,48,49,50,51,52,53,54,29]
abbrev bDv(g:SN):ag:=qS [qb 18 .lss 17 16]<|.seq (qC 18 (.skip) (.exit 0))<|.seq (.block 1 (qS [qm 19 17,qm 4 19]<|qS [qf 20 1 1,ql 21 1 20,qm 22 4,qi 23 21 22 4,qf 24 3 23,ql 25 1 24,qc 26 (g "bp") [u 25],qm 5 26]<|.seq (qS [qm 27 5,qn 28 27,qmc 29 z0]<|.block 2 (.loop (bDu g)))<|.seq (.frz [(0,5)])<|.region Po [qf 55 1 1,ql 56 1 55,qm 57 4,qm 58 5,qi 59 56 57 4,qf 60 3 59,qs 1 60 58]))<|.region Po [qbi 61 .add 17 1,qm 17 61]
abbrev bEn:LN:=[18,19,4,20,21,22,23,24,25,26,5,27,28,29,30,31,32,33,7,6,34,35,36,37,38,39,40,41,42,43,44,45,46,47,48,49,50,51,52,53,54,29,5,55,56,57,58,59,60,61,17]
def bDw(g:SN):bw:=⟨63,[1,2,8,12,26,7],[.cell 2 2 Pa],qS [qx 1 2 0,qq 2 (.alloc [(.str []),(.sl Pa [])])]<|qS [qq 8 (.jn),qz (.ins (u 8) (ui 0) (uc (.str [48]))),qz (.ins (u 8) (ui 1) (uc (.str [48]))),qz (.ins (u 8) (ui 2) (uc (.str [45]))),qm 9 8,qm 3 9]<|qS [qf 10 1 1,ql 11 1 10,qc 12 (g "bS") [u 11],qf 13 1 1,qs 1 13 12]<|.seq (qS [qf 14 1 1,ql 15 1 14,qn 16 15,qmc 17 z0]<|.block 0 (.loop (bDv g)))<|qS [qla 62 2 1,qs 2 2 62]<|.ret⟩
def bDC(k:Int):Str:=if k=0 then [48] else if k=1 then [48] else if k=2 then [45] else []
def bEe(q:Question):Question:={ q with points:=0,key:=bDC q.kind,dv:=AX q.dv.length [] }
def bDh(x:Item):Item:={ x with ask:=x.ask.map bEe }
def bD5(x:jm):jm:={ x with items:=x.items.map bDh }
def kinds(k:Int):k=0∨k=1∨k=2∨(k≠0/\k≠1/\k≠2):=omT
def aF9{a b:Int}(h:a≠b):(a==b)=false:=by simpa using h
def bD6:List (AV×AV):=[(.int .i64 0,.str [48]),(.int .i64 1,.str [48]),(.int .i64 2,.str [45])]
def bF0(k:Int):(∃j,iB (vi k) bD6 0=N1 (N1 (j,.str (bDC k))))∨(iB (vi k) bD6 0=N1 N2/\bDC k=[]):=by
 rcases kinds k with rfl | rfl | rfl | ⟨h0,h1,h2⟩
 ·exact .inl ⟨0,rfl⟩
 ·exact .inl ⟨1,rfl⟩
 ·exact .inl ⟨2,rfl⟩
 refine .inr ⟨?_,by simp[bDC,h0,h1,h2]⟩;simp only[iB,bD6,aJK,Zv,aF9 h0,aF9 h1,aF9 h2]
def bFS{A:af}{g:SN}{H0:LO}{Q:bf->bN->LO->LN->Prop}{tg} {va vm:Nat} {o0 o1 o3 o5:ah} {l:List Question} (hl:l.length<=16) (hq:∀q∈l,q.Ok) {ρ:bN} (h3:ρ 3=.mp (H0.length+2) vm) (h5:ρ 5=.sr (H0.length+4) va l.length) (Up:ρ 27=.sr (H0.length+4) va l.length) (Uq:ρ 28=vi l.length) (Ur:ρ 29=vi 0) (hQ:∀ρ' o5,(∀t,bEm.contains t=Po->ρ' t=ρ t)->Q (.exit 2) ρ' (H0++[o0,o1,.map vm bD6,o3,.vec va 7 ((l.map bEe).map gR),o5]) []):wl A 63 ⟨H0.length,[1,2,8,12,26,7]⟩ (bDu g) ρ (H0++[o0,o1,.map vm bD6,o3,.vec va 7 (l.map gR),o5]) [] Q tg:=by
 refine bJ (λi ρ1 H wr=>wr=[]/\ρ1 29=vi i/\∃o5,H=H0++[o0,o1,.map vm bD6,o3,.vec va 7 ((bEW (λ_=>bEe) l i).map gR),o5]) l.length
  (λρ1 H wr=>wr=[]/\∃o5,H=H0++[o0,o1,.map vm bD6,o3,.vec va 7 ((l.map bEe).map gR),o5])
  cB rfl ⟨rfl,Ur,o5,by rw[bEY]⟩ ?_ (by
   rintro ρ' H' ba ⟨rfl,o5,rfl⟩ hf;exact hQ ρ' o5 hf)
 rintro i ρ1 H1 dc mg ⟨rfl,Sd,o5,rfl⟩ hf;have f3:ρ1 3=.mp (H0.length+2) vm:=(hf 3 rfl).trans h3;have f5:ρ1 5=.sr (H0.length+4) va l.length:=(hf 5 rfl).trans h5;have f27:ρ1 27=.sr (H0.length+4) va l.length:=(hf 27 rfl).trans Up;have f28:ρ1 28=vi l.length:=(hf 28 rfl).trans Uq;simp only[go_sem,seval,f28,Sd];refine aD (λhb=>?_) (λhb=>?_)
 ·have hlt:i<l.length:=by simpa using hb
  have Rn:=hq l[i] (AS hlt);have U8:=Rn.vw;have ed:bP l[i].dv.length 16=true:=by unfold bP;simp;omega
  have lg:((bEW (λ_=>bEe) l i).map gR).set i [vi l[i].kind,.sl Po (l[i].lk.map cZ),.sl Po (l[i].options.map aN),.sl Po (l[i].cy.map bF),.str (bDC l[i].kind),vi 0,.sl Po (AX l[i].dv.length [.str []])] =
    (bEW (λ_=>bEe) l (i+1)).map gR:=bDs hlt (by simp only[gR,bEe,List.map_replicate,aN])
  simp only[go_sem,seval,f27,Sd,hlt,bCN hlt,gR];refine aY (aq:=[11,16,19]) rfT rfT ?_;rcases bF0 l[i].kind with⟨j,hk⟩ | ⟨hk,he⟩
  ·simp only[go_sem,seval,f3,f5,Sd,hlt,bCN hlt,gR,hk,ed,lg,eH,dG,aL];rw[dW omT];exact⟨rfl,_,rfl⟩
  rw[he]at lg;simp only[go_sem,seval,f3,f5,Sd,hlt,bCN hlt,gR,hk,ed,lg,eH,dG,aL];rw[dW omT];exact⟨rfl,_,rfl⟩
 have hlt:i=l.length:=by
  have:¬i<l.length:=by simpa using hb
  omega
 subst hlt;rw[bFE,bEd];simp only[go_sem,seval];exact⟨o5,rfl⟩
def bFl{A:af}{g:SN}(nc:a8 A (g "bp") 7 128){H0:LO}{Q:bf->bN->LO->LN->Prop}{tg} {vx vl vm:Nat} {t0:AV} {o1 o4 o5:ah} {l:List Item} (hl:l.length<=16) (hq:∀x∈l,x.Ok) {ρ:bN} (h1:ρ 1=.ptr H0.length vx 0) (h3:ρ 3=.mp (H0.length+2) vm) (Us:ρ 16=vi l.length) (Q5:ρ 17=vi 0) (hQ:∀ρ' o4 o5,(∀t,bEn.contains t=Po->ρ' t=ρ t)->Q (.exit 0) ρ' (H0++[.box vx [t0,.sr (H0.length+3) vl l.length],o1,.map vm bD6,.vec vl 4 ((l.map bDh).map aO),o4,o5]) []):wl A 63 ⟨H0.length,[1,2,8,12,26,7]⟩ (bDv g) ρ (H0++[.box vx [t0,.sr (H0.length+3) vl l.length],o1,.map vm bD6,.vec vl 4 (l.map aO),o4,o5]) [] Q tg:=by
 refine bJ (λi ρ1 H wr=>wr=[]/\ρ1 17=vi i/\∃o4 o5,H=H0++[.box vx [t0,.sr (H0.length+3) vl l.length],o1,.map vm bD6,.vec vl 4 ((bEW (λ_=>bDh) l i).map aO),o4,o5]) l.length
  (λρ1 H wr=>wr=[]/\∃o4 o5,H=H0++[.box vx [t0,.sr (H0.length+3) vl l.length],o1,.map vm bD6,.vec vl 4 ((l.map bDh).map aO),o4,o5])
  cB rfl ⟨rfl,Q5,o4,o5,by rw[bEY]⟩ ?_ (by
   rintro ρ' H' ba ⟨rfl,o4,o5,rfl⟩ hf;exact hQ ρ' o4 o5 hf)
 rintro i ρ1 H1 dc mg ⟨rfl,Ro,o4,o5,rfl⟩ hf;have f1:ρ1 1=.ptr H0.length vx 0:=(hf 1 rfl).trans h1;have f3:ρ1 3=.mp (H0.length+2) vm:=(hf 3 rfl).trans h3;have f16:ρ1 16=vi l.length:=(hf 16 rfl).trans Us;simp only[go_sem,seval,f16,Ro];refine aD (λhb=>?_) (λhb=>?_)
 ·have hlt:i<l.length:=by simpa using hb
  have Rn:=hq l[i] (AS hlt);cases has:l[i].ask with
  |nil=>simp only[go_sem,seval,f1,Ro,hlt,bCN hlt,aO,has,nc.nil];refine bG9 cB ?_;simp only[go_sem,seval,f1,Ro,hlt,bCN hlt,aO,has];rw[dW omT];refine⟨rfl,o4,o5, ?_⟩;rw[bDs hlt];simp only[aO,bDh,has,BY]
  |cons q r=>
   have Tj:=Rn.tj;have Ug:=Rn.ask;rw[has]at Tj Ug;have kq:=λH=>nc.cons (gR q) (r.map gR) H rfl (aC aBI (q::r)) (by simp at Tj ⊢;omega);simp only[go_sem,seval,f1,Ro,hlt,bCN hlt,aO,has,kq];refine bFS (l:=q::r) (vm:=vm) (va:=o4.ver+1) Tj Ug (by simp only[go_sem,seval,f3]) (by simp only[go_sem,seval]) (by simp only[go_sem,seval]) (by simp only[go_sem,seval]) (by simp only[go_sem,seval]) ?_;intro ρ2 o6 cq;have g1:ρ2 1=.ptr H0.length vx 0:=by rw[cq 1 rfl];simp only[go_sem,seval,f1]
   have g4:ρ2 4=vi i:=by rw[cq 4 rfl];simp only[go_sem,seval]
   have g5:ρ2 5=.sr (H0.length+4) (o4.ver+1) (r.length+1):=by rw[cq 5 rfl];simp only[go_sem,seval]
   have g17:ρ2 17=vi i:=by rw[cq 17 rfl];simp only[go_sem,seval,Ro]
   simp only[go_sem,seval,g1,g4,g5,g17,hlt,bCN hlt,bR (aBI _),aT (aC aBI _),aO];rw[dW omT];refine⟨rfl,.gone (o4.ver+1),o6, ?_⟩;rw[bDs hlt];simp only[aO,bDh,has,BI]
 have hlt:i=l.length:=by
  have:¬i<l.length:=by simpa using hb
  omega
 subst hlt;rw[bFE,bEd];simp only[go_sem,seval];exact⟨o4,o5,rfl⟩
def bFT{A:af}{g:SN}(h:Has A g "aw" (bDw g)) (nc:a8 A (g "bp") 7 128) (Z4:a8 A (g "bS") 4 88) (x:jm) (hx:x.Ok) (H:LO):aG A (g "aw") [dE x] H=N1 (dE (bD5 x),H,[]):=by
 refine h.call ?_;simp only[bDw];have Pc:[(AV.int .i64 0,AV.str [48]),(.int .i64 1,.str [48]),(.int .i64 2,.str [45])]=bD6:=rfl;cases has:x.items with
 |nil=>simp only[go_sem,seval,dE,has,Z4.nil];refine bG9 cB ?_;simp only[go_sem,seval,bD5,has]
 |cons y r=>
  have To:=hx.G8;have Rn:=hx.items;rw[has]at To Rn;have kq:=λH=>Z4.cons (aO y) (r.map aO) H rfl (aC dV (y::r)) (by simp at To ⊢;omega);simp only[go_sem,seval,dE,has,kq,Pc];refine bFl nc (l:=y::r) To Rn (by simp only[go_sem,seval]) (by simp only[go_sem,seval]) (by simp only[go_sem,seval]) (by simp only[go_sem,seval]) ?_;intro ρ2 o4 o5 cq;have g1:ρ2 1=.ptr H.length 1 0:=by rw[cq 1 rfl];simp only[go_sem,seval]
  have g2:ρ2 2=.ptr (H.length+1) 1 0:=by rw[cq 2 rfl];simp only[go_sem,seval]
  simp only[go_sem,seval,g1,g2,bR (dV _),aT (aC dV _),dC (dV _),aA (aC dV _),bD5,has]
abbrev aA1(g:SN):List ae:=[qm 10 0,⟨N1 11,obi .quo 10 10,N2,[0]⟩,⟨N1 12,oc (g "K") [u 11],N2,[1,0]⟩,qm 13 0,⟨N1 14,obi .rem 13 10,N2,[3]⟩,⟨N1 15,.bin .add .no (ui 48) (u 14),N2,[4,3]⟩,⟨N1 16,.conv (.toInt .u8) (u 15),N2,[5,4,3]⟩,⟨N1 17,.bsl 1 [(.int .u8 0)] 1 [(0,(.tmp 16))],N2,[6,5,4,3]⟩,⟨N1 18,.conv .b2s (u 17),N2,[7,6,5,4,3]⟩,⟨N1 19,ob .add 12 18,N2,[2,1,0,8,7,6,5,4,3]⟩,⟨N1 2,om 19,N2,[9,2,1,0,8,7,6,5,4,3]⟩]
def mV(g:SN):bw:=⟨20,[],[.tmp 2],qS [qmc 2 (.str [])]<|.seq (qS [qm 3 0,qbi 4 .lss 3 10]<|qC 4 (qS [qm 5 0,qq 6 (.bin .add .no (ui 48) (u 5)),qq 7 (.conv (.toInt .u8) (u 6)),qq 8 (.bsl 1 [(.int .u8 0)] 1 [(0,(.tmp 7))]),qq 9 (.conv .b2s (u 8)),qm 2 9]<|.ret) (.skip))<|.seq (.region Pa (aA1 g))<|.ret⟩
def nP(g:SN):bw:=⟨15,[],[.tmp 4],qS [qmc 4 z0]<|.seq (qS [qm 5 0,qbi 6 .lss 5 0]<|qC 6 (qR [qm 7 0,qbi 8 .add 7 1,qq 9 (.un .neg (u 8)),qm 0 9]) (.skip))<|.seq (qS [qm 10 1,qbi 11 .lss 10 1]<|qC 11 (qS [qmc 4 z0]<|.ret) (.skip))<|qS [qm 12 0,qm 13 1,qb 14 .rem 12 13,qm 4 14]<|.ret⟩
def oQ(g:SN):bw:=⟨21,[],[.tmp 6],qS [qmc 6 z0]<|.seq (qS [qm 7 1,qbi 8 .lss 7 0,qm 9 8,qF 10 9 (om 1),qF 11 9 (om 0),qF 12 9 (on 11),qF 13 9 (ob .geq 10 12),qq 14 (.pick (u 9) uT (u 13))]<|qC 14 (qS [qmc 6 z0]<|.ret) (.skip))<|qS [qm 15 0,qm 16 1,qi 17 15 16 1,ql 18 1 17,qm 19 2,qc 20 (g "bl") [u 18,u 19],qm 6 20]<|.ret⟩
abbrev uK(g:SN):List ae:=[qm 12 0,⟨N1 13,.cz (u 12),N2,[0]⟩,⟨N1 14,of 0 13,N2,[1,0]⟩,⟨N1 15,ol 1 14,N2,[2,1,0]⟩,qm 16 0,⟨N1 17,.cz (u 16),N2,[4]⟩,⟨N1 18,of 1 17,N2,[5,4]⟩,⟨N1 19,ol 1 18,N2,[6,5,4]⟩,⟨N1 20,obi .sub 19 1,N2,[7,6,5,4]⟩,qm 21 1,⟨N1 22,oc (g "o") [u 15,u 20,u 21],N2,[3,2,1,0,8,7,6,5,4,9]⟩,⟨N1 4,om 22,N2,[10,3,2,1,0,8,7,6,5,4,9]⟩]
def kC(g:SN):bw:=⟨23,[],[.tmp 4],qS [qmc 4 z0]<|qS [qm 5 0,qq 6 (.cz (u 5)),qf 7 1 6,ql 8 1 7,qbi 9 .add 8 1,qq 10 (.cz (u 5)),qf 11 1 10,qs 1 11 9]<|.seq (.region Pa (uK g))<|.ret⟩
def oI(g:SN):bw:=⟨15,[],[.tmp 2],qS [qmc 2 z0]<|.seq (qS [qm 3 0,qbi 4 .eql 3 0,qm 5 4,qF 6 5 (om 0),qF 7 5 (obi .eql 6 1),qq 8 (.pick (u 5) uT (u 7))]<|qC 8 (qS [qmc 2 z0]<|.ret) (.skip))<|.seq (qS [qm 9 0,qbi 10 .eql 9 2,qm 11 10,qF 12 11 (om 0),qF 13 11 (obi .eql 12 8),qq 14 (.pick (u 11) uT (u 13))]<|qC 14 (qS [qmc 2 (vi 1)]<|.ret) (.skip))<|qS [qmc 2 (vi 2)]<|.ret⟩
def aQh{n:Int}(h1:0<=n)(h2:n<=255):GA .u8 n=n:=by unfold GA LK KC;simp;omega
def aLd{A:af}{g:SN}(h:Has A g "K" (mV g)):aH8 A g:=by
 have key:∀(k n:Nat) (H:LO),n<k->n<1000000->aG A (g "K") [vi n] H=N1 (.str (dec n),H,[]):=by
  intro k
  induction k with
  |zero=>intro n H hk;omega
  |succ k ih=>
   intro n H hk hn;refine h.call ?_;simp only[mV];simp only[go_sem,seval];refine aD (λhb=>?_) (λhb=>?_)
   ·have hlt:n<10:=by simp at hb;omega
    have hw:AR.wrap (48+(n:Int))=((48+n:Nat):Int):=by rw[wrap_i64 omT omT];omega
    have hu:KD.wrap ((48+n:Nat):Int)=((48+n:Nat):Int):=aQh omT omT;have hd:dec n=[CN (48+n)]:=by rw[dec,Zy hlt]
    simp only[go_sem,seval,hw,hu,pT,cM,hd]
   have nj:¬n<10:=by simp at hb;omega
   have hq:(n:Int).tdiv 10=((n / 10:Nat):Int):=rfl;have hr:(n:Int).tmod 10=((n % 10:Nat):Int):=rfl;have Bh:AR.wrap ((n / 10:Nat):Int)=((n / 10:Nat):Int):=wrap_i64 omT omT;have hw:AR.wrap (48+((n % 10:Nat):Int))=((48+n % 10:Nat):Int):=by rw[wrap_i64 omT omT];omega
   have hu:KD.wrap ((48+n % 10:Nat):Int)=((48+n % 10:Nat):Int):=aQh omT omT;have Mh:=λH=>ih (n / 10) H omT omT;have hd:dec n=dec (n / 10)++[CN (48+n % 10)]:=by rw[dec,Zx nj]
   have hl:(dec (n / 10)).length+1<=4611686018427387904:=by have:=aGn 5 (n / 10) omT;omega
   simp only[go_sem,seval];refine aY (aq:=[2,6,8]) rfT rfT ?_;simp only[go_sem,seval,aAl (b:=10) deT,tS (b:=10) deT,hq,hr,Bh,hw,hu,Mh,pT,cM,kE,hl,eH,dG,aL,hd]
 intro n H hn;exact key (n+1) n H omT hn
def bu(n most:Int):Int:=if most<1 then 0 else (if n<0 then AR.wrap (0 - AR.wrap (n+1))else n).tmod most
abbrev qK(A:af)(g:SN):Prop:=∀(n m:Int) (H:LO),aG A (g "bl") [vi n,vi m] H=N1 (vi (bu n m),H,[])
def yX{A:af}{g:SN}(h:Has A g "bl" (nP g)):qK A g:=by
 intro n m H;refine h.call ?_;simp only[nP];simp only[go_sem,seval];refine aD (λhb=>?_) (λhb=>?_)
 ·have hn:n<0:=by simpa using hb
  simp only[go_sem,seval];refine aD (λhb=>?_) (λhb=>?_)
  ·have hm:m<1:=by simpa using hb
   simp only[go_sem,seval,bu,hm]
  have hm:¬m<1:=by simpa using hb
  simp only[go_sem,seval,bu,hm,hn,tS (show m≠0 by omega)]
 have hn:¬n<0:=by simpa using hb
 simp only[go_sem,seval];refine aD (λhb=>?_) (λhb=>?_)
 ·have hm:m<1:=by simpa using hb
  simp only[go_sem,seval,bu,hm]
 have hm:¬m<1:=by simpa using hb
 simp only[go_sem,seval,bu,hm,hn,tS (show m≠0 by omega)]
def atZ(l:List Int)(i most:Int):Int:=if i<0∨i ≥ l.length then 0 else bu (l.getD i.toNat 0) most
def aVi{A:af}{g:SN}(h:Has A g "o" (oQ g))(ha:qK A g)(l:List Int)(i m:Int)(H:LO):aG A (g "o") [.sl Po (l.map bF),vi i,vi m] H=N1 (vi (atZ l i m),H,[]):=by
 refine h.call ?_;simp only[oQ];by_cases h0:i<0
 ·simp only[go_sem,seval,h0,atZ,true_or]
 by_cases h1:i ≥ l.length
 ·simp only[go_sem,seval,h0,h1,atZ,or_true]
 have hi:i.toNat<l.length:=omT;have h2:0<=i:=omT;have hg:(l.map bF)[i.toNat]? = N1 [vi (l.getD i.toNat 0)]:=by rw[BN,KV,AP hi];rfl
 simp only[go_sem,seval,h0,h1,h2,hg,ha,atZ,or_false]
abbrev aM(l:List Int)(i:Int):LA:=[.sl Po (l.map bF),vi i]
abbrev fR(A:af)(g:SN):Prop:=∀(l:List Int) (i m:Int) (o v:Nat) (H:LO),H[o]? = N1 (.box v (aM l i)) ->
 aG A (g "a") [.ptr o v 0,vi m] H=N1 (vi (atZ l (AR.wrap (AR.wrap (i+1) - 1)) m),H.set o (.box v (aM l (AR.wrap (i+1)))),[o])
def aQi{A:af}{g:SN}(h:Has A g "a" (kC g))(ha:Has A g "o" (oQ g))(hr:qK A g):fR A g:=by intro l i m o v H ho;have hlt:=getElem?_lt ho;refine h.call ?_;simp only[kC];simp only[go_sem,seval,ho,hlt];refine aY (aq:=[]) rfT rfT ?_;have jk:=λH=>aVi ha hr l (AR.wrap (AR.wrap (i+1) - 1)) m H;simp only[go_sem,seval,hlt,jk,aF6,aA (aC aU _)]
end Go.AM
end
section

end
section
namespace Go.AM
open Go
def bCD{a b:Nat}(h:a+b<=1000000000):bP (a+b) 1=true:=by unfold bP;simp;omega
def pA(e:Expr):(aF e).length=3:=by cases e;rfl
def bD:∀l:List Expr,gO l=l.map aF
 | []=>rfl
 |e::r=>by rw[gO,bD r];rfl
end Go.AM
end
section

end
section
namespace Go.AM
open Go
def fC(g:SN):bw:=⟨10,[],[.tmp 2],qS [qmc 2 (.str [])]<|qS [qq 4 (.bsl 1 [(.str [])] 12 [(0,(.const (.str [116,104,101,32,104,97,110,100]))),(1,(.const (.str [97]))),(2,(.const (.str [73,32,97,110,100,32,121,111,117]))),(3,(.const (.str [84,101,110,32,49,48]))),(4,(.const (.str [97,110,100]))),(5,(.const (.str [110,111,44,32,52,50,46]))),(6,(.const (.str [108,97,110,100]))),(7,(.const (.str [67,104,105,108,100]))),(8,(.const (.str [120]))),(9,(.const (.str [99,97,110,32,105,116]))),(10,(.const (.str [55,32,104,97,110,100,115]))),(11,(.const (.str [111,102,32,116,104,101])))]),qm 3 4]<|qS [qm 5 3,qm 6 0,qc 7 (g "a") [u 6,ui 12],qi 8 5 7 1,ql 9 1 8,qm 2 9]<|.ret⟩
abbrev uL(g:SN):ag:=.seq (qS [qm 14 6,qm 15 5,qb 16 .lss 14 15]<|qC 16 (.skip) (.exit 0))<|.seq (.block 1 (qR [qm 19 4,qm 20 3,qm 21 6,qb 22 .add 20 21,qbi 23 .rem 22 2,qm 24 0,qc 25 (g "j") [u 24],qq 26 (.build [z0,(.str [])] [(0,1,(.tmp 23)),(1,1,(.tmp 25))]),qq 27 (.bsl 2 [z0,(.str [])] 1 [(0,(.tmp 26))]),qa 28 2 24 19 27,qm 4 28]))<|.region Po [qm 17 6,qbi 18 .add 17 1,qm 6 18]
def gB(g:SN):bw:=⟨30,[28],[.tmp 2],qS [qmc 2 (.sl Pa [])]<|qS [qm 7 0,qc 8 (g "a") [u 7,ui 2],qm 3 8]<|qS [qmc 4 (.sl Pa [])]<|qS [qq 9 (.bsl 1 [z0] 5 [(0,(.const (vi 1))),(1,(.const (vi 1))),(2,(.const (vi 1))),(3,(.const (vi 2))),(4,(.const (vi 3)))]),qm 10 0,qc 11 (g "a") [u 10,ui 5],qi 12 9 11 1,ql 13 1 12,qm 5 13]<|.seq (qS [qmc 6 z0]<|.block 0 (.loop (uL g)))<|qS [qm 29 4,qm 2 29]<|.ret⟩
abbrev sH(g:SN):ag:=.seq (qS [qm 11 6,qm 12 5,qb 13 .lss 11 12]<|qC 13 (.skip) (.exit 0))<|.seq (.block 1 (qR [qm 16 4,qm 17 3,qm 18 0,qc 19 (g "a") [u 18,ui 7],qi 20 17 19 1,ql 21 1 20,qq 22 (.bsl 1 [(.str [])] 1 [(0,(.tmp 21))]),qa 23 1 16 16 22,qm 4 23]))<|.region Po [qm 14 6,qbi 15 .add 14 1,qm 6 15]
def fS(g:SN):bw:=⟨25,[23],[.tmp 2],qS [qmc 2 (.sl Pa [])]<|qS [qq 7 (.bsl 1 [(.str [])] 7 [(0,(.const (.str [105,102,32,120,32,60,32,51,32,123]))),(1,(.const (.str [32,32,121,32,61,32,123,49,44,32,50,125]))),(2,(.const (.str [125]))),(3,(.const (.str []))),(4,(.const (.str [32,32,32,32,114,101,116,117,114,110,32,65,91,105,93,32,43,32,34,115,34]))),(5,(.const (.str [102,111,114,32,105,32,58,61,32,48,59,32,105,32,60,32,49,48,59,32,105,43,43,32,123,32,116,111,116,97,108,32,61,32,116,111,116,97,108,32,43,32,118,97,108,117,101,115,91,105,93,32,42,32,50,32,125]))),(6,(.const (.str [32,97,92,98,32,126,32,99])))]),qm 3 7]<|qS [qmc 4 (.sl Pa [])]<|qS [qm 8 0,qc 9 (g "a") [u 8,ui 3],qq 10 (.bin .add .no (ui 1) (u 9)),qm 5 10]<|.seq (qS [qmc 6 z0]<|.block 0 (.loop (sH g)))<|qS [qm 24 4,qm 2 24]<|.ret⟩
def pS{α:Type}{P:α->Prop}{l:List α}{a:α}(h:∀x∈l,P x)(ha:P a):∀x∈l++[a],P x:=by
 intro x hx;rcases AY.1 hx with hx | hx
 ·exact h x hx
 have:x=a:=by simpa using hx
 subst this;exact ha
abbrev jP(l:List Int):Prop:=∀a∈l,eA a
def kV{n m:Int}(hn:eA n)(hm:1<=m):0<=bu n m/\bu n m<m:=by
 obtain⟨h1,h2⟩:=hn;unfold bu;rw[Zx omT];split
 ·rw[wrap_i64 (n:=n+1) omT omT,wrap_i64 omT omT];exact⟨HV _ omT,GX _ omT⟩
 exact⟨HV _ omT,GX _ omT⟩
def aTj{l:List Int}(hl:jP l)(i:Int){m:Int}(hm:1<=m):0<=atZ l i m/\atZ l i m<m:=by
 unfold atZ;split
 ·omega
 rename_i h;refine kV ?_ hm;have hlt:i.toNat<l.length:=omT;rw[KV,AP hlt];exact hl _ (AS hlt)
abbrev dI(A:af)(f:Nat)(args:LA)(P:AV->Prop):Prop:=∀(l:List Int) (i:Int) (o v:Nat) (H:LO),jP l->H[o]? = N1 (.box v (aM l i)) ->
 ∃val i',aG A f (.ptr o v 0::args) H=N1 (val,H.set o (.box v (aM l i')),[o])/\P val
def bB{A:af}{f:Nat}{args:LA}{P:AV->Prop}(hs:dI A f args P){l:List Int}{i:Int}{o v:Nat}{H H2:LO}(hl:jP l)(ho:H[o]? = N1 (.box v (aM l i))){site:Option Nat}{q:Bool} {k:AV×LO×LN->Prop} {tg} (hk:∀val i',P val->bnd (dY site q H2 (N1 (val,H.set o (.box v (aM l i')),[o]))) k):aCi (dY site q H2 (aG A f (.ptr o v 0::args) H)) k tg:=by obtain⟨val,i',h1,h2⟩:=hs l i o v H hl ho;rw[h1];exact hk val i' h2
def eB{A:af}{f:Nat}{args:LA}{P:AV->Prop}(hs:dI A f args P){l:List Int}{i:Int}{o v:Nat}{H H2 H3:LO}(hl:jP l)(ho:H[o]? = N1 (.box v (aM l i))){site:Option Nat}{q:Bool} {k:AV×LO×LN×Option LN->Prop} {tg} (hk:∀val i',P val->bnd (oD H3 (dY site q H2 (N1 (val,H.set o (.box v (aM l i')),[o])))) k):aCi (oD H3 (dY site q H2 (aG A f (.ptr o v 0::args) H))) k tg:=by obtain⟨val,i',h1,h2⟩:=hs l i o v H hl ho;rw[h1];exact hk val i' h2
def Has.gen{A:af}{g:SN}{name:String}{fn:bw}(h:Has A g name fn){args:LA}{P:AV->Prop}(hN:args.length+1<=fn.ntmps)(hok:∀n,dK fn.ntmps ⟨n,fn.sites⟩ fn.body=Pa) (hw:∀(l:List Int) (i:Int) (o v:Nat) (H:LO),jP l->o<H.length->H[o]? = N1 (.box v (aM l i)) ->wc A fn.ntmps ⟨H.length,fn.sites⟩ fn.body (pO (.ptr o v 0::args)) (H++AX fn.sites.length (.gone 0)) [] (aRz H.length fn.results (λval H' wr=>(∃i',H'=H.set o (.box v (aM l i')))/\wr=[o]/\P val) ⟨⟩) ⟨⟩):dI A (g name) args P:=by intro l i o v H hl ho;obtain⟨val,H',wr,h1,⟨i',rfl⟩,rfl,h2⟩:=h.bp (args:=.ptr o v 0::args) (hw l i o v H hl (getElem?_lt ho) ho) (CI (by simpa using hN)) (hok _);exact⟨val,i',h1,h2⟩
abbrev Below(m:Int)(v:AV):Prop:=∃x:Int,v=vi x/\0<=x/\x<m
def bA{A:af}{g:SN}(h:fR A g){m:Int}(hm:1<=m):dI A (g "a") [vi m] (Below m):=by intro l i o v H hl ho;exact⟨_,_,h l i m o v H ho,_,rfl,(aTj hl _ hm).1,(aTj hl _ hm).2⟩
def aQk(ns:List Int){x:Int}(h0:0<=x)(hx:x<ns.length):∃n∈ns,(ns.map bF)[x.toNat]? = N1 [vi n]:=by have hlt:x.toNat<ns.length:=omT;exact⟨ns[x.toNat],AS hlt,getElem?_map_of hlt⟩
def aQl(ns:List Str){x:Int}(h0:0<=x)(hx:x<ns.length):∃n∈ns,(ns.map aN)[x.toNat]? = N1 [.str n]:=by have hlt:x.toNat<ns.length:=omT;exact⟨ns[x.toNat],AS hlt,getElem?_map_of hlt⟩
abbrev aQm:List Str:=[[116,104,101,32,104,97,110,100],[97],[73,32,97,110,100,32,121,111,117],[84,101,110,32,49,48],[97,110,100],[110,111,44,32,52,50,46],[108,97,110,100],[67,104,105,108,100],[120],[99,97,110,32,105,116],[55,32,104,97,110,100,115],[111,102,32,116,104,101]]
abbrev aIG(v:AV):Prop:=∃s:Str,v=.str s/\s∈aQm
def bDR{s:Str}(h:s∈aQm):s.length<=9:=(by decide:∀s∈aQm,s.length<=9) s h
def aOq{A:af}{g:SN}(h:Has A g "j" (fC g))(ht:fR A g):dI A (g "j") [] aIG:=by refine h.gen (by simp[fC]) (λn=>cB) ?_;intro l i o v H hl hlt ho;simp only[fC];simp only[go_sem,seval];refine bB (bA ht (m:=12) deT) hl ho ?_;rintro val i' ⟨x,rfl,h0,hx⟩;obtain⟨s,hs,cx⟩:=aQl aQm h0 hx;simp only[DR,aN]at cx;simp only[go_sem,seval,hlt,h0,cx,aF6,aA (aC aU _)];exact⟨⟨i',rfl⟩,s,rfl,hs⟩
abbrev ROk(a:mr):Prop:=a.Ok/\a.text∈aQm
abbrev bHV(x:Int)(r:List mr):Prop:=∀(j:Nat) (a:mr),r[j]? = N1 a->a.gg=(x+j).tmod 2
def bGC{x:Int}{r:List mr}(h:bHV x r)(s:Str):bHV x (r++[⟨(x+r.length).tmod 2,s⟩]):=by
 intro j a e;by_cases hj:j<r.length
 ·rw[BM hj]at e;exact h j a e
 rw[List.getElem?_append_right omT]at e;have h0:j - r.length=0:=by have:=(AH.1 e).1;simpa using this
 rw[h0]at e;cases e;rw[show j=r.length by omega]
abbrev bGD(r:List mr):Prop:=1<=r.length/\r.length<=3/\(∀a∈r,ROk a)/\∃x:Int,0<=x/\bHV x r
abbrev aQn(v:AV):Prop:=∃r:List mr,v=.own 2 (r.map cZ)/\bGD r
def aSp{A:af}{g:SN}(h:Has A g "O" (gB g))(ht:fR A g)(hp:dI A (g "j") [] aIG):dI A (g "O") [] aQn:=by
 refine h.gen (by simp[gB]) (λn=>cB) ?_;intro l i o v H hl hlt ho;simp only[gB];simp only[go_sem,seval];refine bB (bA ht (m:=2) deT) hl (i:=i) (by simp only[go_sem,seval,eK,hlt,ho]) ?_;rintro val i1 ⟨x,rfl,jr,lz⟩;simp only[go_sem,seval,hlt,fN];refine bB (bA ht (m:=5) deT) hl (i:=i1) (by simp only[go_sem,seval,aP,hlt]) ?_;rintro val i2 ⟨y,rfl,oj,tc⟩;obtain⟨n,hn,cx⟩:=aQk [1,1,1,2,3] oj tc;simp only[DR,bF]at cx;have Ck:1<=n/\n<=3:=by have:∀n∈([1,1,1,2,3]:List Int),1<=n/\n<=3:=deT;exact this n hn
 simp only[go_sem,seval,hlt,aR,oj,cx];refine bJ (id:=0) (λj ρ1 H1 wr=>wr=[o]/\ρ1 6=vi j/\∃i' o1,∃r:List mr,H1=H.set o (.box v (aM l i'))++[o1]/\ew H.length 2 (r.map cZ) (ρ1 4) o1/\r.length=j/\(∀a∈r,ROk a)/\bHV x r) n.toNat
  (λρ1 H1 wr=>wr=[o]/\∃i' o1,∃r:List mr,H1=H.set o (.box v (aM l i'))++[o1]/\ew H.length 2 (r.map cZ) (ρ1 4) o1/\r.length=n.toNat/\(∀a∈r,ROk a)/\bHV x r)
  cB rfl ⟨by simp only[go_sem,seval],by simp only[go_sem,seval],i2,_,[],rfl,by simp only[go_sem,seval];exact .nil _,rfl,siT,λj a e=>by cases e⟩ ?_ ?_
 ·rintro j ρ1 H1 dc mo ⟨rfl,e6,i',o1,r,rfl,hg,gu,il,B5⟩ hf;have e0:ρ1 0=.ptr o v 0:=by rw[hf 0 rfl];simp only[go_sem,seval]
  have e3:ρ1 3=vi x:=by rw[hf 3 rfl];simp only[go_sem,seval]
  have e5:ρ1 5=vi n:=by rw[hf 5 rfl];simp only[go_sem,seval]
  simp only[go_sem,seval,e5,e6];refine aD (λhb=>?_) (λhb=>?_)
  ·have cr:j<n.toNat:=by simp at hb;omega
   have hw:AR.wrap (x+j)=x+j:=wrap_i64 omT omT;simp only[go_sem,seval,e0,e3,e6,tS (b:=2) deT,hw];refine bB hp hl (i:=i') (by simp only[go_sem,seval,aP,hlt]) ?_;rintro val i3 ⟨s,rfl,hs⟩;obtain⟨v',o',eu,db⟩:=hg.app (new:=[[vi ((x+j).tmod 2),.str s]]) (bytes:=24) siT rfT (by rw[AF,gu];simp;omega);rw[show r.map cZ++[[vi ((x+j).tmod 2),.str s]]=(r++[mr.mk ((x+j).tmod 2) s]).map cZ by simp[cZ]]at eu;have V9:=GX (x+j) (b:=2) deT;have Il:=HV 2 (a:=x+j) omT;simp only[go_sem,seval,hlt,aR,db];rw[dW omT];refine⟨cr,rfl,i3,o',r++[mr.mk ((x+j).tmod 2) s],rfl,eu,by simp[gu], ?_,by have:=bGC B5 s;rw[gu]at this;exact this⟩;exact pS il (⟨⟨⟨by show -9223372036854775808<=(x+j).tmod 2;omega,by show (x+j).tmod 2<=9223372036854775807;omega⟩,by have:=bDR hs;show s.length<=1000;omega⟩,hs⟩)
  have cr:j=n.toNat:=by simp at hb;omega
  subst cr;simp only[go_sem,seval];exact⟨i',o1,r,rfl,hg,gu,il,B5⟩
 rintro ρ2 H2 en ⟨rfl,i',o1,r,rfl,hg,gu,il,B5⟩ hf;have bl:r.map cZ≠[]:=by intro h;have:=congrArg FN h;simp only[AF,gu,AZ]at this;omega
 obtain⟨ver,e4,rfl⟩:=hg.inv bl;simp only[go_sem,seval,e4,hlt,aT (aC cA _),aA (aC cA _),aA (aC aU _),aW];exact⟨⟨i',rfl⟩,r,rfl,omT,omT,il,x,jr,B5⟩
abbrev mq:List Str:=[[105,102,32,120,32,60,32,51,32,123],[32,32,121,32,61,32,123,49,44,32,50,125],[125],[],[32,32,32,32,114,101,116,117,114,110,32,65,91,105,93,32,43,32,34,115,34],[102,111,114,32,105,32,58,61,32,48,59,32,105,32,60,32,49,48,59,32,105,43,43,32,123,32,116,111,116,97,108,32,61,32,116,111,116,97,108,32,43,32,118,97,108,117,101,115,91,105,93,32,42,32,50,32,125],[32,97,92,98,32,126,32,99]]
abbrev bHc(r:List Str):Prop:=1<=r.length/\r.length<=3/\∀s∈r,s∈mq
abbrev aQo(v:AV):Prop:=∃r:List Str,v=.own 1 (r.map aN)/\bHc r
def aQp{A:af}{g:SN}(h:Has A g "aB" (fS g))(ht:fR A g):dI A (g "aB") [] aQo:=by
 refine h.gen (by simp[fS]) (λn=>cB) ?_;intro l i o v H hl hlt ho;simp only[fS];simp only[go_sem,seval];refine bB (bA ht (m:=3) deT) hl (i:=i) (by simp only[go_sem,seval,eK,hlt,ho]) ?_;rintro val i1 ⟨x,rfl,jr,lz⟩;have wk:AR.wrap (1+x)=1+x:=wrap_i64 omT omT;simp only[go_sem,seval,hlt,fN,wk];refine bJ (id:=0) (λj ρ1 H1 wr=>wr=[o]/\ρ1 6=vi j/\∃i' o1,∃r:List Str,H1=H.set o (.box v (aM l i'))++[o1]/\ew H.length 1 (r.map aN) (ρ1 4) o1/\r.length=j/\∀a∈r,a∈mq) (1+x).toNat
  (λρ1 H1 wr=>wr=[o]/\∃i' o1,∃r:List Str,H1=H.set o (.box v (aM l i'))++[o1]/\ew H.length 1 (r.map aN) (ρ1 4) o1/\r.length=(1+x).toNat/\∀a∈r,a∈mq)
  cB rfl ⟨by simp only[go_sem,seval],by simp only[go_sem,seval],i1,_,[],rfl,by simp only[go_sem,seval];exact .nil _,rfl,siT⟩ ?_ ?_
 ·rintro j ρ1 H1 dc mo ⟨rfl,e6,i',o1,r,rfl,hg,gu,il⟩ hf;have e0:ρ1 0=.ptr o v 0:=by rw[hf 0 rfl];simp only[go_sem,seval]
  have e3:ρ1 3=.sl Pa (mq.map aN):=by rw[hf 3 rfl];simp only[go_sem,seval,mq,aN]
  have e5:ρ1 5=vi (1+x):=by rw[hf 5 rfl];simp only[go_sem,seval]
  simp only[go_sem,seval,e5,e6];refine aD (λhb=>?_) (λhb=>?_)
  ·have cr:j<(1+x).toNat:=by simp at hb;omega
   simp only[go_sem,seval,e0,e3,e6];refine bB (bA ht (m:=7) deT) hl (i:=i') (by simp only[go_sem,seval,aP,hlt]) ?_;rintro val i3 ⟨y,rfl,oj,tc⟩;obtain⟨s,hs,cx⟩:=aQl mq oj tc;obtain⟨v',o',eu,db⟩:=hg.app (new:=[[.str s]]) (bytes:=16) siT rfT (by rw[AF,gu];simp;omega);rw[show r.map aN++[[.str s]]=(r++[s]).map aN by simp[aN]]at eu;simp only[DR,aN]at cx;simp only[go_sem,seval,hlt,aR,aN,db,oj,cx];rw[dW omT];refine⟨cr,rfl,i3,o',r++[s],rfl,eu,by simp[gu], ?_⟩;exact pS il hs
  have cr:j=(1+x).toNat:=by simp at hb;omega
  subst cr;simp only[go_sem,seval];exact⟨i',o1,r,rfl,hg,gu,il⟩
 rintro ρ2 H2 en ⟨rfl,i',o1,r,rfl,hg,gu,il⟩ hf;have bl:r.map aN≠[]:=by intro h;have:=congrArg FN h;simp only[AF,gu,AZ]at this;omega
 obtain⟨ver,e4,rfl⟩:=hg.inv bl;simp only[go_sem,seval,e4,hlt,aT (aC bO _),aA (aC bO _),aA (aC aU _),aW];exact⟨⟨i',rfl⟩,r,rfl,omT,omT,il⟩
abbrev aDJ(g:SN):List ae:=[qm 12 0,qm 13 5,⟨N1 14,oi 12 13 4,N2,[0,1]⟩,⟨N1 15,ola 4 14,N2,[2,0,1]⟩,qla 16 4 3,⟨N1 17,.bin .eql (.cells [.int,.int,.int,.int]) (u 15) (u 16),N2,[3,2,0,1,4]⟩]
abbrev tJ:LN:=[]
abbrev aDK(g:SN):ag:=.seq (qS [qm 6 5,qm 7 0,qn 8 7,qb 9 .lss 6 8]<|qC 9 (.skip) (.exit 0))<|.seq (.block 1 (.seq (.region Pa (aDJ g))<|qC 17 (qS [qmc 4 (.bool Pa)]<|.ret) (.skip)))<|.region Po [qm 10 5,qbi 11 .add 10 1,qm 5 11]
def rI(g:SN):bw:=⟨18,[3],[.tmp 4],qS [qx 3 4 1,qmc 4 (.bool Po)]<|.seq (qS [qmc 5 z0]<|.block 0 (.loop (aDK g)))<|qS [qmc 4 (.bool Po)]<|.ret⟩
abbrev jQ(g:SN):ag:=.seq (qS [qm 16 6,qm 17 1,qb 18 .lss 16 17]<|qC 18 (.skip) (.exit 0))<|.seq (.block 1 (qS [qm 21 0,qc 22 (g "a") [u 21,ui 2],qbi 23 .eql 22 0]<|qC 23 (qR [qf 24 3 5,ql 25 1 24,qm 26 6,qq 27 (.bsl 1 [z0] 1 [(0,(.tmp 26))]),qa 28 1 8 25 27,qf 29 3 5,qs 1 29 28]) (.skip)))<|.region Po [qm 19 6,qbi 20 .add 19 1,qm 6 20]
abbrev pI:LN:=[16,17,18,21,22,23,24,25,26,27,28,29,19,20,6]
abbrev pJ(g:SN):List ae:=[qf 45 2 5,⟨N1 46,ol 1 45,N2,[0]⟩,qm 47 0,⟨N1 48,oc (g "j") [u 47],N2,[2]⟩,⟨N1 49,.bsl 1 [(.str [])] 4 [(0,(.const (.str [121,101,115]))),(1,(.const (.str [110,111]))),(2,(.tmp 48)),(3,(.const (.str [52,50])))],N2,[3,2]⟩,qm 50 8,qm 51 0,⟨N1 52,oc (g "a") [u 51,ui 2],N2,[6,3,2]⟩,⟨N1 53,ob .add 50 52,N2,[5,7,6,3,2]⟩,⟨N1 54,obi .rem 53 4,N2,[8,5,7,6,3,2]⟩,⟨N1 55,oi 49 54 1,N2,[4,9,8,5,7,6,3,2]⟩,⟨N1 56,ol 1 55,N2,[10,4,9,8,5,7,6,3,2]⟩,⟨N1 57,.bsl 1 [(.str [])] 1 [(0,(.tmp 56))],N2,[11,10,4,9,8,5,7,6,3,2]⟩,⟨N1 58,oa 1 16 46 57,N2,[1,0,12,11,10,4,9,8,5,7,6,3,2]⟩,⟨N1 59,of 2 5,N2,[13,1,0,12,11,10,4,9,8,5,7,6,3,2]⟩,⟨N2,os 1 59 58,N2,[14,13,1,0,12,11,10,4,9,8,5,7,6,3,2]⟩]
abbrev jR:LN:=[1,3,7]
abbrev pK(g:SN):List ae:=[qf 60 6 5,⟨N1 61,ol 1 60,N2,[0]⟩,qq 62 (.bsl 1 [(.str [])] 3 [(0,(.const (.str []))),(1,(.const (.str [105,116,32,108,111,111,107,115,32,115,111]))),(2,(.const (.str [97,32,115,108,105,112])))]),qm 63 0,⟨N1 64,oc (g "a") [u 63,ui 3],N2,[3]⟩,⟨N1 65,oi 62 64 1,N2,[2,4,3]⟩,⟨N1 66,ol 1 65,N2,[5,2,4,3]⟩,⟨N1 67,.bsl 1 [(.str [])] 1 [(0,(.tmp 66))],N2,[6,5,2,4,3]⟩,⟨N1 68,oa 1 16 61 67,N2,[1,0,7,6,5,2,4,3]⟩,⟨N1 69,of 6 5,N2,[8,1,0,7,6,5,2,4,3]⟩,⟨N2,os 1 69 68,N2,[9,8,1,0,7,6,5,2,4,3]⟩]
abbrev jS:LN:=[1,4]
abbrev jT(g:SN):ag:=.seq (qS [qm 40 8,qm 41 7,qb 42 .lss 40 41]<|qC 42 (.skip) (.exit 3))<|.seq (.block 4 (.seq (.region Pa (pJ g))<|.region Pa (pK g)))<|.region Po [qm 43 8,qbi 44 .add 43 1,qm 8 44]
abbrev pL:LN:=[40,41,42,45,46,47,48,49,50,51,52,53,54,55,56,57,58,59,60,61,62,63,64,65,66,67,68,69,43,44,8]
def jU(g:SN):ag:=.block 2 (qS [qbi 36 .eql 31 0,qm 35 36]<|qC 35 (qS [qm 37 0,qc 38 (g "a") [u 37,ui 3],qq 39 (.bin .add .no (ui 2) (u 38)),qm 7 39]<|.seq (qS [qmc 8 z0]<|.block 3 (.loop (jT g)))<|.region Po [qm 70 0,qm 71 7,qc 72 (g "a") [u 70,u 71],qc 73 (g "K") [u 72],qf 74 4 5,qs 1 74 73]) (qS [qbi 76 .eql 31 1,qm 75 76]<|qC 75 (qR [qm 77 0,qc 78 (g "a") [u 77,ui 200],qc 79 (g "K") [u 78],qf 80 4 5,qs 1 80 79]) (qR [qm 32 0,qc 33 (g "j") [u 32],qf 34 4 5,qs 1 34 33])))
def eT(g:SN):bw:=⟨82,[4,5,28,58,68],[.cell 4 7 Pa],qS [qq 4 (.alloc [z0,(.sl Pa []),(.sl Pa []),(.sl Pa []),(.str []),z0,(.sl Pa [])])]<|qS [qm 9 0,qc 10 (g "a") [u 9,ui 3],qm 11 0,qc 12 (g "O") [u 11],qm 13 0,qc 14 (g "a") [u 13,ui 9],qq 15 (.build [z0,(.sl Pa []),(.sl Pa []),(.sl Pa []),(.str []),z0,(.sl Pa [])] [(0,1,(.tmp 10)),(1,1,(.tmp 12)),(5,1,(.tmp 14))]),qq 5 (.alloc [z0,(.sl Pa []),(.sl Pa []),(.sl Pa []),(.str []),z0,(.sl Pa [])]),qs 7 5 15]<|.seq (qS [qmc 6 z0]<|.block 0 (.loop (jQ g)))<|.seq (qS [qf 30 0 5,ql 31 1 30]<|jU g)<|qS [qla 81 7 5,qs 7 4 81]<|.ret⟩
def aC1{a b:Fact}:lP [.int,.int,.int,.int] (aI a) (aI b)=N1 (eqv a b):=by rw[aRE];simp only[aI,lP,aCO,Zv,aKv];cases eqv a.kind b.kind<;>cases eqv a.block b.block<;>cases eqv a.a b.a<;>cases eqv a.b b.b<;>rfl
def aLf{ts:List Tag}{x y:LA}{b:Bool}(h:lP ts x y=N1 b):kJ .eql (.cells ts) (.agg x) (.agg y)=N1 (.bool b):=by simp[kJ,tN,h]
def aSq{A:af}{g:SN}(h:Has A g "z" (rI g))(l:List Fact)(hl:l.length<=1000)(f:Fact):∃b:Bool,∀H,aG A (g "z") [.sl Po (l.map aI),.agg (aI f)] H=N1 (.bool b,H,[]):=by
 refine⟨l.any λa=>eqv a f,λH=>?_⟩;refine h.call ?_;simp only[rI];simp only[go_sem,seval,aI];refine aKt (λi ρ1 H1 wr=>wr=[]/\ρ1 5=vi i/\H1=H++[.box 1 (aI f)]/\(l.any λa=>eqv a f)=((l.drop i).any λa=>eqv a f)) l.length cB rfl ⟨rfl,by simp only[go_sem,seval],by simp only[go_sem,seval,aI],rfl⟩ ?_;rintro i ρ1 H1 dc mg ⟨rfl,h5,rfl,hi⟩ hf;have f0:ρ1 0=.sl Po (l.map aI):=by rw[hf 0 rfl];simp only[go_sem,seval]
 have f3:ρ1 3=.ptr H.length 1 0:=by rw[hf 3 rfl];simp only[go_sem,seval]
 simp only[go_sem,seval,f0,h5];refine aD (λhb=>?_) (λhb=>?_)
 ·have hlt:i<l.length:=by simpa using hb
  rw[List.drop_eq_getElem_cons hlt,List.any_cons]at hi;simp only[go_sem,seval];refine aY (aq:=tJ) rfT rfT ?_;have h4:∀a:Fact,(aI a).length=4:=λ_=>rfl;have ht:∀a:Fact,FW 4 (aI a)=aI a:=λ_=>rfl;simp only[go_sem,seval,tJ,f0,f3,h5,hlt,getElem?_map_of hlt,h4,ht,aLf aC1];refine aD (λdp=>?_) (λdp=>?_)
  ·rw[dp,Bool.true_or]at hi;simp only[go_sem,seval,hi]
  rw[dp,Bool.false_or]at hi;simp only[go_sem,seval,h5];rw[dW omT];exact⟨hlt,rfl,hi⟩
 have hlt:i=l.length:=by
  have:¬i<l.length:=by simpa using hb
  omega
 subst hlt;rw[DH (AQ _),List.any_nil]at hi;simp only[go_sem,seval,hi]
abbrev bGE:List Str:=[121,101,115]::[110,111]::[52,50]::aQm
abbrev bGF:List Str:=[[],[105,116,32,108,111,111,107,115,32,115,111],[97,32,115,108,105,112]]
def bGa{s:Str}(h:s∈bGE):s.length<=9:=(by decide:∀s∈bGE,s.length<=9) s h
def bGb{s:Str}(h:s∈bGF):s.length<=11:=(by decide:∀s∈bGF,s.length<=11) s h
structure jt(m:Nat)(q:Question):Prop where
 kind:0<=q.kind/\q.kind<=2
 lk:bGD q.lk
 len:q.options.length<=4/\q.dv.length=q.options.length
 opt:∀s∈q.options,s∈bGE
 rea:∀s∈q.dv,s∈bGF
 Q4:q.cy.length<=m
 cy:∀n∈q.cy,0<=n/\n<m
 key:q.key∈aQm∨∃n:Nat,n<1000/\q.key=dec n
 points:0<=q.points/\q.points<=8
def jt.ok{m:Nat}{q:Question}(h:jt m q)(hm:m<=10):q.Ok:=by
 obtain⟨h1,h2,h3,h4,h5,h6,h7,h8,h9⟩:=h;refine⟨by unfold eA;omega,omT,λa ha=>(h2.2.2.1 a ha).1,omT,λs hs=>?_,omT,λn hn=>by have:=h7 n hn;unfold eA;omega, ?_,by unfold eA;omega,omT,λs hs=>?_⟩
 ·have:=bGa (h4 s hs);show s.length<=1000;omega
 ·rcases h8 with h | ⟨n,hn,h⟩
  ·have:=bDR h;show q.key.length<=1000;omega
  have:=aGn 2 n omT;show q.key.length<=1000;rw[h];omega
 have:=bGb (h5 s hs);show s.length<=1000;omega
abbrev aBr(m:Nat)(v:AV):Prop:=∃q:Question,v=.agg (gR q)/\jt m q
def aVj{A:af}{g:SN}(ht:fR A g){H:LO}{Q:bf->bN->LO->LN->Prop}{tg}{l:List Int}(hl:jP l){o v:Nat}(hlt:o<H.length) {i:Int} {o0 o2 o3 o4:ah} {vq:Nat} {c0 c1 c2 c4 c5 c6:AV} {m:Nat} (hm:m<=10) {ρ:bN} (e0:ρ 0=.ptr o v 0) (e1:ρ 1=vi m) (e5:ρ 5=.ptr (H.length+1) vq 0) (e6:ρ 6=vi 0) (hQ:∀ρ' i' o2 w (r:List Int),(∀t,pI.contains t=Po->ρ' t=ρ t)->r.length<=m->(∀a∈r,0<=a/\a<m)->ew (H.length+2) 1 (r.map bF) w o2 ->Q (.exit 0) ρ' (H.set o (.box v (aM l i'))++[o0,.box vq [c0,c1,c2,w,c4,c5,c6],o2,o3,o4]) [o]):wl A 82 ⟨H.length,[4,5,28,58,68]⟩ (jQ g) ρ (H.set o (.box v (aM l i))++[o0,.box vq [c0,c1,c2,.sl Pa [],c4,c5,c6],o2,o3,o4]) [o] Q tg:=by
 refine bJ (λj ρ1 H1 wr=>wr=[o]/\ρ1 6=vi j/\∃i' o2 w,∃r:List Int,H1=H.set o (.box v (aM l i'))++[o0,.box vq [c0,c1,c2,w,c4,c5,c6],o2,o3,o4]/\ew (H.length+2) 1 (r.map bF) w o2/\r.length<=j/\∀a∈r,0<=a/\a<m) m
  (λρ1 H1 wr=>wr=[o]/\∃i' o2 w,∃r:List Int,H1=H.set o (.box v (aM l i'))++[o0,.box vq [c0,c1,c2,w,c4,c5,c6],o2,o3,o4]/\ew (H.length+2) 1 (r.map bF) w o2/\r.length<=m/\∀a∈r,0<=a/\a<m)
  cB rfl ⟨rfl,e6,i,o2,.sl Pa [],[],rfl,.nil _,AQ _,siT⟩ ?_ (by
   rintro ρ' H' ba ⟨rfl,i',o2,w,r,rfl,hg,gj,nv⟩ hf;exact hQ ρ' i' o2 w r hf gj nv hg)
 rintro j ρ1 H1 dc mo ⟨rfl,e6,i',o2,w,r,rfl,hg,gu,il⟩ hf;have f0:ρ1 0=.ptr o v 0:=(hf 0 rfl).trans e0;have f1:ρ1 1=vi m:=(hf 1 rfl).trans e1;have f5:ρ1 5=.ptr (H.length+1) vq 0:=(hf 5 rfl).trans e5;simp only[go_sem,seval,f1,e6];refine aD (λhb=>?_) (λhb=>?_)
 ·have cr:j<m:=by simpa using hb
  simp only[go_sem,seval,f0];refine bB (bA ht (m:=2) deT) hl (i:=i') (by simp only[go_sem,seval,aP,hlt]) ?_;rintro val i3 ⟨x,rfl,jr,lz⟩;simp only[go_sem,seval,hlt,aR];refine aD (λdp=>?_) (λdp=>?_)
  ·obtain⟨v',o',eu,db⟩:=hg.app (new:=[[vi j]]) (bytes:=8) siT rfT (by simp only[AF,AW,AZ];omega);rw[show r.map bF++[[vi j]]=(r++[(j:Int)]).map bF by simp[bF]]at eu;simp only[go_sem,seval,f5,e6,db,eu.ak,eu.aj];rw[dW omT];refine⟨cr,rfl,i3,o',v',r++[(j:Int)],rfl,eu,soT, ?_⟩;intro a ha;rcases AY.1 ha with ha | ha
   ·exact il a ha
   have:a=(j:Int):=by simpa using ha
   subst this;omega
  simp only[go_sem,seval,e6];rw[dW omT];exact⟨cr,rfl,i3,o2,w,r,rfl,hg,omT,il⟩
 have cr:j=m:=by
  have:¬j<m:=by simpa using hb
  omega
 subst cr;simp only[go_sem,seval];exact⟨i',o2,w,r,rfl,hg,omT,il⟩
def aQq{A:af}{g:SN}(ht:fR A g)(hp:dI A (g "j") [] aIG){H:LO}{Q:bf->bN->LO->LN->Prop}{tg}{l:List Int}(hl:jP l){o v:Nat}(hlt:o<H.length) {i:Int} {o0 o2 o3 o4:ah} {vq:Nat} {c0 c1 c3 c4 c5:AV} {n:Int} (gq:2<=n) (lx:n<=4) {ρ:bN} (e0:ρ 0=.ptr o v 0) (e5:ρ 5=.ptr (H.length+1) vq 0) (e7:ρ 7=vi n) (e8:ρ 8=vi 0) (hQ:∀ρ' i' o3 o4 w w' (r r':List Str),(∀t,pL.contains t=Po->ρ' t=ρ t)->r.length<=4->(∀a∈r,a∈bGE)->r'.length=r.length->(∀a∈r',a∈bGF) ->ew (H.length+3) 1 (r.map aN) w o3->ew (H.length+4) 1 (r'.map aN) w' o4 ->Q (.exit 3) ρ' (H.set o (.box v (aM l i'))++[o0,.box vq [c0,c1,w,c3,c4,c5,w'],o2,o3,o4]) [o]):wl A 82 ⟨H.length,[4,5,28,58,68]⟩ (jT g) ρ (H.set o (.box v (aM l i))++[o0,.box vq [c0,c1,.sl Pa [],c3,c4,c5,.sl Pa []],o2,o3,o4]) [o] Q tg:=by
 refine bJ (λj ρ1 H1 wr=>wr=[o]/\ρ1 8=vi j/\∃i' o3 o4 w w',∃r r':List Str,H1=H.set o (.box v (aM l i'))++[o0,.box vq [c0,c1,w,c3,c4,c5,w'],o2,o3,o4] /\
   ew (H.length+3) 1 (r.map aN) w o3/\ew (H.length+4) 1 (r'.map aN) w' o4/\r.length=j/\r'.length=j/\(∀a∈r,a∈bGE)/\∀a∈r',a∈bGF) n.toNat
  (λρ1 H1 wr=>wr=[o]/\∃i' o3 o4 w w',∃r r':List Str,H1=H.set o (.box v (aM l i'))++[o0,.box vq [c0,c1,w,c3,c4,c5,w'],o2,o3,o4] /\
   ew (H.length+3) 1 (r.map aN) w o3/\ew (H.length+4) 1 (r'.map aN) w' o4/\r.length<=4/\r'.length=r.length/\(∀a∈r,a∈bGE)/\∀a∈r',a∈bGF)
  cB rfl ⟨rfl,e8,i,o3,o4,.sl Pa [],.sl Pa [],[],[],rfl,.nil _,.nil _,rfl,rfl,siT,siT⟩ ?_ (by
   rintro ρ' H' ba ⟨rfl,i',o3,o4,w,w',r,r',rfl,hg,eu,h1,h2,h3,h4⟩ hf;exact hQ ρ' i' o3 o4 w w' r r' hf h1 h3 h2 h4 hg eu)
 rintro j ρ1 H1 dc mo ⟨rfl,e8,i',o3,o4,w,w',r,r',rfl,hg,hh,gu,Gp,il,Bn⟩ hf;have f0:ρ1 0=.ptr o v 0:=(hf 0 rfl).trans e0;have f5:ρ1 5=.ptr (H.length+1) vq 0:=(hf 5 rfl).trans e5;have f7:ρ1 7=vi n:=(hf 7 rfl).trans e7;simp only[go_sem,seval,f7,e8];refine aD (λhb=>?_) (λhb=>?_)
 ·have cr:j<n.toNat:=by simp at hb;omega
  have bl:(H.length+1==o)=false:=soT;simp only[go_sem,seval];refine aY (aq:=jR) rfT rfT ?_;simp only[go_sem,seval,jR,f0,f5,e8];refine eB hp hl (i:=i') (by simp only[go_sem,seval,aP,hlt]) ?_;rintro val i3 ⟨s,rfl,hs⟩;simp only[go_sem,seval,hlt,aR];refine eB (bA ht (m:=2) deT) hl (i:=i3) (by simp only[go_sem,seval,aP,hlt]) ?_;rintro val i4 ⟨y,rfl,oj,tc⟩;have zz:AR.wrap ((j:Int)+y)=j+y:=wrap_i64 omT omT;have Cx:=HV 4 (a:=j+y) omT;have gj:=GX (j+y) (b:=4) deT;obtain⟨t,qt,cx⟩:=aQl [[121,101,115],[110,111],s,[52,50]] Cx gj;simp only[DR,aN]at cx;have tl:t∈bGE:=by
   simp only[BD,CC,or_false]at qt;rcases qt with rfl | rfl | rfl | rfl
   ·exact HD ..
   ·exact BZ _ (HD ..)
   ·exact BZ _ (BZ _ (BZ _ hs))
   exact BZ _ (BZ _ (HD ..))
  obtain⟨v',o',eu,db⟩:=hg.app (new:=[[.str t]]) (bytes:=16) siT rfT (by simp only[AF,AW,AZ];omega);rw[show r.map aN++[[.str t]]=(r++[t]).map aN by simp[aN]]at eu;simp only[go_sem,seval,hlt,aR,zz,tS (b:=4) deT,Cx,cx,db,eu.ak,eu.aj,eH,dG,bl,aL];refine aY (aq:=jS) rfT rfT ?_;simp only[go_sem,seval,jS,f0,f5];refine eB (bA ht (m:=3) deT) hl (i:=i4) (by simp only[go_sem,seval,aP,hlt]) ?_;rintro val i5 ⟨z,rfl,me,rr⟩;obtain⟨u,Jc,wm⟩:=aQl bGF me rr;simp only[DR,aN]at wm;obtain⟨v2,o2',Cy,ll⟩:=hh.app (new:=[[.str u]]) (bytes:=16) siT rfT (by simp only[AF,AW,AZ];omega);rw[show r'.map aN++[[.str u]]=(r'++[u]).map aN by simp[aN]]at Cy;simp only[go_sem,seval,e8,hlt,aR,me,wm,ll,Cy.ak,Cy.aj,eH,dG,bl,aL];rw[dW omT];refine⟨cr,rfl,i5,o',o2',v',v2,r++[t],r'++[u],rfl,eu,Cy,by simp[gu],by simp[Gp], ?_, ?_⟩
  ·exact pS il tl
  exact pS Bn Jc
 have cr:j=n.toNat:=by simp at hb;omega
 subst cr;simp only[go_sem,seval];exact⟨i',o3,o4,w,w',r,r',rfl,hg,hh,omT,omT,il,Bn⟩
def uM:∀(H:LO) (a b:LN),dL H (a++b)=dL (dL H a) b
 |H,[],b=>rfl
 |H,o::r,b=>by simp only[DO,dL];exact uM _ r b
def aAS(n:Nat):∀(wr a b:LN),bE n wr (a++b)=bE n (bE n wr a) b
 |wr,[],b=>rfl
 |wr,o::r,b=>by
  simp only[DO,bE];split<;>exact aAS n _ r b
def aLg{A:af}{g:SN}(h:Has A g "Z" (eT g))(ht:fR A g)(hp:dI A (g "j") [] aIG) (hr:dI A (g "O") [] aQn) (hd:aH8 A g) {m:Nat} (hm:m<=10):dI A (g "Z") [vi m] (aBr m):=by
 refine h.gen (by simp[eT]) (λn=>cB) ?_;intro l i o v H hl hlt ho;simp only[eT];simp only[go_sem,seval];refine bB (bA ht (m:=3) deT) hl (i:=i) (by simp only[go_sem,seval,eK,hlt,ho]) ?_;rintro val i1 ⟨k,rfl,Rj,Ch⟩;simp only[go_sem,seval,hlt,fN];refine bB hr hl (i:=i1) (by simp only[go_sem,seval,aP,hlt]) ?_;rintro val i2 ⟨st,rfl,bd⟩;simp only[go_sem,seval,hlt,aR];refine bB (bA ht (m:=9) deT) hl (i:=i2) (by simp only[go_sem,seval,aP,hlt]) ?_;rintro val i3 ⟨p,rfl,Mi,Oz⟩;simp only[go_sem,seval,hlt,aR];refine aVj ht hl hlt (m:=m) hm (by simp only[go_sem,seval]) (by simp only[go_sem,seval]) (by simp only[go_sem,seval]) (by simp only[go_sem,seval]) ?_;intro ρ2 i4 o2 w nd cq lx xh hg;have g0:ρ2 0=.ptr o v 0:=by rw[cq 0 rfl];simp only[go_sem,seval]
 have g4:ρ2 4=.ptr H.length 1 0:=by rw[cq 4 rfl];simp only[go_sem,seval]
 have g5:ρ2 5=.ptr (H.length+1) 1 0:=by rw[cq 5 rfl];simp only[go_sem,seval]
 obtain⟨f1,l1,o2',qe,iq,yz⟩:=hg.dw (aC aU _);have fin:∀(op rs:List Str) (key:Str),op.length<=4->(∀a∈op,a∈bGE)->rs.length=op.length->(∀a∈rs,a∈bGF)->(key∈aQm∨∃n:Nat,n<1000/\key=dec n) ->
   aBr m (.agg [vi k,.sl Po (st.map cZ),.sl Po (op.map aN),.sl Po (nd.map bF),.str key,vi p,.sl Po (rs.map aN)]):=λop rs key h1 h2 h3 h4 h5=>⟨⟨k,st,op,nd,key,p,rs⟩,rfl,⟨Rj,by show k<=2;omega⟩,bd,⟨h1,h3⟩,h2,h4,lx,xh,h5,Mi,by show p<=8;omega⟩
 have ru:k=0∨k=1∨k=2:=omT;simp only[go_sem,seval,g5];simp only[jU];rcases ru with rfl | rfl | rfl
 ·simp only[go_sem,seval,g0];refine bB (bA ht (m:=3) deT) hl (i:=i4) (by simp only[go_sem,seval,aP,hlt]) ?_;rintro val i5 ⟨x,rfl,jr,lz⟩;have wk:AR.wrap (2+x)=2+x:=wrap_i64 omT omT;simp only[go_sem,seval,hlt,aR,wk];refine aQq ht hp hl hlt (n:=2+x) omT omT (by simp only[go_sem,seval,g0]) (by simp only[go_sem,seval,g5]) (by simp only[go_sem,seval]) (by simp only[go_sem,seval]) ?_;intro ρ3 i6 o3 o4 w1 w2 op rs im a1 a2 a3 a4 D4 Aq;have k0:ρ3 0=.ptr o v 0:=by rw[im 0 rfl];simp only[go_sem,seval,g0]
  have k4:ρ3 4=.ptr H.length 1 0:=by rw[im 4 rfl];simp only[go_sem,seval,g4]
  have k5:ρ3 5=.ptr (H.length+1) 1 0:=by rw[im 5 rfl];simp only[go_sem,seval,g5]
  have k7:ρ3 7=vi (2+x):=by rw[im 7 rfl];simp only[go_sem,seval]
  obtain⟨f2,l2,o3',m1,m2,m3⟩:=D4.dw (aC bO _);obtain⟨f3,l3,o4',n1,n2,n3⟩:=Aq.dw (aC bO _);simp only[go_sem,seval,k0,k7];refine bB (bA ht (m:=2+x) omT) hl (i:=i6) (by simp only[go_sem,seval,aP,hlt]) ?_;rintro val i7 ⟨y,rfl,oj,tc⟩;obtain⟨yn,rfl⟩:=DN oj;have Gq:=λH=>hd yn H omT;simp only[go_sem,seval,k4,k5,hlt,aR,Gq,hg.ak,D4.ak,Aq.ak,qe,iq,yz,m1,m2,m3,n1,n2,n3,uM,aAS,aW,aA (aC cA _),aA (aC bO _),aA (aC aU _)];exact⟨⟨i7,rfl⟩,fin op rs (dec yn) a1 a2 a3 a4 (.inr ⟨yn,omT,rfl⟩)⟩
 ·simp only[go_sem,seval,g0];refine bB (bA ht (m:=200) deT) hl (i:=i4) (by simp only[go_sem,seval,aP,hlt]) ?_;rintro val i7 ⟨y,rfl,oj,tc⟩;obtain⟨yn,rfl⟩:=DN oj;have Gq:=λH=>hd yn H omT;simp only[go_sem,seval,g4,g5,hlt,aR,Gq,hg.ak,qe,iq,yz,aW,aA (aC cA _),aA (aC aU _)];exact⟨⟨i7,rfl⟩,fin [] [] (dec yn) siT siT rfl siT (.inr ⟨yn,omT,rfl⟩)⟩
 simp only[go_sem,seval,g0];refine bB hp hl (i:=i4) (by simp only[go_sem,seval,aP,hlt]) ?_;rintro val i7 ⟨s,rfl,G6⟩;simp only[go_sem,seval,g4,g5,hlt,aR,hg.ak,qe,iq,yz,aW,aA (aC cA _),aA (aC aU _)];exact⟨⟨i7,rfl⟩,fin [] [] s siT siT rfl siT (.inl G6)⟩
abbrev nD(g:SN):List ae:=[qla 11 4 3,qm 12 0,qm 13 5,⟨N1 14,oi 12 13 4,N2,[1,2]⟩,⟨N1 15,ola 4 14,N2,[3,1,2]⟩,⟨N1 16,.bin .eql (.cells [.int,.int,.int,.int]) (u 11) (u 15),N2,[0,4,3,1,2]⟩]
abbrev eE:LN:=[]
abbrev nE(g:SN):ag:=qS [qb 9 .lss 8 7]<|.seq (qC 9 (.skip) (.exit 0))<|.seq (.block 1 (qS [qm 10 8,qm 5 10]<|.seq (.region Pa (nD g))<|qC 16 (qS [qm 17 5,qm 4 17]<|.ret) (.skip)))<|.region Po [qbi 18 .add 8 1,qm 8 18]
def dM(g:SN):bw:=⟨19,[],[.tmp 4],qS [qx 3 4 1,qmc 4 z0]<|.seq (qS [qm 6 0,qn 7 6,qmc 8 z0]<|.block 0 (.loop (nE g)))<|qS [qmc 4 (.int .i64 (-1))]<|.ret⟩
def eF(g:SN):bw:=⟨9,[],[.tmp 4],qS [qx 3 4 1,qmc 4 (.bool Po)]<|qS [qm 5 0,qla 6 4 3,qc 7 (g "bi") [u 5,u 6],qbi 8 .geq 7 0,qm 4 8]<|.ret⟩
def tK(g:SN):ag:=.block 0 (qS [qbi 7 .eql 5 0,qm 6 7]<|qC 6 (qS [qm 8 0,qbi 9 .neq 8 4,qm 4 9]<|.ret) (qS [qbi 11 .eql 5 1,qm 10 11]<|qC 10 (qS [qm 12 0,qbi 13 .eql 12 3,qm 4 13]<|.ret) (.seq (qS [qbi 15 .eql 5 2,qm 14 15]<|qC 14 (.skip) (qS [qbi 16 .eql 5 3,qm 14 16]<|qC 14 (.skip) (qR [qbi 17 .eql 5 4,qm 14 17])))<|qC 14 (qS [qm 18 0,qbi 19 .eql 18 4,qm 4 19]<|.ret) (qS [qbi 21 .eql 5 5,qm 20 21]<|qC 20 (qS [qm 22 0,qbi 23 .eql 22 5,qm 4 23]<|.ret) (qS [qbi 25 .eql 5 6,qm 24 25]<|qC 24 (qS [qm 26 0,qbi 27 .eql 26 6,qm 4 27]<|.ret) (.skip))))))
def rJ(g:SN):bw:=⟨28,[],[.tmp 4],qS [qmc 4 (.bool Po)]<|.seq (qS [qm 5 1]<|tK g)<|qS [qmc 4 (.bool Po)]<|.ret⟩
def aFa(g:SN):bw:=⟨14,[3],[.tmp 4],qS [qx 2 13 0,qx 3 4 1,qmc 4 (.bool Po)]<|qS [qla 6 13 2,qq 7 (.bsl 13 [z0,(.sl Po []),z0,z0,(.sl Po []),z0,(.sl Po []),(.sl Po []),z0,z0,(.sl Po []),(.sl Po []),(.sl Po [])] 1 [(0,(.tmp 6))]),qq 8 (.build [(.str []),(.sl Pa []),(.sl Pa []),(.sl Pa [])] [(0,1,(.const (.str [97]))),(1,1,(.tmp 7))]),qc 9 (g "bc") [u 8],qm 5 9]<|qS [qf 10 1 3,qz (.store 1 (u 10) (ui 0))]<|qS [qm 11 5,qla 12 4 3,qc 13 (g "bO") [u 11,u 12],qm 4 13]<|.ret⟩
section
variable {A:af}{g:SN}{tB:Nat}
def aMk(h:Has A g "bi" (dM g))(l:List Fact)(s:Fact)(fl:Bool)(hl:l.length<=1000000000)(H:LO):aG A (g "bi") [.sl fl (l.map aI),.agg (aI s)] H=N1 (vi (aMW (λx=>eqv s x) l),H,[]):=by
 refine h.call ?_;simp only[dM];simp only[go_sem,↓aB,seval,AF,lF.len,lF.still,lF.ga];refine bJ (id:=0) (λi ρ1 H1 wr=>wr=[]/\H1=H/\ρ1 8=vi i/\∀j (hj:j<i) (hl:j<l.length),(eqv s l[j])=Po) l.length
  (λρ1 H1 wr=>wr=[]/\H1=H/\∀j (hl:j<l.length),(eqv s l[j])=Po)
  cB rfl ⟨rfl,siT,rfl,λj hj=>omT⟩ ?_ ?_
 ·rintro i ρ1 H1 dc mg ⟨rfl,rfl,e8,hn⟩ hf;have e0:ρ1 0=.sl fl (l.map aI):=hf 0 rfl;have e3:ρ1 3=.ep (aI s) 0:=hf 3 rfl;have e7:ρ1 7=vi l.length:=hf 7 rfl;simp only[go_sem,↓aB,seval,e8,e7];refine aD (λhb=>?_) (λhb=>?_)
  ·have hlt:i<l.length:=by simpa using hb
   have hg:(l.map aI)[i]? = N1 (aI l[i]):=getElem?_map_of hlt;have gq:(0:Int)<=(i:Int):=omT;have lx:(i:Int)<(l.length:Int):=omT;have kx:((i:Int)).toNat=i:=omT;have Qe:=wS (i:=i) omT;have D0:=aLf (aC1 (a:=s) (b:=l[i]));simp only[go_sem,↓aB,seval,e8];refine aY (aq:=eE) rfT rfT ?_;cases hc:(eqv s l[i])with
   |true=>rw[hc]at D0;simp only[go_sem,↓aB,seval,eE,e0,e3,hg,gq,kx,D0,AD,lF.len,lF.take];exact (aLT (p:=λx=>eqv s x) hlt hc λj hj=>hn j hj omT).symm ▸ rfl
   |false=>
    rw[hc]at D0;simp only[go_sem,↓aB,seval,eE,e0,e3,e8,hg,gq,kx,D0,Qe,AD,lF.len,lF.take];refine⟨hlt,λj hj mo=>?_⟩;by_cases e:j=i
    ·subst e;exact hc
    exact hn j omT mo
  have hi:i=l.length:=by simp at hb;omega
  subst hi;simp only[go_sem,seval];exact λj hj=>hn j hj hj
 rintro ρ' H' ba ⟨rfl,rfl,hn⟩ hf;simp only[go_sem,↓aB,seval,aGq (p:=λx=>eqv s x) hn]
def uN(h:Has A g "bO" (eF g))(hi:Has A g "bi" (dM g))(l:List Fact)(s:Fact)(fl:Bool)(hl:l.length<=1000000000)(H:LO):aG A (g "bO") [.sl fl (l.map aI),.agg (aI s)] H=N1 (.bool (l.any λx=>eqv s x),H,[]):=by refine h.call ?_;simp only[eF];simp only[go_sem,↓aB,seval,λH=>aMk hi l s Po hl H,aLU,lF.len,lF.still,lF.ga,lF.take,AD,aS (eL s)]
def aHb(bk fk:Int):Bool:=if fk=0 then bk != 4 else if fk=1 then bk==3 else if fk=2∨fk=3∨fk=4 then bk==4 else if fk=5 then bk==5 else if fk=6 then bk==6 else Po
def aJF(h:Has A g "bA" (rJ g))(bk fk:Int)(H:LO):aG A (g "bA") [vi bk,vi fk] H=N1 (.bool (aHb bk fk),H,[]):=by
 refine h.call ?_;simp only[rJ,tK,aHb];by_cases e0:fk=0
 ·simp only[go_sem,↓aB,seval,e0]
 have n0:(fk==0)=false:=by simpa using e0
 by_cases e1:fk=1
 ·simp only[go_sem,↓aB,seval,e1]
 have n1:(fk==1)=false:=by simpa using e1
 by_cases e2:fk=2
 ·simp only[go_sem,↓aB,seval,e2,true_or]
 have n2:(fk==2)=false:=by simpa using e2
 by_cases e3:fk=3
 ·simp only[go_sem,↓aB,seval,e3,true_or,or_true]
 have n3:(fk==3)=false:=by simpa using e3
 by_cases e4:fk=4
 ·simp only[go_sem,↓aB,seval,e4,or_true]
 have n4:(fk==4)=false:=by simpa using e4
 by_cases e5:fk=5
 ·simp only[go_sem,↓aB,seval,e5,or_self]
 have n5:(fk==5)=false:=by simpa using e5
 by_cases e6:fk=6
 ·simp only[go_sem,↓aB,seval,e6,or_self]
 have n6:(fk==6)=false:=by simpa using e6
 simp only[go_sem,↓aB,seval,e0,e1,e2,e3,e4,e5,e6,n0,n1,n2,n3,n4,n5,n6,or_self]
noncomputable def jY(b:Block):List Fact:=if dQ b then eM b 0 else []
def aHO{b:Block}(hb:b.Ok):(jY b).length<=1792:=by
 unfold jY;split
 ·exact yT hb 7
 exact FF _
structure lp(A:af)(g:SN)(tB:Nat):Prop where
 fam:j0 A g
 facts:Has A g "V" (oZ g)
 usable:Has A g "bc" (yV g)
 valid:oh A g tB
 con:Has A g "bO" (eF g)
 ind:Has A g "bi" (dM g)
 holds:Has A g "cd" (aFa g)
 possible:Has A g "bA" (rJ g)
def aVk(F:lp A g tB)(b:Block)(hb:b.Ok)(H:LO):aG A (g "bc") [.agg (aO ⟨[97],[b],[],[]⟩)] H=N1 (aSo (jY b),H,[]):=by
 obtain⟨R,h1,h2⟩:=aH7 F.fam F.facts F.usable ⟨[97],[b],[],[]⟩ ⟨(by show ([97]:Str).length<=1000;decide),by show ([b]:List Block).length<=16;simp,λx hx=>by rw[CG.1 hx];exact hb,FF _,(λ_ h=>by cases h),FF _,(λ_ h=>by cases h)⟩ (P:=dQ b=Pa) (P':=dQ b=Pa)
  (λH=>⟨if dQ b then 0 else 1,aTi F.valid b hb H,λh=>by cases hB:dQ b<;>simp[hB]at h ⊢,λh=>by rw[h];rfl⟩) H
 rw[h1];rcases h2 with⟨rfl,hn⟩ | ⟨hp,rfl⟩
 ·have:dQ b=false:=by simpa using hn
  simp[jY,this]
 have:tI ⟨[97],[b],[],[]⟩=eM b 0:=by show mI [b] 1=_;rw[yW siT];simp[mI]
 rw[this];simp[jY,hp]
def aOr(F:lp A g tB)(b:Block)(hb:b.Ok)(f:Fact)(H:LO):aG A (g "cd") [.agg (aE b),.agg (aI f)] H=N1 (.bool ((jY b).any λx=>eqv { f with block:=0 } x),H,[]):=by
 refine F.holds.call ?_;have hu:=λH=>aVk F b hb H;have ax:=aHO hb;have hc:=λH=>uN F.con F.ind (jY b) { f with block:=0 } Po omT H;simp only[aFa];simp only[aO,BI,BY]at hu;simp only[aI]at hc ⊢;cases hR:jY b with
 |nil=>simp only[hR,aFF,BY]at hu hc;simp only[go_sem,↓aB,seval,hu,hc,bT.len,bT.still,bT.ga,bT.take,AD,AB,AA,AE,aS (bG b),AJ]
 |cons x r=>have hd:gG ((x::r).map aI)=true:=aC eL _;simp only[hR,aDI]at hu hc;generalize (x::r).map aI=rows at *;simp only[go_sem,↓aB,seval,hu,hc,bT.len,bT.still,bT.ga,bT.take,AD,AB,AA,AE,aS (bG b),AJ]
end
section
variable {A:af}{g:SN}{tB tP:Nat}
def aVl(F:og A g tB tP)(b:Block)(hb:b.Ok)(hB:dQ b=Pa)(hv:b.kind=1->aBV b.expr=0)(h4:b.kind≠4)(hc:∀H,aG A (g "M") [.agg (aE b)] H=N1 (vi 0,H,[]))(H:LO):aG A (g "cc") [.agg (aE b)] H=N1 (.tup [.str (wB b),vi 0],H,[]):=by
 obtain⟨op,n,ks,ig⟩:=eW b;refine F.text.call ?_;have qv:=bG b;have zz:=λX=>aQe F.ways (g:=g) X;simp only[aH2];simp only[go_sem,↓aB,seval,cF,bT.take,bT.still,bT.ga,aS qv,hc];refine aY (aq:=aBZ) (H0:=_) (by simp only[go_sem,seval,cS];rfl) rfT ?_;have pk:FW 1 (aE b)=[vi b.kind]:=by rw[ig];rfl
 have hle:(1:Nat)<=13:=deT;obtain⟨j,hj,Mj,f1,f2,Ey,Mk⟩:=aYc F b hb hB hv h4;have Ml:=aSi j hj Mj Ey;simp only[go_sem,↓aB,seval,aBZ,zz,pk,hle,cF,AD,Ml,eH,dG,aL,bT.take,aS qv,aK qv,Mk]
end
def aCE{b:Block}{at':Int}{f:Fact}(h:f∈eM b at'):∃k,k<7/\lJ (aBp k) b.kind=Pa/\∃p∈aWq b k,f=⟨k,at',p.1,p.2⟩:=by
 unfold eM nO at h;obtain⟨k,hk,h⟩:=IM.1 h;unfold aF8 at h;split at h
 ·rename_i hh;obtain⟨p,hp,e⟩:=DB.1 h;exact⟨k,HE.1 hk,hh,p,hp,e.symm⟩
 cases h
def aVm{l:List Shape}{kind:Int}{p:Nat×Nat}{n m:Nat}(h:p∈iI l kind n m):p.1<n/\p.2<m:=aDs.1 (OK.1 h).1
def aAT(g:SN):ag:=.block 0 (qS [qm 30 7,qbi 31 .neq 30 0,qm 29 31]<|qC 29 (qS [qm 32 7,qmc 4 (.str []),qm 5 32]<|.ret) (qS [qf 34 0 6,ql 35 1 34,qf 36 0 3,ql 37 1 36,qc 38 (g "bA") [u 35,u 37],qq 39 (.un .not (u 38)),qm 33 39]<|qC 33 (qS [qmc 4 (.str []),qmc 5 (vi 13)]<|.ret) (qS [qla 41 13 6,qla 42 4 3,qc 43 (g "cd") [u 41,u 42],qq 44 (.un .not (u 43)),qm 40 44]<|qC 40 (qS [qmc 4 (.str []),qmc 5 (vi 5)]<|.ret) (.skip))))
abbrev aHc(g:SN):List ae:=[qf 55 7 6,⟨N1 56,of 0 55,N2,[0]⟩,⟨N1 57,ol 1 56,N2,[1,0]⟩,qf 58 2 3,⟨N1 59,ol 1 58,N2,[3]⟩,⟨N1 60,oi 57 59 1,N2,[2,1,0,4,3]⟩,⟨N1 61,ol 1 60,N2,[5,2,1,0,4,3]⟩,qf 62 3 3,⟨N1 63,ol 1 62,N2,[7]⟩,⟨N1 64,oi 61 63 1,N2,[6,5,2,1,0,4,3,8,7]⟩,⟨N1 65,ol 1 64,N2,[9,6,5,2,1,0,4,3,8,7]⟩,⟨N1 4,om 65,N2,[10,9,6,5,2,1,0,4,3,8,7]⟩,⟨N1 5,omc z0,N2,[11,10,9,6,5,2,1,0,4,3,8,7]⟩]
abbrev aAU:LN:=[]
abbrev aHd(g:SN):List ae:=[qf 68 11 6,⟨N1 69,of 0 68,N2,[0]⟩,⟨N1 70,ol 1 69,N2,[1,0]⟩,qf 71 3 3,⟨N1 72,ol 1 71,N2,[3]⟩,⟨N1 73,oi 70 72 1,N2,[2,1,0,4,3]⟩,⟨N1 74,ol 1 73,N2,[5,2,1,0,4,3]⟩,qf 75 2 3,⟨N1 76,ol 1 75,N2,[7]⟩,⟨N1 77,oi 74 76 1,N2,[6,5,2,1,0,4,3,8,7]⟩,⟨N1 78,ol 1 77,N2,[9,6,5,2,1,0,4,3,8,7]⟩,⟨N1 79,oc (g "bC") [u 78],N2,[10,9,6,5,2,1,0,4,3,8,7]⟩,⟨N1 4,om 79,N2,[11,10,9,6,5,2,1,0,4,3,8,7]⟩,⟨N1 5,omc z0,N2,[12,11,10,9,6,5,2,1,0,4,3,8,7]⟩]
abbrev aAV:LN:=[]
def aAW(g:SN):ag:=.block 1 (qS [qbi 48 .eql 46 0,qm 47 48]<|qC 47 (qS [qla 49 13 6,qc 50 (g "cc") [u 49],qq 51 (.ext 0 (u 50)),qq 52 (.ext 1 (u 50)),qm 4 51,qm 5 52]<|.ret) (qS [qbi 54 .eql 46 1,qm 53 54]<|qC 53 (.seq (.region Pa (aHc g))<|.ret) (qS [qbi 67 .eql 46 5,qm 66 67]<|qC 66 (.seq (.region Pa (aHd g))<|.ret) (qS [qbi 81 .eql 46 6,qm 80 81]<|qC 80 (qS [qf 82 12 6,ql 83 1 82,qf 84 2 3,ql 85 1 84,qi 86 83 85 1,ql 87 1 86,qm 4 87,qmc 5 z0]<|.ret) (.skip)))))
def aAX(g:SN):bw:=⟨96,[6],[.tmp 4,.tmp 5],qS [qx 2 4 0,qx 3 4 1,qmc 4 (.str []),qmc 5 z0]<|.seq (qS [qf 10 1 3,ql 11 1 10,qbi 12 .lss 11 0,qm 13 12,qF 14 13 (of 1 3),qF 15 13 (ol 1 14),qF 16 13 (of 1 2),qF 17 13 (ol 1 16),qF 18 13 (on 17),qF 19 13 (ob .geq 15 18),qq 20 (.pick (u 13) uT (u 19))]<|qC 20 (qS [qmc 4 (.str []),qmc 5 (vi 12)]<|.ret) (.skip))<|qS [qf 21 1 2,ql 22 1 21,qf 23 1 3,ql 24 1 23,qi 25 22 24 13,qla 26 13 25,qq 6 (.alloc [z0,(.sl Pa []),z0,z0,(.sl Pa []),z0,(.sl Pa []),(.sl Pa []),z0,z0,(.sl Pa []),(.sl Pa []),(.sl Pa [])]),qs 13 6 26]<|.seq (qS [qla 27 13 6,qc 28 (g "M") [u 27],qm 7 28]<|aAT g)<|.seq (qS [qf 45 0 3,ql 46 1 45]<|aAW g)<|.seq (qS [qf 89 8 6,qla 90 3 89,qla 91 4 3,qc 92 (g "q") [u 90,u 91],qm 88 92,qq 93 (.ext 0 (u 88)),qq 94 (.ext 1 (u 88)),qm 8 93,qm 9 94]<|qS [qm 95 8]<|qC 95 (qS [qmc 4 (.str [121,101,115]),qmc 5 z0]<|.ret) (.skip))<|qS [qmc 4 (.str [110,111]),qmc 5 z0]<|.ret⟩
structure Told(E:Int->Int->List Shape->Int)(x:Item)(f:Fact):Prop where
 b0:0<=f.block
 b1:f.block<x.blocks.length
 right:∀b,x.blocks[f.block.toNat]? = N1 b->dQ b=Pa/\nU E b=0/\f∈eM b f.block
def aVn{k:Nat}{b:Block}(hk:k<7)(h:lJ (aBp k) b.kind=Pa)(hb:0<=b.kind):aHb b.kind k=true:=by
 match k,hk with
 |0,_=>simp[lJ,aBp]at h;simp[aHb];omega
 |1,_=>simp[lJ,aBp]at h;simp[aHb];omega
 |2,_=>simp[lJ,aBp]at h;simp[aHb];omega
 |3,_=>simp[lJ,aBp]at h;simp[aHb];omega
 |4,_=>simp[lJ,aBp]at h;simp[aHb];omega
 |5,_=>simp[lJ,aBp]at h;simp[aHb];omega
 |6,_=>simp[lJ,aBp]at h;simp[aHb];omega
def aVo{k:Nat}{b:Block}(hk:k<7)(h:lJ (aBp k) b.kind=Pa):(k=0/\b.kind≠4)∨(0<k/\b.kind=aBp k):=by
 match k,hk with
 |0,_=>simp[lJ,aBp]at h;left;exact⟨rfl,omT⟩
 |1,_=>simp[lJ,aBp]at h;right;exact⟨deT,by simp[aBp];omega⟩
 |2,_=>simp[lJ,aBp]at h;right;exact⟨deT,by simp[aBp];omega⟩
 |3,_=>simp[lJ,aBp]at h;right;exact⟨deT,by simp[aBp];omega⟩
 |4,_=>simp[lJ,aBp]at h;right;exact⟨deT,by simp[aBp];omega⟩
 |5,_=>simp[lJ,aBp]at h;right;exact⟨deT,by simp[aBp];omega⟩
 |6,_=>simp[lJ,aBp]at h;right;exact⟨deT,by simp[aBp];omega⟩
def aOs{b:Block}{f:Fact}{n m:Int}(h:f∈eM b n):({ f with block:=m }:Fact)∈eM b m:=by obtain⟨k,hk,hh,p,hp,rfl⟩:=aCE h;unfold eM nO;refine IM.2 ⟨k,HE.2 hk, ?_⟩;unfold aF8;rw[Zy hh];exact DB.2 ⟨p,hp,rfl⟩
abbrev aHP(g:SN):List ae:=[qm 37 7,qf 38 2 2,⟨N1 39,ol 1 38,N2,[1]⟩,qf 40 2 3,⟨N1 41,ol 1 40,N2,[3]⟩,⟨N1 42,oi 39 41 2,N2,[2,1,4,3]⟩,⟨N1 43,ola 2 42,N2,[5,2,1,4,3]⟩,qf 44 2 2,⟨N1 45,ol 1 44,N2,[7]⟩,qf 46 3 3,⟨N1 47,ol 1 46,N2,[9]⟩,⟨N1 48,oi 45 47 2,N2,[8,7,10,9]⟩,⟨N1 49,ola 2 48,N2,[11,8,7,10,9]⟩,⟨N1 50,.dm (u 37) [(.tmp 43),(.tmp 49)],N2,[0,6,5,2,1,4,3,12,11,8,7,10,9]⟩,⟨N1 4,om 50,N2,[13,0,6,5,2,1,4,3,12,11,8,7,10,9]⟩,⟨N1 5,omc z0,N2,[14,13,0,6,5,2,1,4,3,12,11,8,7,10,9]⟩]
abbrev jZ:LN:=[]
def aCF(g:SN):bw:=⟨51,[13],[.tmp 4,.tmp 5],qS [qx 2 3 0,qx 3 4 1,qmc 4 (.bool Po),qmc 5 z0]<|.seq (qS [qla 8 3 2,qc 9 (g "u") [u 8],qm 6 9]<|qS [qm 10 6,qbi 11 .neq 10 0]<|qC 11 (qS [qm 12 6,qmc 4 (.bool Po),qm 5 12]<|.ret) (.skip))<|qS [qq 13 (.jn),qz (.ins (u 13) (ui 2) (uf (g "D"))),qz (.ins (u 13) (ui 3) (uf (g "E"))),qz (.ins (u 13) (ui 4) (uf (g "F"))),qm 14 13,qf 15 0 3,ql 16 1 15,qq 17 (.look .bx (u 14) (u 16) Po),qm 7 17]<|.seq (qS [qm 18 7,qq 19 (.bin .eql .func (u 18) (uc .bx))]<|qC 19 (qS [qmc 4 (.bool Po),qmc 5 (vi 1)]<|.ret) (.skip))<|.seq (qS [qf 20 2 3,ql 21 1 20,qf 22 3 3,ql 23 1 22,qq 24 (.mm Po [(.tmp 21),(.tmp 23)]),qbi 25 .lss 24 0,qm 26 25,qF 27 26 (of 2 3),qF 28 26 (ol 1 27),qF 29 26 (of 3 3),qF 30 26 (ol 1 29),qF 31 26 (.mm Pa [(.tmp 28),(.tmp 30)]),qF 32 26 (of 2 2),qF 33 26 (ol 1 32),qF 34 26 (on 33),qF 35 26 (ob .geq 31 34),qq 36 (.pick (u 26) uT (u 35))]<|qC 36 (qS [qmc 4 (.bool Po),qmc 5 (vi 6)]<|.ret) (.skip))<|.seq (.region Pa (aHP g))<|.ret⟩
section
variable {A:af}{g:SN}{E:Int->Int->List Shape->Int}
def aSr(hE:aCD A g E) (hI:∀s t:Shape,s.points.length<=1000->t.points.length<=1000->∀H,∃r:Bool,aG A (g "D") [.agg (aH s),.agg (aH t)] H=N1 (.bool r,H,[])) (hL:∀s t:Shape,s.points.length<=1000->t.points.length<=1000->∀H,∃r:Bool,aG A (g "E") [.agg (aH s),.agg (aH t)] H=N1 (.bool r,H,[])) (hG:∀s t:Shape,s.points.length<=1000->t.points.length<=1000->∀H,∃r:Bool,aG A (g "F") [.agg (aH s),.agg (aH t)] H=N1 (.bool r,H,[])) (h:Has A g "q" (aCF g)) (w hh:Int) (l:List Shape) (f:Fact) (H:LO) (hl:∀s∈l,vQ s=Pa) (hw:1<=w/\w<=1000) (Cw:1<=hh/\hh<=1000) (Mo:l.length<=8) (Bt:0<=f.a) (qw:0<=f.b) (ha:f.a<l.length) (hb:f.b<l.length) (z8:2<=f.kind) (Je:f.kind<=4):∃(r:Bool) (e:Int),aG A (g "q") [.agg (aDn w hh l),.agg (aI f)] H=N1 (.tup [.bool r,vi e],H,[]):=by
 obtain⟨v,H',wr,h1,rfl,rfl,m,e,rfl⟩:=h.bp (args:=[.agg (aDn w hh l),.agg (aI f)]) (H:=H) (K:=λv H' wr=>wr=[]/\H'=H/\∃(r:Bool) (e:Int),v=.tup [.bool r,vi e]) (by
  have hv:=λH=>hE w hh l hw Cw Mo hl H;have l9:∀s∈l,s.points.length<=1000:=λs hm=>by
   have q1:=hl s hm;unfold vQ at q1;simp only[AI,eG]at q1;omega
  simp only[aCF];simp only[aDn,aI]at hv ⊢;cases e1:(E w hh l != 0)with
  |true=>simp only[go_sem,↓aB,seval,hv,e1,AD,AA,AE];exact⟨_,_,rfl⟩
  |false=>
   have hk:f.kind=2∨f.kind=3∨f.kind=4:=omT;have Jg:f.a.toNat<l.length:=omT;have Cf:f.b.toNat<l.length:=omT;have Mp:(l.map aH)[f.a.toNat]? = N1 (aH l[f.a.toNat]):=by rw[BN,AP Jg];rfl
   have Gt:(l.map aH)[f.b.toNat]? = N1 (aH l[f.b.toNat]):=by rw[BN,AP Cf];rfl
   obtain⟨sa,Gu,ea⟩:∃s:Shape,s.points.length<=1000/\(l.map aH)[f.a.toNat]? = N1 (aH s):=⟨_,l9 _ (AS Jg),Mp⟩;obtain⟨sb,Gv,eb⟩:∃s:Shape,s.points.length<=1000/\(l.map aH)[f.b.toNat]? = N1 (aH s):=⟨_,l9 _ (AS Cf),Gt⟩;have fI:kJ JT vd.func (AV.fn (g "D") [] []) AV.bx=N1 (.bool Po):=rfl;have fL:kJ JT vd.func (AV.fn (g "E") [] []) AV.bx=N1 (.bool Po):=rfl;have fG:kJ JT vd.func (AV.fn (g "F") [] []) AV.bx=N1 (.bool Po):=rfl;have c1:decide ((if f.b<f.a then f.b else f.a)<0)=false:=by simp;split<;>omega
   have c2:decide ((if f.a<f.b then f.b else f.a) ≥ (l.length:Int))=false:=by simp;split<;>omega
   rcases hk with hk | hk | hk
   ·rw[hk];obtain⟨r,hr⟩:=hI sa sb Gu Gv (H++[ah.map 1 [(AV.int AR 2,AV.fn (g "D") [] []),(AV.int AR 3,AV.fn (g "E") [] []),(AV.int AR 4,AV.fn (g "F") [] [])]]);simp only[aH]at ea eb hr;simp only[go_sem,↓aB,seval,hv,e1,fI,c1,c2,AF,Zz,AD,AA,AE,AB];refine aY (aq:=jZ) rfT rfT ?_;simp only[go_sem,↓aB,seval,jZ,ea,eb,hr,Bt,qw,AD,AA,AE,AB];exact⟨_,_,rfl⟩
   ·rw[hk];obtain⟨r,hr⟩:=hL sa sb Gu Gv (H++[ah.map 1 [(AV.int AR 2,AV.fn (g "D") [] []),(AV.int AR 3,AV.fn (g "E") [] []),(AV.int AR 4,AV.fn (g "F") [] [])]]);simp only[aH]at ea eb hr;simp only[go_sem,↓aB,seval,hv,e1,fL,c1,c2,AF,Zz,AD,AA,AE,AB];refine aY (aq:=jZ) rfT rfT ?_;simp only[go_sem,↓aB,seval,jZ,ea,eb,hr,Bt,qw,AD,AA,AE,AB];exact⟨_,_,rfl⟩
   rw[hk];obtain⟨r,hr⟩:=hG sa sb Gu Gv (H++[ah.map 1 [(AV.int AR 2,AV.fn (g "D") [] []),(AV.int AR 3,AV.fn (g "E") [] []),(AV.int AR 4,AV.fn (g "F") [] [])]]);simp only[aH]at ea eb hr;simp only[go_sem,↓aB,seval,hv,e1,fG,c1,c2,AF,Zz,AD,AA,AE,AB];refine aY (aq:=jZ) rfT rfT ?_;simp only[go_sem,↓aB,seval,jZ,ea,eb,hr,Bt,qw,AD,AA,AE,AB];exact⟨_,_,rfl⟩)
 exact⟨m,e,h1⟩
structure C2(A:af)(g:SN):Prop where
 fns:PlaneFns A g
 within:Has A g "aj" (oY g)
 con:aAA A (g "bh") 2 Pa
 in1:Has A g "ah" (oP g)
 inside:Has A g "D" (aAI g)
 box:Has A g "ag" (aDo g)
 left:Has A g "E" (aEv g)
 length:Has A g "ai" (tC g)
 S6:Has A g "F" (aAF g)
 holds:Has A g "q" (aCF g)
def aVp(P:C2 A g)(hE:aCD A g E)(b:Block)(f:Fact)(H:LO)(hb:b.Ok)(hl:∀s∈b.aw,vQ s=Pa)(hw:1<=b.w/\b.w<=1000)(hh:1<=b.h/\b.h<=1000)(h8:b.aw.length<=8)(a0:0<=f.a)(b0:0<=f.b)(a1:f.a<b.aw.length)(b1:f.b<b.aw.length)(k2:2<=f.kind)(k4:f.kind<=4):∃(r:Bool) (e:Int),aG A (g "q") [.agg (aDn b.w b.h b.aw),.agg (aI f)] H=N1 (.tup [.bool r,vi e],H,[]):=
 aSr hE (λs t hs ht H=>aQ9 P.fns P.within P.con P.in1 P.inside s t hs ht H) (λs t hs ht H=>aV5 P.box P.left s t hs ht H) (λs t hs ht H=>aQ5 P.fns P.length P.S6 s t hs ht H) P.holds b.w b.h b.aw f H hl hw hh h8 a0 b0 a1 b1 k2 k4
end
def aII{n:Nat}:∀{l:LA},dJ n l=Pa->∀(i:Nat) a,l[i]? = N1 a->a.under n=Pa
 | [],_,i,a,h=>by simp at h
 |v::r,hu,i,a,h=>by
  simp only[dJ,AI]at hu;cases i with
  |zero=>simp at h;subst h;exact hu.1
  |succ i=>exact aII hu.2 i a (by simpa using h)
noncomputable def aFb(A:af)(f:Nat):aIP:=λargs _=>if dJ 0 args=Pa then
  match aG A f args []with
  |some (v,[],[])=>if v.atomic=Pa then N1 (v,[],[])else N2
  |_=>N2
 else N2
def aQr{A:af}{f:Nat}{args:LA}{H:LO}{r}(h:aFb A f args H=N1 r):∃v,r=(v,[],[])/\v.atomic=Pa/\dJ 0 args=Pa/\aG A f args []=N1 (v,[],[]):=by
 unfold aFb at h;split at h
 ·rename_i hu;split at h
  ·rename_i v hc;split at h
   ·rename_i ha;cases h;exact⟨v,rfl,ha,hu,hc⟩
   cases h
  cases h
 cases h
def aQs{A:af}{f:Nat}{args:LA}{v:AV}(hu:dJ 0 args=Pa)(ha:v.atomic=Pa)(h:aG A f args []=N1 (v,[],[]))(H:LO):aFb A f args H=N1 (v,[],[]):=by unfold aFb;rw[Zy hu,h];dsimp only;rw[Zy ha]
def aSs{P:Program}{ab:cu}{A:af}(hA:Good P ab A)(B4:∀n row,ab.row n=N1 row->dJ 0 row=Pa){f:Nat} (hf:∃F,P.funcs[f]? = N1 F/\(F.name == "runtime.NumGoroutine")=Po/\F.body.isNone=Po):gS P ab λf' args H=>if f'=f then (aFb A f args H).map (cT H)else none:=by
 refine oC hf λargs H v ws ns hp g w xs hw hg hx=>?_;obtain⟨v',e,jk,hu,hc⟩:=aQr hp;cases e;obtain⟨n,hc⟩:=oM hc;have od:WF (g.cut 0) [] w:=by
  refine⟨hw.perm,λo l h=>by simp[G.cut]at h,λo l h=>by simp[G.cut]at h,λo x l _ h=>by simp[G.cut]at h,λo l x h=>?_,λo l x h=>?_,λo o' l l' x x' h=>?_,⟨λb y hy=>⟨(hw.whole.blocks b y hy).1,λo l z hz=>?_⟩,hw.whole.io⟩⟩
  all_goals first
   | (have:=h.Pr;simp at this;done)
   | (have:=hz.Pr;simp at this;done)
 have Q6:bM P ab (g.cut 0):=⟨λn row e=>by
  obtain⟨h1,h2⟩:=hg.row n row e;exact⟨h1.cut (by simpa [AV.under]using B4 n row e),h2⟩,hg.code⟩
 have jr:fU (g.cut 0) args xs:=⟨hx.1,λi a x e1 e2=>(hx.2 i a x e1 e2).cut (aII hu i a e1)⟩;refine (((sU hA n).1 f args [] v [] [] hc (g.cut 0) w xs od Q6 jr).2).mono λe w' he=>?_;cases e with
 |panicked c=>exact he
 |outgrown=>exact he
 |returned x=>
  obtain⟨g',hs,hr⟩:=he;have kh:w'.os=w.os/\w'.output=w.output:=by have e1:=hs.wf.whole.io;have e2:=hs.le.io;have e3:=hw.whole.io;rw[e2]at e1;have e4:(w.os,w.output)=(w'.os,w'.output):=e3.symm.trans e1;exact⟨(congrArg Prod.fst e4).symm,(congrArg Prod.snd e4).symm⟩
  refine⟨g,by simpa [eU]using Step.nf hw hs.frame.1 (λb hb=>hs.frame.2 b hb λo ho=>by cases ho) kh, ?_⟩;cases v<;>first | (simp[AV.atomic,AV.atom]at jk;done) | exact ai.atomic hr jk
def gQ(g:SN):bw:=⟨47,[2],[.cell 2 2 Pa],qS [qq 2 (.alloc [z0,(.sl Pa [])])]<|qS [qq 6 (.bsl 1 [z0] 5 [(0,(.const (vi 3))),(1,(.const (vi 3))),(2,(.const (vi 4))),(3,(.const (vi 5))),(4,(.const (vi 6)))]),qm 7 0,qc 8 (g "a") [u 7,ui 5],qi 9 6 8 1,ql 10 1 9,qm 3 10]<|qS [qq 11 (.bsl 1 [z0] 6 [(0,(.const z0)),(1,(.const (vi 5))),(2,(.const (vi 99))),(3,(.const (vi 123))),(4,(.const (vi 1005))),(5,(.const (vi 47)))]),qm 12 0,qc 13 (g "a") [u 12,ui 6],qi 14 11 13 1,ql 15 1 14,qm 4 15]<|qS [qq 16 (.bsl 1 [z0] 6 [(0,(.const (vi 3))),(1,(.const (vi 9))),(2,(.const (vi 12))),(3,(.const (vi 58))),(4,(.const (vi 1))),(5,(.const (vi 70)))]),qm 17 0,qc 18 (g "a") [u 17,ui 6],qi 19 16 18 1,ql 20 1 19,qm 5 20]<|.seq (qS [qm 21 3,qbi 22 .eql 21 4]<|qC 22 (qS [qm 23 3,qm 24 4,qm 25 5,qb 26 .add 24 25,qm 27 5,qq 28 (.bsl 1 [z0] 2 [(0,(.tmp 26)),(1,(.tmp 27))]),qq 29 (.build [z0,(.sl Pa [])] [(0,1,(.tmp 23)),(1,1,(.tmp 28))]),qs 2 2 29]<|.ret) (.skip))<|.seq (qS [qm 30 3,qbi 31 .eql 30 3,qm 32 31,qT 33 32 (om 0),qT 34 32 (oc (g "a") [u 33,ui 3]),qT 35 32 (obi .eql 34 0),qp 36 32 35]<|qC 36 (qS [qm 37 3,qm 38 4,qm 39 5,qq 40 (.bsl 1 [z0] 3 [(0,(.tmp 38)),(1,(.tmp 39)),(2,(.const (vi 808)))]),qq 41 (.build [z0,(.sl Pa [])] [(0,1,(.tmp 37)),(1,1,(.tmp 40))]),qs 2 2 41]<|.ret) (.skip))<|qS [qm 42 3,qm 43 4,qm 44 5,qq 45 (.bsl 1 [z0] 2 [(0,(.tmp 43)),(1,(.tmp 44))]),qq 46 (.build [z0,(.sl Pa [])] [(0,1,(.tmp 42)),(1,1,(.tmp 45))]),qs 2 2 46]<|.ret⟩
abbrev lY(g:SN):ag:=.seq (qS [qm 20 8,qm 21 5,qb 22 .lss 20 21]<|qC 22 (.skip) (.exit 2))<|.seq (.block 3 (qR [qm 25 7,qm 26 0,qc 27 (g "j") [u 26],qq 28 (.bsl 1 [(.str [])] 1 [(0,(.tmp 27))]),qa 29 1 16 25 28,qm 7 29]))<|.region Po [qm 23 8,qbi 24 .add 23 1,qm 8 24]
abbrev uP:LN:=[20,21,22,25,26,27,28,29,7,23,24,8]
abbrev uQ(g:SN):ag:=.seq (qS [qm 15 6,qm 16 4,qb 17 .lss 15 16]<|qC 17 (.skip) (.exit 0))<|.seq (.block 1 (qS [qmc 7 (.sl Pa [])]<|.seq (qS [qmc 8 z0]<|.block 2 (.loop (lY g)))<|.region Po [qf 30 0 3,ql 31 1 30,qm 32 7,qq 33 (.bsl 1 [(.sl Po [])] 1 [(0,(.tmp 32))]),qa 34 1 24 31 33,qf 35 0 3,qs 1 35 34]))<|.region Po [qm 18 6,qbi 19 .add 18 1,qm 6 19]
def gC(g:SN):bw:=⟨37,[2,3,29,34],[.cell 2 1 Pa],qS [qq 2 (.alloc [(.sl Pa [])])]<|qS [qq 3 (.alloc [(.sl Pa [])])]<|qS [qm 9 0,qc 10 (g "a") [u 9,ui 3],qq 11 (.bin .add .no (ui 1) (u 10)),qm 4 11]<|qS [qm 12 0,qc 13 (g "a") [u 12,ui 3],qq 14 (.bin .add .no (ui 1) (u 13)),qm 5 14]<|.seq (qS [qmc 6 z0]<|.block 0 (.loop (uQ g)))<|qS [qla 36 1 3,qs 1 2 36]<|.ret⟩
abbrev uR(g:SN):List ae:=[qf 39 2 7,⟨N1 40,ol 1 39,N2,[0]⟩,qm 41 0,qm 42 1,⟨N1 43,obi .sub 42 1,N2,[3]⟩,⟨N1 44,oc (g "n") [u 41,u 43],N2,[2,4,3]⟩,⟨N1 45,.bsl 3 [z0,z0,(.sl Po [])] 1 [(0,(.tmp 44))],N2,[5,2,4,3]⟩,⟨N1 46,oa 3 40 40 45,N2,[1,0,6,5,2,4,3]⟩,⟨N1 47,of 2 7,N2,[7,1,0,6,5,2,4,3]⟩,⟨N2,os 1 47 46,N2,[8,7,1,0,6,5,2,4,3]⟩]
abbrev lZ:LN:=[1,5]
abbrev uS(g:SN):ag:=.seq (qS [qm 33 8,qm 34 6,qc 35 (g "aE") [u 34],qb 36 .lss 33 35]<|qC 36 (.skip) (.exit 0))<|.seq (.block 1 (.region Pa (uR g)))<|.region Po [qm 37 8,qbi 38 .add 37 1,qm 8 38]
def gD(g:SN):bw:=⟨49,[4,7,46],[.cell 4 3 Pa],qS [qq 4 (.alloc [z0,z0,(.sl Pa [])])]<|qS [qm 9 0,qc 10 (g "a") [u 9,ui 12],qm 5 10]<|.seq (qS [qm 11 1,qbi 12 .leq 11 0]<|qC 12 (qR [qm 13 5,qbi 14 .rem 13 3,qm 5 14]) (.skip))<|.seq (qS [qm 15 5,qbi 16 .lss 15 2]<|qC 16 (qS [qq 17 (.bsl 1 [z0] 6 [(0,(.const z0)),(1,(.const (vi 1))),(2,(.const (vi 7))),(3,(.const (vi 12))),(4,(.const (vi 100))),(5,(.const (vi 999999)))]),qm 18 0,qc 19 (g "a") [u 18,ui 6],qi 20 17 19 1,ql 21 1 20,qq 22 (.build [z0,z0,(.sl Pa [])] [(0,1,(.const z0)),(1,1,(.tmp 21))]),qs 3 4 22]<|.ret) (.skip))<|.seq (qS [qm 23 5,qbi 24 .eql 23 2]<|qC 24 (qS [qm 25 0,qc 26 (g "a") [u 25,ui 4],qq 27 (.build [z0,z0,(.sl Pa [])] [(0,1,(.const (vi 1))),(1,1,(.tmp 26))]),qs 3 4 27]<|.ret) (.skip))<|qS [qm 28 0,qc 29 (g "a") [u 28,ui 7],qq 30 (.bin .add .no (ui 2) (u 29)),qm 6 30]<|qS [qm 31 6,qq 32 (.build [z0,z0,(.sl Pa [])] [(0,1,(.tmp 31))]),qq 7 (.alloc [z0,z0,(.sl Pa [])]),qs 3 7 32]<|.seq (qS [qmc 8 z0]<|.block 0 (.loop (uS g)))<|qS [qla 48 3 7,qs 3 4 48]<|.ret⟩
abbrev uU(g:SN):List ae:=[qm 13 0,⟨N1 14,oc (g "a") [u 13,ui 2],N2,[0]⟩,⟨N1 15,.bin .add .no (ui 9) (u 14),N2,[1,0]⟩,qla 16 3 5,qm 17 0,qm 18 1,⟨N1 19,obi .sub 18 1,N2,[5]⟩,⟨N1 20,oc (g "n") [u 17,u 19],N2,[4,6,5,1,0]⟩,⟨N1 21,.bsl 3 [z0,z0,(.sl Po [])] 2 [(0,(.tmp 16)),(1,(.tmp 20))],N2,[3,7,4,6,5,1,0]⟩,⟨N1 22,.build [z0,z0,(.sl Pa [])] [(0,1,(.tmp 15)),(2,1,(.tmp 21))],N2,[2,8,3,7,4,6,5,1,0]⟩,⟨N2,os 3 4 22,N2,[9,2,8,3,7,4,6,5,1,0]⟩]
abbrev mA:LN:=[1,3,7]
def gE(g:SN):bw:=⟨26,[4,5],[.cell 4 3 Pa],qS [qq 4 (.alloc [z0,z0,(.sl Pa [])])]<|.seq (qS [qm 6 0,qc 7 (g "a") [u 6,ui 4],qbi 8 .eql 7 0]<|qC 8 (qS [qm 9 0,qm 10 1,qbi 11 .sub 10 1,qc 12 (g "n") [u 9,u 11],qq 5 (.alloc [z0,z0,(.sl Pa [])]),qs 3 5 12]<|.seq (.region Pa (uU g))<|.ret) (.skip))<|qS [qm 23 0,qm 24 1,qc 25 (g "n") [u 23,u 24],qs 3 4 25]<|.ret⟩
abbrev bIk(op:Int)(a:List Int):Prop:=(3<=op/\op<=6)/\(1<=a.length/\a.length<=3)/\∀n∈a,0<=n/\n<=999999
abbrev aVw(v:AV):Prop:=∃(op:Int) (a:List Int),v=.agg [vi op,.sl Po (a.map bF)]/\bIk op a
def aVx{A:af}{g:SN}(h:Has A g "aD" (gQ g))(ht:fR A g):dI A (g "aD") [] aVw:=by
 refine h.gen (by simp[gQ]) (λn=>cB) ?_;intro l i o v H hl hlt ho;simp only[gQ];simp only[go_sem,seval];refine bB (bA ht (m:=5) deT) hl (i:=i) (by simp only[go_sem,seval,eK,hlt,ho]) ?_;rintro val i1 ⟨x,rfl,jr,lz⟩;obtain⟨op,Qx,cx⟩:=aQk [3,3,4,5,6] jr lz;simp only[DR,bF]at cx;have Bv:3<=op/\op<=6:=by have:∀n∈([3,3,4,5,6]:List Int),3<=n/\n<=6:=deT;exact this _ Qx
 simp only[go_sem,seval,hlt,fN,jr,cx];refine bB (bA ht (m:=6) deT) hl (i:=i1) (by simp only[go_sem,seval,aP,hlt]) ?_;rintro val i2 ⟨y,rfl,oj,tc⟩;obtain⟨a,ha,wm⟩:=aQk [0,5,99,123,1005,47] oj tc;simp only[DR,bF]at wm;have Pb:0<=a/\a<=1005:=by have:∀n∈([0,5,99,123,1005,47]:List Int),0<=n/\n<=1005:=deT;exact this _ ha
 simp only[go_sem,seval,hlt,aR,oj,wm];refine bB (bA ht (m:=6) deT) hl (i:=i2) (by simp only[go_sem,seval,aP,hlt]) ?_;rintro val i3 ⟨z,rfl,me,rr⟩;obtain⟨b,hb,M8⟩:=aQk [3,9,12,58,1,70] me rr;simp only[DR,bF]at M8;have V5:0<=b/\b<=70:=by have:∀n∈([3,9,12,58,1,70]:List Int),0<=n/\n<=70:=deT;exact this _ hb
 have hw:AR.wrap (a+b)=a+b:=wrap_i64 omT omT;have fin:∀ns:List Int,1<=ns.length/\ns.length<=3->(∀n∈ns,0<=n/\n<=999999)->aVw (.agg [vi op,.sl Po (ns.map bF)]):=λns h1 h2=>⟨op,ns,rfl,Bv,h1,h2⟩;simp only[go_sem,seval,hlt,aR,me,M8];refine aD (λCo=>?_) (λCo=>?_)
 ·simp only[go_sem,seval,hlt,hw,aW,aA (aC aU _)];exact⟨⟨i3,rfl⟩,fin [a+b,b] siT (by intro n hn;simp only[BD,CC,or_false]at hn;rcases hn with rfl | rfl<;>omega)⟩
 simp only[go_sem,seval,Co];refine aD (λC4=>?_) (λC4=>?_)
 ·simp only[go_sem,seval,C4];refine bB (bA ht (m:=3) deT) hl (i:=i3) (by simp only[go_sem,seval,aP,hlt]) ?_;rintro val i4 ⟨w,rfl,od,dy⟩;have S9:(op==3)=true:=by simpa using C4
  simp only[go_sem,seval,hlt,aR,S9];refine aD (λHb=>?_) (λHb=>?_)
  ·simp only[go_sem,seval,hlt,aW,aA (aC aU _)];exact⟨⟨i4,rfl⟩,fin [a,b,808] siT (by intro n hn;simp only[BD,CC,or_false]at hn;rcases hn with rfl | rfl | rfl<;>omega)⟩
  simp only[go_sem,seval,hlt,aW,aA (aC aU _)];exact⟨⟨i4,rfl⟩,fin [a,b] siT (by intro n hn;simp only[BD,CC,or_false]at hn;rcases hn with rfl | rfl<;>omega)⟩
 have S9:(op==3)=false:=by
  cases hq:(op==3)with
  |false=>rfl
  |true=>rw[hq]at C4;cases C4
 simp only[go_sem,seval,S9,hlt,aW,aA (aC aU _)];exact⟨⟨i3,rfl⟩,fin [a,b] siT (by intro n hn;simp only[BD,CC,or_false]at hn;rcases hn with rfl | rfl<;>omega)⟩
abbrev aIJ(r:List Str):Prop:=1<=r.length/\r.length<=3/\∀s∈r,s∈aQm
abbrev bHW(rows:List (List Str)):Prop:=1<=rows.length/\rows.length<=3/\(∀r∈rows,aIJ r)/\∃c:Nat,∀r∈rows,r.length=c
abbrev aTk(v:AV):Prop:=∃rows:List (List Str),v=.agg [.sl Po (rows.map bY)]/\bHW rows
def aSu{A:af}{g:SN}(hp:dI A (g "j") [] aIG){H:LO}{Q:bf->bN->LO->LN->Prop}{tg}{l:List Int}(hl:jP l){o v:Nat}(hlt:o<H.length) {i:Int} {o0 o1 o2 o3:ah} {c:Int} (jg:1<=c) (mj:c<=3) {ρ:bN} (e0:ρ 0=.ptr o v 0) (e5:ρ 5=vi c) (e7:ρ 7=.sl Pa []) (e8:ρ 8=vi 0) (hQ:∀ρ' i' o2 (r:List Str),(∀t,uP.contains t=Po->ρ' t=ρ t)->aIJ r/\r.length=c.toNat->ew (H.length+2) 1 (r.map aN) (ρ' 7) o2->Q (.exit 2) ρ' (H.set o (.box v (aM l i'))++[o0,o1,o2,o3]) [o]):wl A 37 ⟨H.length,[2,3,29,34]⟩ (lY g) ρ (H.set o (.box v (aM l i))++[o0,o1,o2,o3]) [o] Q tg:=by
 refine bJ (λj ρ1 H1 wr=>wr=[o]/\ρ1 8=vi j/\∃i' o2,∃r:List Str,H1=H.set o (.box v (aM l i'))++[o0,o1,o2,o3]/\ew (H.length+2) 1 (r.map aN) (ρ1 7) o2/\r.length=j/\∀a∈r,a∈aQm) c.toNat
  (λρ1 H1 wr=>wr=[o]/\∃i' o2,∃r:List Str,H1=H.set o (.box v (aM l i'))++[o0,o1,o2,o3]/\ew (H.length+2) 1 (r.map aN) (ρ1 7) o2/\aIJ r/\r.length=c.toNat)
  cB rfl ⟨rfl,e8,i,o2,[],rfl,by rw[e7];exact .nil _,rfl,siT⟩ ?_ (by
   rintro ρ' H' ba ⟨rfl,i',o2,r,rfl,hg,hr⟩ hf;exact hQ ρ' i' o2 r hf hr hg)
 rintro j ρ1 H1 dc mo ⟨rfl,e8,i',o2,r,rfl,hg,gu,il⟩ hf;have f0:ρ1 0=.ptr o v 0:=(hf 0 rfl).trans e0;have f5:ρ1 5=vi c:=(hf 5 rfl).trans e5;simp only[go_sem,seval,f5,e8];refine aD (λhb=>?_) (λhb=>?_)
 ·have cr:j<c.toNat:=by simp at hb;omega
  simp only[go_sem,seval,f0,e8];refine bB hp hl (i:=i') (by simp only[go_sem,seval,aP,hlt]) ?_;rintro val i3 ⟨s,rfl,hs⟩;obtain⟨v',o',eu,db⟩:=hg.app (new:=[[.str s]]) (bytes:=16) siT rfT (by rw[AF,gu];simp;omega);rw[show r.map aN++[[.str s]]=(r++[s]).map aN by simp[aN]]at eu;simp only[go_sem,seval,hlt,aR,db];rw[dW omT];refine⟨cr,rfl,i3,o',r++[s],rfl,eu,by simp[gu], ?_⟩;exact pS il hs
 have cr:j=c.toNat:=by simp at hb;omega
 subst cr;simp only[go_sem,seval];exact⟨i',o2,r,rfl,hg,⟨omT,omT,il⟩,gu⟩
def aSv{A:af}{g:SN}(h:Has A g "aA" (gC g))(ht:fR A g)(hp:dI A (g "j") [] aIG):dI A (g "aA") [] aTk:=by
 refine h.gen (by simp[gC]) (λn=>cB) ?_;intro l i o v H hl hlt ho;simp only[gC];simp only[go_sem,seval];refine bB (bA ht (m:=3) deT) hl (i:=i) (by simp only[go_sem,seval,eK,hlt,ho]) ?_;rintro val i1 ⟨x,rfl,jr,lz⟩;have wk:AR.wrap (1+x)=1+x:=wrap_i64 omT omT;simp only[go_sem,seval,hlt,fN,wk];refine bB (bA ht (m:=3) deT) hl (i:=i1) (by simp only[go_sem,seval,aP,hlt]) ?_;rintro val i2 ⟨y,rfl,oj,tc⟩;have zz:AR.wrap (1+y)=1+y:=wrap_i64 omT omT;simp only[go_sem,seval,hlt,aR,zz];refine bJ (id:=0) (λj ρ1 H1 wr=>wr=[o]/\ρ1 6=vi j/\∃i' o2 o3 w,∃rows:List (List Str),H1=H.set o (.box v (aM l i'))++[.box 1 [.sl Pa []],.box 1 [w],o2,o3]/\ew (H.length+3) 1 (rows.map bY) w o3/\rows.length=j/\∀a∈rows,aIJ a/\a.length=(1+y).toNat) (1+x).toNat
  (λρ1 H1 wr=>wr=[o]/\∃i' o2 o3 w,∃rows:List (List Str),H1=H.set o (.box v (aM l i'))++[.box 1 [.sl Pa []],.box 1 [w],o2,o3]/\ew (H.length+3) 1 (rows.map bY) w o3/\rows.length=(1+x).toNat/\∀a∈rows,aIJ a/\a.length=(1+y).toNat)
  cB rfl ⟨by simp only[go_sem,seval],by simp only[go_sem,seval],i2,.gone 0,.gone 0,.sl Pa [],[],rfl,.nil _,rfl,siT⟩ ?_ ?_
 ·rintro j ρ1 H1 dc mo ⟨rfl,e6,i',o2,o3,w,rows,rfl,hg,gu,il⟩ hf;have e0:ρ1 0=.ptr o v 0:=by rw[hf 0 rfl];simp only[go_sem,seval]
  have e3:ρ1 3=.ptr (H.length+1) 1 0:=by rw[hf 3 rfl];simp only[go_sem,seval]
  have e4:ρ1 4=vi (1+x):=by rw[hf 4 rfl];simp only[go_sem,seval]
  have e5:ρ1 5=vi (1+y):=by rw[hf 5 rfl];simp only[go_sem,seval]
  simp only[go_sem,seval,e4,e6];refine aD (λhb=>?_) (λhb=>?_)
  ·have cr:j<(1+x).toNat:=by simp at hb;omega
   simp only[go_sem,seval];refine aSu hp hl hlt (c:=1+y) omT omT (by simp only[go_sem,seval,e0]) (by simp only[go_sem,seval,e5]) (by simp only[go_sem,seval]) (by simp only[go_sem,seval]) ?_;intro ρ2 i4 o2' r cq hr qu;have g3:ρ2 3=.ptr (H.length+1) 1 0:=by rw[cq 3 rfl];simp only[go_sem,seval,e3]
   have g6:ρ2 6=vi j:=by rw[cq 6 rfl];simp only[go_sem,seval,e6]
   obtain⟨ff,lf,o2'',D1,D4,T0⟩:=qu.dw (aC bO _);have hle:∀H',H'[H.length+2]? = N1 o2'->dw H' (ρ2 7)=N1 (.sl ff (r.map aN),lf):=by
    intro H' hh;have:=D1 H' hh;obtain⟨ver,h7,_⟩:=qu.inv (by
     intro Hc;have:=congrArg FN Hc;have h1:=hr.1.1;simp only[AF,AZ]at this;omega)
    rw[h7]at this ⊢;exact this
   obtain⟨v',o',eu,db⟩:=hg.app (new:=[[.sl Po (r.map aN)]]) (bytes:=24) siT rfT (by rw[AF,gu];simp;omega);rw[show rows.map bY++[[.sl Po (r.map aN)]]=(rows++[r]).map bY by simp[bY]]at eu;simp only[go_sem,seval,g3,g6,hle,D4,T0,db,eu.aj,eu.ak];rw[dW omT];refine⟨cr,rfl,i4,o2'',o',v',rows++[r],rfl,eu,by simp[gu], ?_⟩;exact pS il hr
  have cr:j=(1+x).toNat:=by simp at hb;omega
  subst cr;simp only[go_sem,seval];exact⟨i',o2,o3,w,rows,rfl,hg,gu,il⟩
 rintro ρ2 H2 en ⟨rfl,i',o2,o3,w,rows,rfl,hg,gu,il⟩ hf;have e2:ρ2 2=.ptr H.length 1 0:=by rw[hf 2 rfl];simp only[go_sem,seval]
 have e3:ρ2 3=.ptr (H.length+1) 1 0:=by rw[hf 3 rfl];simp only[go_sem,seval]
 have bl:rows.map bY≠[]:=by intro h;have:=congrArg FN h;simp only[AF,gu,AZ]at this;omega
 obtain⟨ver,e4,rfl⟩:=hg.inv bl;simp only[go_sem,seval,e2,e3,e4,hlt,aT (aC cU _),aA (aC cU _),aA (aC aU _),aW];exact⟨⟨i',rfl⟩,rows,rfl,omT,omT,λr hr=>(il r hr).1,_,λr hr=>(il r hr).2⟩
inductive Deep:Bool->Nat->Expr->Prop where
 |mk (c:Bool) (d:Nat) (op n:Int) (kids:List Expr):(∀e∈kids,Deep Po d e)->(kids.length=0/\(op=0/\0<=n/\n<=999999∨op=1/\0<=n/\n<=25)∨n=0/\(kids.length=1/\(op=2∨op=8)∨kids.length=2/\(3<=op/\op<=7∨c=Pa/\9<=op/\op<=10)))->Deep c (d+1) (.mk op n kids)
def Deep.top{d:Nat}{e:Expr}(h:Deep Po d e):Deep Pa d e:=by
 cases h with
 |mk _ d op n kids h4 h5=>
  refine .mk _ _ _ _ _ h4 ?_;rcases h5 with h5 | ⟨e,h5 | ⟨h5,h6 | ⟨h6,_⟩⟩⟩
  ·exact .inl h5
  ·exact .inr ⟨e,.inl h5⟩
  ·exact .inr ⟨e,.inr ⟨h5,.inl h6⟩⟩
  cases h6
def bF1{d:Nat}{c:Bool}{op n:Int}{kids:List Expr}(h:Deep c d (.mk op n kids)):kids.length<=2:=by cases h;omega
def Deep.ok:∀{d:Nat} {c:Bool} {e:Expr},Deep c d e->e.Ok/\gY e<=2 ^ d - 1
 |0,_,e,h=>by cases h
 |d+1,c,.mk op n kids,h=>by
  have h3:=bF1 h;cases h with
  |mk _ _ _ _ _ h4 h5=>
   refine⟨.mk _ _ _ (by unfold eA;omega) (by unfold eA;omega) omT λe he=>(Deep.ok (h4 e he)).1, ?_⟩;have hk:cP kids<=2*(2 ^ d - 1):=by
    match kids,h3,h4 with
    | [],_,_=>simp[cP]
    | [a],_,h4=>have:=(Deep.ok (h4 a siT)).2;simp only[cP];omega
    | [a,b],_,h4=>have h5:=(Deep.ok (h4 a siT)).2;have h6:=(Deep.ok (h4 b siT)).2;simp only[cP];omega
    |_::_::_::_,h3,_=>simp at h3
   have hp:1<=2 ^ d:=Nat.one_le_two_pow;rw[gY,PL];omega
abbrev aFd(c:Bool)(d:Nat)(v:AV):Prop:=∃e:Expr,v=.agg (aF e)/\Deep c d e
def arity(op:Int):Int:=if op=0 then 0 else if op=1 then 0 else if op=2 then 1 else if op=8 then 1 else 2
def aOv{A:af}{g:SN}(h:Has A g "aE" (oI g))(op:Int)(H:LO):aG A (g "aE") [vi op] H=N1 (vi (arity op),H,[]):=by
 refine h.call ?_;simp only[oI];by_cases h0:op=0
 ·subst h0;simp only[go_sem,seval,arity]
 by_cases h1:op=1
 ·subst h1;simp only[go_sem,seval,arity]
 by_cases h2:op=2
 ·subst h2;simp only[go_sem,seval,arity]
 by_cases h8:op=8
 ·subst h8;simp only[go_sem,seval,arity]
 simp only[go_sem,seval,arity,aF9 h0,aF9 h1,aF9 h2,aF9 h8,h0,h1,h2,h8]
def aSw(op:Int):0<=arity op/\arity op<=2:=by
 unfold arity;split
 ·omega
 split
 ·omega
 split
 ·omega
 split<;>omega
def aQw{op:Int}(h1:2<=op)(h2:op<=8):(arity op).toNat=1/\(op=2∨op=8)∨(arity op).toNat=2/\3<=op/\op<=7:=by
 unfold arity;rw[Zx omT,Zx omT];by_cases h3:op=2
 ·rw[Zy h3];exact .inl ⟨rfl,.inl h3⟩
 rw[Zx h3];by_cases h4:op=8
 ·rw[Zy h4];exact .inl ⟨rfl,.inr h4⟩
 rw[Zx h4];exact .inr ⟨rfl,omT,omT⟩
def aNp{A:af}{g:SN}(h:Has A g "n" (gD g))(ht:fR A g) (Db:∀(op:Int) (H:LO),aG A (g "aE") [vi op] H=N1 (vi (arity op),H,[])):∀d:Nat,d<=3->dI A (g "n") [vi d] (aFd Po (d+1))
 |d,hd=>by
  have ih:∀d',d=d'+1->dI A (g "n") [vi d'] (aFd Po (d'+1)):=λd' V0=>aNp h ht Db d' omT;refine h.gen (by simp[gD]) (λn=>cB) ?_;intro l i o v H hl hlt ho;have leaf:∀op n:Int,(op=0/\0<=n/\n<=999999∨op=1/\0<=n/\n<=25)->aFd Po (d+1) (.agg [vi op,vi n,.sl Po []]):=λop n h=>⟨.mk op n [],rfl,.mk _ _ _ _ _ siT (.inl ⟨rfl,h⟩)⟩;simp only[gD];simp only[go_sem,seval];refine bB (bA ht (m:=12) deT) hl (i:=i) (by simp only[go_sem,seval,eK,hlt,ho]) ?_;rintro val i1 ⟨k,rfl,Rj,Ch⟩;cases d with
  |zero=>
   have Pc:0<=k.tmod 3/\k.tmod 3<3:=⟨HV _ Rj,GX _ deT⟩;simp only[go_sem,seval,hlt,fN,tS (b:=3) deT,Int.cast_ofNat_Int];refine aD (λhb=>?_) (λhb=>?_)
   ·simp only[go_sem,seval];refine bB (bA ht (m:=6) deT) hl (i:=i1) (by simp only[go_sem,seval,aP,hlt]) ?_;rintro val i2 ⟨x,rfl,jr,lz⟩;obtain⟨n,hn,cx⟩:=aQk [0,1,7,12,100,999999] jr lz;simp only[DR,bF]at cx;have yh:0<=n/\n<=999999:=by
     have:∀n∈([0,1,7,12,100,999999]:List Int),0<=n/\n<=999999:=deT;exact this _ hn
    simp only[go_sem,seval,hlt,aR,jr,cx,aW,aA (aC aU _)];exact⟨⟨i2,rfl⟩,leaf 0 n (.inl ⟨rfl,yh⟩)⟩
   simp only[go_sem,seval];refine aD (λdp=>?_) (λdp=>?_)
   ·simp only[go_sem,seval];refine bB (bA ht (m:=4) deT) hl (i:=i1) (by simp only[go_sem,seval,aP,hlt]) ?_;rintro val i2 ⟨x,rfl,jr,lz⟩;simp only[go_sem,seval,hlt,aR,aW,aA (aC aU _)];exact⟨⟨i2,rfl⟩,leaf 1 x (.inr ⟨rfl,jr,omT⟩)⟩
   exfalso;simp at hb dp;omega
  |succ d'=>
   have Cr:decide ((((d'+1:Nat):Int))<=0)=false:=by first | (simp;done)|(simp;omega)
   have q9:(((d'+1:Nat):Int))=(d':Int)+1:=rfl;simp only[go_sem,seval,hlt,fN,Cr];refine aD (λhb=>?_) (λhb=>?_)
   ·simp only[go_sem,seval];refine bB (bA ht (m:=6) deT) hl (i:=i1) (by simp only[go_sem,seval,aP,hlt]) ?_;rintro val i2 ⟨x,rfl,jr,lz⟩;obtain⟨n,hn,cx⟩:=aQk [0,1,7,12,100,999999] jr lz;simp only[DR,bF]at cx;have yh:0<=n/\n<=999999:=by
     have:∀n∈([0,1,7,12,100,999999]:List Int),0<=n/\n<=999999:=deT;exact this _ hn
    simp only[go_sem,seval,hlt,aR,jr,cx,aW,aA (aC aU _)];exact⟨⟨i2,rfl⟩,leaf 0 n (.inl ⟨rfl,yh⟩)⟩
   simp only[go_sem,seval];refine aD (λdp=>?_) (λdp=>?_)
   ·simp only[go_sem,seval];refine bB (bA ht (m:=4) deT) hl (i:=i1) (by simp only[go_sem,seval,aP,hlt]) ?_;rintro val i2 ⟨x,rfl,jr,lz⟩;simp only[go_sem,seval,hlt,aR,aW,aA (aC aU _)];exact⟨⟨i2,rfl⟩,leaf 1 x (.inr ⟨rfl,jr,omT⟩)⟩
   simp only[go_sem,seval];refine bB (bA ht (m:=7) deT) hl (i:=i1) (by simp only[go_sem,seval,aP,hlt]) ?_;rintro val i2 ⟨x,rfl,jr,lz⟩;have wk:AR.wrap (2+x)=2+x:=wrap_i64 omT omT;simp only[go_sem,seval,hlt,aR,wk];have j8:=aSw (2+x);refine bJ (id:=0) (λj ρ1 H1 wr=>wr=[o]/\ρ1 8=vi j/\∃i' o2 w,∃kids:List Expr,H1=H.set o (.box v (aM l i'))++[.box 1 [vi 0,vi 0,.sl Pa []],.box 1 [vi (2+x),vi 0,w],o2]/\ew (H.length+2) 3 (kids.map aF) w o2/\kids.length=j/\∀a∈kids,Deep Po (d'+1) a) (arity (2+x)).toNat
    (λρ1 H1 wr=>wr=[o]/\∃i' o2 w,∃kids:List Expr,H1=H.set o (.box v (aM l i'))++[.box 1 [vi 0,vi 0,.sl Pa []],.box 1 [vi (2+x),vi 0,w],o2]/\ew (H.length+2) 3 (kids.map aF) w o2/\kids.length=(arity (2+x)).toNat/\∀a∈kids,Deep Po (d'+1) a)
    cB rfl ⟨by simp only[go_sem,seval],by simp only[go_sem,seval],i2,.gone 0,.sl Pa [],[],by simp only[go_sem,seval],.nil _,rfl,siT⟩ ?_ ?_
   ·rintro j ρ1 H1 dc mo ⟨rfl,e8,i',o2,w,kids,rfl,hg,zp,p9⟩ hf;have e0:ρ1 0=.ptr o v 0:=by rw[hf 0 rfl];simp only[go_sem,seval]
    have e1:ρ1 1=vi ((d':Int)+1):=by rw[hf 1 rfl];simp only[go_sem,seval];rfl
    have e6:ρ1 6=vi (2+x):=by rw[hf 6 rfl];simp only[go_sem,seval]
    have e7:ρ1 7=.ptr (H.length+1) 1 0:=by rw[hf 7 rfl];simp only[go_sem,seval]
    simp only[go_sem,seval,e6,e8,Db];refine aD (λD3=>?_) (λD3=>?_)
    ·have cr:j<(arity (2+x)).toNat:=by simp at D3;omega
     have F3:AR.wrap ((d':Int)+1 - 1)=(d':Int):=by rw[wrap_i64 omT omT];omega
     have bl:(H.length+1==o)=false:=soT;simp only[go_sem,seval];refine aY (aq:=lZ) rfT rfT ?_;simp only[go_sem,seval,lZ,e0,e1,e7,F3];refine eB (ih d' rfl) hl (i:=i') (by simp only[go_sem,seval,aP,hlt]) ?_;rintro val i3 ⟨e,rfl,he⟩;obtain⟨w',o',eu,db⟩:=hg.app (new:=[aF e]) (bytes:=40) siT (by rw[aCj,pA];rfl) (by rw[AF,zp];simp;omega);rw[show kids.map aF++[aF e]=(kids++[e]).map aF by simp]at eu;simp only[go_sem,seval,hlt,e8,aR,pA,aK (aV _),bR (aV _),db,eu.ak,eu.aj,eH,dG,bl,aL];rw[dW omT];refine⟨cr,rfl,i3,o',w',kids++[e],rfl,eu,by simp[zp], ?_⟩;exact pS p9 he
    have cr:j=(arity (2+x)).toNat:=by simp at D3;omega
    subst cr;simp only[go_sem,seval];exact⟨i',o2,w,kids,rfl,hg,zp,p9⟩
   rintro ρ2 H2 en ⟨rfl,i',o2,w,kids,rfl,hg,zp,p9⟩ hf;have e4:ρ2 4=.ptr H.length 1 0:=by rw[hf 4 rfl];simp only[go_sem,seval]
   have e7:ρ2 7=.ptr (H.length+1) 1 0:=by rw[hf 7 rfl];simp only[go_sem,seval]
   obtain⟨ff,lf,o2'',D1,D4,T0⟩:=hg.dw (aC aV _);simp only[go_sem,seval,e4,e7,hlt,hg.ak,D1,D4,T0,aA (aC aV _),aA (aC aU _),aW];exact⟨⟨i',rfl⟩,.mk (2+x) 0 kids,by rw[aF,bD],.mk _ _ _ _ _ p9 (.inr ⟨rfl,by rw[zp];have:=aQw (op:=2+x) omT omT;omega⟩)⟩
abbrev rL(g:SN):List ae:=[qf 7 2 3,⟨N1 8,ol 1 7,N2,[0]⟩,qm 9 0,⟨N1 10,oc (g "a") [u 9,ui 4],N2,[2]⟩,⟨N1 11,.bin .add .no (ui 24) (u 10),N2,[3,2]⟩,qm 12 0,⟨N1 13,oc (g "a") [u 12,ui 9],N2,[5,3,2]⟩,⟨N1 14,.bin .add .no (ui 30) (u 13),N2,[6,5,3,2]⟩,⟨N1 15,oc (g "L") [ui 2,ui 2,u 11,u 14],N2,[4,7,6,5,3,2]⟩,⟨N1 16,.build [z0,(.sl Pa [])] [(0,1,(.const (vi 2))),(1,1,(.tmp 15))],N2,[8,4,7,6,5,3,2]⟩,⟨N1 17,.bsl 2 [z0,(.sl Po [])] 1 [(0,(.tmp 16))],N2,[9,8,4,7,6,5,3,2]⟩,⟨N1 18,oa 2 32 8 17,N2,[1,0,10,9,8,4,7,6,5,3,2]⟩,⟨N1 19,of 2 3,N2,[11,1,0,10,9,8,4,7,6,5,3,2]⟩,⟨N2,os 1 19 18,N2,[12,11,1,0,10,9,8,4,7,6,5,3,2]⟩]
abbrev kW:LN:=[1,3,6,8]
abbrev rM(g:SN):List ae:=[qf 23 2 3,⟨N1 24,ol 1 23,N2,[0]⟩,qm 25 0,⟨N1 26,oc (g "a") [u 25,ui 5],N2,[2]⟩,⟨N1 27,.bin .add .no (ui 10) (u 26),N2,[3,2]⟩,qm 28 0,⟨N1 29,oc (g "a") [u 28,ui 8],N2,[5,3,2]⟩,⟨N1 30,.bin .add .no (ui 12) (u 29),N2,[6,5,3,2]⟩,⟨N1 31,.build [z0,z0] [(0,1,(.tmp 27)),(1,1,(.tmp 30))],N2,[4,7,6,5,3,2]⟩,⟨N1 32,.bsl 2 [z0,z0] 1 [(0,(.tmp 31))],N2,[8,4,7,6,5,3,2]⟩,⟨N1 33,.build [z0,(.sl Pa [])] [(0,1,(.const z0)),(1,1,(.tmp 32))],N2,[9,8,4,7,6,5,3,2]⟩,⟨N1 34,.bsl 2 [z0,(.sl Po [])] 1 [(0,(.tmp 33))],N2,[10,9,8,4,7,6,5,3,2]⟩,⟨N1 35,oa 2 32 24 34,N2,[1,0,11,10,9,8,4,7,6,5,3,2]⟩,⟨N1 36,of 2 3,N2,[12,1,0,11,10,9,8,4,7,6,5,3,2]⟩,⟨N2,os 1 36 35,N2,[13,12,1,0,11,10,9,8,4,7,6,5,3,2]⟩]
abbrev kX:LN:=[1,3,6]
abbrev rN(g:SN):List ae:=[qf 43 2 3,⟨N1 44,ol 1 43,N2,[0]⟩,qm 45 4,⟨N1 46,.build [z0,z0] [(0,1,(.tmp 45)),(1,1,(.const (vi 4)))],N2,[2]⟩,qm 47 4,⟨N1 48,obi .add 47 8,N2,[4]⟩,qm 49 0,⟨N1 50,oc (g "a") [u 49,ui 6],N2,[6]⟩,⟨N1 51,.bin .add .no (ui 10) (u 50),N2,[7,6]⟩,⟨N1 52,.build [z0,z0] [(0,1,(.tmp 48)),(1,1,(.tmp 51))],N2,[5,4,8,7,6]⟩,qm 53 4,⟨N1 54,.build [z0,z0] [(0,1,(.tmp 53)),(1,1,(.const (vi 30)))],N2,[10]⟩,⟨N1 55,.bsl 2 [z0,z0] 3 [(0,(.tmp 46)),(1,(.tmp 52)),(2,(.tmp 54))],N2,[3,2,9,5,4,8,7,6,11,10]⟩,⟨N1 56,.build [z0,(.sl Pa [])] [(0,1,(.const (vi 1))),(1,1,(.tmp 55))],N2,[12,3,2,9,5,4,8,7,6,11,10]⟩,⟨N1 57,.bsl 2 [z0,(.sl Po [])] 1 [(0,(.tmp 56))],N2,[13,12,3,2,9,5,4,8,7,6,11,10]⟩,⟨N1 58,oa 2 32 44 57,N2,[1,0,14,13,12,3,2,9,5,4,8,11,10,7,6]⟩,⟨N1 59,of 2 3,N2,[15,1,0,14,13,12,3,2,9,5,4,8,11,10,7,6]⟩,⟨N2,os 1 59 58,N2,[16,15,1,0,14,13,12,3,2,9,5,4,8,11,10,7,6]⟩]
abbrev kY:LN:=[1,7]
abbrev rO(g:SN):List ae:=[qf 60 2 3,⟨N1 61,ol 1 60,N2,[0]⟩,qm 62 4,qm 63 0,⟨N1 64,oc (g "a") [u 63,ui 12],N2,[3]⟩,⟨N1 65,.bin .add .no (ui 12) (u 64),N2,[4,3]⟩,⟨N1 66,oc (g "L") [u 62,ui 5,ui 10,u 65],N2,[2,5,4,3]⟩,⟨N1 67,.build [z0,(.sl Pa [])] [(0,1,(.const (vi 2))),(1,1,(.tmp 66))],N2,[6,2,5,4,3]⟩,⟨N1 68,.bsl 2 [z0,(.sl Po [])] 1 [(0,(.tmp 67))],N2,[7,6,2,5,4,3]⟩,⟨N1 69,oa 2 32 61 68,N2,[1,0,8,7,6,2,5,4,3]⟩,⟨N1 70,of 2 3,N2,[9,1,0,8,7,6,2,5,4,3]⟩,⟨N2,os 1 70 69,N2,[10,9,1,0,8,7,6,2,5,4,3]⟩]
abbrev kZ:LN:=[1,4,6]
abbrev rP(g:SN):List ae:=[qf 74 2 3,⟨N1 75,ol 1 74,N2,[0]⟩,qq 76 (.build [z0,z0] [(0,1,(.const (vi 36))),(1,1,(.const (vi 44)))]),qm 77 0,⟨N1 78,oc (g "a") [u 77,ui 20],N2,[3]⟩,⟨N1 79,.bin .add .no (ui 36) (u 78),N2,[4,3]⟩,⟨N1 80,.build [z0,z0] [(0,1,(.tmp 79)),(1,1,(.const (vi 44)))],N2,[5,4,3]⟩,⟨N1 81,.bsl 2 [z0,z0] 2 [(0,(.tmp 76)),(1,(.tmp 80))],N2,[2,6,5,4,3]⟩,⟨N1 82,.build [z0,(.sl Pa [])] [(0,1,(.const (vi 1))),(1,1,(.tmp 81))],N2,[7,2,6,5,4,3]⟩,⟨N1 83,.bsl 2 [z0,(.sl Po [])] 1 [(0,(.tmp 82))],N2,[8,7,2,6,5,4,3]⟩,⟨N1 84,oa 2 32 75 83,N2,[1,0,9,8,7,2,6,5,4,3]⟩,⟨N1 85,of 2 3,N2,[10,1,0,9,8,7,2,6,5,4,3]⟩,⟨N2,os 1 85 84,N2,[11,10,1,0,9,8,7,2,6,5,4,3]⟩]
abbrev lA:LN:=[1,4,7,9]
abbrev rQ(g:SN):List ae:=[qf 90 2 3,⟨N1 91,ol 1 90,N2,[0]⟩,qm 92 5,⟨N1 93,oi 91 92 2,N2,[1,0,2]⟩,⟨N1 94,of 1 93,N2,[3,1,0,2]⟩,⟨N1 95,ol 1 94,N2,[4,3,1,0,2]⟩,qf 96 2 3,⟨N1 97,ol 1 96,N2,[6]⟩,qm 98 5,⟨N1 99,oi 97 98 2,N2,[7,6,8]⟩,⟨N1 100,of 1 99,N2,[9,7,6,8]⟩,⟨N1 101,ol 1 100,N2,[10,9,7,6,8]⟩,⟨N1 102,.iaV (u 101) (ui 1) 2,N2,[11,10,9,7,6,8]⟩,⟨N1 103,of 0 102,N2,[12,11,10,9,7,6,8]⟩,⟨N1 104,ol 1 103,N2,[13,12,11,10,9,7,6,8]⟩,⟨N1 105,obi .add 104 3,N2,[14,13,12,11,10,9,7,6,8]⟩,⟨N1 106,.iaV (u 95) (ui 1) 2,N2,[5,4,3,1,0,2,15,14,13,12,11,10,9,7,6,8]⟩,⟨N1 107,of 0 106,N2,[16,5,4,3,1,0,2,15,14,13,12,11,10,9,7,6,8]⟩,⟨N2,os 1 107 105,N2,[17,16,5,4,3,1,0,2,15,14,13,12,11,10,9,7,6,8]⟩]
abbrev lB:LN:=[]
def fD(g:SN):bw:=⟨109,[81,83,2,3,18,35,58,69,84],[.cell 2 3 Pa],qS [qq 2 (.alloc [z0,z0,(.sl Pa [])])]<|qS [qq 6 (.build [z0,z0,(.sl Pa [])] [(0,1,(.const (vi 60))),(1,1,(.const (vi 50)))]),qq 3 (.alloc [z0,z0,(.sl Pa [])]),qs 3 3 6]<|.seq (.region Pa (rL g))<|.seq (qS [qm 20 0,qc 21 (g "a") [u 20,ui 3],qbi 22 .gtr 21 0]<|qC 22 (.region Pa (rM g)) (.skip))<|qS [qm 37 0,qc 38 (g "a") [u 37,ui 4],qq 39 (.bin .add .no (ui 36) (u 38)),qm 4 39]<|.seq (qS [qm 40 0,qc 41 (g "a") [u 40,ui 2],qbi 42 .eql 41 0]<|qC 42 (.region Pa (rN g)) (.region Pa (rO g)))<|.seq (qS [qm 71 0,qc 72 (g "a") [u 71,ui 3],qbi 73 .eql 72 0]<|qC 73 (.seq (.region Pa (rP g))<|qS [qf 86 2 3,ql 87 1 86,qn 88 87,qbi 89 .sub 88 1,qm 5 89]<|.region Pa (rQ g)) (.skip))<|.seq (.seq (.frz [(1,94)])<|.region Po [qla 108 3 3,qs 3 2 108])<|.ret⟩
def rR(g:SN):bw:=⟨30,[],[.tmp 8],qS [qmc 8 (.sl Pa [])]<|qS [qm 9 0,qm 10 1,qq 11 (.build [z0,z0] [(0,1,(.tmp 9)),(1,1,(.tmp 10))]),qm 12 0,qm 13 2,qb 14 .add 12 13,qm 15 1,qq 16 (.build [z0,z0] [(0,1,(.tmp 14)),(1,1,(.tmp 15))]),qm 17 0,qm 18 2,qb 19 .add 17 18,qm 20 1,qm 21 3,qb 22 .add 20 21,qq 23 (.build [z0,z0] [(0,1,(.tmp 19)),(1,1,(.tmp 22))]),qm 24 0,qm 25 1,qm 26 3,qb 27 .add 25 26,qq 28 (.build [z0,z0] [(0,1,(.tmp 24)),(1,1,(.tmp 27))]),qq 29 (.bsl 2 [z0,z0] 4 [(0,(.tmp 11)),(1,(.tmp 16)),(2,(.tmp 23)),(3,(.tmp 28))]),qm 8 29]<|.ret⟩
def aSx{A:af}{g:SN}(h:Has A g "ay" (gE g))(ht:fR A g) (qt:∀d:Nat,d<=3->dI A (g "n") [vi d] (aFd Po (d+1))):dI A (g "ay") [vi 3] (aFd Pa 4):=by
 refine h.gen (by simp[gE]) (λn=>cB) ?_;intro l i o v H hl hlt ho;have h2:dI A (g "n") [vi 2] (aFd Po 3):=qt 2 deT;have h3:dI A (g "n") [vi 3] (aFd Po 4):=qt 3 deT;have gn:AR.wrap 2=2:=wrap_i64 deT deT;simp only[gE];simp only[go_sem,seval];refine bB (bA ht (m:=4) deT) hl (i:=i) (by simp only[go_sem,seval,eK,hlt,ho]) ?_;rintro val i1 ⟨x,rfl,jr,lz⟩;simp only[go_sem,seval,hlt,fN];refine aD (λhb=>?_) (λhb=>?_)
 ·simp only[go_sem,seval,hlt,gn];refine bB h2 hl (i:=i1) (by simp only[go_sem,seval,aP,hlt]) ?_;rintro val i2 ⟨a,rfl,ha⟩;simp only[go_sem,seval,hlt,aR,pA,bQ (aV _)];refine aY (aq:=mA) rfT rfT ?_;simp only[go_sem,seval,mA];refine eB (bA ht (m:=2) deT) hl (i:=i2) (by simp only[go_sem,seval,aP,hlt]) ?_;rintro val i3 ⟨y,rfl,oj,tc⟩;have zz:AR.wrap (9+y)=9+y:=wrap_i64 omT omT;have pk:∀e:Expr,FW 3 (aF e)=aF e:=λe=>CH (by rw[pA];exact AQ _);have bl:(H.length+1==o)=false:=soT;simp only[go_sem,seval,hlt,aR,zz,gn,pA,pk,aK (aV _),bR (aV _)];refine eB h2 hl (i:=i3) (by simp only[go_sem,seval,aP,hlt]) ?_;rintro val i4 ⟨b,rfl,dp⟩;simp only[go_sem,seval,hlt,aR,pA,aK (aV _),bR (aV _),eH,dG,bl,aL,aW,dC (aV _),aA (aC aU _)];refine⟨⟨i4,rfl⟩,.mk (9+y) 0 [a,b],rfl,.mk _ _ _ _ _ ?_ (.inr ⟨rfl,.inr ⟨rfl,.inr ⟨rfl,omT,omT⟩⟩⟩)⟩;intro e he;simp only[BD,CC,or_false]at he;rcases he with rfl | rfl
  ·exact ha
  exact dp
 simp only[go_sem,seval];refine bB h3 hl (i:=i1) (by simp only[go_sem,seval,aP,hlt]) ?_;rintro val i2 ⟨a,rfl,ha⟩;have pk:FW 3 (aF a)=aF a:=CH (by rw[pA];exact AQ _);simp only[go_sem,seval,hlt,aR,pA,bQ (aV _),pk,aS (aV _),aK (aV _),aW,dC (aV _),aA (aC aU _)];exact⟨⟨i2,rfl⟩,a,rfl,ha.top⟩
abbrev lC(g:SN):ag:=.seq (qS [qm 32 11,qm 33 10,qb 34 .lss 32 33]<|qC 34 (.skip) (.exit 4))<|.seq (.block 5 (qS [qm 37 0,qc 38 (g "a") [u 37,ui 21],qq 39 (.bin .add .no (ui 14) (u 38)),qm 40 0,qc 41 (g "a") [u 40,ui 5],qq 42 (.bsl 1 [z0] 5 [(0,(.const z0)),(1,(.const z0)),(2,(.const z0)),(3,(.const (.int .i64 (-1)))),(4,(.const (vi 1)))]),qm 43 0,qc 44 (g "a") [u 43,ui 5],qi 45 42 44 1,ql 46 1 45,qq 47 (.build [z0,z0,z0] [(0,1,(.tmp 39)),(1,1,(.tmp 41)),(2,1,(.tmp 46))]),qq 12 (.alloc [z0,z0,z0]),qs 3 12 47]<|.seq (qS [qm 48 0,qc 49 (g "a") [u 48,ui 6],qbi 50 .eql 49 0]<|qC 50 (qR [qf 51 1 12,ql 52 1 51,qq 53 (.build [z0,z0,z0] [(0,1,(.const (.int .i64 (-1)))),(1,1,(.tmp 52))]),qs 3 12 53]) (.skip))<|.region Po [qm 54 9,qla 55 3 12,qq 56 (.bsl 3 [z0,z0,z0] 1 [(0,(.tmp 55))]),qa 57 3 24 54 56,qm 9 57]))<|.region Po [qm 35 11,qbi 36 .add 35 1,qm 11 36]
abbrev rS:LN:=[32,33,34,37,38,39,40,41,42,43,44,45,46,47,12,48,49,50,51,52,53,54,55,56,57,9,35,36,11]
abbrev lD(g:SN):ag:=.seq (qS [qm 24 8,qm 25 5,qb 26 .lss 24 25]<|qC 26 (.skip) (.exit 2))<|.seq (.block 3 (qS [qmc 9 (.sl Pa [])]<|qS [qm 29 0,qc 30 (g "a") [u 29,ui 4],qq 31 (.bin .add .no (ui 1) (u 30)),qm 10 31]<|.seq (qS [qmc 11 z0]<|.block 4 (.loop (lC g)))<|.region Po [qm 58 7,qm 59 9,qq 60 (.bsl 1 [(.sl Po [])] 1 [(0,(.tmp 59))]),qa 61 1 24 58 60,qm 7 61]))<|.region Po [qm 27 8,qbi 28 .add 27 1,qm 8 28]
abbrev rT:LN:=[24,25,26,9,29,30,31,10,11,32,33,34,37,38,39,40,41,42,43,44,45,46,47,12,48,49,50,51,52,53,54,55,56,57,9,35,36,11,58,59,60,61,7,27,28,8]
abbrev rU(g:SN):ag:=.seq (qS [qm 19 6,qm 20 4,qb 21 .lss 19 20]<|qC 21 (.skip) (.exit 0))<|.seq (.block 1 (qS [qmc 7 (.sl Pa [])]<|.seq (qS [qmc 8 z0]<|.block 2 (.loop (lD g)))<|.region Po [qf 62 0 3,ql 63 1 62,qm 64 7,qq 65 (.bsl 1 [(.sl Po [])] 1 [(0,(.tmp 64))]),qa 66 1 24 63 65,qf 67 0 3,qs 1 67 66]))<|.region Po [qm 22 6,qbi 23 .add 22 1,qm 6 23]
def fE(g:SN):bw:=⟨69,[2,3,12,57,61,66],[.cell 2 1 Pa],qS [qq 2 (.alloc [(.sl Pa [])])]<|qS [qq 3 (.alloc [(.sl Pa [])])]<|qS [qm 13 0,qc 14 (g "a") [u 13,ui 2],qq 15 (.bin .add .no (ui 1) (u 14)),qm 4 15]<|qS [qm 16 0,qc 17 (g "a") [u 16,ui 3],qq 18 (.bin .add .no (ui 1) (u 17)),qm 5 18]<|.seq (qS [qmc 6 z0]<|.block 0 (.loop (rU g)))<|qS [qla 68 1 3,qs 1 2 68]<|.ret⟩
abbrev bGG(n:ct):Prop:=(-1<=n.step/\n.step<=48)/\(0<=n.length/\n.length<=4) /\ -1<=n.alter/\n.alter<=1
def bGG.ok{n:ct}(h:bGG n):n.Ok:=by obtain⟨h1,h2,h3⟩:=h;constructor<;>(unfold eA;omega)
abbrev aZI(b:List ct):Prop:=1<=b.length/\b.length<=4/\∀n∈b,bGG n
abbrev aOw(h:List (List ct)):Prop:=1<=h.length/\h.length<=3/\∀b∈h,aZI b
abbrev bIl(m:List (List (List ct))):Prop:=1<=m.length/\m.length<=2/\(∀h∈m,aOw h)/\∃c:Nat,∀h∈m,h.length=c
abbrev aNq(v:AV):Prop:=∃m:List (List (List ct)),v=.agg [.sl Po (m.map bS)]/\bIl m
def ew.M9{id k:Nat}{rows:List LA}{v:AV}{o:ah}(h:ew id k rows v o)(bl:rows≠[])(hd:gG rows=Pa):∃l o',(∀H,H[id]? = N1 o->aA2 H v=N1 (.sl Po rows,l))/\(∀H,H[id]? = N1 o->Go.AM.dw H v=N1 (.sl Po rows,l))/\(∀H,H[id]? = N1 o->dL H l=H.set id o')/\(∀b wr,b<=id->bE b wr l=wr):=by
 obtain⟨ver,rfl,rfl⟩:=h.inv bl;obtain⟨f,l,o',h1,h2,h3⟩:=h.dw hd;cases h with
 |obj=>
  have key:∀H:LO,H[id]? = N1 (.vec ver k rows)->aA2 H (.sr id ver rows.length)=N1 (.sl Po rows,[id]):=by
   intro H ho;show (match H[id]? with
    |some (.vec v' _ bt)=>if v'=ver/\bt.length=rows.length/\bt.all (λr=>r.all AV.still)then N1 (AV.sl Po bt,[id])else N2
    |_=>N2)=_
   rw[ho];simp only[aT hd,and_self,Zv]
  refine⟨[id],.gone ver,key,key,λH ho=>?_,λb wr hb=>?_⟩
  ·simp only[dL,ho];rfl
  unfold bE;rw[Zx omT];rfl
def aHk{α β:Type}{f:α->β}{l:List α}(h:1<=l.length):l.map f≠[]:=by intro hn;have:=congrArg FN hn;simp only[AF,AZ]at this;omega
def aJI{A:af}{g:SN}(ht:fR A g){H:LO}{Q:bf->bN->LO->LN->Prop}{tg}{l:List Int}(hl:jP l){o v:Nat}(hlt:o<H.length) {i:Int} {o0 o1 o2 o3 o4 o5:ah} {c:Int} (jg:1<=c) (mj:c<=4) {ρ:bN} (e0:ρ 0=.ptr o v 0) (e10:ρ 10=vi c) (e9:ρ 9=.sl Pa []) (e11:ρ 11=vi 0) (hQ:∀ρ' i' o2 o3 (r:List ct),(∀t,rS.contains t=Po->ρ' t=ρ t)->aZI r->ew (H.length+3) 3 (r.map bV) (ρ' 9) o3->Q (.exit 4) ρ' (H.set o (.box v (aM l i'))++[o0,o1,o2,o3,o4,o5]) [o]):wl A 69 ⟨H.length,[2,3,12,57,61,66]⟩ (lC g) ρ (H.set o (.box v (aM l i))++[o0,o1,o2,o3,o4,o5]) [o] Q tg:=by
 refine bJ (λj ρ1 H1 wr=>wr=[o]/\ρ1 11=vi j/\∃i' o2 o3,∃r:List ct,H1=H.set o (.box v (aM l i'))++[o0,o1,o2,o3,o4,o5]/\ew (H.length+3) 3 (r.map bV) (ρ1 9) o3/\r.length=j/\∀a∈r,bGG a) c.toNat
  (λρ1 H1 wr=>wr=[o]/\∃i' o2 o3,∃r:List ct,H1=H.set o (.box v (aM l i'))++[o0,o1,o2,o3,o4,o5]/\ew (H.length+3) 3 (r.map bV) (ρ1 9) o3/\aZI r)
  cB rfl ⟨rfl,e11,i,o2,o3,[],rfl,by rw[e9];exact .nil _,rfl,siT⟩ ?_ (by
   rintro ρ' H' ba ⟨rfl,i',o2,o3,r,rfl,hg,hr⟩ hf;exact hQ ρ' i' o2 o3 r hf hr hg)
 rintro j ρ1 H1 dc mo ⟨rfl,e11,i',o2,o3,r,rfl,hg,gu,il⟩ hf;have f0:ρ1 0=.ptr o v 0:=(hf 0 rfl).trans e0;have f10:ρ1 10=vi c:=(hf 10 rfl).trans e10;simp only[go_sem,seval,f10,e11];refine aD (λhb=>?_) (λhb=>?_)
 ·have cr:j<c.toNat:=by simp at hb;omega
  simp only[go_sem,seval,f0];refine bB (bA ht (m:=21) deT) hl (i:=i') (by simp only[go_sem,seval,aP,hlt]) ?_;rintro val i2 ⟨x,rfl,jr,lz⟩;have wk:AR.wrap (14+x)=14+x:=wrap_i64 omT omT;simp only[go_sem,seval,hlt,aR,wk];refine bB (bA ht (m:=5) deT) hl (i:=i2) (by simp only[go_sem,seval,aP,hlt]) ?_;rintro val i3 ⟨y,rfl,oj,tc⟩;simp only[go_sem,seval,hlt,aR];refine bB (bA ht (m:=5) deT) hl (i:=i3) (by simp only[go_sem,seval,aP,hlt]) ?_;rintro val i4 ⟨z,rfl,me,rr⟩;obtain⟨n,hn,cx⟩:=aQk [0,0,0,-1,1] me rr;simp only[DR,bF]at cx;have yh : -1<=n/\n<=1:=by have:∀n∈([0,0,0,-1,1]:List Int),-1<=n/\n<=1:=deT;exact this _ hn
  simp only[go_sem,seval,hlt,aR,me,cx];refine bB (bA ht (m:=6) deT) hl (i:=i4) (by simp only[go_sem,seval,aP,hlt]) ?_;rintro val i5 ⟨w,rfl,od,dy⟩;simp only[go_sem,seval,hlt,aR];refine aD (λdp=>?_) (λdp=>?_)
  ·obtain⟨v',o',eu,db⟩:=hg.app (new:=[[vi (-1),vi y,vi 0]]) (bytes:=24) siT rfT (by rw[AF,gu];simp;omega);rw[show r.map bV++[[vi (-1),vi y,vi 0]]=(r++[ct.mk (-1) y 0]).map bV by simp[bV]]at eu;simp only[go_sem,seval,db,e11];rw[dW omT];refine⟨cr,rfl,i5,_,o',r++[ct.mk (-1) y 0],rfl,eu,by simp[gu], ?_⟩;exact pS il (⟨⟨by show (-1:Int) <= -1;decide,by show (-1:Int)<=48;decide⟩,⟨oj,by show y<=4;omega⟩,by show (-1:Int)<=0;decide,by show (0:Int)<=1;decide⟩)
  obtain⟨v',o',eu,db⟩:=hg.app (new:=[[vi (14+x),vi y,vi n]]) (bytes:=24) siT rfT (by rw[AF,gu];simp;omega);rw[show r.map bV++[[vi (14+x),vi y,vi n]]=(r++[ct.mk (14+x) y n]).map bV by simp[bV]]at eu;simp only[go_sem,seval,db,e11];rw[dW omT];refine⟨cr,rfl,i5,_,o',r++[ct.mk (14+x) y n],rfl,eu,by simp[gu], ?_⟩;exact pS il (⟨⟨by show -1<=14+x;omega,by show 14+x<=48;omega⟩,⟨oj,by show y<=4;omega⟩,yh⟩)
 have cr:j=c.toNat:=by simp at hb;omega
 subst cr;simp only[go_sem,seval];exact⟨i',o2,o3,r,rfl,hg,omT,omT,il⟩
def aLi{A:af}{g:SN}(ht:fR A g){H:LO}{Q:bf->bN->LO->LN->Prop}{tg}{l:List Int}(hl:jP l){o v:Nat}(hlt:o<H.length) {i:Int} {o0 o1 o2 o3 o4 o5:ah} {c:Int} (jg:1<=c) (mj:c<=3) {ρ:bN} (e0:ρ 0=.ptr o v 0) (e5:ρ 5=vi c) (e7:ρ 7=.sl Pa []) (e8:ρ 8=vi 0) (hQ:∀ρ' i' o2 o3 o4 (r:List (List ct)),(∀t,rT.contains t=Po->ρ' t=ρ t)->aOw r/\r.length=c.toNat->ew (H.length+4) 1 (r.map gH) (ρ' 7) o4->Q (.exit 2) ρ' (H.set o (.box v (aM l i'))++[o0,o1,o2,o3,o4,o5]) [o]):wl A 69 ⟨H.length,[2,3,12,57,61,66]⟩ (lD g) ρ (H.set o (.box v (aM l i))++[o0,o1,o2,o3,o4,o5]) [o] Q tg:=by
 refine bJ (λj ρ1 H1 wr=>wr=[o]/\ρ1 8=vi j/\∃i' o2 o3 o4,∃r:List (List ct),H1=H.set o (.box v (aM l i'))++[o0,o1,o2,o3,o4,o5]/\ew (H.length+4) 1 (r.map gH) (ρ1 7) o4/\r.length=j/\∀a∈r,aZI a) c.toNat
  (λρ1 H1 wr=>wr=[o]/\∃i' o2 o3 o4,∃r:List (List ct),H1=H.set o (.box v (aM l i'))++[o0,o1,o2,o3,o4,o5]/\ew (H.length+4) 1 (r.map gH) (ρ1 7) o4/\aOw r/\r.length=c.toNat)
  cB rfl ⟨rfl,e8,i,o2,o3,o4,[],rfl,by rw[e7];exact .nil _,rfl,siT⟩ ?_ (by
   rintro ρ' H' ba ⟨rfl,i',o2,o3,o4,r,rfl,hg,hr⟩ hf;exact hQ ρ' i' o2 o3 o4 r hf hr hg)
 rintro j ρ1 H1 dc mo ⟨rfl,e8,i',o2,o3,o4,r,rfl,hg,gu,il⟩ hf;have f0:ρ1 0=.ptr o v 0:=(hf 0 rfl).trans e0;have f5:ρ1 5=vi c:=(hf 5 rfl).trans e5;simp only[go_sem,seval,f5,e8];refine aD (λhb=>?_) (λhb=>?_)
 ·have cr:j<c.toNat:=by simp at hb;omega
  simp only[go_sem,seval,f0];refine bB (bA ht (m:=4) deT) hl (i:=i') (by simp only[go_sem,seval,aP,hlt]) ?_;rintro val i2 ⟨x,rfl,jr,lz⟩;have wk:AR.wrap (1+x)=1+x:=wrap_i64 omT omT;simp only[go_sem,seval,hlt,aR,wk];refine aJI ht hl hlt (c:=1+x) omT omT (by simp only[go_sem,seval,f0]) (by simp only[go_sem,seval]) (by simp only[go_sem,seval]) (by simp only[go_sem,seval]) ?_;intro ρ2 i4 o2' o3' b cq dp qu;have g7:ρ2 7=ρ1 7:=by rw[cq 7 rfl];simp only[go_sem,seval]
  have g8:ρ2 8=vi j:=by rw[cq 8 rfl];simp only[go_sem,seval,e8]
  obtain⟨lf,o3'',h1,h2,D4,T0⟩:=qu.M9 (aHk dp.1) (aC aD9 _);obtain⟨v',o',eu,db⟩:=hg.app (new:=[[.sl Po (b.map bV)]]) (bytes:=24) siT rfT (by rw[AF,gu];simp;omega);rw[show r.map gH++[[.sl Po (b.map bV)]]=(r++[b]).map gH by simp[gH]]at eu;simp only[go_sem,seval,g7,g8,h2,D4,T0,db];rw[dW omT];refine⟨cr,rfl,i4,o2',o3'',o',r++[b],rfl,eu,by simp[gu], ?_⟩;exact pS il dp
 have cr:j=c.toNat:=by simp at hb;omega
 subst cr;simp only[go_sem,seval];exact⟨i',o2,o3,o4,r,rfl,hg,⟨omT,omT,il⟩,gu⟩
def aOx{A:af}{g:SN}(h:Has A g "aC" (fE g))(ht:fR A g):dI A (g "aC") [] aNq:=by
 refine h.gen (by simp[fE]) (λn=>cB) ?_;intro l i o v H hl hlt ho;simp only[fE];simp only[go_sem,seval];refine bB (bA ht (m:=2) deT) hl (i:=i) (by simp only[go_sem,seval,eK,hlt,ho]) ?_;rintro val i1 ⟨x,rfl,jr,lz⟩;have wk:AR.wrap (1+x)=1+x:=wrap_i64 omT omT;simp only[go_sem,seval,hlt,fN,wk];refine bB (bA ht (m:=3) deT) hl (i:=i1) (by simp only[go_sem,seval,aP,hlt]) ?_;rintro val i2 ⟨y,rfl,oj,tc⟩;have zz:AR.wrap (1+y)=1+y:=wrap_i64 omT omT;simp only[go_sem,seval,hlt,aR,zz];refine bJ (id:=0) (λj ρ1 H1 wr=>wr=[o]/\ρ1 6=vi j/\∃i' o2 o3 o4 o5 w,∃rows:List (List (List ct)),H1=H.set o (.box v (aM l i'))++[.box 1 [.sl Pa []],.box 1 [w],o2,o3,o4,o5]/\ew (H.length+5) 1 (rows.map bS) w o5/\rows.length=j/\∀a∈rows,aOw a/\a.length=(1+y).toNat) (1+x).toNat
  (λρ1 H1 wr=>wr=[o]/\∃i' o2 o3 o4 o5 w,∃rows:List (List (List ct)),H1=H.set o (.box v (aM l i'))++[.box 1 [.sl Pa []],.box 1 [w],o2,o3,o4,o5]/\ew (H.length+5) 1 (rows.map bS) w o5/\rows.length=(1+x).toNat/\∀a∈rows,aOw a/\a.length=(1+y).toNat)
  cB rfl ⟨by simp only[go_sem,seval],by simp only[go_sem,seval],i2,.gone 0,.gone 0,.gone 0,.gone 0,.sl Pa [],[],rfl,.nil _,rfl,siT⟩ ?_ ?_
 ·rintro j ρ1 H1 dc mo ⟨rfl,e6,i',o2,o3,o4,o5,w,rows,rfl,hg,gu,il⟩ hf;have e0:ρ1 0=.ptr o v 0:=by rw[hf 0 rfl];simp only[go_sem,seval]
  have e3:ρ1 3=.ptr (H.length+1) 1 0:=by rw[hf 3 rfl];simp only[go_sem,seval]
  have e4:ρ1 4=vi (1+x):=by rw[hf 4 rfl];simp only[go_sem,seval]
  have e5:ρ1 5=vi (1+y):=by rw[hf 5 rfl];simp only[go_sem,seval]
  simp only[go_sem,seval,e4,e6];refine aD (λhb=>?_) (λhb=>?_)
  ·have cr:j<(1+x).toNat:=by simp at hb;omega
   simp only[go_sem,seval];refine aLi ht hl hlt (c:=1+y) omT omT (by simp only[go_sem,seval,e0]) (by simp only[go_sem,seval,e5]) (by simp only[go_sem,seval]) (by simp only[go_sem,seval]) ?_;intro ρ2 i4 o2' o3' o4' r cq hr qu;have g3:ρ2 3=.ptr (H.length+1) 1 0:=by rw[cq 3 rfl];simp only[go_sem,seval,e3]
   have g6:ρ2 6=vi j:=by rw[cq 6 rfl];simp only[go_sem,seval,e6]
   obtain⟨lf,o4'',h1,h2,D4,T0⟩:=qu.M9 (aHk hr.1.1) (aC aFA _);obtain⟨v',o',eu,db⟩:=hg.app (new:=[[.sl Po (r.map gH)]]) (bytes:=24) siT rfT (by rw[AF,gu];simp;omega);rw[show rows.map bS++[[.sl Po (r.map gH)]]=(rows++[r]).map bS by simp[bS]]at eu;simp only[go_sem,seval,g3,g6,h2,D4,T0,db,eu.aj,eu.ak];rw[dW omT];refine⟨cr,rfl,i4,o2',o3',o4'',o',v',rows++[r],rfl,eu,by simp[gu], ?_⟩;exact pS il hr
  have cr:j=(1+x).toNat:=by simp at hb;omega
  subst cr;simp only[go_sem,seval];exact⟨i',o2,o3,o4,o5,w,rows,rfl,hg,gu,il⟩
 rintro ρ2 H2 en ⟨rfl,i',o2,o3,o4,o5,w,rows,rfl,hg,gu,il⟩ hf;have e2:ρ2 2=.ptr H.length 1 0:=by rw[hf 2 rfl];simp only[go_sem,seval]
 have e3:ρ2 3=.ptr (H.length+1) 1 0:=by rw[hf 3 rfl];simp only[go_sem,seval]
 obtain⟨ver,e4,rfl⟩:=hg.inv (aHk omT);simp only[go_sem,seval,e2,e3,e4,hlt,aT (aC cR _),aA (aC cR _),aA (aC aU _),aW];exact⟨⟨i',rfl⟩,rows,rfl,omT,omT,λr hr=>(il r hr).1,_,λr hr=>(il r hr).2⟩
def lK(g:SN):ag:=.block 0 (qS [qbi 13 .eql 8 0,qm 12 13]<|qC 12 (qR [qm 14 0,qc 15 (g "O") [u 14],qf 16 1 5,qs 1 16 15]) (qS [qbi 18 .eql 8 1,qm 17 18]<|qC 17 (qR [qm 19 0,qc 20 (g "ay") [u 19,ui 3],qf 21 2 5,qs 3 21 20]) (qS [qbi 23 .eql 8 2,qm 22 23]<|qC 22 (qR [qm 24 0,qc 25 (g "aD") [u 24],qf 26 5 5,qs 2 26 25]) (qS [qbi 28 .eql 8 3,qm 27 28]<|qC 27 (qR [qm 29 0,qc 30 (g "aA") [u 29],qf 31 7 5,qs 1 31 30]) (qS [qbi 33 .eql 8 4,qm 32 33]<|qC 32 (qR [qm 34 0,qc 35 (g "az") [u 34],qf 36 8 5,qs 3 36 35]) (qS [qbi 38 .eql 8 5,qm 37 38]<|qC 37 (qR [qm 39 0,qc 40 (g "aC") [u 39],qf 41 11 5,qs 1 41 40]) (qR [qm 9 0,qc 10 (g "aB") [u 9],qf 11 12 5,qs 1 11 10])))))))
def fT(g:SN):bw:=⟨43,[4,5],[.cell 4 13 Pa],qS [qq 4 (.alloc [z0,(.sl Pa []),z0,z0,(.sl Pa []),z0,(.sl Pa []),(.sl Pa []),z0,z0,(.sl Pa []),(.sl Pa []),(.sl Pa [])])]<|qS [qm 6 1,qq 7 (.build [z0,(.sl Pa []),z0,z0,(.sl Pa []),z0,(.sl Pa []),(.sl Pa []),z0,z0,(.sl Pa []),(.sl Pa []),(.sl Pa [])] [(0,1,(.tmp 6))]),qq 5 (.alloc [z0,(.sl Pa []),z0,z0,(.sl Pa []),z0,(.sl Pa []),(.sl Pa []),z0,z0,(.sl Pa []),(.sl Pa []),(.sl Pa [])]),qs 13 5 7]<|.seq (qS [qm 8 1]<|lK g)<|qS [qla 42 13 5,qs 13 4 42]<|.ret⟩
abbrev P4(x y w h:Int):List (Int×Int):=[(x,y),(x+w,y),(x+w,y+h),(x,y+h)]
abbrev bHQ(n m:Nat)(f:Int->Int->Shape):List Shape:=(GZ n).flatMap λ(i:Nat)=>(GZ m).map λ(j:Nat)=>f i j
def bEo{n m:Nat}{f:Int->Int->Shape}{x y:Int}(hx:0<=x)(lz:x<n)(hy:0<=y)(tc:y<m):f x y∈bHQ n m f:=by obtain⟨i,rfl⟩:=DN hx;obtain⟨j,rfl⟩:=DN hy;exact IM.2 ⟨i,HE.2 (show i<n by omega),DB.2 ⟨j,HE.2 (show j<m by omega),rfl⟩⟩
def bE7:List Shape:=bHQ 4 9 (λx y=>⟨2,P4 2 2 (24+x) (30+y)⟩)++(bHQ 5 8 (λx y=>⟨0,[(10+x,12+y)]⟩)++(bHQ 4 6 (λx y=>⟨1,[(36+x,4),(36+x+8,10+y),(36+x,30)]⟩) ++
 (bHQ 4 12 (λx y=>⟨2,P4 (36+x) 5 10 (12+y)⟩)++bHQ 20 1 (λx y=>⟨1,[(36,44),(36+x+3,44)]⟩))))
def bIm(a:Shape):Bool:=decide (0<=a.kind)&&decide (a.kind<=2)&&decide (1<=a.points.length)&&decide (a.points.length<=4)&&a.points.all λp=>decide (0<=p.1)&&decide (p.1<=60)&&decide (0<=p.2)&&decide (p.2<=50)
def bGH:bE7.all bIm=true:=cB
def bEp{a:Shape}(h:a∈bE7):(0<=a.kind/\a.kind<=2)/\(1<=a.points.length/\a.points.length<=4)/\∀p∈a.points,(0<=p.1/\p.1<=60)/\0<=p.2/\p.2<=50:=by have:=AO.1 bGH a h;simp only[bIm,AI,decide_eq_true_eq,AO]at this;exact⟨this.1.1.1,⟨this.1.1.2,this.1.2⟩,λp hp=>by have:=this.2 p hp;omega⟩
def bHr{a:Shape}(h:a∈bE7):a.Ok:=by obtain⟨h1,h2,h3⟩:=bEp h;exact⟨by unfold eA;omega,omT,λp hp=>by have:=h3 p hp;unfold eA;omega⟩
def bHs(s:List Shape):Prop:=(∀a∈s,a∈bE7)/\∃a r,s=a::r/\a.kind=2
def bHs.app{s:List Shape}(h:bHs s){a:Shape}(ha:a∈bE7):bHs (s++[a]):=by obtain⟨h1,b,r,rfl,h2⟩:=h;exact⟨λx hx=>by rcases AY.1 hx with hx | hx;exact h1 x hx;rw[CG.1 hx];exact ha,b,r++[a],rfl,h2⟩
abbrev bGI(s:List Shape):Prop:=(2<=s.length/\s.length<=4)/\bHs s
abbrev aNr(v:AV):Prop:=∃s:List Shape,v=.agg [vi 60,vi 50,.sl Po (s.map aH)]/\bGI s
def cV(k:Int):Block:=⟨k,[],.mk 0 0 [],0,[],[],0,0,[],[],[]⟩
def aCH:eA 0:=by constructor<;>decide
def aQx:(Expr.mk 0 0 []).Ok:=.mk _ _ _ aCH aCH siT siT
def oJ{k:Int}(hk:eA k):(cV k).Ok:=by constructor<;>first | exact hk | exact aCH | exact aQx | (simp[cV,gY,cP];done)
inductive kf:Block->Prop where
 |text {r:List mr}:bGD r->kf { cV 0 with runs:=r }
 |form {e:Expr}:Deep Pa 4 e->kf { cV 1 with expr:=e }
 |col {op:Int} {a:List Int}:bIk op a->kf { cV 2 with dn:=op,eg:=a }
 |cd {g:List (List Str)}:bHW g->kf { cV 3 with cd:=g }
 |fig {s:List Shape}:bGI s->kf { cV 4 with w:=60,h:=50,aw:=s }
 |mel {m:List (List (List ct))}:bIl m->kf { cV 5 with bo:=m }
 |lst {l:List Str}:bHc l->kf { cV 6 with lines:=l }
def bGJ{s:Str}(h:s∈mq):s.length<=60:=(by decide:∀s∈mq,s.length<=60) s h
def kf.ok{b:Block}(hb:kf b):b.Ok:=by
 have z8:∀k:Int,0<=k->k<=60->eA k:=λk h0 h1=>by unfold eA;omega
 have hk:∀k:Int,0<=k->k<=6->eA k:=λk h0 h1=>z8 k h0 omT;cases hb with
 |text h=>exact { oJ (hk 0 deT deT)with vw:=HX h.2.1 deT,runs:=λa ha=>(h.2.2.1 a ha).1 }
 |form h=>exact { oJ (hk 1 deT deT)with expr:=h.ok.1,size:=HX h.ok.2 deT }
 |col h=>exact { oJ (hk 2 deT deT)with dn:=z8 _ (Jo deT h.1.1) (Jo h.1.2 deT),tj:=HX h.2.1.2 deT,eg:=λn hn=>by have:=h.2.2 n hn;unfold eA;omega }
 |cd h=>exact { oJ (hk 3 deT deT)with uu:=HX h.2.1 deT,cd:=λx hx=>⟨by have:=(h.2.2.1 x hx).2.1;omega,λs hs=>by have:=bDR ((h.2.2.1 x hx).2.2 s hs);show s.length<=1000;omega⟩ }
 |fig h=>exact { oJ (hk 4 deT deT)with w:=z8 60 deT deT,h:=z8 50 deT deT,fg:=HX h.1.2 deT,aw:=λa ha=>bHr (h.2.1 a ha) }
 |mel h=>exact { oJ (hk 5 deT deT)with uv:=HX h.2.1 deT,bo:=λx hx=>⟨by have:=(h.2.2.1 x hx).2.1;omega,λy hy=>⟨by have:=((h.2.2.1 x hx).2.2 y hy).2.1;omega,λn hn=>(((h.2.2.1 x hx).2.2 y hy).2.2 n hn).ok⟩⟩ }
 |lst h=>exact { oJ (hk 6 deT deT)with vz:=HX h.2.1 deT,lines:=λs hs=>by have:=bGJ (h.2.2 s hs);show s.length<=1000;omega }
abbrev aMn(k:Int)(v:AV):Prop:=∃b:Block,v=.agg (aE b)/\b.kind=k/\kf b
def aQy{A:af}{g:SN}(h:Has A g "Y" (fT g)) (hr:dI A (g "O") [] aQn) (he:dI A (g "ay") [vi 3] (aFd Pa 4)) (hs:dI A (g "aD") [] aVw) (hg:dI A (g "aA") [] aTk) (hf:dI A (g "az") [] aNr) (hm:dI A (g "aC") [] aNq) (hn:dI A (g "aB") [] aQo) {k:Int} (Rj:0<=k) (Ch:k<7):dI A (g "Y") [vi k] (aMn k):=by
 refine h.gen (by simp[fT]) (λn=>cB) ?_;intro l i o v H hl hlt ho;have ru:k=0∨k=1∨k=2∨k=3∨k=4∨k=5∨k=6:=omT;simp only[fT,lK];rcases ru with rfl | rfl | rfl | rfl | rfl | rfl | rfl
 ·simp only[go_sem,seval];refine bB hr hl (i:=i) (by simp only[go_sem,seval,eK,hlt,ho]) ?_;rintro val i1 ⟨r,rfl,hM⟩;simp only[go_sem,seval,hlt,fN,aW,aA (aC cA _),aA (aC aU _)];exact⟨⟨i1,rfl⟩,{ cV 0 with runs:=r },by simp[aE,cV,aF,gO],rfl,.text hM⟩
 ·simp only[go_sem,seval];refine bB he hl (i:=i) (by simp only[go_sem,seval,eK,hlt,ho]) ?_;rintro val i1 ⟨⟨op,n,kids⟩,rfl,hd⟩;simp only[aF,bD];simp only[go_sem,seval,hlt,fN,aW,aA (aC aV _),aA (aC aU _)];exact⟨⟨i1,rfl⟩,{ cV 1 with expr:=.mk op n kids },by simp[aE,cV,aF,bD],rfl,.form hd⟩
 ·simp only[go_sem,seval];refine bB hs hl (i:=i) (by simp only[go_sem,seval,eK,hlt,ho]) ?_;rintro val i1 ⟨op,a,rfl,hM⟩;simp only[go_sem,seval,hlt,fN,aW,aA (aC aU _)];exact⟨⟨i1,rfl⟩,{ cV 2 with dn:=op,eg:=a },by simp[aE,cV,aF,gO],rfl,.col hM⟩
 ·simp only[go_sem,seval];refine bB hg hl (i:=i) (by simp only[go_sem,seval,eK,hlt,ho]) ?_;rintro val i1 ⟨r,rfl,hM⟩;simp only[go_sem,seval,hlt,fN,aW,aA (aC cU _),aA (aC aU _)];exact⟨⟨i1,rfl⟩,{ cV 3 with cd:=r },by simp[aE,cV,aF,gO],rfl,.cd hM⟩
 ·simp only[go_sem,seval];refine bB hf hl (i:=i) (by simp only[go_sem,seval,eK,hlt,ho]) ?_;rintro val i1 ⟨s,rfl,hM⟩;simp only[go_sem,seval,hlt,fN,aW,aA (aC bW _),aA (aC aU _)];exact⟨⟨i1,rfl⟩,{ cV 4 with w:=60,h:=50,aw:=s },by simp[aE,cV,aF,gO],rfl,.fig hM⟩
 ·simp only[go_sem,seval];refine bB hm hl (i:=i) (by simp only[go_sem,seval,eK,hlt,ho]) ?_;rintro val i1 ⟨m,rfl,hM⟩;simp only[go_sem,seval,hlt,fN,aW,aA (aC cR _),aA (aC aU _)];exact⟨⟨i1,rfl⟩,{ cV 5 with bo:=m },by simp[aE,cV,aF,gO],rfl,.mel hM⟩
 simp only[go_sem,seval];refine bB hn hl (i:=i) (by simp only[go_sem,seval,eK,hlt,ho]) ?_;rintro val i1 ⟨r,rfl,hM⟩;simp only[go_sem,seval,hlt,fN,aW,aA (aC bO _),aA (aC aU _)];exact⟨⟨i1,rfl⟩,{ cV 6 with lines:=r },by simp[aE,cV,aF,gO],rfl,.lst hM⟩
noncomputable def aNn(A:af)(f:Nat)(w hh:Int)(l:List Shape):Int:=match aG A f [.agg (aDn w hh l)] []with
 |some (.int .i64 e,_,_)=>e
 |_=>0
noncomputable def shV(A:af)(f:Nat)(s:Shape):Bool:=match aG A f [.agg (aH s)] []with
 |some (.bool b,_,_)=>b
 |_=>Po
def bF2{A A1:af}{f:Nat}(h:∀s:Shape,s.points.length<=1000->0<=s.kind/\s.kind<=2->∃r:Bool,aG A1 f [.agg (aH s)] []=N1 (.bool r,[],[]))(hp:A.bq f=N1 (aFb A1 f)):bEZ A f (shV A1 f):=by
 intro s hs hk H;obtain⟨r,hr⟩:=h s hs hk;have h1:shV A1 f s=r:=by unfold shV;rw[hr]
 rw[h1];refine dT ?_;rw[hp];show aFb A1 _ _ H=_;refine aQs ?_ rfl hr H;have h2:dJ 0 (aH s)=true:=dC (bW s);simp[dJ,AV.under,h2]
structure Rp(A:af)(g:SN):Prop extends PlaneFns A g where
 shaped:Has A g "m" (aAz g)
 simple:Has A g "l" (tA g)
def bF3{A A1:af}{g:SN}(F:Rp A1 g)(h4:A.bq (g "m")=N1 (aFb A1 (g "m")))(h6:A.bq (g "l")=N1 (aFb A1 (g "l"))):bEZ A (g "m") (shV A1 (g "m"))/\bEZ A (g "l") (shV A1 (g "l")):=⟨bF2 (λs hs hk=>aQ4 F.toPlaneFns F.shaped s hs hk []) h4,bF2 (λs hs _=>aQ3 F.toPlaneFns F.simple s hs []) h6⟩
def bIf{A1:af}{g:SN}{q4 q6:Shape->Bool}(F:ij A1 g q4 q6)(h:∀a∈bE7,q4 a=Pa/\q6 a=Pa)(s:List Shape)(hs:bGI s):aNn A1 (g "u") 60 50 s=0:=by
 obtain⟨e,he,h0⟩:=aJz F 60 50 s deT deT (by have:=hs.1;omega) (λa ha=>by
  obtain⟨a1,a2,a3⟩:=bEp (hs.2.1 a ha);simp only[vQ,aKG,AI,AO,eG];exact⟨a1,omT,λp hp=>by have:=a3 p hp;omega⟩) []
 unfold aNn;rw[he];exact h0 λa ha=>by
  obtain⟨a1,a2,a3⟩:=bEp (hs.2.1 a ha);exact⟨h a (hs.2.1 a ha),omT,a3⟩
def aOt{A A1:af}{g:SN}{q4 q6:Shape->Bool}(F:ij A1 g q4 q6)(hp:A.bq (g "u")=N1 (aFb A1 (g "u"))):aCD A g (aNn A1 (g "u")):=by
 intro w hh l hw Cw hl hs H;obtain⟨e,he,_⟩:=aJz F w hh l hw Cw hl hs [];have h1:aNn A1 (g "u") w hh l=e:=by unfold aNn;rw[he]
 rw[h1];refine dT ?_;rw[hp];show aFb A1 _ _ H=_;refine aQs ?_ rfl he H;have hd:gG (l.map aH)=true:=aC bW _;have h2:eR 0 (l.map aH)=true:=aA hd;simp[dJ,AV.under,h2]
def bCW:List Str:=[[116,101,120,116],[102,111,114,109,117,108,97],[99,111,108,117,109,110],[101,110,116,114,105,101,115],[100,114,97,119,105,110,103],[109,117,115,105,99],[108,105,115,116,105,110,103]]
def bDZ:List Str:=[[99,104,111,105,99,101],[99,111,117,110,116],[111,112,101,110]]
def bFF(r:mr):Str:=82::CN (48+r.gg.toNat)::r.text
def bDM(b:Block):Str:=66::bCW.getD b.kind.toNat []
def bDN(m:UInt8)(s:Str):List Str:=if h:s=[] then [] else (m::s.take 59)::bDN 43 (s.drop 59)
termination_by s.length
decreasing_by
 have:0<s.length:=MY.2 h;simp;omega
def cH(s:Str):List Str:=bDN 61 s
def bE8(m:UInt8):bDN m []=[]:=by rw[bDN];rfl
def bDi{m:UInt8}{s:Str}(h:s≠[]):bDN m s=(m::s.take 59)::bDN 43 (s.drop 59):=by rw[bDN,dif_neg h]
def cI(l:List Str):List (List Str):=if h:l=[] then [] else l.take 50::cI (l.drop 50)
termination_by l.length
decreasing_by
 have:0<l.length:=MY.2 h;simp;omega
def bE9:cI []=[]:=by rw[cI];rfl
def bE0{l:List Str}(h:l≠[]):cI l=l.take 50::cI (l.drop 50):=by rw[cI,dif_neg h]
def bFm(l:List Str):(cI l).flatten=l:=by
 induction hn:l.length using KK generalizing l with
 |_ n ih=>
  by_cases h:l=[]
  ·rw[h,bE9];rfl
  have:0<l.length:=MY.2 h;rw[bE0 h,List.flatten_cons,ih (l.drop 50).length soT _ rfl,List.take_append_drop]
def bEC(l:List Str):(cI l).length=(l.length+49) / 50:=by
 induction hn:l.length using KK generalizing l with
 |_ n ih=>
  by_cases h:l=[]
  ·subst h;rw[bE9];simp at hn;subst hn;rfl
  have:0<l.length:=MY.2 h;rw[bE0 h,AW,ih (l.drop 50).length soT _ rfl,List.length_drop];omega
def bFU(l:List Str):∀i,i<(cI l).length->(cI l)[i]? = N1 ((l.drop (50*i)).take 50):=by
 induction hn:l.length using KK generalizing l with
 |_ n ih=>
  intro i hi;by_cases h:l=[]
  ·rw[h,bE9]at hi;cases hi
  have:0<l.length:=MY.2 h;rw[bE0 h]at hi ⊢;cases i with
  |zero=>rfl
  |succ i=>rw[CT,ih (l.drop 50).length soT _ rfl i (by simpa using hi),List.drop_drop];rw[show 50+50*i=50*(i+1)by omega]
structure Sp(q:Question):Prop where
 k0:0<=q.kind
 k1:q.kind<3
 ne:q.lk≠[]
 gg:∀r∈q.lk,r.gg=0∨r.gg=1
structure Qs(x:Item):Prop where
 kinds:∀b∈x.blocks,0<=b.kind/\b.kind<7
 ask:∀q∈x.ask,Sp q
def bFn{k:Int}(h0:0<=k)(h1:k<7):bCW.getD k.toNat []∈bCW:=by
 have h:k.toNat<bCW.length:=by show k.toNat<7;omega
 rw[KV,AP h];exact AS h
def bGc{k:Int}(h0:0<=k)(h1:k<3):bDZ.getD k.toNat []∈bDZ:=by
 have h:k.toNat<bDZ.length:=by show k.toNat<3;omega
 rw[KV,AP h];exact AS h
def bFG{n:Int}(h:eA n):(dec n.toNat).length<=20:=aGn 19 n.toNat (by have:=h.2;show _<100000000000000000000;omega)
def bF4:∀l:List Int,(∀n∈l,eA n)->(aUN l).length<=21*l.length
 | [],_=>FF _
 |n::l,h=>by
  have h1:=bFG (h n siT);have h2:=bF4 l (λm hm=>h m (BZ _ hm));simp only[aUN,AW,BA];omega
def bHt(e:Expr)(h:e.Ok):(wX e).length<=24*gY e:=by
 induction h with
 |mk op n kids ho hn hl hk ih=>
  match kids,ih with
  | [],_=>
   have h1:=bFG hn;simp only[wX,gY,cP];split
   ·omega
   simp
  | [a],ih=>have h1:=ih a siT;have h2:=uE (e:=a) (L:=3) (s:=wX a);have h3:=uE (e:=a) (L:=1) (s:=wX a);simp only[wX,gY,cP];split<;>simp<;>omega
  | [a,b],ih=>have h1:=ih a siT;have h2:=ih b siT;have h3:=uE (e:=a) (L:=4) (s:=wX a);have h4:=uE (e:=b) (L:=3) (s:=wX b);have h5:=uE (e:=a) (L:=(max 1 (lev op))) (s:=wX a);have h6:=uE (e:=b) (L:=(lev op+1)) (s:=wX b);simp only[wX,gY,cP];split<;>simp<;>omega
  |_::_::_::_,_=>simp[wX]
def bF5:∀(l:List mr) (p:Int),(∀r∈l,r.Ok)->(aHA p l).length<=2002*l.length
 | [],_,_=>FF _
 |r::l,p,h=>by
  have h1:=bF5 l r.gg (λq hq=>h q (BZ _ hq));have h2:=yS r.text;have h3:r.text.length<=1000:=(h r siT).text;simp only[aHA,BA,AW];split<;>simp<;>omega
def bHX{b:Block}(h:b.Ok):(wB b).length<=1000000:=by
 unfold wB;split
 ·have:=bF5 b.runs 0 h.runs;have:=h.vw;omega
 split
 ·have:=bHt b.expr h.expr;have:=h.size;omega
 split
 ·have:=bF4 b.eg h.eg;have:=h.tj;simp only[aWn,AW];omega
 split
 ·have h1:∀r∈b.cd,(sb [124] (r.map (esc mG))).length<=40000:=λr hr=>by
   obtain⟨h2,h3⟩:=h.cd r hr;have:=aF7 (sep:=[124]) (M:=2000) (l:=r.map (esc mG)) (λs hs=>by
    obtain⟨t,ht,rfl⟩:=DB.1 hs;have:=aSf t;have h4:t.length<=1000:=h3 t ht;omega)
   rw[AF]at this;have e:[(124:UInt8)].length=1:=rfl;rw[e]at this;omega
  have:=aF7 (sep:=[59]) (M:=40000) (l:=b.cd.map λr=>sb [124] (r.map (esc mG))) (λs hs=>by
   obtain⟨r,hr,rfl⟩:=DB.1 hs;exact h1 r hr)
  rw[AF]at this;have e:[(59:UInt8)].length=1:=rfl;rw[e]at this;have:=h.uu;unfold aRX;omega
 split
 ·have h1:∀r∈b.bo,(sb [124] (r.map aO9)).length<=2000:=λr hr=>by
   obtain⟨h2,h3⟩:=h.bo r hr;have:=aF7 (sep:=[124]) (M:=80) (l:=r.map aO9) (λs hs=>by
    obtain⟨t,ht,rfl⟩:=DB.1 hs;exact aSe (h3 t ht).1)
   rw[AF]at this;have e:[(124:UInt8)].length=1:=rfl;rw[e]at this;omega
  have:=aF7 (sep:=[47]) (M:=2000) (l:=b.bo.map λh=>sb [124] (h.map aO9)) (λs hs=>by
   obtain⟨r,hr,rfl⟩:=DB.1 hs;exact h1 r hr)
  rw[AF]at this;have e:[(47:UInt8)].length=1:=rfl;rw[e]at this;have:=h.uv;unfold aJm;omega
 have:=aF7 (sep:=[126,124]) (M:=2000) (l:=b.lines.map (esc mL)) (λs hs=>by
  obtain⟨t,ht,rfl⟩:=DB.1 hs;have:=yS t;have h4:t.length<=1000:=h.lines t ht;omega)
 rw[AF]at this;have e:[(126:UInt8),124].length=2:=rfl;rw[e]at this;have:=h.vz;unfold aPJ;omega
def bFV(s:Str):∀m,(bDN m s).length<=s.length:=by
 induction hn:s.length using KK generalizing s with
 |_ n ih=>
  intro m;by_cases h:s=[]
  ·rw[h,bE8];exact FF _
  have:0<s.length:=MY.2 h;rw[bDi h,AW];have:=ih (s.drop 59).length soT (s.drop 59) rfl 43;simp at this;omega
def bDx{α β:Type}(f:α->List β){B:Nat}:∀l:List α,(∀a∈l,(f a).length<=B)->(l.flatMap f).length<=l.length*B
 | [],_=>FF _
 |a::l,h=>by
  have h1:=h a siT;have h2:=bDx f l (λb hb=>h b (BZ _ hb));rw[List.flatMap_cons,BA,AW,JS];omega
def bDo(s:Str):(cH s).length<=s.length:=bFV s 61
def bF6{ps:List Str}{B:Nat}(h:∀p∈ps,p.length<=B):(ps.flatMap cH).length<=ps.length*B:=
 bDx cH ps λp hp=>HX (bDo p) (h p hp)
abbrev bHd(A:af)(g:SN)(P:Block->Fact->Bool):Prop:=∀(b:Block) (f:Fact),b.Ok->(∀s∈b.aw,vQ s=Pa)->1<=b.w/\b.w<=1000->1<=b.h/\b.h<=1000->b.aw.length<=8->0<=f.a->0<=f.b->f.a<b.aw.length->f.b<b.aw.length->2<=f.kind->f.kind<=4 ->
  ∃e:Int,∀H:LO,aG A (g "q") [.agg (aDn b.w b.h b.aw),.agg (aI f)] H=N1 (.tup [.bool (P b f),vi e],H,[])
noncomputable def bGK(A:af)(n:Nat)(b:Block)(f:Fact):Bool:=match aG A n [.agg (aDn b.w b.h b.aw),.agg (aI f)] []with
 |some (.tup [.bool r,_],_,_)=>r
 |_=>Po
def bGd{A A1:af}{g:SN}{E:Int->Int->List Shape->Int}(F:C2 A1 g)(hE:aCD A1 g E)(hp:A.bq (g "q")=N1 (aFb A1 (g "q"))):bHd A g (bGK A1 (g "q")):=by
 intro b f hb hl hw hh h8 a0 b0 a1 b1 k2 k4;obtain⟨r,e,he⟩:=aVp F hE b f [] hb hl hw hh h8 a0 b0 a1 b1 k2 k4;have h1:bGK A1 (g "q") b f=r:=by unfold bGK;rw[he]
 refine⟨e,λH=>?_⟩;rw[h1];refine dT ?_;rw[hp];show aFb A1 _ _ H=_;refine aQs ?_ rfl he H;have hd:gG (b.aw.map aH)=true:=aC bW _;have h2:eR 0 (b.aw.map aH)=true:=aA hd;simp[aI,dJ,AV.under,h2]
def Val(P:Block->Fact->Bool)(b:Block)(f:Fact)(s:Str):Prop:=
 if f.kind=0 then s=wB b else if f.kind=1 then ∃r,b.cd[f.a.toNat]? = N1 r/\r[f.b.toNat]? = N1 s
 else if f.kind=5 then ∃r l,b.bo[f.b.toNat]? = N1 r/\r[f.a.toNat]? = N1 l/\s=aO9 l else if f.kind=6 then b.lines[f.a.toNat]? = N1 s else s=if P b f then [121,101,115] else [110,111]
def Val.inj{P:Block->Fact->Bool}{b:Block}{f:Fact}{s t:Str}(h:Val P b f s)(h2:Val P b f t):s=t:=by
 unfold Val at h h2;split at h
 ·rw[Zy (by assumption)]at h2;rw[h,h2]
 rename_i n0;rw[Zx n0]at h2;split at h
 ·rw[Zy (by assumption)]at h2;obtain⟨r,h3,h4⟩:=h;obtain⟨r',h5,h6⟩:=h2;rw[h3]at h5;cases h5;rw[h4]at h6;cases h6;rfl
 rename_i n1;rw[Zx n1]at h2;split at h
 ·rw[Zy (by assumption)]at h2;obtain⟨r,l,h3,h4,h7⟩:=h;obtain⟨r',l',h5,h6,h8⟩:=h2;rw[h3]at h5;cases h5;rw[h4]at h6;cases h6;rw[h7,h8]
 rename_i n5;rw[Zx n5]at h2;split at h
 ·rw[Zy (by assumption)]at h2;rw[h]at h2;cases h2;rfl
 rename_i n6;rw[Zx n6]at h2;rw[h,h2]
structure Qb(A:af)(g:SN)(E:Int->Int->List Shape->Int)(P:Block->Fact->Bool)(tB tP:Nat):Prop where
 hold:lp A g tB
 text:og A g tB tP
 check:Has A g "M" (tE g)
 fig:aCD A g E
 value:Has A g "g" (aAX g)
 ph:bHd A g P
section
variable {A:af}{g:SN}{tB tP:Nat}{E:Int->Int->List Shape->Int}{P:Block->Fact->Bool}
def bEL(F:Qb A g E P tB tP)(x:Item)(hx:x.Ok)(f:Fact)(hf:Told E x f)(H:LO):∃s:Str,(s.length<=1000000/\∀b,x.blocks[f.block.toNat]? = N1 b->Val P b f s)/\aG A (g "g") [.agg (aO x),.agg (aI f)] H=N1 (.tup [.str s,vi 0],H,[]):=by
 obtain⟨t0,t1,t2⟩:=hf;have hlt:f.block.toNat<x.blocks.length:=omT;have Gt:=AP hlt;rw[Gt];have td:=hx.blocks _ (AS hlt);obtain⟨hB,hC,hm⟩:=t2 _ Gt;have cj:(x.blocks.map aE)[f.block.toNat]? = N1 (aE x.blocks[f.block.toNat]):=by rw[BN,Gt];rfl
 clear Gt;generalize x.blocks[f.block.toNat]=b at *;have J1:decide (f.block<0)=false:=soT;have nj:decide (f.block ≥ (x.blocks.length:Int))=false:=soT;have Bo:∀H,aG A (g "M") [.agg (aE b)] H=N1 (vi 0,H,[]):=λH=>by
  rw[aMj F.fig F.hold.valid F.text.form F.check b td H,hC]
 have qv:=bG b;have iz:(aE b).all AV.ak=true:=bQ qv;have hK:xU b=true:=yU hB;obtain⟨k,hk,hh,⟨pa,pb⟩,hp,D5⟩:=aCE hm;have dx:0<=b.kind:=by unfold xU at hK;by_cases k0:b.kind=0;omega;by_cases k1:b.kind=1;omega;by_cases k2:b.kind=2;omega;by_cases k3:b.kind=3;omega;by_cases k4:b.kind=4;omega;by_cases k5:b.kind=5;omega;by_cases k6:b.kind=6;omega;rw[Zx k0,Zx k1,Zx k2,Zx k3,Zx k4,Zx k5,Zx k6]at hK;cases hK
 have M6:=λH=>aJF F.hold.possible b.kind f.kind H;have V3:aHb b.kind f.kind=true:=by rw[D5];exact aVn hk hh dx
 rw[V3]at M6;have C1:=λH=>aOr F.hold b td f H;have mw:((jY b).any λy=>eqv { f with block:=0 } y)=true:=by refine List.any_eq_true.2 ⟨{ f with block:=0 }, ?_,by simp[eqv]⟩;unfold jY;rw[Zy hB];exact aOs hm
 rw[mw]at C1;have S5:FW 1 (aE b)=[vi b.kind]:=by obtain⟨op,n,ks,ig⟩:=eW b;rw[ig];rfl
 obtain⟨r,H',ba,e1,rfl,rfl,s,G6,rfl⟩:=F.value.bp (args:=[.agg (aO x),.agg (aI f)]) (H:=H) (K:=λr H' wr=>wr=[]/\H'=H/\∃s:Str,(s.length<=1000000/\Val P b f s)/\r=.tup [.str s,vi 0]) (by
  simp only[aAX];simp only[aI]at C1 ⊢;simp only[go_sem,↓aB,seval,aO,J1,nj,cj,Bo,t0,AF,cF,bT.take,bT.ga,aS qv,iz,AD,AB,AA,AE];simp only[aAT];simp only[go_sem,↓aB,seval,M6,C1,S5,cF,bT.take,bT.ga,aS qv,AD,AA,AE];simp only[aAW];have Gr:FW 1 (KW 7 (aE b))=[.sl Po (b.cd.map bY)]:=by obtain⟨op,n,ks,ig⟩:=eW b;rw[ig];rfl
  have Bp:FW 1 (KW 11 (aE b))=[.sl Po (b.bo.map bS)]:=by obtain⟨op,n,ks,ig⟩:=eW b;rw[ig];rfl
  have Bq:FW 1 (KW 12 (aE b))=[.sl Po (b.lines.map aN)]:=by obtain⟨op,n,ks,ig⟩:=eW b;rw[ig];rfl
  have Gs:FW 3 (KW 8 (aE b))=[vi b.w,vi b.h,.sl Po (b.aw.map aH)]:=by obtain⟨op,n,ks,ig⟩:=eW b;rw[ig];rfl
  have Br:f.a=(pa:Int):=by rw[D5]
  have W7:f.b=(pb:Int):=by rw[D5]
  have qo:f.kind=(k:Int):=by rw[D5]
  have Cz:=aVo hk hh;have pn:∀n:Nat,(0:Int)<=(n:Int):=λn=>by omega
  have ta:f.a.toNat=pa:=omT;have tb:f.b.toNat=pb:=omT;by_cases c0:k=0
  ·subst c0;have h4:b.kind≠4:=by rcases Cz with⟨_,h⟩ | ⟨h,_⟩;exact h;omega
   have hv:b.kind=1->aBV b.expr=0:=λh=>by unfold nU at hC;rw[Zy hB,Zy h]at hC;exact hC
   have Mm:=λH=>aVl F.text b td hB hv h4 Bo H;have qo:f.kind=0:=qo;simp only[go_sem,↓aB,seval,qo,Mm,cF,bT.take,bT.ga,aS qv,AD,BC];exact⟨_,⟨bHX td,by unfold Val;rw[Zy qo]⟩,rfl⟩
  have pt:b.kind=aBp k:=by rcases Cz with⟨h,_⟩ | ⟨_,h⟩;exact Zw h c0;exact h
  by_cases c1:k=1
  ·subst c1;have qo:f.kind=1:=qo;have hp:(pa,pb)∈qA b.cd.length (aFt b):=hp;obtain⟨g1,g2⟩:=aDs.1 hp;have pt:b.kind=3:=pt;unfold xU at hK;rw[Zx omT,Zx omT,Zx omT,Zy pt]at hK;simp only[AI,AO]at hK;have cn:=hK.2 _ (AS g1);have Ut:=(td.cd _ (AS g1)).2;have hR:=AP g1;have fh:=mgE bY g1;generalize b.cd[pa]=r at *;have gu:pb<r.length:=by
    unfold aUQ at cn;simp only[AI]at cn;have:=cn.1;simp at this;have F5:aFt b=(b.cd.headD []).length:=rfl;have h2:(r.length:Int)=((b.cd.headD []).length:Int):=by simpa using cn.1
    omega
   have aIc:=mgE aN gu;simp only[go_sem,↓aB,seval,qo];refine aY (aq:=aAU) rfT rfT ?_;simp only[go_sem,↓aB,seval,aAU,Br,W7,Gr,fh,aIc,bY,aN,AU,AT,cF,AD,AB,AA,AE,BC];exact⟨_,⟨HX (Ut _ (AS gu)) deT,by unfold Val;rw[Zx omT,Zy qo,ta,tb];exact⟨r,hR,AP gu⟩⟩,rfl⟩
  by_cases c5:k=5
  ·subst c5;have qo:f.kind=5:=qo;have hp:(pa,pb)∈qA (aFu b) b.bo.length:=hp;obtain⟨g1,g2⟩:=aDs.1 hp;have pt:b.kind=5:=pt;unfold xU at hK;rw[Zx omT,Zx omT,Zx omT,Zx omT,Zx omT,Zy pt]at hK;unfold aUO at hK;simp only[AI,AO]at hK;have cn:=hK.2 _ (AS g2);have il:=td.bo _ (AS g2);have hR:=AP g2;have fh:=mgE bS g2;generalize b.bo[pb]=r at *;unfold aKL at cn;simp only[AI,AO]at cn;have gu:pa<r.length:=by
    have F5:aFu b=(b.bo.headD []).length:=rfl;have h2:(r.length:Int)=((b.bo.headD []).length:Int):=by simpa using cn.1
    omega
   have sk:=cn.2.2 _ (AS gu);have Bs:=il.2 _ (AS gu);have aIc:=mgE gH gu;have La:=AP gu;generalize r[pa]=br at *;unfold aT9 at sk;simp only[AI,AO]at sk;have Mn:=λH=>aDB F.text.wrt.toMelFns br Bs.1 sk.2 H;simp only[go_sem,↓aB,seval,qo];refine aY (aq:=aAV) rfT rfT ?_;simp only[go_sem,↓aB,seval,aAV,Br,W7,Bp,fh,aIc,bS,gH,Mn,AU,AT,cF,AD,AB,AA,AE,BC];exact⟨_,⟨HX (aSe Bs.1) deT,by unfold Val;rw[Zx omT,Zx omT,Zy qo,ta,tb];exact⟨r,br,hR,La,rfl⟩⟩,rfl⟩
  by_cases c6:k=6
  ·subst c6;have qo:f.kind=6:=qo;have hp:(pa,pb)∈qA b.lines.length 1:=hp;obtain⟨g1,g2⟩:=aDs.1 hp;have fh:=mgE aN g1;simp only[go_sem,↓aB,seval,qo,Br,Bq,fh,aN,AU,AT,cF,AD,AB,AA,AE,BC];exact⟨_,⟨HX (td.lines _ (AS g1)) deT,by unfold Val;rw[Zx omT,Zx omT,Zx omT,Zy qo,ta];exact AP g1⟩,rfl⟩
  have Jd:k=2∨k=3∨k=4:=omT;have Je:b.kind=4:=by rcases Jd with rfl | rfl | rfl<;>exact pt
  have xn:pa<b.aw.length/\pb<b.aw.length:=by rcases Jd with rfl | rfl | rfl<;>exact aVm (p:=(pa,pb)) hp
  unfold xU at hK;rw[Zx omT,Zx omT,Zx omT,Zx omT,Zy Je]at hK;simp only[AI,eG,AO]at hK;have n0:(f.kind==0)=false:=by rw[beq_eq_false_iff_ne];omega
  have n1:(f.kind==1)=false:=by rw[beq_eq_false_iff_ne];omega
  have n5:(f.kind==5)=false:=by rw[beq_eq_false_iff_ne];omega
  have n6:(f.kind==6)=false:=by rw[beq_eq_false_iff_ne];omega
  obtain⟨e,Jf⟩:=F.ph b f td hK.2.2 hK.1.1 hK.1.2 omT omT omT omT omT omT omT;simp only[aI]at Jf;have V:Val P b f (if P b f then [121,101,115] else [110,111]):=by unfold Val;rw[Zx omT,Zx omT,Zx omT,Zx omT]
  cases hP:P b f with
  |true=>rw[hP]at Jf V;simp only[go_sem,↓aB,seval,n0,n1,n5,n6,Gs,Jf,cF,AD,AA,AE,BC];exact⟨_,⟨deT,V⟩,rfl⟩
  |false=>
   rw[hP]at Jf V;simp only[go_sem,↓aB,seval,n0,n1,n5,n6,Gs,Jf,cF,AD,AA,AE,BC];exact⟨_,⟨deT,V⟩,rfl⟩)
 exact⟨s,⟨G6.1,λc e=>by cases e;exact G6.2⟩,e1⟩
end
abbrev uV(g:SN):List ae:=[qq 20 (.bsl 1 [z0] 2 [(0,(.const (vi 3))),(1,(.const (vi 4)))]),qm 21 0,⟨N1 22,oc (g "a") [u 21,ui 2],N2,[1]⟩,⟨N1 23,oi 20 22 1,N2,[0,2,1]⟩,⟨N1 24,ol 1 23,N2,[3,0,2,1]⟩,qm 25 2,qm 26 8,qm 27 8,⟨N1 28,obi .add 27 1,N2,[7]⟩,qm 29 0,qm 30 7,⟨N1 31,obi .sub 30 1,N2,[10]⟩,⟨N1 32,oc (g "a") [u 29,u 31],N2,[9,11,10,2,1]⟩,⟨N1 33,ob .add 28 32,N2,[8,7,12,9,11,10,2,1]⟩,qm 34 7,⟨N1 35,ob .rem 33 34,N2,[13,8,7,12,9,11,10,2,1,14]⟩,⟨N1 36,.build [z0,z0,z0,z0] [(0,1,(.tmp 24)),(1,1,(.tmp 25)),(2,1,(.tmp 26)),(3,1,(.tmp 35))],N2,[4,3,0,5,6,15,13,8,7,12,9,11,10,2,1,14]⟩,qq 9 (.alloc [z0,z0,z0,z0]),⟨N2,os 4 9 36,N2,[16,4,3,0,5,6,15,13,8,7,12,9,11,10,2,1,14,17]⟩]
abbrev mB:LN:=[2,4,12,17]
abbrev uW(g:SN):List ae:=[qm 56 2,qm 57 0,qf 58 7 4,⟨N1 59,of 0 58,N2,[2]⟩,⟨N1 60,ol 1 59,N2,[3,2]⟩,⟨N1 61,on 60,N2,[4,3,2]⟩,⟨N1 62,oc (g "a") [u 57,u 61],N2,[1,5,4,3,2]⟩,qm 63 0,qf 64 7 4,⟨N1 65,of 0 64,N2,[8]⟩,⟨N1 66,ol 1 65,N2,[9,8]⟩,⟨N1 67,.iaV (u 66) (ui 0) 1,N2,[10,9,8]⟩,⟨N1 68,ol 1 67,N2,[11,10,9,8]⟩,⟨N1 69,on 68,N2,[12,11,10,9,8]⟩,⟨N1 70,oc (g "a") [u 63,u 69],N2,[7,13,12,11,10,9,8,6,1,5,4,3,2]⟩,⟨N1 71,.build [z0,z0,z0,z0] [(0,1,(.const (vi 1))),(1,1,(.tmp 56)),(2,1,(.tmp 62)),(3,1,(.tmp 70))],N2,[0,14,7,13,12,11,10,9,8,6,1,5,4,3,2]⟩,⟨N2,os 4 6 71,N2,[15,0,14,7,13,12,11,10,9,8,6,1,5,4,3,2]⟩]
abbrev mC:LN:=[6,10,12]
abbrev uX(g:SN):List ae:=[qm 80 2,qm 81 0,qf 82 11 4,⟨N1 83,of 0 82,N2,[2]⟩,⟨N1 84,ol 1 83,N2,[3,2]⟩,⟨N1 85,.iaV (u 84) (ui 0) 1,N2,[4,3,2]⟩,⟨N1 86,ol 1 85,N2,[5,4,3,2]⟩,⟨N1 87,on 86,N2,[6,5,4,3,2]⟩,⟨N1 88,oc (g "a") [u 81,u 87],N2,[1,7,6,5,4,3,2]⟩,qm 89 0,qf 90 11 4,⟨N1 91,of 0 90,N2,[10]⟩,⟨N1 92,ol 1 91,N2,[11,10]⟩,⟨N1 93,on 92,N2,[12,11,10]⟩,⟨N1 94,oc (g "a") [u 89,u 93],N2,[9,13,12,11,10,8,1,7,6,5,4,3,2]⟩,⟨N1 95,.build [z0,z0,z0,z0] [(0,1,(.const (vi 5))),(1,1,(.tmp 80)),(2,1,(.tmp 88)),(3,1,(.tmp 94))],N2,[0,14,9,13,12,11,10,8,1,7,6,5,4,3,2]⟩,⟨N2,os 4 6 95,N2,[15,0,14,9,13,12,11,10,8,1,7,6,5,4,3,2]⟩]
abbrev mD:LN:=[8,12]
def gF(g:SN):bw:=⟨113,[4,6,9],[.cell 6 4 Pa],qS [qx 4 13 1,qq 6 (.alloc [z0,z0,z0,z0])]<|.seq (qS [qf 10 0 4,ql 11 1 10,qbi 12 .eql 11 4]<|qC 12 (qS [qf 13 8 4,qf 14 2 13,ql 15 1 14,qn 16 15,qm 7 16]<|qS [qm 17 0,qm 18 7,qc 19 (g "a") [u 17,u 18],qm 8 19]<|.seq (.region Pa (uV g))<|.seq (qS [qm 37 0,qc 38 (g "a") [u 37,ui 3],qbi 39 .eql 38 0,qm 40 39,qT 41 40 (om 8),qT 42 40 (obi .gtr 41 0),qp 43 40 42]<|qC 43 (qS [qm 44 2,qm 45 8,qq 46 (.build [z0,z0,z0,z0] [(0,1,(.const (vi 2))),(1,1,(.tmp 44)),(2,1,(.tmp 45))]),qs 4 6 46]<|.ret) (.skip))<|qS [qla 47 4 9,qs 4 6 47]<|.ret) (.skip))<|.seq (qS [qf 48 0 4,ql 49 1 48,qbi 50 .eql 49 3,qm 51 50,qT 52 51 (om 0),qT 53 51 (oc (g "a") [u 52,ui 3]),qT 54 51 (obi .gtr 53 0),qp 55 51 54]<|qC 55 (.seq (.region Pa (uW g))<|.ret) (.skip))<|.seq (qS [qf 72 0 4,ql 73 1 72,qbi 74 .eql 73 5,qm 75 74,qT 76 75 (om 0),qT 77 75 (oc (g "a") [u 76,ui 3]),qT 78 75 (obi .gtr 77 0),qp 79 75 78]<|qC 79 (.seq (.region Pa (uX g))<|.ret) (.skip))<|.seq (qS [qf 96 0 4,ql 97 1 96,qbi 98 .eql 97 6,qm 99 98,qT 100 99 (om 0),qT 101 99 (oc (g "a") [u 100,ui 3]),qT 102 99 (obi .gtr 101 0),qp 103 99 102]<|qC 103 (qS [qm 104 2,qm 105 0,qf 106 12 4,ql 107 1 106,qn 108 107,qc 109 (g "a") [u 105,u 108],qq 110 (.build [z0,z0,z0,z0] [(0,1,(.const (vi 6))),(1,1,(.tmp 104)),(2,1,(.tmp 109))]),qs 4 6 110]<|.ret) (.skip))<|qS [qm 111 2,qq 112 (.build [z0,z0,z0,z0] [(0,1,(.const z0)),(1,1,(.tmp 111))]),qs 4 6 112]<|.ret⟩
def bFo(b:Block)(at':Int)(f:Fact):Prop:=f.block=at'/\(
 f.kind=0/\b.kind≠4/\f.a=0/\f.b=0 ∨
 f.kind=1/\b.kind=3/\(0<=f.a/\f.a<b.cd.length)/\0<=f.b/\f.b<(b.cd.headD []).length ∨
 f.kind=2/\b.kind=4/\(0<f.a/\f.a<b.aw.length)/\f.b=0 ∨
 (f.kind=3∨f.kind=4)/\b.kind=4/\(0<=f.a/\f.a<b.aw.length)/\(0<=f.b/\f.b<b.aw.length)/\f.a≠f.b ∨
 f.kind=5/\b.kind=5/\(0<=f.a/\f.a<(b.bo.headD []).length)/\0<=f.b/\f.b<b.bo.length ∨
 f.kind=6/\b.kind=6/\(0<=f.a/\f.a<b.lines.length)/\f.b=0)
abbrev aLj(b:Block)(at':Int)(v:AV):Prop:=∃f:Fact,v=.agg (aI f)/\bFo b at' f
structure Sj(b:Block):Prop where
 lens:b.aw.length<=4/\b.cd.length<=3/\b.bo.length<=2/\b.lines.length<=3
 ye:b.kind=4->2<=b.aw.length
 cd:b.kind=3->1<=b.cd.length/\∀r∈b.cd,aIJ r
 L7:b.kind=5->1<=b.bo.length/\∀h∈b.bo,aOw h
 mq:b.kind=6->1<=b.lines.length
 kind:0<=b.kind/\b.kind<=6
def kf.lens{b:Block}(hb:kf b):Sj b:=by
 cases hb with
 |text h=>exact⟨⟨FF _,FF _,FF _,FF _⟩,(λh=>Zw h (by show ¬(0:Int)=4;decide)),(λh=>Zw h (by show ¬(0:Int)=3;decide)),(λh=>Zw h (by show ¬(0:Int)=5;decide)),(λh=>Zw h (by show ¬(0:Int)=6;decide)),by show (0:Int)<=0/\(0:Int)<=6;decide⟩
 |form h=>exact⟨⟨FF _,FF _,FF _,FF _⟩,(λh=>Zw h (by show ¬(1:Int)=4;decide)),(λh=>Zw h (by show ¬(1:Int)=3;decide)),(λh=>Zw h (by show ¬(1:Int)=5;decide)),(λh=>Zw h (by show ¬(1:Int)=6;decide)),by show (0:Int)<=1/\(1:Int)<=6;decide⟩
 |col h=>exact⟨⟨FF _,FF _,FF _,FF _⟩,(λh=>Zw h (by show ¬(2:Int)=4;decide)),(λh=>Zw h (by show ¬(2:Int)=3;decide)),(λh=>Zw h (by show ¬(2:Int)=5;decide)),(λh=>Zw h (by show ¬(2:Int)=6;decide)),by show (0:Int)<=2/\(2:Int)<=6;decide⟩
 |cd h=>exact⟨⟨FF _,h.2.1,FF _,FF _⟩,(λh=>Zw h (by show ¬(3:Int)=4;decide)),λ_=>⟨h.1,h.2.2.1⟩,(λh=>Zw h (by show ¬(3:Int)=5;decide)),(λh=>Zw h (by show ¬(3:Int)=6;decide)),by show (0:Int)<=3/\(3:Int)<=6;decide⟩
 |fig h=>exact⟨⟨h.1.2,FF _,FF _,FF _⟩,λ_=>h.1.1,(λh=>Zw h (by show ¬(4:Int)=3;decide)),(λh=>Zw h (by show ¬(4:Int)=5;decide)),(λh=>Zw h (by show ¬(4:Int)=6;decide)),by show (0:Int)<=4/\(4:Int)<=6;decide⟩
 |mel h=>exact⟨⟨FF _,FF _,h.2.1,FF _⟩,(λh=>Zw h (by show ¬(5:Int)=4;decide)),(λh=>Zw h (by show ¬(5:Int)=3;decide)),λ_=>⟨h.1,h.2.2.1⟩,(λh=>Zw h (by show ¬(5:Int)=6;decide)),by show (0:Int)<=5/\(5:Int)<=6;decide⟩
 |lst h=>exact⟨⟨FF _,FF _,FF _,h.2.1⟩,(λh=>Zw h (by show ¬(6:Int)=4;decide)),(λh=>Zw h (by show ¬(6:Int)=3;decide)),(λh=>Zw h (by show ¬(6:Int)=5;decide)),λ_=>h.1,by show (0:Int)<=6/\(6:Int)<=6;decide⟩
abbrev aBt(A:af)(f:Nat)(args:LA)(P:AV->Prop):Prop:=∀(l:List Int) (i:Int) (o v:Nat) (H:LO),jP l->H[o]? = N1 (.box v (aM l i)) ->
 ∃val i' wr,aG A f (.ptr o v 0::args) H=N1 (val,H.set o (.box v (aM l i')),wr)/\(wr=[]∨wr=[o])/\P val
def Has.Hf{A:af}{g:SN}{name:String}{fn:bw}(h:Has A g name fn){args:LA}{P:AV->Prop}(hN:args.length+1<=fn.ntmps)(hok:∀n,dK fn.ntmps ⟨n,fn.sites⟩ fn.body=Pa) (hw:∀(l:List Int) (i:Int) (o v:Nat) (H:LO),jP l->o<H.length->H[o]? = N1 (.box v (aM l i)) ->wc A fn.ntmps ⟨H.length,fn.sites⟩ fn.body (pO (.ptr o v 0::args)) (H++AX fn.sites.length (.gone 0)) [] (aRz H.length fn.results (λval H' wr=>(∃i',H'=H.set o (.box v (aM l i')))/\(wr=[]∨wr=[o])/\P val) ⟨⟩) ⟨⟩):aBt A (g name) args P:=by intro l i o v H hl ho;obtain⟨val,H',wr,h1,⟨i',rfl⟩,gn,h2⟩:=h.bp (args:=.ptr o v 0::args) (hw l i o v H hl (getElem?_lt ho) ho) (CI (by simpa using hN)) (hok _);exact⟨val,i',wr,h1,gn,h2⟩
def aSz{A:af}{g:SN}(h:Has A g "N" (gF g))(ht:fR A g){b:Block}(hb:kf b){at':Int}(Bt:0<=at')(M1:at'<=1000):aBt A (g "N") [.agg (aE b),vi at'] (aLj b at'):=by
 refine h.Hf (by simp[gF]) (λn=>cB) ?_;intro l i o v H hl hlt ho;have hb:=hb.lens;obtain⟨qe,iq,yz,yv⟩:=hb.lens;have fin:∀k x y:Int,bFo b at' ⟨k,at',x,y⟩->aLj b at' (.agg [vi k,vi at',vi x,vi y]):=λk x y h=>⟨⟨k,at',x,y⟩,rfl,h⟩;have whole:b.kind≠4->aLj b at' (.agg [vi 0,vi at',vi 0,vi 0]):=λh=>fin 0 0 0 ⟨rfl,.inl ⟨rfl,h,rfl,rfl⟩⟩;simp only[gF];cases nz:b.expr with | mk op n kids=>
 by_cases k6:b.kind=6
 ·have hn:=hb.mq k6;simp only[go_sem,seval,aE,nz,aF,bD,k6];refine bB (bA ht (m:=3) deT) hl (i:=i) (by simp only[go_sem,seval,eK,hlt,ho]) ?_;rintro val i1 ⟨x,rfl,jr,lz⟩;simp only[go_sem,seval,hlt,fN];refine aD (λfo=>?_) (λfo=>?_)
  ·simp only[go_sem,seval,hlt];refine bB (bA ht (m:=b.lines.length) omT) hl (i:=i1) (by simp only[go_sem,seval,aP,hlt]) ?_;rintro val i2 ⟨y,rfl,oj,tc⟩;simp only[go_sem,seval,hlt,aR,aW,aA (aC aU _)];exact⟨⟨i2,rfl⟩,.inr trivial,fin 6 y 0 ⟨rfl,.inr (.inr (.inr (.inr (.inr ⟨rfl,k6,⟨oj,tc⟩,rfl⟩))))⟩⟩
  simp only[go_sem,seval,hlt,aW,aA (aC aU _)];exact⟨⟨i1,rfl⟩,.inr trivial,whole omT⟩
 by_cases k5:b.kind=5
 ·have hn:=hb.L7 k5;cases tz:b.bo with
  |nil=>rw[tz]at hn;simp at hn
  |cons h0 hr=>
  have ft:=hn.2 h0 (by rw[tz];simp);rw[tz]at yz;simp only[AW]at yz;simp only[go_sem,seval,aE,nz,aF,bD,k5,tz];refine bB (bA ht (m:=3) deT) hl (i:=i) (by simp only[go_sem,seval,eK,hlt,ho]) ?_;rintro val i1 ⟨x,rfl,jr,lz⟩;simp only[go_sem,seval,hlt,fN];refine aD (λfo=>?_) (λfo=>?_)
  ·simp only[go_sem,seval];refine aY (aq:=mD) rfT rfT ?_;simp only[go_sem,seval,mD,hlt,bS];refine eB (bA ht (m:=h0.length) (by have:=ft.1;omega)) hl (i:=i1) (by simp only[go_sem,seval,aP,hlt]) ?_;rintro val i2 ⟨y,rfl,oj,tc⟩;simp only[go_sem,seval,hlt,aR];refine eB (bA ht (m:=((hr.length+1:Nat):Int)) omT) hl (i:=i2) (by simp only[go_sem,seval,aP,hlt]) ?_;rintro val i3 ⟨z,rfl,me,rr⟩;have bl:(H.length==o)=false:=soT;simp only[go_sem,seval,hlt,aR,aW,aA (aC aU _),eH,dG,bl,aL];have:=ft.2.1;exact⟨⟨i3,rfl⟩,.inr trivial,fin 5 y z ⟨rfl,.inr (.inr (.inr (.inr (.inl ⟨rfl,k5,by rw[tz];exact⟨oj,tc⟩,me,by rw[tz];exact rr⟩))))⟩⟩
  simp only[go_sem,seval,hlt,aW,aA (aC aU _)];exact⟨⟨i1,rfl⟩,.inr trivial,whole omT⟩
 by_cases k3:b.kind=3
 ·have hn:=hb.cd k3;cases tz:b.cd with
  |nil=>rw[tz]at hn;simp at hn
  |cons h0 hr=>
  have ft:=hn.2 h0 (by rw[tz];simp);rw[tz]at iq;simp only[AW]at iq;simp only[go_sem,seval,aE,nz,aF,bD,k3,tz];refine bB (bA ht (m:=3) deT) hl (i:=i) (by simp only[go_sem,seval,eK,hlt,ho]) ?_;rintro val i1 ⟨x,rfl,jr,lz⟩;simp only[go_sem,seval,hlt,fN];refine aD (λfo=>?_) (λfo=>?_)
  ·simp only[go_sem,seval];refine aY (aq:=mC) rfT rfT ?_;simp only[go_sem,seval,mC,hlt,bY];refine eB (bA ht (m:=((hr.length+1:Nat):Int)) omT) hl (i:=i1) (by simp only[go_sem,seval,aP,hlt]) ?_;rintro val i2 ⟨y,rfl,oj,tc⟩;simp only[go_sem,seval,hlt,aR];refine eB (bA ht (m:=h0.length) (by have:=ft.1;omega)) hl (i:=i2) (by simp only[go_sem,seval,aP,hlt]) ?_;rintro val i3 ⟨z,rfl,me,rr⟩;have bl:(H.length==o)=false:=soT;simp only[go_sem,seval,hlt,aR,aW,aA (aC aU _),eH,dG,bl,aL];have:=ft.2.1;exact⟨⟨i3,rfl⟩,.inr trivial,fin 1 y z ⟨rfl,.inr (.inl ⟨rfl,k3,by rw[tz];exact⟨oj,tc⟩,me,by rw[tz];exact rr⟩)⟩⟩
  simp only[go_sem,seval,hlt,aW,aA (aC aU _)];exact⟨⟨i1,rfl⟩,.inr trivial,whole omT⟩
 by_cases k4:b.kind=4
 ·have hn:=hb.ye k4;have od:AR.wrap ((b.aw.length:Int) - 1)=(b.aw.length:Int) - 1:=wrap_i64 omT omT;simp only[go_sem,seval,aE,nz,aF,bD,k4];refine bB (bA ht (m:=b.aw.length) omT) hl (i:=i) (by simp only[go_sem,seval,eK,hlt,ho]) ?_;rintro val i1 ⟨x,rfl,jr,lz⟩;simp only[go_sem,seval,hlt,fN];refine aY (aq:=mB) (H0:=_) (by simp only[go_sem,seval,cS];rfl) rfT ?_;simp only[go_sem,seval,mB];refine eB (bA ht (m:=2) deT) hl (i:=i1) (by simp only[go_sem,seval,aP,hlt]) ?_;rintro val i2 ⟨y,rfl,oj,tc⟩;obtain⟨kd,Cz,cx⟩:=aQk [3,4] oj tc;simp only[DR,bF]at cx;have Ng:kd=3∨kd=4:=by
   simp only[BD,CC,or_false]at Cz;omega
  have wk:AR.wrap (x+1)=x+1:=wrap_i64 omT omT;have bl:(H.length==o)=false:=soT;have ya:(H.length+2==o)=false:=soT;simp only[go_sem,seval,hlt,aR,oj,cx,wk,od];refine eB (bA ht (m:=(b.aw.length:Int) - 1) omT) hl (i:=i2) (by simp only[go_sem,seval,aP,hlt]) ?_;rintro val i3 ⟨z,rfl,me,rr⟩;have Nh:AR.wrap (x+1+z)=x+1+z:=wrap_i64 omT omT;have Ni:(b.aw.length:Int)≠0:=omT;have Cx:=HV (b.aw.length:Int) (a:=x+1+z) omT;have gj:=GX (x+1+z) (b:=(b.aw.length:Int)) omT;simp only[go_sem,seval,hlt,aR,Nh,tS Ni,eH,dG,ya,aL];refine bB (bA ht (m:=3) deT) hl (i:=i3) (by simp only[go_sem,seval,aP,hlt]) ?_;rintro val i4 ⟨w,rfl,od,dy⟩;have Tp:x≠(x+1+z).tmod b.aw.length:=by
   by_cases hc:x+1+z<b.aw.length
   ·rw[Int.tmod_eq_of_lt omT hc];omega
   have:x+1+z=(x+1+z - b.aw.length)+b.aw.length:=omT;rw[this,Ai omT,Int.add_emod_right,Int.emod_eq_of_lt omT omT];omega
  have last:=fin kd x ((x+1+z).tmod b.aw.length) ⟨rfl,.inr (.inr (.inr (.inl ⟨Ng,k4,⟨jr,lz⟩,⟨Cx,gj⟩,Tp⟩)))⟩;simp only[go_sem,seval,hlt,aR];refine aD (λfo=>?_) (λfo=>?_)
  ·have dp:(w==0)=true:=by simpa using fo
   simp only[go_sem,seval,dp];refine aD (λD3=>?_) (λD3=>?_)
   ·simp only[go_sem,seval,hlt,aW,aA (aC aU _)];exact⟨⟨i4,rfl⟩,.inr trivial,fin 2 x 0 ⟨rfl,.inr (.inr (.inl ⟨rfl,k4,⟨by simp at D3;omega,lz⟩,rfl⟩))⟩⟩
   simp only[go_sem,seval,hlt,aW,aA (aC aU _)];exact⟨⟨i4,rfl⟩,.inr trivial,last⟩
  have dp:(w==0)=false:=by
   cases hq:(w==0)with
   |false=>rfl
   |true=>rw[hq]at fo;cases fo
  simp only[go_sem,seval,dp,hlt,aW,aA (aC aU _)];exact⟨⟨i4,rfl⟩,.inr trivial,last⟩
 simp only[go_sem,seval,aE,nz,aF,bD,aF9 k3,aF9 k4,aF9 k5,aF9 k6];exact⟨⟨i,(aJo ho).symm⟩,.inl trivial,whole omT⟩
def bFo.small{b:Block}(hb:Sj b){at':Int}{f:Fact}(h:bFo b at' f):f.block=at'/\(0<=f.kind/\f.kind<=6)/\(0<=f.a/\f.a<=4)/\0<=f.b/\f.b<=4:=by
 have g:b.kind=3->(b.cd.headD []).length<=3:=λk=>by
  cases hg:b.cd with
  |nil=>decide
  |cons r _=>exact ((hb.cd k).2 r (by rw[hg];simp)).2.1
 have m:b.kind=5->(b.bo.headD []).length<=3:=λk=>by
  cases hg:b.bo with
  |nil=>decide
  |cons r _=>exact ((hb.L7 k).2 r (by rw[hg];simp)).2.1
 obtain⟨l1,l2,l3,l4⟩:=hb.lens;obtain⟨h0,h⟩:=h;rcases h with h | h | h | h | h | h
 ·omega
 ·have:=g h.2.1;omega
 ·omega
 ·omega
 ·have:=m h.2.1;omega
 omega
abbrev rV(g:SN):ag:=.seq (qS [qm 63 12,qm 64 11,qb 65 .lss 63 64]<|qC 65 (.skip) (.exit 4))<|.seq (.block 5 (qS [qm 68 3,qla 69 13 10,qm 70 9,qc 71 (g "N") [u 68,u 69,u 70],qq 13 (.alloc [z0,z0,z0,z0]),qs 4 13 71]<|qS [qf 72 2 7,ql 73 1 72,qla 74 4 13,qc 75 (g "z") [u 73,u 74],qq 76 (.un .not (u 75))]<|qC 76 (qR [qf 77 2 7,ql 78 1 77,qla 79 4 13,qq 80 (.bsl 4 [z0,z0,z0,z0] 1 [(0,(.tmp 79))]),qa 81 4 32 78 80,qf 82 2 7,qs 1 82 81]) (.skip)))<|.region Po [qm 66 12,qbi 67 .add 66 1,qm 12 67]
abbrev aCI:LN:=[63,64,65,68,69,70,71,13,72,73,74,75,76,77,78,79,80,81,82,66,67,12]
abbrev rW(g:SN):ag:=.seq (qS [qm 45 9,qm 46 8,qb 47 .lss 45 46]<|qC 47 (.skip) (.exit 2))<|.seq (.block 3 (qS [qm 50 3,qm 51 3,qc 52 (g "a") [u 51,ui 7],qc 53 (g "Y") [u 50,u 52],qq 10 (.alloc [z0,(.sl Pa []),z0,z0,(.sl Pa []),z0,(.sl Pa []),(.sl Pa []),z0,z0,(.sl Pa []),(.sl Pa []),(.sl Pa [])]),qs 13 10 53]<|qS [qf 54 1 7,ql 55 1 54,qla 56 13 10,qq 57 (.bsl 13 [z0,(.sl Po []),z0,z0,(.sl Po []),z0,(.sl Po []),(.sl Po []),z0,z0,(.sl Po []),(.sl Po []),(.sl Po [])] 1 [(0,(.tmp 56))]),qa 58 13 216 55 57,qf 59 1 7,qs 1 59 58]<|qS [qm 60 3,qc 61 (g "a") [u 60,ui 2],qq 62 (.bin .add .no (ui 1) (u 61)),qm 11 62]<|qS [qmc 12 z0]<|.block 4 (.loop (rV g))))<|.region Po [qm 48 9,qbi 49 .add 48 1,qm 9 49]
abbrev aCJ:LN:=[45,46,47,50,51,52,53,10,54,55,56,57,58,59,60,61,62,11,12,63,64,65,68,69,70,71,13,72,73,74,75,76,77,78,79,80,81,82,66,67,12,48,49,9]
abbrev aCK(g:SN):List ae:=[qf 90 3 7,⟨N1 91,ol 1 90,N2,[0]⟩,qm 92 3,qf 93 2 7,⟨N1 94,ol 1 93,N2,[3]⟩,⟨N1 95,on 94,N2,[4,3]⟩,⟨N1 96,oc (g "Z") [u 92,u 95],N2,[2,5,4,3]⟩,⟨N1 97,.bsl 7 [z0,(.sl Po []),(.sl Po []),(.sl Po []),(.str []),z0,(.sl Po [])] 1 [(0,(.tmp 96))],N2,[6,2,5,4,3]⟩,⟨N1 98,oa 7 128 91 97,N2,[1,0,7,6,2,5,4,3]⟩,⟨N1 99,of 3 7,N2,[8,1,0,7,6,2,5,4,3]⟩,⟨N2,os 1 99 98,N2,[9,8,1,0,7,6,2,5,4,3]⟩]
abbrev rX:LN:=[1,6]
abbrev rY(g:SN):ag:=.seq (qS [qm 85 15,qm 86 14,qb 87 .lss 85 86]<|qC 87 (.skip) (.exit 6))<|.seq (.block 7 (.region Pa (aCK g)))<|.region Po [qm 88 15,qbi 89 .add 88 1,qm 15 89]
abbrev aCL:LN:=[85,86,87,90,91,92,93,94,95,96,97,98,99,88,89,15]
abbrev rZ(g:SN):ag:=.seq (qS [qm 32 6,qm 33 5,qb 34 .lss 32 33]<|qC 34 (.skip) (.exit 0))<|.seq (.block 1 (qS [qq 37 (.bsl 1 [(.str [])] 3 [(0,(.const (.str [102,105,114,115,116]))),(1,(.const (.str [113,50]))),(2,(.const (.str [108,97,115,116])))]),qm 38 6,qi 39 37 38 1,ql 40 1 39,qq 41 (.build [(.str []),(.sl Pa []),(.sl Pa []),(.sl Pa [])] [(0,1,(.tmp 40))]),qq 7 (.alloc [(.str []),(.sl Pa []),(.sl Pa []),(.sl Pa [])]),qs 4 7 41]<|qS [qm 42 3,qc 43 (g "a") [u 42,ui 3],qq 44 (.bin .add .no (ui 1) (u 43)),qm 8 44]<|.seq (qS [qmc 9 z0]<|.block 2 (.loop (rW g)))<|qS [qm 83 3,qc 84 (g "a") [u 83,ui 3],qm 14 84]<|.seq (qS [qmc 15 z0]<|.block 6 (.loop (rY g)))<|.region Po [qf 100 1 4,ql 101 1 100,qla 102 4 7,qq 103 (.bsl 4 [(.str []),(.sl Po []),(.sl Po []),(.sl Po [])] 1 [(0,(.tmp 102))]),qa 104 4 88 101 103,qf 105 1 4,qs 1 105 104]))<|.region Po [qm 35 6,qbi 36 .add 35 1,qm 6 36]
abbrev aCM:LN:=[32,33,34,37,38,39,40,41,7,42,43,44,8,9,45,46,47,50,51,52,53,10,54,55,56,57,58,59,60,61,62,11,12,63,64,65,68,69,70,71,13,72,73,74,75,76,77,78,79,80,81,82,66,67,12,48,49,9,83,84,14,15,85,86,87,90,91,92,93,94,95,96,97,98,99,88,89,15,100,101,102,103,104,105,35,36,6]
def pM(g:SN):bw:=⟨107,[2,22,4,7,10,58,13,81,98,104],[.cell 2 2 Pa],qS [qq 2 (.alloc [(.str []),(.sl Pa [])])]<|qS [qm 16 0,qm 17 0,qn 18 17,qq 19 (.mm Po [(.tmp 18),(.const (vi 400))]),qq 20 (.gw 1 (u 16) N2 (N1 (.tmp 19)) N2),qq 21 (.build [(.sl Pa []),z0] [(0,1,(.tmp 20))]),qx 22 2 21,qm 3 22]<|qS [qq 23 (.bsl 1 [(.str [])] 3 [(0,(.const (.str [84,101,115,116]))),(1,(.const (.str [89,101,97,114,32,55,44,32,112,97,114,116,32,50]))),(2,(.const (.str [65])))]),qm 24 3,qc 25 (g "a") [u 24,ui 3],qi 26 23 25 1,ql 27 1 26,qq 28 (.build [(.str []),(.sl Pa [])] [(0,1,(.tmp 27))]),qq 4 (.alloc [(.str []),(.sl Pa [])]),qs 2 4 28]<|qS [qm 29 3,qc 30 (g "a") [u 29,ui 3],qq 31 (.bin .add .no (ui 1) (u 30)),qm 5 31]<|.seq (qS [qmc 6 z0]<|.block 0 (.loop (rZ g)))<|qS [qla 106 2 4,qs 2 2 106]<|.ret⟩
def FIn(bs:List Block)(f:Fact):Prop:=0<=f.block/\∃b,bs[f.block.toNat]? = N1 b/\bFo b f.block f
def FIn.app{bs l:List Block}{f:Fact}(h:FIn bs f):FIn (bs++l) f:=by obtain⟨h0,b,h1,h2⟩:=h;exact⟨h0,b,by rw[BM (AH.1 h1).1];exact h1,h2⟩
abbrev bF7:List Str:=[[102,105,114,115,116],[113,50],[108,97,115,116]]
abbrev bEq:List Str:=[[84,101,115,116],[89,101,97,114,32,55,44,32,112,97,114,116,32,50],[65]]
structure y9(x:Item):Prop where
 name:x.name∈bF7
 zq:1<=x.blocks.length/\x.blocks.length<=3
 block:∀b∈x.blocks,kf b
 B1:x.facts.length<=6
 fact:∀f∈x.facts,FIn x.blocks f
 tj:x.ask.length<=2
 ask:∀q∈x.ask,jt x.facts.length q
structure R2(x:jm):Prop where
 title:x.title∈bEq
 G8:1<=x.items.length/\x.items.length<=3
 item:∀i∈x.items,y9 i
def y9.ok{x:Item}(h:y9 x):x.Ok:=by obtain⟨h1,h2,h3,h4,h5,h6,h7⟩:=h;refine⟨(by decide:∀s∈bF7,s.length<=1000) _ h1,omT,λb hb=>(h3 b hb).ok,omT,λf hf=>?_,omT,λq hq=>(h7 q hq).ok omT⟩;obtain⟨a0,b,a1,a2⟩:=h5 f hf;have a3:=a2.small (h3 b (AN a1)).lens;have a4:=(AH.1 a1).1;constructor<;>(unfold eA;omega)
def R2.ok{x:jm}(h:R2 x):x.Ok:=⟨(by decide:∀s∈bEq,s.length<=1000) _ h.title,by have:=h.G8;omega,λi hi=>(h.item i hi).ok⟩
abbrev aYl(v:AV):Prop:=∃x:jm,v=dE x/\R2 x
def aQz{A:af}{f:Nat}{args:LA}{P:AV->Prop}(hs:aBt A f args P){l:List Int}{i:Int}{o v:Nat}{H H2:LO}(hl:jP l)(ho:H[o]? = N1 (.box v (aM l i))){site:Option Nat}{q:Bool} {k:AV×LO×LN->Prop} {tg} (hk:∀val i' wr,(wr=[]∨wr=[o])->P val->bnd (dY site q H2 (N1 (val,H.set o (.box v (aM l i')),wr))) k):aCi (dY site q H2 (aG A f (.ptr o v 0::args) H)) k tg:=by obtain⟨val,i',wr,h1,h2,h3⟩:=hs l i o v H hl ho;rw[h1];exact hk val i' wr h2 h3
def aEB(b:Block):FW 13 (aE b)=aE b:=CH (by rw[cF];exact AQ _)
def aNt(f:Fact):(aI f).length=4:=rfl
def aLm(f:Fact):FW 4 (aI f)=aI f:=CH (AQ _)
def aQA{A:af}{g:SN}(hh:∀(l:List Fact),l.length<=1000->∀f:Fact,∃b:Bool,∀H,aG A (g "z") [.sl Po (l.map aI),.agg (aI f)] H=N1 (.bool b,H,[])) {id:Nat} {rows:List LA} {fs:List Fact} (hr:rows=fs.map aI) (Nj:fs.length<=1000) {w:AV} {o:ah} (hg:ew id 4 rows w o) (f:Fact):∃b:Bool,∀H site,H[id]? = N1 o ->cX (aG A) H site (.fn (g "z") [] []) [w,.agg (aI f)]=N1 (.bool b,H,[]):=by
 obtain⟨b,hb⟩:=hh fs Nj f;refine⟨b,λH site ho=>?_⟩;cases hg with
 |nil=>have dp:=hb H;rw[<- hr]at dp;simp only[go_sem,seval,aS (eL _),aK (eL _),dp]
 |obj ver=>
  have bd:(rows.all λr=>r.all AV.still)=true:=by rw[hr];exact aT (aC eL _)
  rw[<- hr]at hb;simp only[go_sem,seval,aS (eL _),aK (eL _),ho,bd,hb]
abbrev aNu:LN:=[2,22,4,7,10,58,13,81,98,104]
def aVy{A:af}{g:SN}(hf:∀{b:Block},kf b->∀{a:Int},0<=a->a<=1000->aBt A (g "N") [.agg (aE b),vi a] (aLj b a)) (hh:∀(l:List Fact),l.length<=1000->∀f:Fact,∃b:Bool,∀H,aG A (g "z") [.sl Po (l.map aI),.agg (aI f)] H=N1 (.bool b,H,[])) {H:LO} {Q:bf->bN->LO->LN->Prop} {tg} {l:List Int} (hl:jP l) {i:Int} {o0 o2 o5 o6 o7 o8 o9:ah} {v7 v10:Nat} {c0 c1 c2 c3:AV} {b:Block} (hb:kf b) {k:Nat} (hk:k<=10) {n:Int} (gq:0<=n) (hn:n<=2) {fs:List Fact} (I9:fs.length<=10) {P:Fact->Prop} (hP:∀f,bFo b k f->P f) (k9:∀f∈fs,P f) (hg:ew (H.length+7) 4 (fs.map aI) c2 o7) {ρ:bN} (e3:ρ 3=.ptr (H.length+1) 1 0) (e7:ρ 7=.ptr (H.length+3) v7 0) (e9:ρ 9=vi k) (e10:ρ 10=.ptr (H.length+4) v10 0) (e11:ρ 11=vi n) (e12:ρ 12=vi 0) (hQ:∀ρ' i' o6 o7 c2 (fs':List Fact),(∀t,aCI.contains t=Po->ρ' t=ρ t)->fs'.length<=fs.length+2->(∀f∈fs',P f)->ew (H.length+7) 4 (fs'.map aI) c2 o7 ->Q (.exit 4) ρ' (H++[o0,.box 1 (aM l i'),o2,.box v7 [c0,c1,c2,c3],.box v10 (aE b),o5,o6,o7,o8,o9]) []):wl A 107 ⟨H.length,aNu⟩ (rV g) ρ (H++[o0,.box 1 (aM l i),o2,.box v7 [c0,c1,c2,c3],.box v10 (aE b),o5,o6,o7,o8,o9]) [] Q tg:=by
 refine bJ (λj ρ1 H1 wr=>wr=[]/\ρ1 12=vi j/\∃i' o6 o7 c2,∃fs':List Fact,H1=H++[o0,.box 1 (aM l i'),o2,.box v7 [c0,c1,c2,c3],.box v10 (aE b),o5,o6,o7,o8,o9]/\ew (H.length+7) 4 (fs'.map aI) c2 o7/\fs'.length<=fs.length+j/\∀f∈fs',P f) n.toNat
  (λρ1 H1 wr=>wr=[]/\∃i' o6 o7 c2,∃fs':List Fact,H1=H++[o0,.box 1 (aM l i'),o2,.box v7 [c0,c1,c2,c3],.box v10 (aE b),o5,o6,o7,o8,o9]/\ew (H.length+7) 4 (fs'.map aI) c2 o7/\fs'.length<=fs.length+2/\∀f∈fs',P f)
  cB rfl ⟨rfl,e12,i,o6,o7,c2,fs,rfl,hg,AQ _,k9⟩ ?_ (by
   rintro ρ' H' ba ⟨rfl,i',o6,o7,c2,fs',rfl,hg,h1,h2⟩ hf;exact hQ ρ' i' o6 o7 c2 fs' hf h1 h2 hg)
 rintro j ρ1 H1 dc mo ⟨rfl,e12,i',o6,o7,c2,fs',rfl,hg,gu,il⟩ Pw;have f3:ρ1 3=.ptr (H.length+1) 1 0:=(Pw 3 rfl).trans e3;have f7:ρ1 7=.ptr (H.length+3) v7 0:=(Pw 7 rfl).trans e7;have f9:ρ1 9=vi k:=(Pw 9 rfl).trans e9;have f10:ρ1 10=.ptr (H.length+4) v10 0:=(Pw 10 rfl).trans e10;have f11:ρ1 11=vi n:=(Pw 11 rfl).trans e11;simp only[go_sem,↓aB,seval,f11,e12];refine aD (λfo=>?_) (λfo=>?_)
 ·have cr:j<n.toNat:=by simp at fo;omega
  simp only[go_sem,↓aB,seval,f3,f9,f10,cF,aEB,aS (bG _),aK (bG _)];refine aQz (hf hb (a:=(k:Int)) omT omT) hl (i:=i') (by simp only[go_sem,seval]) ?_;rintro val i3 dc ma ⟨f,rfl,Hh⟩;have hw:bE H.length [] dc=[]:=by rcases ma with rfl | rfl<;>simp only[go_sem,seval]
  obtain⟨bb,az⟩:=aQA hh rfl omT hg f;simp only[go_sem,↓aB,seval,az,hw,f7,aNt,aLm,bQ (eL _)];refine aD (λdp=>?_) (λdp=>?_)
  ·obtain⟨v',o',eu,db⟩:=hg.app (new:=[aI f]) (bytes:=32) siT rfT (by simp only[AF,AW,AZ];omega);rw[show fs'.map aI++[aI f]=(fs'++[f]).map aI by simp]at eu;simp only[go_sem,↓aB,seval,f7,e12,aNt,aLm,aS (eL _),aK (eL _),bR (eL _),db,eu.ak,eu.aj];rw[dW omT];exact⟨cr,rfl,i3,_,o',v',fs'++[f],rfl,eu,soT,pS il (hP f Hh)⟩
  simp only[go_sem,↓aB,seval,e12];rw[dW omT];exact⟨cr,rfl,i3,_,o7,c2,fs',rfl,hg,omT,il⟩
 have cr:j=n.toNat:=by simp at fo;omega
 subst cr;simp only[go_sem,seval];exact⟨i',o6,o7,c2,fs',rfl,hg,omT,il⟩
def aSA{A:af}{g:SN}(ht:fR A g)(dx:∀{k:Int},0<=k->k<7->dI A (g "Y") [vi k] (aMn k)) (hf:∀{b:Block},kf b->∀{a:Int},0<=a->a<=1000->aBt A (g "N") [.agg (aE b),vi a] (aLj b a)) (hh:∀(l:List Fact),l.length<=1000->∀f:Fact,∃b:Bool,∀H,aG A (g "z") [.sl Po (l.map aI),.agg (aI f)] H=N1 (.bool b,H,[])) {H:LO} {Q:bf->bN->LO->LN->Prop} {tg} {l:List Int} (hl:jP l) {i:Int} {o0 o2 o4 o5 o6 o7 o8 o9:ah} {v7:Nat} {c0 c3:AV} {n:Int} (gq:1<=n) (hn:n<=3) {ρ:bN} (e3:ρ 3=.ptr (H.length+1) 1 0) (e7:ρ 7=.ptr (H.length+3) v7 0) (e8:ρ 8=vi n) (e9:ρ 9=vi 0) (hQ:∀ρ' i' o4 o5 o6 o7 c1 c2 (bs:List Block) (fs:List Fact),(∀t,aCJ.contains t=Po->ρ' t=ρ t)->1<=bs.length/\bs.length<=3->(∀b∈bs,kf b)->fs.length<=6->(∀f∈fs,FIn bs f) ->ew (H.length+5) 13 (bs.map aE) c1 o5->ew (H.length+7) 4 (fs.map aI) c2 o7 ->Q (.exit 2) ρ' (H++[o0,.box 1 (aM l i'),o2,.box v7 [c0,c1,c2,c3],o4,o5,o6,o7,o8,o9]) []):wl A 107 ⟨H.length,aNu⟩ (rW g) ρ (H++[o0,.box 1 (aM l i),o2,.box v7 [c0,.sl Pa [],.sl Pa [],c3],o4,o5,o6,o7,o8,o9]) [] Q tg:=by
 refine bJ (λj ρ1 H1 wr=>wr=[]/\ρ1 9=vi j/\∃i' o4 o5 o6 o7 c1 c2,∃bs:List Block,∃fs:List Fact,H1=H++[o0,.box 1 (aM l i'),o2,.box v7 [c0,c1,c2,c3],o4,o5,o6,o7,o8,o9] /\
   ew (H.length+5) 13 (bs.map aE) c1 o5/\ew (H.length+7) 4 (fs.map aI) c2 o7/\bs.length=j/\(∀b∈bs,kf b)/\fs.length<=2*j/\∀f∈fs,FIn bs f) n.toNat
  (λρ1 H1 wr=>wr=[]/\∃i' o4 o5 o6 o7 c1 c2,∃bs:List Block,∃fs:List Fact,H1=H++[o0,.box 1 (aM l i'),o2,.box v7 [c0,c1,c2,c3],o4,o5,o6,o7,o8,o9] /\
   ew (H.length+5) 13 (bs.map aE) c1 o5/\ew (H.length+7) 4 (fs.map aI) c2 o7/\(1<=bs.length/\bs.length<=3)/\(∀b∈bs,kf b)/\fs.length<=6/\∀f∈fs,FIn bs f)
  cB rfl ⟨rfl,e9,i,o4,o5,o6,o7,.sl Pa [],.sl Pa [],[],[],rfl,.nil _,.nil _,rfl,siT,siT,siT⟩ ?_ (by
   rintro ρ' H' ba ⟨rfl,i',o4,o5,o6,o7,c1,c2,bs,fs,rfl,hg,qu,h1,h2,h3,h4⟩ hf;exact hQ ρ' i' o4 o5 o6 o7 c1 c2 bs fs hf h1 h2 h3 h4 hg qu)
 rintro j ρ1 H1 dc mo ⟨rfl,e9,i',o4,o5,o6,o7,c1,c2,bs,fs,rfl,hg,qu,zo,td,I9,k9⟩ Pw;have f3:ρ1 3=.ptr (H.length+1) 1 0:=(Pw 3 rfl).trans e3;have f7:ρ1 7=.ptr (H.length+3) v7 0:=(Pw 7 rfl).trans e7;have f8:ρ1 8=vi n:=(Pw 8 rfl).trans e8;simp only[go_sem,↓aB,seval,f8,e9];refine aD (λfo=>?_) (λfo=>?_)
 ·have cr:j<n.toNat:=by simp at fo;omega
  simp only[go_sem,↓aB,seval,f3];refine bB (bA ht (m:=7) deT) hl (i:=i') (by simp only[go_sem,seval]) ?_;rintro val i3 ⟨x,rfl,jr,lz⟩;simp only[go_sem,↓aB,seval];refine bB (dx jr lz) hl (i:=i3) (by simp only[go_sem,seval]) ?_;rintro val i4 ⟨b,rfl,P7,Jm⟩;obtain⟨v',o',eu,db⟩:=hg.app (new:=[aE b]) (bytes:=216) siT (by rw[aCj,cF];rfl) (by simp only[AF,AW,AZ];omega);rw[show bs.map aE++[aE b]=(bs++[b]).map aE by simp]at eu;simp only[go_sem,↓aB,seval,f3,f7,cF,aEB,bQ (bG _),aS (bG _),aK (bG _),bR (bG _),db,eu.ak,eu.aj];refine bB (bA ht (m:=2) deT) hl (i:=i4) (by simp only[go_sem,seval]) ?_;rintro val i5 ⟨y,rfl,oj,tc⟩;have zz:AR.wrap (1+y)=1+y:=wrap_i64 omT omT;simp only[go_sem,↓aB,seval,zz];refine aVy hf hh hl Jm (k:=j) omT (n:=1+y) omT omT (fs:=fs) omT (P:=FIn (bs++[b])) (λf h=>⟨by rw[h.1];omega,b,by rw[h.1,AT,<- zo];simp,by rw[h.1];exact h⟩) (λf h=>(k9 f h).app) qu (by simp only[go_sem,seval,f3]) (by simp only[go_sem,seval,f7]) (by simp only[go_sem,seval,e9]) (by simp only[go_sem,seval]) (by simp only[go_sem,seval]) (by simp only[go_sem,seval]) ?_;intro ρ2 i6 o6' o7' c2' fs' cq Nk Hi Hj;have g9:ρ2 9=vi j:=by rw[cq 9 rfl];simp only[go_sem,seval,e9]
  simp only[go_sem,↓aB,seval,g9];rw[dW omT];exact⟨cr,rfl,i6,_,o',o6',o7',v',c2',bs++[b],fs',rfl,eu,Hj,by simp[zo],pS td Jm,omT,Hi⟩
 have cr:j=n.toNat:=by simp at fo;omega
 subst cr;simp only[go_sem,seval];exact⟨i',o4,o5,o6,o7,c1,c2,bs,fs,rfl,hg,qu,omT,td,omT,k9⟩
def aVz(q:Question):(gR q).length=7:=rfl
def aYm{A:af}{g:SN}(Nl:∀{m:Nat},m<=10->dI A (g "Z") [vi m] (aBr m)) {H:LO} {Q:bf->bN->LO->LN->Prop} {tg} {l:List Int} (hl:jP l) {i:Int} {o0 o2 o4 o5 o6 o7 o8 o9:ah} {v7:Nat} {c0 c1 c2:AV} {fs:List Fact} (I9:fs.length<=6) (qu:ew (H.length+7) 4 (fs.map aI) c2 o7) {n:Int} (gq:0<=n) (hn:n<=2) {ρ:bN} (e3:ρ 3=.ptr (H.length+1) 1 0) (e7:ρ 7=.ptr (H.length+3) v7 0) (e14:ρ 14=vi n) (e15:ρ 15=vi 0) (hQ:∀ρ' i' o8 c3 (qs:List Question),(∀t,aCL.contains t=Po->ρ' t=ρ t)->qs.length<=2->(∀q∈qs,jt fs.length q)->ew (H.length+8) 7 (qs.map gR) c3 o8 ->Q (.exit 6) ρ' (H++[o0,.box 1 (aM l i'),o2,.box v7 [c0,c1,c2,c3],o4,o5,o6,o7,o8,o9]) []):wl A 107 ⟨H.length,aNu⟩ (rY g) ρ (H++[o0,.box 1 (aM l i),o2,.box v7 [c0,c1,c2,.sl Pa []],o4,o5,o6,o7,o8,o9]) [] Q tg:=by
 refine bJ (λj ρ1 H1 wr=>wr=[]/\ρ1 15=vi j/\∃i' o8 c3,∃qs:List Question,H1=H++[o0,.box 1 (aM l i'),o2,.box v7 [c0,c1,c2,c3],o4,o5,o6,o7,o8,o9] /\
   ew (H.length+8) 7 (qs.map gR) c3 o8/\qs.length=j/\∀q∈qs,jt fs.length q) n.toNat
  (λρ1 H1 wr=>wr=[]/\∃i' o8 c3,∃qs:List Question,H1=H++[o0,.box 1 (aM l i'),o2,.box v7 [c0,c1,c2,c3],o4,o5,o6,o7,o8,o9] /\
   ew (H.length+8) 7 (qs.map gR) c3 o8/\qs.length<=2/\∀q∈qs,jt fs.length q)
  cB rfl ⟨rfl,e15,i,o8,.sl Pa [],[],rfl,.nil _,rfl,siT⟩ ?_ (by
   rintro ρ' H' ba ⟨rfl,i',o8,c3,qs,rfl,hg,h1,h2⟩ hf;exact hQ ρ' i' o8 c3 qs hf h1 h2 hg)
 rintro j ρ1 H1 dc mo ⟨rfl,e15,i',o8,c3,qs,rfl,hg,Cs,J0⟩ Pw;have f3:ρ1 3=.ptr (H.length+1) 1 0:=(Pw 3 rfl).trans e3;have f7:ρ1 7=.ptr (H.length+3) v7 0:=(Pw 7 rfl).trans e7;have f14:ρ1 14=vi n:=(Pw 14 rfl).trans e14;simp only[go_sem,↓aB,seval,f14,e15];refine aD (λfo=>?_) (λfo=>?_)
 ·have cr:j<n.toNat:=by simp at fo;omega
  simp only[go_sem,seval];refine aY (aq:=rX) rfT rfT ?_;simp only[go_sem,↓aB,seval,rX,f3,f7,qu.len];refine eB (Nl (m:=fs.length) omT) hl (i:=i') (by simp only[go_sem,seval]) ?_;rintro val i3 ⟨q,rfl,Nn⟩;obtain⟨v',o',eu,db⟩:=hg.app (new:=[gR q]) (bytes:=128) siT rfT (by simp only[AF,AW,AZ];omega);rw[show qs.map gR++[gR q]=(qs++[q]).map gR by simp]at eu;simp only[go_sem,↓aB,seval,f7,e15,aVz,aK (aBI _),bR (aBI _),db,eu.ak,eu.aj,eH,dG,aL];rw[dW omT];exact⟨cr,rfl,i3,o',v',qs++[q],rfl,eu,by simp[Cs],pS J0 Nn⟩
 have cr:j=n.toNat:=by simp at fo;omega
 subst cr;simp only[go_sem,seval];exact⟨i',o8,c3,qs,rfl,hg,omT,J0⟩
structure Gens(A:af)(g:SN):Prop where
 take:fR A g
 block:∀{k:Int},0<=k->k<7->dI A (g "Y") [vi k] (aMn k)
 fact:∀{b:Block},kf b->∀{a:Int},0<=a->a<=1000->aBt A (g "N") [.agg (aE b),vi a] (aLj b a)
 has:∀(l:List Fact),l.length<=1000->∀f:Fact,∃b:Bool,∀H,aG A (g "z") [.sl Po (l.map aI),.agg (aI f)] H=N1 (.bool b,H,[])
 jd:∀{m:Nat},m<=10->dI A (g "Z") [vi m] (aBr m)
def aVB{A:af}{g:SN}(G:Gens A g) {H:LO} {Q:bf->bN->LO->LN->Prop} {tg} {l:List Int} (hl:jP l) {i:Int} {o0 o3 o4 o5 o6 o7 o8 o9:ah} {v4:Nat} {c0:AV} {n:Int} (gq:1<=n) (hn:n<=3) {ρ:bN} (e3:ρ 3=.ptr (H.length+1) 1 0) (e4:ρ 4=.ptr (H.length+2) v4 0) (e5:ρ 5=vi n) (e6:ρ 6=vi 0) (hQ:∀ρ' i' o3 o4 o5 o6 o7 o8 o9 c1 (xs:List Item),(∀t,aCM.contains t=Po->ρ' t=ρ t)->1<=xs.length/\xs.length<=3->(∀x∈xs,y9 x)->ew (H.length+9) 4 (xs.map aO) c1 o9 ->Q (.exit 0) ρ' (H++[o0,.box 1 (aM l i'),.box v4 [c0,c1],o3,o4,o5,o6,o7,o8,o9]) []):wl A 107 ⟨H.length,aNu⟩ (rZ g) ρ (H++[o0,.box 1 (aM l i),.box v4 [c0,.sl Pa []],o3,o4,o5,o6,o7,o8,o9]) [] Q tg:=by
 refine bJ (λj ρ1 H1 wr=>wr=[]/\ρ1 6=vi j/\∃i' o3 o4 o5 o6 o7 o8 o9 c1,∃xs:List Item,H1=H++[o0,.box 1 (aM l i'),.box v4 [c0,c1],o3,o4,o5,o6,o7,o8,o9] /\
   ew (H.length+9) 4 (xs.map aO) c1 o9/\xs.length=j/\∀x∈xs,y9 x) n.toNat
  (λρ1 H1 wr=>wr=[]/\∃i' o3 o4 o5 o6 o7 o8 o9 c1,∃xs:List Item,H1=H++[o0,.box 1 (aM l i'),.box v4 [c0,c1],o3,o4,o5,o6,o7,o8,o9] /\
   ew (H.length+9) 4 (xs.map aO) c1 o9/\(1<=xs.length/\xs.length<=3)/\∀x∈xs,y9 x)
  cB rfl ⟨rfl,e6,i,o3,o4,o5,o6,o7,o8,o9,.sl Pa [],[],rfl,.nil _,rfl,siT⟩ ?_ (by
   rintro ρ' H' ba ⟨rfl,i',o3,o4,o5,o6,o7,o8,o9,c1,xs,rfl,hg,h1,h2⟩ hf;exact hQ ρ' i' o3 o4 o5 o6 o7 o8 o9 c1 xs hf h1 h2 hg)
 rintro j ρ1 H1 dc mo ⟨rfl,e6,i',o3,o4,o5,o6,o7,o8,o9,c1,xs,rfl,hg,n9,xa⟩ Pw;have f3:ρ1 3=.ptr (H.length+1) 1 0:=(Pw 3 rfl).trans e3;have f4:ρ1 4=.ptr (H.length+2) v4 0:=(Pw 4 rfl).trans e4;have f5:ρ1 5=vi n:=(Pw 5 rfl).trans e5;simp only[go_sem,↓aB,seval,f5,e6];refine aD (λfo=>?_) (λfo=>?_)
 ·have cr:j<n.toNat:=by simp at fo;omega
  obtain⟨nm,W6,cx⟩:=aQl bF7 (x:=(j:Int)) omT soT;simp only[DR,aN,AT]at cx;simp only[go_sem,↓aB,seval,f3,e6,cx];refine bB (bA G.take (m:=3) deT) hl (i:=i') (by simp only[go_sem,seval]) ?_;rintro val i3 ⟨x,rfl,jr,lz⟩;have wk:AR.wrap (1+x)=1+x:=wrap_i64 omT omT;simp only[go_sem,↓aB,seval,wk];refine aSA G.take G.block G.fact G.has hl (n:=1+x) omT omT (by simp only[go_sem,seval,f3]) (by simp only[go_sem,seval]) (by simp only[go_sem,seval]) (by simp only[go_sem,seval]) ?_;intro ρ2 i4 p4 p5 p6 p7 d1 d2 bs fs cq zo td I9 k9 Gt Jn;have g3:ρ2 3=.ptr (H.length+1) 1 0:=by rw[cq 3 rfl];simp only[go_sem,seval,f3]
  have g4:ρ2 4=.ptr (H.length+2) v4 0:=by rw[cq 4 rfl];simp only[go_sem,seval,f4]
  have g6:ρ2 6=vi j:=by rw[cq 6 rfl];simp only[go_sem,seval,e6]
  have g7:ρ2 7=.ptr (H.length+3) (o3.ver+1) 0:=by rw[cq 7 rfl];simp only[go_sem,seval]
  simp only[go_sem,↓aB,seval,g3];refine bB (bA G.take (m:=3) deT) hl (i:=i4) (by simp only[go_sem,seval]) ?_;rintro val i5 ⟨y,rfl,oj,tc⟩;simp only[go_sem,↓aB,seval];refine aYm G.jd hl I9 Jn (n:=y) omT omT (by simp only[go_sem,seval,g3]) (by simp only[go_sem,seval,g7]) (by simp only[go_sem,seval]) (by simp only[go_sem,seval]) ?_;intro ρ3 i6 p8 d3 qs im Cs J0 No;have k4:ρ3 4=.ptr (H.length+2) v4 0:=by rw[im 4 rfl];simp only[go_sem,seval,g4]
  have k6:ρ3 6=vi j:=by rw[im 6 rfl];simp only[go_sem,seval,g6]
  have k7:ρ3 7=.ptr (H.length+3) (o3.ver+1) 0:=by rw[im 7 rfl];simp only[go_sem,seval,g7]
  obtain⟨b1,b2,b3,b4,b5,b6⟩:=Gt.dw (aC bG _);obtain⟨q1,q2,q3,q4,q5,q6⟩:=No.dw (aC aBI _);obtain⟨r1,r2,r3,r4,r5,r6⟩:=Jn.dw (aC eL _);obtain⟨v',o',eu,db⟩:=hg.app (new:=[[.str nm,.sl Po (bs.map aE),.sl Po (fs.map aI),.sl Po (qs.map gR)]]) (bytes:=88) siT rfT (by simp only[AF,AW,AZ];omega);rw[show xs.map aO++[[.str nm,.sl Po (bs.map aE),.sl Po (fs.map aI),.sl Po (qs.map gR)]]=(xs++[Item.mk nm bs fs qs]).map aO by simp[aO]]at eu;simp only[go_sem,↓aB,seval,k4,k6,k7,b4,b5,b6,q4,q5,q6,r4,r5,r6,uM,aAS,db,eu.ak,eu.aj];rw[dW omT];refine⟨cr,rfl,i6,_,_,_,_,_,_,o',v',xs++[Item.mk nm bs fs qs],rfl,eu,by simp[n9],pS xa ⟨W6,zo,td,I9,k9,Cs,J0⟩⟩
 have cr:j=n.toNat:=by simp at fo;omega
 subst cr;simp only[go_sem,seval];exact⟨i',o3,o4,o5,o6,o7,o8,o9,c1,xs,rfl,hg,omT,xa⟩
def aQB{A:af}{g:SN}(h:Has A g "av" (pM g))(G:Gens A g){l:List Int}(hl:jP l)(H:LO):∃v H' wr,aG A (g "av") [.sl Po (l.map bF)] H=N1 (v,H',wr)/\(H'=H/\wr=[]/\aYl v):=by
 refine h.bp ?_;have hb:dU l.length N2 (N1 (.int .i64 (if (400:Int)<l.length then 400 else l.length))) N2=N1 (0,min l.length 400,l.length):=by
  by_cases hc:(400:Int)<l.length
  ·rw[Zy hc];simp only[dU,iL];rw[Zy ⟨deT,omT⟩];simp;omega
  rw[Zx hc];simp only[dU,iL];rw[Zy ⟨omT,omT⟩];simp;omega
 have hh:dF 1 (l.map bF)=true:=by cases l<;>rfl
 have pk:FW (min l.length 400) (l.map bF)=(l.take (min l.length 400)).map bF:=List.map_take.symm;have iq:jP (l.take (min l.length 400)):=λa ha=>hl a (List.mem_of_mem_take ha);generalize l.take (min l.length 400)=l2 at pk iq;simp only[pM];simp only[go_sem,↓aB,seval,hb,hh,pk];refine bB (bA G.take (m:=3) deT) iq (i:=0) (by simp only[go_sem,seval]) ?_;rintro val i1 ⟨x,rfl,jr,lz⟩;obtain⟨nm,W6,cx⟩:=aQl bEq jr lz;simp only[DR,aN]at cx;simp only[go_sem,↓aB,seval,jr,cx];refine bB (bA G.take (m:=3) deT) iq (i:=i1) (by simp only[go_sem,seval]) ?_;rintro val i2 ⟨y,rfl,oj,tc⟩;have zz:AR.wrap (1+y)=1+y:=wrap_i64 omT omT;simp only[go_sem,↓aB,seval,zz];refine aVB G iq (n:=1+y) omT omT (by simp only[go_sem,seval]) (by simp only[go_sem,seval]) (by simp only[go_sem,seval]) (by simp only[go_sem,seval]) ?_;intro ρ2 i3 o3 o4 o5 o6 o7 o8 o9 c1 xs cq n9 xa hg;have g2:ρ2 2=.ptr H.length 1 0:=by rw[cq 2 rfl];simp only[go_sem,seval]
 have g4:ρ2 4=.ptr (H.length+2) 1 0:=by rw[cq 4 rfl];simp only[go_sem,seval]
 obtain⟨b1,b2,b3,b4,b5,b6⟩:=hg.dw (aC dV _);simp only[go_sem,↓aB,seval,g2,g4,hg.ak,b4,b5,b6,aA (aC dV _)];exact⟨jm.mk nm xs,rfl,W6,n9,xa⟩
def gX(g:SN):bw:=⟨21,[14,20],[.tmp 6],qS [qmc 6 (.sl Pa [])]<|qS [qm 8 1,qq 9 (.conv (.toInt .u64) (u 8)),qm 7 9]<|.seq (qS [qm 10 1,qbi 11 .lss 10 0]<|qC 11 (qS [qm 12 0,qq 13 (.bsl 1 [(.int .u8 0)] 1 [(0,(.const (.int .u8 45)))]),qa 14 1 1 12 13,qm 0 14]<|.region Po [qm 15 7,qq 16 (.un .neg (u 15)),qm 7 16]) (.skip))<|qS [qm 17 0,qm 18 7,qm 19 2,qq 20 (.ee (uf (g "bf")) [(.tmp 17),(.tmp 18),(.tmp 19)]),qm 6 20]<|.ret⟩
def aJJ:∀(k n:Nat),n<10 ^ (k+1)->nC (k+1) n=dec n
 |0,n,h=>by
  have h':n<10:=by simpa using h
  rw[dec,nC,Zy h',Zy h']
 |k+1,n,h=>by
  rw[dec,nC];split
  ·rfl
  rw[aJJ k (n / 10) (by rw[PL]at h;omega)]
section
variable {A:af}{g:SN}
def aLn(hp:A.bq (g "bf")=N1 oN){n:Int}(h0:0<=n)(h9:n<=999999):fY A (g "bf") [.int .u64 n,vi 10] (dec n.toNat):=by
 intro H t v hb ht;have e7:nC 7 n.toNat=dec n.toNat:=aJJ 6 _ (by have:(10:Nat) ^ (6+1)=10000000:=deT;omega);cases hb with
 |nil=>refine (oL (n:=0) ?_);unfold dD qL;rw[hp];show (match oN [.sl Pa [],.int .u64 n,.int .i64 10] H with | some r=>N1 (cT H r) | none=>_)=_;simp only[oN];rw[Zy ⟨h0,omT,trivial⟩,e7];simp[cT,eU];rfl
 |obj id ver t ho=>refine (oL (n:=0) ?_);unfold dD qL;rw[hp];show (match oN [.sr id ver t.length,.int .u64 n,.int .i64 10] H with | some r=>N1 (cT H r) | none=>_)=_;simp only[oN,ho];rw[Zy ⟨trivial,kG t,h0,omT,omT,trivial,aEk t⟩,e7];simp only[cT,eU,AJ,BI,BY,vX];rfl
abbrev bCn:LO:=[.gone 0,.gone 0]
def aLo(h:Has A g "bt" (gX g))(hp:A.bq (g "bf")=N1 oN){n:Int}(h0:0<=n)(h9:n<=999999):fY A (g "bt") [vi n,vi 10] (dec n.toNat):=by
 intro H t v hb ht;obtain⟨v1,H1,dc,h1,h2⟩:=h.bp (args:=[v,vi n,vi 10]) (H:=H) (K:=λv' H'' ba=>N1 (v',H'',ba)=oX H t (dec n.toNat) v) (by
  have hw:IntKind.u64.wrap n=n:=by unfold GA;simp[LK,KC];omega
  have hn:decide (n<0)=false:=by rw[decide_eq_false_iff_not];omega
  obtain⟨o,ver,jk,kq⟩:=hb.call (L:=bCn) (i:=1) ht deT (aLn hp h0 h9);simp only[gX];simp only[go_sem,↓aB,seval,pT,hw,hn,kq];exact jk.done rfl _)
 rw[h1,h2]
def aMs(h:Has A g "br" (vW g))(hi:Has A g "bt" (gX g))(hp:A.bq (g "bf")=N1 oN):aBk A g:=by
 intro n h0 h9 H t v hb ht;obtain⟨v1,H1,dc,h1,h2⟩:=h.bp (args:=[v,vi n,vi 10]) (H:=H) (K:=λv' H'' ba=>N1 (v',H'',ba)=oX H t (dec n.toNat) v) (by
  obtain⟨o,ver,jk,kq⟩:=hb.call (L:=[.gone 0]) (i:=0) ht deT (aLo hi hp h0 h9);rw[Nat.add_zero]at kq;simp only[vW];simp only[go_sem,↓aB,seval,kq];exact jk.done rfl _)
 rw[h1,h2]
end
def bEM{s:Str}(h:s∈aQm):vP 1 200 s=Pa/\vP 0 20 s=Pa/\vP 0 40 s=true:=(by decide:∀s∈aQm,vP 1 200 s=Pa/\vP 0 20 s=Pa/\vP 0 40 s=Pa) s h
def bED{r:List mr}(h:bGD r):aGx r=true:=by
 obtain⟨h1,h2,h3,x,hx,h4⟩:=h;simp only[aGx,aWm,aUL,AI,AO,eG];refine⟨λi hi=>?_,⟨omT,omT⟩,λa ha=>⟨?_,(bEM (h3 a ha).2).1⟩⟩
 ·have hi:=HE.1 hi;have l:∀j,j<r.length->sY r j=(x+j).tmod 2:=λj hj=>by
   unfold sY;rw[AP hj];exact h4 j _ (AP hj)
  rw[l i omT,l (i+1) omT,Ai omT,Ai omT];simp only[bne_iff_ne];omega
 obtain⟨j,hj⟩:=List.getElem?_of_mem ha;have:=h4 j a hj;rw[Ai omT]at this;omega
def bFH{c:Bool}{op n:Int}{kids:List Expr}(h:kids.length=0/\(op=0/\0<=n/\n<=999999∨op=1/\0<=n/\n<=25)∨n=0/\(kids.length=1/\(op=2∨op=8)∨kids.length=2/\(3<=op/\op<=7∨c=Pa/\9<=op/\op<=10))):0<=op/\op<=10/\kids.length=aCn op/\(0<=n/\n<=aAq op)/\(lev op≠0∨c=Pa):=by
 rcases h with⟨e1,⟨rfl,e2⟩ | ⟨rfl,e2⟩⟩ | ⟨rfl,⟨e1,e2⟩ | ⟨e1,e2⟩⟩
 ·exact⟨deT,deT,e1,e2,.inl deT⟩
 ·exact⟨deT,deT,e1,e2,.inl deT⟩
 ·rcases e2 with rfl | rfl<;>exact⟨deT,deT,e1,deT,.inl deT⟩
 rcases e2 with e2 | ⟨hc,e2⟩
 ·have:op=3∨op=4∨op=5∨op=6∨op=7:=omT;rcases this with rfl | rfl | rfl | rfl | rfl<;>exact⟨deT,deT,e1,deT,.inl deT⟩
 have:op=9∨op=10:=omT;rcases this with rfl | rfl<;>exact⟨deT,deT,e1,deT,.inr hc⟩
def bFI:∀(d:Nat) (c:Bool) (e:Expr) (k:Int),Deep c d e->d<=4->k+d<=17->exS e k=(gY e,Pa)
 |0,c,e,k,h,_,_=>by cases h
 |d+1,c,.mk op n kids,k,h,hd,hk=>by
  have gd:=h.ok.2;have hp:2 ^ (d+1)<=2 ^ 4:=Nat.pow_le_pow_right deT hd;have ax:=bF1 h;cases h with
  |mk _ _ _ _ _ h4 h5=>
   have ih:=λe he=>bFI d Po e (k+1) (h4 e he) omT omT;have hx:exL kids (k+1) 1=N1 (1+cP kids):=by
    match kids,ax,ih with
    | [],_,_=>rfl
    | [a],_,ih=>simp only[exL,ih a siT,cP];rfl
    | [a,b],_,ih=>simp only[exL,ih a siT,ih b siT,cP];rw[Nat.add_assoc];rfl
    |_::_::_::_,h,_=>simp at h
   have hc:((decide (k>16) || !wi op 0 10) || !wi n 0 (aAq op) || ((kids.length:Int) != (aCn op:Int)))=false:=by
    simp only[Bool.or_eq_false_iff,decide_eq_false_iff_not,Bool.not_eq_false',eG,bne_eq_false_iff_eq];rcases bFH h5 with⟨o0,o1,o2,o3,o4⟩
    rw[o2];exact⟨⟨⟨omT,omT⟩,o3⟩,rfl⟩
   rw[exS,hc,hx,gY];simp only[Bool.false_eq_true,Zu];rw[gY]at gd;simp;omega
def bEE:∀(d:Nat) (c:Bool) (e:Expr),Deep c d e->aBN c e=Pa
 |0,c,e,h=>by cases h
 |d+1,c,.mk op n kids,h=>by
  cases h with
  |mk _ _ _ _ _ h4 h5=>
   have ih:aEZ kids=true:=by rw[aIu,AO];exact λe he=>bEE d Po e (h4 e he)
   unfold aBN;rw[ih];obtain⟨o0,o1,o2,o3,o4⟩:=bFH h5;have a1:decide (op<0)=false:=soT;have a2:decide (op ≥ 11)=false:=soT;have a3:decide (n<0)=false:=soT;have a4:decide (n>aAq op)=false:=soT;have a5:((kids.length:Int) != (aCn op:Int))=false:=by rw[o2];simp
   have a6:((((lev op:Nat):Int)==0) && !c)=false:=by
    rcases o4 with h | rfl
    ·have:(((lev op:Nat):Int)==0)=false:=by simp;exact h
     rw[this];rfl
    simp
   rw[a1,a2,a3,a4,a5,a6];rfl
def bFp{e:Expr}(h:Deep Pa 4 e):aBV e=0:=by have h1:=h.ok.2;have h2:=aPL e;unfold aBV;rw[bEE 4 Pa e h];have a:decide ((gY e:Int)>256)=false:=soT;have b:decide ((aBM e:Int)>16)=false:=soT;rw[a,b];rfl
def kf.right{b:Block}(hb:kf b):dQ b=true:=by
 unfold dQ;rw[AI];refine⟨by cases hb<;>simp[eqv,aKK,cV], ?_⟩;cases hb with
 |text h=>exact bED h
 | @form e h=>show (exS e 1).2=Pa;rw[bFI 4 Pa _ 1 h deT deT]
 | @col op a h=>show (([3,4,5,6]:List Int).any (λx=>op==x)&&(wi a.length 1 8&&a.all aUP))=Pa;obtain⟨h1,h2,h3⟩:=h;simp only[AI,AO,aUP,eG];refine⟨?_,omT,λn hn=>h3 n hn⟩;simp;omega
 | @cd g h=>
  show (wi g.length 1 12&&g.all (aUQ (g.headD []).length))=Pa;obtain⟨h1,h2,h3,c,h4⟩:=h;simp only[AI,AO,aUQ,eG,beq_iff_eq];refine⟨omT,λr hr=>⟨?_, ?_,λs hs=>(bEM ((h3 r hr).2.2 s hs)).2.1⟩⟩
  ·rw[h4 r hr];cases g with
   |nil=>cases hr
   |cons a l=>rw[ON,h4 a siT]
  have:=h3 r hr;omega
 | @fig s h=>show ((wi 60 1 1000&&wi 50 1 1000)&&(wi s.length 1 8&&s.all vQ))=Pa;simp only[AI,AO,eG,vQ,aKG];refine⟨⟨⟨deT,deT⟩,deT,deT⟩,by have:=h.1;omega,λa ha=>?_⟩;obtain⟨a1,a2,a3⟩:=bEp (h.2.1 a ha);exact⟨a1,omT,λp hp=>by have:=a3 p hp;omega⟩
 | @mel m h=>
  show aUO m=Pa;obtain⟨h1,h2,h3,c,h4⟩:=h;simp only[aUO,aKL,aT9,aGv,AI,AO,eG,beq_iff_eq];refine⟨omT,λr hr=>⟨?_, ?_,λl hl=>?_⟩⟩
  ·rw[h4 r hr];cases m with
   |nil=>cases hr
   |cons a l=>rw[ON,h4 a siT]
  ·have:=h3 r hr;omega
  obtain⟨k1,k2,k3⟩:=(h3 r hr).2.2 l hl;exact⟨omT,λn hn=>by have:=k3 n hn;omega⟩
 | @lst l h=>show (wi l.length 1 64&&l.all (vP 0 80))=Pa;simp only[AI,AO,eG];exact⟨by have:=h.1;have:=h.2.1;omega,λs hs=>(by decide:∀s∈mq,vP 0 80 s=Pa) s (h.2.2 s hs)⟩
def kf.checked{E:Int->Int->List Shape->Int}(hE:∀s,bGI s->E 60 50 s=0){b:Block}(hb:kf b):nU E b=0:=by
 unfold nU;rw[Zy hb.right];cases hb with
 |form h=>exact bFp h
 |fig h=>exact hE _ h
 |_=>rfl
def bDS{b:Block}{at':Int}{f:Fact}{k:Nat}(hk:k<7)(h1:lJ (aBp k) b.kind=Pa){p:Nat×Nat}(hp:p∈aWq b k)(e:f=⟨k,at',p.1,p.2⟩):f∈eM b at':=by refine IM.2 ⟨k,HE.2 hk, ?_⟩;unfold aF8;rw[Zy h1];exact DB.2 ⟨p,hp,e.symm⟩
def bGL{b:Block}(hb:kf b){at':Int}{f:Fact}(h:bFo b at' f):f∈eM b at':=by
 obtain⟨fk,fb,fa,fc⟩:=f;obtain⟨h0,h⟩:=h;have h0:fb=at':=h0;subst h0;simp only at h;have toN:∀{n:Int},0<=n->((n.toNat:Nat):Int)=n:=λh=>Int.toNat_of_nonneg h;rcases h with⟨rfl,h1,rfl,rfl⟩ | ⟨rfl,h1,h2,h3⟩ | ⟨rfl,h1,h2,rfl⟩ | ⟨h0,h1,h2,h3,h4⟩ | ⟨rfl,h1,h2,h3⟩ | ⟨rfl,h1,h2,rfl⟩
 ·exact bDS (k:=0) deT (by simp[lJ,aBp,h1]) (p:=(0,0)) (aDs.2 ⟨deT,deT⟩) rfl
 ·exact bDS (k:=1) deT (by simp[lJ,aBp,h1]) (p:=(fa.toNat,fc.toNat)) (aDs.2 ⟨omT,by unfold aFt;omega⟩) (by simp only[toN h2.1,toN h3.1];rfl)
 ·refine bDS (k:=2) deT (by simp[lJ,aBp,h1]) (p:=(fa.toNat,0)) (OK.2 ⟨aDs.2 ⟨omT,omT⟩, ?_⟩) (by simp only[toN (n:=fa) omT];rfl);cases hb with
  |fig hf=>obtain⟨_,_,a,r,e,ha⟩:=hf;have:(((({ cV 4 with w:=60,h:=50,aw:=a::r }:Block).aw)[0]?).map Shape.kind).getD 0=2:=ha;subst e;simp only[aGY,this];simp;omega
  |_=>simp[cV]at h1
 ·rcases h0 with rfl | rfl
  ·exact bDS (k:=3) deT (by simp[lJ,aBp,h1]) (p:=(fa.toNat,fc.toNat)) (OK.2 ⟨aDs.2 ⟨omT,omT⟩,by simp[aGY];omega⟩) (by simp only[toN h2.1,toN h3.1];rfl)
  exact bDS (k:=4) deT (by simp[lJ,aBp,h1]) (p:=(fa.toNat,fc.toNat)) (OK.2 ⟨aDs.2 ⟨omT,omT⟩,by simp[aGY];omega⟩) (by simp only[toN h2.1,toN h3.1];rfl)
 ·exact bDS (k:=5) deT (by simp[lJ,aBp,h1]) (p:=(fa.toNat,fc.toNat)) (aDs.2 ⟨by unfold aFu;omega,omT⟩) (by simp only[toN h2.1,toN h3.1];rfl)
 exact bDS (k:=6) deT (by simp[lJ,aBp,h1]) (p:=(fa.toNat,0)) (aDs.2 ⟨omT,deT⟩) (by simp only[toN h2.1];rfl)
def bGM{n:Nat}(h:n<1000):vP 0 40 (dec n)=true:=by
 have:(GZ 1000).all (λn=>vP 0 40 (nC 3 n))=true:=cB;have h2:=AO.1 this n (HE.2 h)
 rwa [aJJ 2 n omT]at h2
def jt.right{m:Nat}{q:Question}(h:jt m q)(hm:m<=8):aWp q=true:=by
 obtain⟨h1,h2,h3,h4,h5,h6,h7,h8,h9⟩:=h;simp only[aWp,bED h2,aOl,AI,AO,eG,beq_iff_eq];refine⟨⟨⟨⟨⟨⟨⟨omT,trivial⟩,omT⟩,omT,λs hs=>(by decide:∀s∈bGE,vP 1 40 s=Pa) s (h4 s hs)⟩,omT,λs hs=>(by decide:∀s∈bGF,vP 0 60 s=Pa) s (h5 s hs)⟩,omT,λn hn=>by have:=h7 n hn;omega⟩, ?_⟩,omT⟩;rcases h8 with h | ⟨n,hn,h⟩
 ·exact (bEM h).2.2
 rw[h];exact bGM hn
def y9.right{x:Item}(h:y9 x):aGU x=true:=by obtain⟨h1,h2,h3,h4,h5,h6,h7⟩:=h;simp only[aGU,(by decide:∀s∈bF7,aO7 s=Pa) _ h1,aHJ,AI,AO,eG];refine⟨⟨⟨trivial,omT,λb hb=>(h3 b hb).right⟩,omT,λf hf=>?_⟩,omT,λq hq=>(h7 q hq).right omT⟩;obtain⟨a0,b,a1,a2⟩:=h5 f hf;have a3:=a2.small (h3 b (AN a1)).lens;have a4:=(AH.1 a1).1;omega
def y9.told{E:Int->Int->List Shape->Int}(hE:∀s,bGI s->E 60 50 s=0){x:Item}(h:y9 x){f:Fact}(hf:f∈x.facts):Told E x f:=by obtain⟨a0,b,a1,a2⟩:=h.fact f hf;have hb:=h.block b (AN a1);have a4:=(AH.1 a1).1;refine⟨a0,omT,λc hc=>?_⟩;rw[a1]at hc;cases hc;exact⟨hb.right,hb.checked hE,bGL hb a2⟩
def kf.lim{b:Block}(hb:kf b):Sc b 400:=by
 cases hb with
 | @text r h=>
  refine⟨λe=>?_,λe=>?_,λe=>?_,λe=>?_,λe=>?_,λe=>?_,λe=>?_⟩<;>first | (simp[cV]at e;done) | skip
  exact⟨38,λa ha=>by have:=bDR (h.2.2.1 a ha).2;omega,show 5+r.length*38<=400 by have:=h.2.1;omega⟩
 | @form ex h=>
  refine⟨λe=>?_,λe=>?_,λe=>?_,λe=>?_,λe=>?_,λe=>?_,λe=>?_⟩<;>first | (simp[cV]at e;done) | skip
  show 9+20*gY ex<=400;have:=h.ok.2;omega
 | @col op a h=>
  refine⟨λe=>?_,λe=>?_,λe=>?_,λe=>?_,λe=>?_,λe=>?_,λe=>?_⟩<;>first | (simp[cV]at e;done) | skip
  show 12+a.length*9<=400;have:=h.2.1;omega
 | @cd g h=>
  refine⟨λe=>?_,λe=>?_,λe=>?_,λe=>?_,λe=>?_,λe=>?_,λe=>?_⟩<;>first | (simp[cV]at e;done) | skip
  exact⟨67,21,λr hr=>⟨by have:=(h.2.2.1 r hr).2.1;omega,λs hs=>by have:=bDR ((h.2.2.1 r hr).2.2 s hs);omega⟩,show 8+g.length*67<=400 by have:=h.2.1;omega⟩
 | @fig s h=>
  refine⟨λe=>?_,λe=>?_,λe=>?_,λe=>?_,λe=>?_,λe=>?_,λe=>?_⟩<;>first | (simp[cV]at e;done) | skip
  exact⟨91,λa ha=>by have:=(bEp (h.2.1 a ha)).2.1;omega,show 26+s.length*91<=400 by have:=h.1;omega⟩
 | @mel m h=>
  refine⟨λe=>?_,λe=>?_,λe=>?_,λe=>?_,λe=>?_,λe=>?_,λe=>?_⟩<;>first | (simp[cV]at e;done) | skip
  exact⟨161,52,λx hx=>⟨by have:=(h.2.2.1 x hx).2.1;omega,λl hl=>by have:=((h.2.2.1 x hx).2.2 l hl).2.1;omega⟩,show 6+m.length*161<=400 by have:=h.2.1;omega⟩
 | @lst l h=>
  refine⟨λe=>?_,λe=>?_,λe=>?_,λe=>?_,λe=>?_,λe=>?_,λe=>?_⟩<;>first | (simp[cV]at e;done) | skip
  exact⟨122,λs hs=>by have:=(by decide:∀s∈mq,s.length<=57) s (h.2.2 s hs);omega,show 8+l.length*122<=400 by have:=h.2.1;omega⟩
def jt.lim{m:Nat}{q:Question}(h:jt m q)(hm:m<=6):bI6 q 490:=by
 obtain⟨h1,h2,h3,h4,h5,h6,h7,h8,h9⟩:=h;refine⟨38,53,λr hr=>by have:=bDR (h2.2.2.1 r hr).2;omega,λs hs t ht=>by have:=bGa (h4 s hs);have:=bGb (h5 t ht);omega, ?_⟩;have hk:q.key.length<=9:=by
  rcases h8 with h | ⟨n,hn,h⟩
  ·exact bDR h
  have:=aGn 2 n omT;rw[h];omega
 have:=h2.2.1;omega
def y9.lim{x:Item}(h:y9 x):bI7 x 2551:=by obtain⟨h1,h2,h3,h4,h5,h6,h7⟩:=h;exact⟨400,490,λb hb=>(h3 b hb).lim,λq hq=>(h7 q hq).lim h4,by have:=(by decide:∀s∈bF7,s.length<=5) _ h1;omega⟩
def R2.right{x:jm}(h:R2 x):bDt x=true:=by obtain⟨h1,h2,h3⟩:=h;simp only[bDt,(by decide:∀s∈bEq,vP 0 100 s=Pa) _ h1,BR,AI,eG,AO];exact⟨omT,λi hi=>(h3 i hi).right⟩
def bFW{A:af}{g:SN}{tB:Nat}(F:oh A g tB){x:jm}(h:R2 x)(H:LO):aG A (g "e") [dE x] H=N1 (vi 0,H,[]):=by obtain⟨e,h1,_,_,h4⟩:=aTh F x h.ok H;rw[h1,h4 h.right 2551 (λi hi=>(h.item i hi).lim) (by have:=h.G8;have:=(by decide:∀s∈bEq,s.length<=14) _ h.title;omega)]
abbrev aHf(g:SN):ag:=qS [qb 23 .lss 22 21]<|.seq (qC 23 (.skip) (.exit 2))<|.seq (.block 3 (qS [qi 24 20 22 4,qla 25 4 24,qq 9 (.alloc [z0,z0,z0,z0]),qs 4 9 25]<|qS [qla 27 4 6,qla 28 4 9,qc 29 (g "g") [u 27,u 28],qm 26 29,qq 30 (.ext 0 (u 26)),qq 31 (.ext 1 (u 26)),qm 10 30,qm 11 31]<|.seq (qS [qm 32 11,qbi 33 .neq 32 0]<|qC 33 (qS [qm 34 11,qmc 2 (.sl Pa []),qm 3 34]<|.ret) (.skip))<|.region Po [qm 35 7,qm 36 10,qq 37 (.bsl 1 [(.str [])] 1 [(0,(.tmp 36))]),qa 38 1 16 35 37,qm 7 38]))<|.region Po [qbi 39 .add 22 1,qm 22 39]
abbrev aHg(g:SN):ag:=qS [qb 16 .lss 15 14]<|.seq (qC 16 (.skip) (.exit 0))<|.seq (.block 1 (qS [qi 17 13 15 4,qla 18 4 17,qq 6 (.alloc [(.str []),(.sl Pa []),(.sl Pa []),(.sl Pa [])]),qs 4 6 18]<|qS [qmc 7 (.sl Pa [])]<|.seq (qS [qf 19 2 6,ql 20 1 19,qn 21 20,qmc 22 z0]<|.block 2 (.loop (aHf g)))<|.seq (.frz [(0,7)])<|.region Po [qm 40 4,qm 41 7,qq 42 (.bsl 1 [(.sl Po [])] 1 [(0,(.tmp 41))]),qa 43 1 24 40 42,qm 4 43]))<|.region Po [qbi 44 .add 15 1,qm 15 44]
def tM(g:SN):bw:=⟨46,[6,9,38,43],[.tmp 2,.tmp 3],qS [qx 1 2 0,qmc 2 (.sl Pa []),qmc 3 z0]<|qS [qmc 4 (.sl Pa [])]<|.seq (qS [qf 12 1 1,ql 13 1 12,qn 14 13,qmc 15 z0]<|.block 0 (.loop (aHg g)))<|qS [qm 45 4,qm 2 45,qmc 3 z0]<|.ret⟩
def aNo{id k:Nat}{rows:List LA}{v:AV}{o:ah}(h:ew id k rows v o)(hd:gG rows=Pa):∃f l o',∀H:LO,H[id]? = N1 o->dw H v=N1 (.sl f rows,l)/\dL H l=H.set id o'/\∀b wr,b<=id->bE b wr l=wr:=by
 obtain⟨f,l,o',h1,h2,h3⟩:=h.dw hd;refine⟨f,l,o',λH ho=>⟨?_,h2 H ho,h3⟩⟩;have e:dw H v=aA2 H v:=by cases h<;>rfl
 rw[e,h1 H ho]
def hU(R:List (List Str)):List LA:=R.map λr=>[AV.sl Po (r.map aN)]
def aHh:∀R,gG (hU R)=Pa
 | []=>rfl
 |r::R=>by
  show (iX [AV.sl Po (r.map aN)]&&gG (hU R))=Pa;rw[aHh R];have:=cU r;simp only[bY]at this;rw[this];rfl
noncomputable def bHu(A:af)(n:Nat)(x:Item)(f:Fact):Str:=match aG A n [.agg (aO x),.agg (aI f)] []with
 |some (.tup [.str s,_],_,_)=>s
 |_=>[]
noncomputable def bFJ(A:af)(n:Nat)(x:jm):Int:=match aG A n [dE x] []with
 |some (.int .i64 e,_,_)=>e
 |_=>0
abbrev bEN(A:af)(g:SN)(V:Item->Fact->Str)(Q:Item->Fact->Prop):Prop:=∀(x:Item),x.Ok->∀(f:Fact),Q x f->∀H:LO,aG A (g "g") [.agg (aO x),.agg (aI f)] H=N1 (.tup [.str (V x f),vi 0],H,[])/\(V x f).length<=1000000
abbrev bF8(A:af)(g:SN)(W:jm->Int):Prop:=∀(x:jm),x.Ok->(∀H:LO,aG A (g "e") [dE x] H=N1 (vi (W x),H,[]))/\(bDt x=Pa->W x=0∨W x=4)/\(R2 x->W x=0)
section
variable {A A1:af}{g:SN}{E:Int->Int->List Shape->Int}{P:Block->Fact->Bool}{tB tP:Nat}
def bFX(F:Qb A1 g E P tB tP)(hp:A.bq (g "g")=N1 (aFb A1 (g "g"))):bEN A g (bHu A1 (g "g")) (Told E):=by
 intro x hx f hf H;obtain⟨s,hl,he⟩:=bEL F x hx f hf [];have h1:bHu A1 (g "g") x f=s:=by unfold bHu;rw[he]
 rw[h1];refine⟨dT ?_,hl.1⟩;rw[hp];show aFb A1 _ _ H=_;refine aQs ?_ rfl he H;have h2:dJ 0 (aO x)=true:=dC (dV x);have h3:dJ 0 (aI f)=true:=dC (eL f);simp[dJ,AV.under,h2,h3]
def bGe(F:Qb A1 g E P tB tP){x y:Item}(hx:x.Ok)(hy:y.Ok)(hb:x.blocks=y.blocks){f:Fact}(h1:Told E x f)(h2:Told E y f):bHu A1 (g "g") x f=bHu A1 (g "g") y f:=by obtain⟨s,hl,he⟩:=bEL F x hx f h1 [];obtain⟨t,kl,ke⟩:=bEL F y hy f h2 [];unfold bHu;rw[he,ke];have fo:=AP (l:=x.blocks) (i:=f.block.toNat) (by have:=h1.b0;have:=h1.b1;omega);exact (hl.2 _ fo).inj (kl.2 _ (by rw[<- hb];exact fo))
def bF9(F:oh A1 g tB)(hp:A.bq (g "e")=N1 (aFb A1 (g "e"))):bF8 A g (bFJ A1 (g "e")):=by
 intro x hx;obtain⟨e,he,_,h0,_⟩:=aTh F x hx [];have h1:bFJ A1 (g "e") x=e:=by unfold bFJ;rw[he]
 rw[h1];refine⟨λH=>dT ?_,h0,λh=>?_⟩
 ·rw[hp];show aFb A1 _ _ H=_;refine aQs ?_ rfl he H;have h3:eR 0 (x.items.map aO)=true:=aA (aC dV _);simp[dE,dJ,AV.under,h3]
 rw[bFW F h []]at he;cases he;rfl
end
def bCF(V:Item->Fact->Str)(x:jm):List (List Str):=x.items.map λit=>it.facts.map (V it)
section
variable {A:af}{g:SN}{V:Item->Fact->Str}{Q:Item->Fact->Prop}
def bGN(F:bEN A g V Q)(h:Has A g "au" (tM g))(x:jm)(hx:x.Ok)(hq:∀it∈x.items,∀f∈it.facts,Q it f)(H:LO):aG A (g "au") [dE x] H=N1 (.tup [.sl Po (hU (bCF V x)),vi 0],H,[]):=by
 obtain⟨r,H',ba,e1,rfl,rfl,rfl⟩:=h.bp (args:=[dE x]) (H:=H) (K:=λr H' wr=>wr=[]/\H'=H/\r=.tup [.sl Po (hU (bCF V x)),vi 0]) (by
  simp only[tM];simp only[go_sem,↓aB,seval,dE,AB,AD,AA,AE,AF];refine bJ (id:=0) (λk ρ1 H1 wr=>wr=[]/\ρ1 15=vi (k:Nat)/\∃x0 x1 x2 x3,H1=H++[x0,x1,x2,x3]/\ew (H.length+3) 1 (hU ((x.items.take k).map λit=>it.facts.map (V it))) (ρ1 4) x3) x.items.length
   (λρ1 H1 wr=>wr=[]/\∃x0 x1 x2 x3,H1=H++[x0,x1,x2,x3]/\ew (H.length+3) 1 (hU (bCF V x)) (ρ1 4) x3) cB rfl ⟨rfl,rfl,_,_,_,_,rfl,.nil _⟩ ?_ ?_
  ·rintro k ρ1 H1 dc zp ⟨rfl,e15,x0,x1,x2,x3,rfl,hR⟩ hf;have f13:ρ1 13=.sl Po (x.items.map aO):=hf 13 rfl;have f14:ρ1 14=vi (x.items.length:Nat):=hf 14 rfl;simp only[go_sem,↓aB,seval,e15,f14];refine aD (λe3=>?_) (λe3=>?_)
   ·have hlt:k<x.items.length:=by simp at e3;omega
    have Bm:=hx.G8;have dy:=wS (i:=k) omT;have cj:=mgE aO hlt;have kh:=hx.items _ (AS hlt);have pk:(x.items.take (k+1)).map (λit=>it.facts.map (V it))=(x.items.take k).map (λit=>it.facts.map (V it))++[x.items[k].facts.map (V x.items[k])]:=by rw[EW hlt,DQ];rfl
    have Ji:((x.items.take k).map λit=>it.facts.map (V it)).length<=16:=soT;have Rn:=hq _ (AS hlt);generalize (x.items.take k).map (λit=>it.facts.map (V it))=R at *;generalize x.items[k]=it at *;have kr:=λf hf H=>(F it kh f (Rn f hf) H).1;have k9:=kh.facts;have I9:=kh.B1;simp only[aO]at kr;simp only[go_sem,↓aB,seval,e15,f13,AF,AU,AT,hlt,cj,aO,AD,AB,AA,AE];refine bJ (id:=2) (λj ρ2 H2 wr=>wr=[]/\ρ2 22=vi (j:Nat)/\∃y1 y2,H2=H++[.box (x0.ver+1) [.str it.name,.sl Po (it.blocks.map aE),.sl Po (it.facts.map aI),.sl Po (it.ask.map gR)],y1,y2,x3]/\ew (H.length+2) 1 (((it.facts.take j).map (V it)).map aN) (ρ2 7) y2) it.facts.length
     (λρ2 H2 wr=>wr=[]/\∃y1 y2,H2=H++[.box (x0.ver+1) [.str it.name,.sl Po (it.blocks.map aE),.sl Po (it.facts.map aI),.sl Po (it.ask.map gR)],y1,y2,x3]/\ew (H.length+2) 1 ((it.facts.map (V it)).map aN) (ρ2 7) y2) cB rfl ⟨rfl,rfl,_,_,rfl,.nil _⟩ ?_ ?_
    ·rintro j ρ2 H2 en mo ⟨rfl,e22,y1,y2,rfl,hS⟩ cq;have f20:ρ2 20=.sl Po (it.facts.map aI):=cq 20 rfl;have f21:ρ2 21=vi (it.facts.length:Nat):=cq 21 rfl;have f6:ρ2 6=.ptr H.length (x0.ver+1) 0:=cq 6 rfl;simp only[go_sem,↓aB,seval,e22,f21];refine aD (λe4=>?_) (λe4=>?_)
     ·have jlt:j<it.facts.length:=by simp at e4;omega
      have gn:=wS (i:=j) omT;have fh:=mgE aI jlt;have Uu:((it.facts.take (j+1)).map (V it)).map aN=((it.facts.take j).map (V it)).map aN++[aN (V it it.facts[j])]:=by rw[EW jlt,DQ,DQ];rfl
      have Bu:((it.facts.take j).map (V it)).length<=16:=soT;have Uv:=AS jlt;generalize it.facts[j]=f at *;generalize (it.facts.take j).map (V it)=S at *;have Da:=kr f Uv (H++[.box (x0.ver+1) [.str it.name,.sl Po (it.blocks.map aE),.sl Po (it.facts.map aI),.sl Po (it.ask.map gR)],.box (y1.ver+1) (aI f),y2,x3]);generalize V it f=s at *;simp only[aI]at Da;obtain⟨v',o',Mr,Gx⟩:=hS.app (new:=[aN s]) (bytes:=16) siT rfT soT;simp only[go_sem,↓aB,seval,e22,f20,f6,AU,AT,jlt,fh,aI,AD,AB,AA,AE,Da,bne_self_eq_false];have a7:=Gx (H++[.box (x0.ver+1) [.str it.name,.sl Po (it.blocks.map aE),.sl Po (it.facts.map aI),.sl Po (it.ask.map gR)],.box (y1.ver+1) [vi f.kind,vi f.block,vi f.a,vi f.b],y2,x3]) Pa (by rw[bX];rfl);rw[eS]at a7;simp only[aN]at a7;simp only[go_sem,↓aB,seval,a7,gn,e22];exact⟨jlt,_,_,rfl,by rw[Uu];exact Mr⟩
     have:j=it.facts.length:=by simp at e4;omega
     subst this;rw[DM]at hS;simp only[go_sem,seval];exact⟨y1,y2,rfl,hS⟩
    rintro ρ3 H3 wr3 ⟨rfl,y1,y2,rfl,hS⟩ cq;have k4:ρ3 4=ρ1 4:=cq 4 rfl;have k15:ρ3 15=vi (k:Nat):=(cq 15 rfl).trans e15;have Bu:(it.facts.map (V it)).length<=16:=soT;generalize it.facts.map (V it)=S at *;obtain⟨fl,l,o',D1⟩:=aNo hS (aC bO S);obtain⟨S7,C3,yd⟩:=D1 (H++[.box (x0.ver+1) [.str it.name,.sl Po (it.blocks.map aE),.sl Po (it.facts.map aI),.sl Po (it.ask.map gR)],y1,y2,x3]) (by rw[bX];rfl);rw[eS]at C3;have yd:=λwr=>yd H.length wr omT;obtain⟨v',o2,Ms,Gx⟩:=hR.app (new:=[[.sl Po (S.map aN)]]) (bytes:=24) siT rfT (by simp[hU];omega);have a7:=Gx (H++[.box (x0.ver+1) [.str it.name,.sl Po (it.blocks.map aE),.sl Po (it.facts.map aI),.sl Po (it.ask.map gR)],y1,o',x3]) Pa (by rw[bX];rfl);rw[eS]at a7;simp only[go_sem,↓aB,seval,S7,C3,yd,k4,k15,dy,a7];refine⟨hlt,_,_,_,_,rfl, ?_⟩;have:hU (R++[S])=hU R++[[.sl Po (S.map aN)]]:=by unfold hU;rw[DQ];rfl
    rw[pk,this];exact Ms
   have:k=x.items.length:=by simp at e3;omega
   subst this;rw[DM]at hR;simp only[go_sem,seval];exact⟨x0,x1,x2,x3,rfl,hR⟩
  rintro ρ' H' ba ⟨rfl,x0,x1,x2,x3,rfl,hR⟩ hf;generalize bCF V x=R at *;obtain⟨fl,l,o',D1⟩:=aNo hR (aHh R);obtain⟨S7,C3,yd⟩:=D1 (H++[x0,x1,x2,x3]) (by rw[bX];rfl);rw[eS]at C3;have yd:=λwr=>yd H.length wr omT;simp only[go_sem,↓aB,seval,S7,C3,yd,aBv];have hu:(AV.tup [AV.sl Po (hU R),AV.int .i64 0]).under H.length=true:=by have:=aA (n:=H.length) (aHh R);simp[AV.under,dJ,this]
  rw[qQ hu,List.take_left];exact⟨rfl,rfl,rfl⟩)
 exact e1
end
noncomputable def bGO(f:Nat):Option aIP:=match f with
 |181=>N1 (aFb AL 181)
 |185=>N1 (aFb AL 185)
 |f=>aMX f
noncomputable def AMs:af:=⟨fnK,bGO⟩
def bHY:Good Go.Proofs.Tryz.prog aBx AMs:=aLW rfl cB rfl λf p h=>by
 have h:bGO f=N1 p:=h;unfold bGO at h;split at h
 ·cases h;exact .inr (aSs bAY aBi ⟨Go.Proofs.Tryz.f181,Go.Proofs.Tryz.func181,cB,cB⟩)
 ·cases h;exact .inr (aSs bAY aBi ⟨Go.Proofs.Tryz.f185,Go.Proofs.Tryz.func185,cB,cB⟩)
 exact .inr (aT6.bq f p h)
noncomputable def bFK(f:Nat):Option aIP:=match f with
 |124=>N1 (aFb AMs 124)
 |f=>bGO f
noncomputable def AM2:af:=⟨fnK,bFK⟩
def bHe:Good Go.Proofs.Tryz.prog aBx AM2:=aLW rfl cB rfl λf p h=>by
 have h:bFK f=N1 p:=h;unfold bFK at h;split at h
 ·cases h;exact .inr (aSs bHY aBi ⟨Go.Proofs.Tryz.f124,Go.Proofs.Tryz.func124,cB,cB⟩)
 exact .inr (bHY.bq f p h)
noncomputable def bFL(f:Nat):Option aIP:=match f with
 |87=>N1 (aFb AM2 87)
 |f=>bFK f
noncomputable def AMh:af:=⟨fnK,bFL⟩
def bGf:Good Go.Proofs.Tryz.prog aBx AMh:=aLW rfl cB rfl λf p h=>by
 have h:bFL f=N1 p:=h;unfold bFL at h;split at h
 ·cases h;exact .inr (aSs bHe aBi ⟨Go.Proofs.Tryz.f87,Go.Proofs.Tryz.func87,cB,cB⟩)
 exact .inr (bHe.bq f p h)
noncomputable def aVq(f:Nat):Option aIP:=match f with
 |41=>N1 (aFb AMh 41)
 |58=>N1 (aFb AMh 58)
 |f=>bFL f
noncomputable def AM0:af:=⟨fnK,aVq⟩
def bBh:Good Go.Proofs.Tryz.prog aBx AM0:=aLW rfl cB rfl λf p h=>by
 have h:aVq f=N1 p:=h;unfold aVq at h;split at h
 ·cases h;exact .inr (aSs bGf aBi ⟨Go.Proofs.Tryz.f41,Go.Proofs.Tryz.func41,cB,cB⟩)
 ·cases h;exact .inr (aSs bGf aBi ⟨Go.Proofs.Tryz.f58,Go.Proofs.Tryz.func58,cB,cB⟩)
 exact .inr (bGf.bq f p h)
abbrev bEO(g:SN):List ae:=[qm 20 0,qm 21 5,⟨N1 22,.fm (u 20) (N1 (.tmp 21)) N2,N2,[0,1]⟩,qmc 4 (.str [43]),⟨N1 0,om 22,N2,[2,0,1,3]⟩]
abbrev bE1:LN:=[]
abbrev bEP(g:SN):ag:=.seq (qS [qm 6 0,qq 7 (.fg (u 6)),qbi 8 .gtr 7 0]<|qC 8 (.skip) (.exit 0))<|.block 1 (qS [qm 9 0,qq 10 (.fg (u 9)),qq 11 (.mm Po [(.tmp 10),(.const (vi 59))]),qm 5 11]<|qS [qm 12 3,qm 13 4,qm 14 0,qm 15 5,qq 16 (.fm (u 14) N2 (N1 (.tmp 15))),qb 17 .add 13 16,qq 18 (.bsl 1 [(.str [])] 1 [(0,(.tmp 17))]),qa 19 1 16 12 18,qm 3 19]<|.region Pa (bEO g))
def bD3(g:SN):bw:=⟨24,[19],[.tmp 2],qS [qmc 2 (.sl Pa [])]<|qS [qmc 3 (.sl Pa [])]<|qS [qmc 4 (.str [61])]<|.seq (.block 0 (.loop (bEP g)))<|qS [qm 23 3,qm 2 23]<|.ret⟩
section
variable {A:af}{g:SN}
def bEF(h:Has A g "A" (bD3 g))(s:Str)(bl:s≠[])(hl:s.length<=10000000)(H:LO):aG A (g "A") [.str s] H=N1 (.own 1 ((cH s).map aN),H,[]):=by
 obtain⟨r,H',ba,e1,rfl,rfl,rfl⟩:=h.bp (args:=[.str s]) (H:=H) (K:=λr H' wr=>wr=[]/\H'=H/\r=.own 1 ((cH s).map aN)) (by
  simp only[bD3];simp only[go_sem,↓aB,seval];refine bJ (id:=0) (λk ρ1 H1 wr=>wr=[]/\∃(x0:ah) (a:List Str) (m:UInt8) (r:Str),H1=H++[x0]/\cH s=a++bDN m r/\a.length=k/\ρ1 0=.str r/\ρ1 4=.str [m]/\ew H.length 1 (a.map aN) (ρ1 3) x0/\k+r.length<=s.length) s.length
   (λρ1 H1 wr=>wr=[]/\∃x0,H1=H++[x0]/\ew H.length 1 ((cH s).map aN) (ρ1 3) x0) cB rfl ⟨rfl,_,[],61,s,rfl,rfl,rfl,rfl,rfl,.nil _,omT⟩ ?_ ?_
  ·rintro k ρ1 H1 dc zp ⟨rfl,x0,a,m,r,rfl,hp,j8,e0,e4,hG,Jd⟩ hf;by_cases hr:r=[]
   ·subst hr;rw[bE8,AJ]at hp;simp only[go_sem,↓aB,seval,e0,AZ];exact⟨x0,rfl,by rw[hp];exact hG⟩
   have kj:0<r.length:=MY.2 hr;have hd:decide ((r.length:Int)>0)=true:=soT;have E3:(if (59:Int)<(r.length:Int)then (59:Int)else (r.length:Int))=((min r.length 59:Nat):Int):=by split<;>omega
   have fo:dU r.length N2 (N1 (vi ((min r.length 59:Nat):Int))) N2=N1 (0,min r.length 59,r.length):=by unfold dU iL vi;dsimp only;rw[Zy ⟨omT,omT⟩];rfl
   have dp:dU r.length (N1 (vi ((min r.length 59:Nat):Int))) N2 N2=N1 (min r.length 59,r.length,r.length):=aL6 (Nat.min_le_left _ _);obtain⟨v',o',Sw,Gx⟩:=hG.app (new:=[aN (m::r.take 59)]) (bytes:=16) siT rfT (by simp[j8];omega);have a7:=Gx (H++[x0]) Pa siT;rw[show (H++[x0]).set H.length o'=H++[o'] by simp]at a7;simp only[aN]at a7;have ji:kJ .add .no (.str [m]) (.str (r.take 59))=N1 (.str (m::r.take 59)):=kE soT;have pk:r.take (min r.length 59)=r.take 59:=by
    rcases MH r.length 59 with h | h
    ·rw[Gy omT,DM,CH omT]
    rw[Fa omT]
   have Gg:r.drop (min r.length 59)=r.drop 59:=by
    rcases MH r.length 59 with h | h
    ·rw[Gy omT,List.drop_length,DH omT]
    rw[Fa omT]
   simp only[go_sem,↓aB,seval,e0,e4,hd,E3,fo,pk,ji,a7,AD];refine aY (aq:=bE1) rfT rfT ?_;simp only[go_sem,↓aB,seval,bE1,e0,dp,Gg,DM];have ow:k<s.length:=omT;refine⟨ow,_,a++[m::r.take 59],43,r.drop 59,rfl, ?_,by simp[j8],rfl,rfl, ?_,soT⟩
   ·rw[hp,bDi hr,CJ];rfl
   rw[DQ];exact Sw
  rintro ρ' H' ba ⟨rfl,x0,rfl,hG⟩ hf;have ya:(cH s).map aN≠[]:=by unfold cH;rw[bDi bl];simp
  have hd:gG ((cH s).map aN)=true:=aC bO _;generalize (cH s).map aN=rows at *;generalize hv:ρ' 3=v at *;cases hG with
  |nil=>exact Zw rfl ya
  |obj ver=>
   simp only[go_sem,↓aB,seval,hv,aT hd,aA hd])
 exact e1
end
end Go.AM
end
