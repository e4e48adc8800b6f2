/- Part 33: lemmas for the last text. -/
import Derived.Test.YtfpndhocfmfgdaaGreatDoorK27
import Derived.Test.YtfpndhocfmfgdaaGreatDoorK32
set_option linter.unusedVariables false
set_option linter.unusedSimpArgs false
section
set_option maxRecDepth 8000
namespace Go.AM
open Go
def xA(g:String->Nat):AFn:=⟨8,[],[.tmp 4],qS [qmc 4 (.int .i64 0)]<|qS [qm 5 0,qm 6 1,qc 7 (g "internal/stringslite.Index") [u 5,u 6],qm 4 7]<|.ret⟩
def jL(g:String->Nat):ACode:=.block 0 (qS [qm 17 5,qbi 18 .eql 17 0,qm 19 18,qF 20 19 (om 1),qF 21 19 (om 0),qF 22 19 (ob .eql 20 21),qq 23 (.pick (u 19) uT (u 22)),qm 16 23]<|qC 16 (qS [qmc 4 (.int .i64 0)]<|.ret) (qS [qm 25 5,qbi 26 .eql 25 1,qm 24 26]<|qC 24 (qS [qm 27 0,qm 28 1,qq 29 (.ixS (u 28) (ui 0)),qc 30 (g "internal/stringslite.IndexByte") [u 27,u 29],qm 4 30]<|.ret) (qS [qm 32 5,qm 33 0,qq 34 (.lenS (u 33)),qb 35 .geq 32 34,qm 31 35]<|qC 31 (qS [qmc 4 (.int .i64 (-1))]<|.ret) (qS [qm 37 5,qq 38 (.bad),qb 39 .leq 37 38,qm 40 39,qT 41 40 (om 0),qT 42 40 (.lenS (u 41)),qT 43 40 (obi .leq 42 64),qp 44 40 43,qm 36 44]<|qC 36 (qS [qm 45 0,qm 46 1,qc 47 (g "internal/bytealg.IndexString") [u 45,u 46],qm 4 47]<|.ret) (.skip)))))
abbrev pU(g:String->Nat):ACode:=.seq (qS [qm 57 8,qm 58 9,qb 59 .lss 57 58]<|qC 59 (.skip) (.exit 1))<|.block 2 (.seq (qS [qm 60 0,qm 61 8,qq 62 (.ixS (u 60) (u 61)),qm 63 6,qb 64 .neq 62 63]<|qC 64 (qS [qm 65 0,qm 66 8,qbi 67 .add 66 1,qm 68 9,qq 69 (.sliceS (u 65) (some (.tmp 67)) (some (.tmp 68))),qm 70 6,qc 71 (g "internal/stringslite.IndexByte") [u 69,u 70],qm 11 71]<|.seq (qS [qm 72 11,qbi 73 .lss 72 0]<|qC 73 (qS [qmc 4 (.int .i64 (-1))]<|.ret) (.skip))<|.region false [qm 74 8,qm 75 11,qbi 76 .add 75 1,qb 77 .add 74 76,qm 8 77]) (.skip))<|.seq (qS [qm 78 0,qm 79 8,qbi 80 .add 79 1,qq 81 (.ixS (u 78) (u 80)),qm 82 7,qb 83 .eql 81 82,qm 84 83,qT 85 84 (om 0),qT 86 84 (om 8),qT 87 84 (om 8),qT 88 84 (om 5),qT 89 84 (ob .add 87 88),qT 90 84 (.sliceS (u 85) (some (.tmp 86)) (some (.tmp 89))),qT 91 84 (om 1),qT 92 84 (ob .eql 90 91),qp 93 84 92]<|qC 93 (qS [qm 94 8,qm 4 94]<|.ret) (.skip))<|qS [qm 95 8,qbi 96 .add 95 1,qm 8 96]<|qS [qm 97 10,qbi 98 .add 97 1,qm 10 98]<|qS [qm 99 5,qq 100 (.bad),qb 101 .leq 99 100,qm 102 101,qT 103 102 (om 10),qT 104 102 (om 8),qT 105 102 (oc (g "internal/bytealg.Cutover") [u 104]),qT 106 102 (ob .gtr 103 105),qp 107 102 106]<|qC 107 (qS [qm 108 0,qm 109 8,qq 110 (.sliceS (u 108) (some (.tmp 109)) none),qm 111 1,qc 112 (g "internal/bytealg.IndexString") [u 110,u 111],qm 12 112]<|.seq (qS [qm 113 12,qbi 114 .geq 113 0]<|qC 114 (qS [qm 115 12,qm 116 8,qb 117 .add 115 116,qm 4 117]<|.ret) (.skip))<|qS [qmc 4 (.int .i64 (-1))]<|.ret) (qS [qm 118 5,qq 119 (.bad),qb 120 .gtr 118 119,qm 121 120,qT 122 121 (om 10),qT 123 121 (om 8),qT 124 121 (.bin .shr .no (u 123) (uc (.int .u64 4))),qT 125 121 (.bin .add .no (ui 4) (u 124)),qT 126 121 (ob .geq 122 125),qp 127 121 126,qm 128 127,qT 129 128 (om 8),qT 130 128 (om 9),qT 131 128 (ob .lss 129 130),qp 132 128 131]<|qC 132 (qS [qm 133 0,qm 134 8,qq 135 (.sliceS (u 133) (some (.tmp 134)) none),qm 136 1,qc 137 (g "internal/bytealg.IndexRabinKarp[string]") [u 135,u 136],qm 13 137]<|.seq (qS [qm 138 13,qbi 139 .lss 138 0]<|qC 139 (qS [qmc 4 (.int .i64 (-1))]<|.ret) (.skip))<|qS [qm 140 8,qm 141 13,qb 142 .add 140 141,qm 4 142]<|.ret) (.skip)))
def gJ(g:String->Nat):AFn:=⟨143,[],[.tmp 4],qS [qmc 4 (.int .i64 0)]<|qS [qm 14 1,qq 15 (.lenS (u 14)),qm 5 15]<|.seq (jL g)<|qS [qm 48 1,qq 49 (.ixS (u 48) (ui 0)),qm 6 49]<|qS [qm 50 1,qq 51 (.ixS (u 50) (ui 1)),qm 7 51]<|qS [qmc 8 (.int .i64 0)]<|qS [qm 52 0,qq 53 (.lenS (u 52)),qm 54 5,qb 55 .sub 53 54,qbi 56 .add 55 1,qm 9 56]<|qS [qmc 10 (.int .i64 0)]<|.seq (.block 1 (.loop (pU g)))<|qS [qmc 4 (.int .i64 (-1))]<|.ret⟩
abbrev aBG(g:String->Nat):ACode:=qS [qb 54 .lss 53 52]<|.seq (qC 54 (.skip) (.exit 0))<|.seq (.block 1 (qS [qm 55 11,qm 56 0,qm 57 11,qq 58 (.sliceS (u 56) (some (.tmp 57)) none),qm 59 1,qc 60 (g "strings.Index") [u 58,u 59],qb 61 .add 55 60,qm 12 61]<|qS [qm 62 0,qm 63 11,qm 64 12,qq 65 (.sliceS (u 62) (some (.tmp 63)) (some (.tmp 64))),qc 66 (g "(*strings.Builder).WriteString") [u 10,u 65]]<|qS [qm 67 2,qc 68 (g "(*strings.Builder).WriteString") [u 10,u 67]]<|.region false [qm 69 12,qm 70 1,qq 71 (.lenS (u 70)),qb 72 .add 69 71,qm 11 72]))<|.region false [qbi 73 .add 53 1,qm 53 73]
abbrev aBH:List Nat:=[54,55,56,57,58,59,60,61,12,62,63,64,65,66,67,68,69,70,71,72,11,73,53]
abbrev aBI(g:String->Nat):ACode:=qS [qb 79 .lss 78 77]<|.seq (qC 79 (.skip) (.exit 2))<|.seq (.block 3 (qS [qm 81 0,qm 82 11,qq 83 (.sliceS (u 81) (some (.tmp 82)) none),qc 84 (g "unicode/utf8.DecodeRuneInString") [u 83],qm 80 84,qq 85 (.ext 0 (u 80)),qq 86 (.ext 1 (u 80)),qm 13 85,qm 14 86]<|qS [qm 87 11,qm 88 14,qb 89 .add 87 88,qm 15 89]<|qS [qm 90 0,qm 91 11,qm 92 15,qq 93 (.sliceS (u 90) (some (.tmp 91)) (some (.tmp 92))),qc 94 (g "(*strings.Builder).WriteString") [u 10,u 93]]<|qS [qm 95 2,qc 96 (g "(*strings.Builder).WriteString") [u 10,u 95]]<|.region false [qm 97 15,qm 11 97]))<|.region false [qbi 98 .add 78 1,qm 78 98]
def qZ(g:String->Nat):AFn:=⟨104,[10],[.tmp 8],qS [qmc 8 (.str [])]<|.seq (qS [qm 16 1,qm 17 2,qb 18 .eql 16 17,qm 19 18,qF 20 19 (om 3),qF 21 19 (obi .eql 20 0),qq 22 (.pick (u 19) uT (u 21))]<|qC 22 (qS [qm 23 0,qm 8 23]<|.ret) (.skip))<|.seq (qS [qm 24 0,qm 25 1,qc 26 (g "strings.Count") [u 24,u 25],qm 9 26]<|qS [qm 27 9,qbi 28 .eql 27 0]<|qC 28 (qS [qm 29 0,qm 8 29]<|.ret) (qS [qm 30 3,qbi 31 .lss 30 0,qm 32 31,qF 33 32 (om 9),qF 34 32 (om 3),qF 35 32 (ob .lss 33 34),qq 36 (.pick (u 32) uT (u 35))]<|qC 36 (qR [qm 37 9,qm 3 37]) (.skip)))<|qS [qq 10 (.talloc 181 [.nilPtr,.nilSl])]<|qS [qm 38 0,qq 39 (.lenS (u 38)),qm 40 3,qm 41 2,qq 42 (.lenS (u 41)),qm 43 1,qq 44 (.lenS (u 43)),qb 45 .sub 42 44,qb 46 .mul 40 45,qb 47 .add 39 46,qc 48 (g "(*strings.Builder).Grow") [u 10,u 47]]<|qS [qmc 11 (.int .i64 0)]<|.seq (qS [qm 49 1,qq 50 (.lenS (u 49)),qbi 51 .gtr 50 0]<|qC 51 (qS [qm 52 3,qmc 53 (.int .i64 0)]<|.block 0 (.loop (aBG g))) (qS [qm 74 2,qc 75 (g "(*strings.Builder).WriteString") [u 10,u 74]]<|qS [qm 76 3,qbi 77 .sub 76 1,qmc 78 (.int .i64 0)]<|.block 2 (.loop (aBI g))))<|qS [qm 99 0,qm 100 11,qq 101 (.sliceS (u 99) (some (.tmp 100)) none),qc 102 (g "(*strings.Builder).WriteString") [u 10,u 101]]<|qS [qc 103 (g "(*strings.Builder).String") [u 10],qm 8 103]<|.ret⟩
def mU(g:String->Nat):AFn:=⟨11,[],[.tmp 6],qS [qmc 6 (.str [])]<|qS [qm 7 0,qm 8 1,qm 9 2,qc 10 (g "strings.Replace") [u 7,u 8,u 9,ui (-1)],qm 6 10]<|.ret⟩
theorem aG6{c:UInt8}:∀{l:Str},0<l.count c->∃u w,l=u++c::w/\c∉u/\Lib.indexByte l c=(u.length:Nat)/\w.count c+1=l.count c
 | [],h=>by simp at h
 |b::l,h=>by
  by_cases e:b=c
  ·subst e;refine⟨[],l,rfl,by simp, ?_, ?_⟩
   ·unfold Lib.indexByte;simp
   ·simp[]
  ·have hb:(b==c)=false:=by simpa using e
   rw[List.count_cons,hb]at h;obtain⟨u,w,h1,h2,h3,h4⟩:=aG6 (l:=l) (by simpa using h)
   refine⟨b::u,w,by rw[h1];rfl,by simp[Ne.symm e,h2], ?_, ?_⟩
   ·unfold Lib.indexByte;rw[hb,h3];simp
   ·rw[List.count_cons,hb];simpa using h4
theorem aIn{n l:Nat}(h:l<=n):dK n (some (vi l)) none none=some (l,n,n):=by
 unfold dK kS vi;dsimp only;rw[if_pos ⟨by omega,by omega⟩]
 rfl
theorem xB{n l k:Nat}(h1:l<=k)(h2:k<=n):dK n (some (vi l)) (some (vi k)) none=some (l,k,n):=by
 unfold dK kS vi;dsimp only;rw[if_pos ⟨by omega,by omega⟩]
 dsimp only;rw[if_pos ⟨by omega,by omega⟩]
 rfl
theorem aAY(a b:Str):esc mL (a++b)=esc mL a++esc mL b:=List.flatMap_append
theorem aBJ:∀{u:Str},(126:UInt8)∉u->esc mL u=u
 | [],_=>rfl
 |c::u,h=>by
  simp only[List.mem_cons,not_or]at h;rw[sE,aBJ h.2];have:mL c=false:=by unfold mL;rw[beq_eq_false_iff_ne];exact Ne.symm h.1
  rw[this];rfl
theorem xC:∀u:Str,(esc mL u).length<=2*u.length
 | []=>by simp[esc]
 |c::u=>by
  rw[sE,List.length_append,List.length_cons];have:=xC u
  split<;>simp<;>omega
@[go_sem] theorem aPW{call:Nat->List AV->List AObj->Out}{ρ:bH}{H:List AObj}{ty:Nat}{zs:List AV}{id:Nat}:mJ call (some id) false ρ H (.talloc ty zs)=if id<H.length then some (.ptr id (bG H id) 0,make H id (.tbox · ty zs),[id])else none:=(rfl)
section
variable {A:AProg}{g:String->Nat}{tB tP:Nat}
structure RepAll(A:AProg)(g:String->Nat)(tB tP:Nat):Prop where
 ws:Has A g "(*strings.Builder).WriteString" (bM g)
 cc:A.prim (g "(*strings.Builder).copyCheck")=some (eP tB tP)
 str:A.prim (g "(*strings.Builder).String")=some (yM 5)
 grow:A.prim (g "(*strings.Builder).Grow")=some (aKP 181 5)
 cnt:A.prim (g "strings.Count")=some aC9
 ix1:A.prim (g "internal/stringslite.IndexByte")=some aUE
 ix2:Has A g "internal/stringslite.Index" (gJ g)
 ix:Has A g "strings.Index" (xA g)
 rep:Has A g "strings.Replace" (qZ g)
 repAll:Has A g "strings.ReplaceAll" (mU g)
theorem aLj(F:RepAll A g tB tP)(s:Str)(c:UInt8)(H:List AObj):aL A (g "strings.Index") [.str s,.str [c]] H=some (vi (Lib.indexByte s c),H,[]):=by
 have h1:aL A (g "internal/stringslite.IndexByte") [.str s,.int .u8 c.toNat] H=some (vi (Lib.indexByte s c),H,[]):=gU (by
  rw[F.ix1]
  show some (AV.int .i64 (Lib.indexByte s (((c.toNat:Nat):Int).toNat.toUInt8)),[],[])=_
  have:((((c.toNat:Nat):Int)).toNat).toUInt8=c:=by simp
  rw[this])
 have h2:aL A (g "internal/stringslite.Index") [.str s,.str [c]] H=some (vi (Lib.indexByte s c),H,[]):=by
  refine F.ix2.call (by simp[gJ]) (by kernel_rfl) ?_
  simp only[gJ];simp only[go_sem,↓aC,seval,List.append_nil];simp only[jL];simp only[go_sem,↓aC,seval,beq_self_eq_true];cases z:([c]==s)with
  |true=>
   have hz:[c]=s:=by simpa using z
   have:Lib.indexByte s c=0:=by rw[<- hz];unfold Lib.indexByte;simp
   rw[this];simp only[go_sem,↓aC,seval]
  |false=>simp only[go_sem,↓aC,seval,h1,List.append_nil,List.getElem?_cons_zero]
 refine F.ix.call (by simp[xA]) (by kernel_rfl) ?_
 simp only[xA];simp only[go_sem,↓aC,seval,h2,List.append_nil]
theorem aIo(F:RepAll A g tB tP)(s:Str)(hs:s.length<=10000)(H:List AObj):aL A (g "strings.Replace") [.str s,.str [126],.str [126,126],vi (-1)] H=some (.str (esc mL s),H,[]):=by
 refine F.rep.call (by simp[qZ]) (by kernel_rfl) ?_
 have hcnt:∀H,aL A (g "strings.Count") [.str s,.str [126]] H=some (vi (s.count 126:Nat),H,[]):=fun H=>gU (by rw[F.cnt];rfl)
 have hcl:s.count 126<=s.length:=List.count_le_length;simp only[qZ];have hne:(([126]:Str)==[126,126])=false:=by decide
 cases z:(((s.count 126:Nat):Int)==0)with
 |true=>
  have hz:s.count 126=0:=by simpa using z
  have hq:esc mL s=s:=aBJ (List.count_eq_zero.1 hz);simp only[go_sem,↓aC,seval,hne,hcnt,z,hq,beq_self_eq_true,List.append_nil]
 |false=>
  have hz:0<s.count 126:=Nat.pos_of_ne_zero (by simpa using z)
  have hw1:IntKind.i64.wrap (((s.count 126:Nat):Int)*1)=((s.count 126:Nat):Int):=by rw[wrap_i64 (by omega) (by omega)];omega
  have hw2:IntKind.i64.wrap ((s.length:Int)+((s.count 126:Nat):Int))=((s.length+s.count 126:Nat):Int):=by rw[wrap_i64 (by omega) (by omega)];omega
  have hw3:IntKind.i64.wrap 1=1:=wrap_i64 (by decide) (by decide)
  have hgrow:aL A (g "(*strings.Builder).Grow") [.ptr H.length 1 0,vi ((s.length+s.count 126:Nat):Int)] (H++[.tbox 1 181 [.nilPtr,.nilSl]])=some (.tup [],PSt (H++[.gone 0,.gone 0]) 181 H.length 1 (H.length+1) 1 [],[H.length]):=by
   rw[aAS (r:=(.tup [],[(H.length,.tbox 1 181 [.ptr H.length 1 0,.sr (H.length+1) 1 0])],[.tvec 1 5 1 []]))]
   ·simp[dA,fZ,PSt]
   ·rw[F.grow]
    show aKP 181 5 [.ptr H.length 1 0,.int .i64 ((s.length+s.count 126:Nat):Int)] _=_
    simp[aKP];omega
  have h10:decide ((1:Int)>0)=true:=by decide
  have c:PCtx (H++[AObj.gone 0,AObj.gone 0]).length H.length (H.length+1):=⟨by simp,by simp,by omega⟩
  have hw0:∀{w:List Nat},Wr2 H.length (H.length+1) w->bA H.length [] w=[]:=fun {w} h=>aA0 fun x hx=>by rcases h x hx with e | e<;>omega
  simp only[go_sem,↓aC,seval,hne,hcnt,z,beq_self_eq_true,Bool.true_beq,List.length_cons,List.length_nil,hw1,hw2,hw3,hgrow];refine bZ (id:=0) (W:=aBH) (fun i ρ1 H1 wr=>wr=[]/\ρ1 53=vi (i:Nat)/\∃p q,s=p++q/\H1=PSt (H++[.gone 0,.gone 0]) 181 H.length 1 (H.length+1) 1 (esc mL p)/\ρ1 11=vi (p.length:Nat)/\q.count 126+i=s.count 126) (s.count 126)
   (fun ρ1 H1 wr=>wr=[]/\∃p q,s=p++q/\H1=PSt (H++[.gone 0,.gone 0]) 181 H.length 1 (H.length+1) 1 (esc mL p)/\ρ1 11=vi (p.length:Nat)/\q.count 126=0)
   (by kernel_rfl) (by rfl) ⟨rfl,rfl,[],s,rfl,rfl,rfl,rfl⟩ ?_ ?_
  ·rintro i ρ1 H1 wr1 hil ⟨rfl,e53,p,q,hpq,rfl,e11,hcq⟩ hf;have e52:ρ1 52=vi (s.count 126:Nat):=by rw[hf 52 (by rfl)];rfl
   have e0:ρ1 0=.str s:=by rw[hf 0 (by rfl)];rfl
   have e1:ρ1 1=.str [126]:=by rw[hf 1 (by rfl)];rfl
   have e2:ρ1 2=.str [126,126]:=by rw[hf 2 (by rfl)];rfl
   have e10:ρ1 10=.ptr H.length 1 0:=by rw[hf 10 (by rfl)];rfl
   simp only[go_sem,↓aC,seval,e53,e52];refine aD (fun hb => ?_) (fun hb => ?_)
   ·have hlt:i<s.count 126:=by simp at hb;omega
    obtain⟨u,w,k1,k2,k3,k4⟩:=aG6 (c:=126) (l:=q) (by omega)
    have hsl:s.length=p.length+u.length+1+w.length:=by rw[hpq,k1];simp;omega
    have hb1:dK s.length (some (vi (p.length:Nat))) none none=some (p.length,s.length,s.length):=aIn (by omega)
    have hs1:s.drop p.length=q:=by rw[hpq,List.drop_left]
    have hix:=fun H=>aLj F q 126 H;rw[k3]at hix;have hw4:IntKind.i64.wrap ((p.length:Int)+(u.length:Int))=((p.length+u.length:Nat):Int):=by rw[wrap_i64 (by omega) (by omega)];omega
    have hb2:dK s.length (some (vi (p.length:Nat))) (some (vi ((p.length+u.length:Nat):Int))) none=some (p.length,p.length+u.length,s.length):=xB (by omega) (by omega)
    have hs2:(s.take (p.length+u.length)).drop p.length=u:=by
     rw[hpq,k1,<- List.append_assoc,List.take_left' (by simp),List.drop_left]
    have hel:=xC p;obtain⟨wa,f1,f2⟩:=uU F.ws F.cc (ty:=181) (v:=1) (v2:=1) (T:=esc mL p) (s:=u) c (by omega)
    obtain⟨wb,f3,f4⟩:=uU F.ws F.cc (ty:=181) (v:=1) (v2:=1) (T:=esc mL p++u) (s:=[126,126]) c (by simp;omega)
    have hw5:IntKind.i64.wrap (((p.length+u.length:Nat):Int)+1)=((p.length+u.length+1:Nat):Int):=by rw[wrap_i64 (by omega) (by omega)];omega
    have hw6:IntKind.i64.wrap ((i:Int)+1)=((i+1:Nat):Int):=by rw[wrap_i64 (by omega) (by omega)];omega
    simp only[go_sem,↓aC,seval,e53,e0,e1,e2,e10,e11,hb1,hb2,hs1,hs2,hix,hw4,hw5,hw6,f1,f3,hw0 f2,hw0 f4,List.length_cons,List.length_nil];refine⟨hlt,p++u++[126],w,by rw[hpq,k1];simp, ?_, ?_,by omega⟩
    ·rw[aAY,aAY,aBJ k2];rfl
    ·simp;omega
   ·have hi:i=s.count 126:=by simp at hb;omega
    subst hi;simp only[go_sem,seval];exact⟨p,q,hpq,rfl,e11,by omega⟩
  ·rintro ρ2 H2 wr2 ⟨rfl,p,q,hpq,rfl,e11,hcq⟩ hf;have e0:ρ2 0=.str s:=by rw[hf 0 (by rfl)];rfl
   have e10:ρ2 10=.ptr H.length 1 0:=by rw[hf 10 (by rfl)];rfl
   have hsl:s.length=p.length+q.length:=by rw[hpq];simp
   have hb1:dK s.length (some (vi (p.length:Nat))) none none=some (p.length,s.length,s.length):=aIn (by omega)
   have hs1:s.drop p.length=q:=by rw[hpq,List.drop_left]
   have hel:=xC p;have hes:esc mL p++q=esc mL s:=by rw[hpq,aAY,aBJ (List.count_eq_zero.1 hcq)]
   have hse:esc mL s≠[]:=fun e=>by
    have:=xC s;cases s with
    |nil=>simp at hz
    |cons a r=>rw[sE]at e;split at e<;>cases e
   obtain⟨wa,f1,f2⟩:=uU F.ws F.cc (ty:=181) (v:=1) (v2:=1) (T:=esc mL p) (s:=q) c (by omega)
   rw[hes]at f1;have hst:=aEE F.str (ty:=181) (v:=1) (v2:=1) (T:=esc mL s) c hse (by have:=xC s;omega)
   simp only[go_sem,↓aC,seval,e0,e10,e11,hb1,hs1,f1,hw0 f2,hst];unfold PSt;rw[aBu,nI,nI,aBv]
theorem zG(F:RepAll A g tB tP)(s:Str)(hs:s.length<=10000)(H:List AObj):aL A (g "strings.ReplaceAll") [.str s,.str [126],.str [126,126]] H=some (.str (esc mL s),H,[]):=by
 refine F.repAll.call (by simp[mU]) (by kernel_rfl) ?_
 have h1:=aIo F s hs H;simp only[mU];simp only[go_sem,↓aC,seval,h1,List.append_nil]
end
def aBK(b:Nat)(H:List AObj)(o:Nat):Bool:=match H[o]? with
 |some x=>x.under b
 |none=>true
@[go_sem] theorem aRL{base o:Nat}{v:AV}{H:List AObj}(h:v.under base=true)(h2:aBK base H o=true):cD base (v,H,[o])=(v,H.take base,[o]):=
 aCf h (by rw[List.all_cons,List.all_nil,Bool.and_true];exact h2)
theorem aD2{b o:Nat}{H:List AObj}{x:AObj}(h:o<H.length):aBK b (H.set o x) o=x.under b:=by
 unfold aBK;rw[List.getElem?_set_self h]
theorem aS{b o:Nat}{H L:List AObj}{x:AObj}(h:o<H.length):aBK b (H.set o x++L) o=x.under b:=by
 unfold aBK;rw[aI h]
theorem GSl.len{id k:Nat}{rows:List (List AV)}{v:AV}{o:AObj}(h:GSl id k rows v o):aSq v=some (.int .i64 rows.length):=by cases h<;>rfl
theorem GSl.inv{id k:Nat}{rows:List (List AV)}{v:AV}{o:AObj}(h:GSl id k rows v o)(hne:rows≠[]):∃ver,v=.sr id ver rows.length/\o=.vec ver k rows:=by
 cases h with
 |nil=>exact absurd rfl hne
 |obj ver=>exact⟨ver,rfl,rfl⟩
abbrev aA9(g:String->Nat):ACode:=qS [qb 9 .lss 8 7]<|.seq (qC 9 (.skip) (.exit 0))<|.seq (.block 1 (qS [qi 10 6 8 1,ql 11 1 10,qm 5 11]<|.region false [qm 12 3,qm 13 5,qc 14 (g "strings.ReplaceAll") [u 13,uc (.str [126]),uc (.str [126,126])],qq 15 (.bsl 1 [(.str [])] 1 [(0,(.tmp 14))]),qa 16 1 16 12 15,qm 3 16]))<|.region false [qbi 17 .add 8 1,qm 8 17]
abbrev aAa:List Nat:=[9,10,11,5,12,13,14,15,16,3,17,8]
def nN(g:String->Nat):AFn:=⟨20,[16],[.tmp 2],qS [qmc 2 (.str [])]<|qS [qmc 3 (.sl true [])]<|.seq (qS [qm 6 0,qn 7 6,qmc 8 (.int .i64 0)]<|.block 0 (.loop (aA9 g)))<|qS [qm 18 3,qc 19 (g "strings.Join") [u 18,uc (.str [126,124])],qm 2 19]<|.ret⟩
abbrev aAZ(g:String->Nat):ACode:=qS [qb 10 .lss 9 8]<|.seq (qC 10 (.skip) (.exit 0))<|.seq (.block 1 (qS [qi 11 7 9 2,qla 12 2 11,qq 6 (.alloc [(.int .i64 0),(.str [])]),qs 2 6 12]<|.seq (qS [qf 13 0 6,ql 14 1 13,qm 15 4,qb 16 .neq 14 15]<|qC 16 (qR [qm 17 3,qq 18 (.bin .add .no (u 17) (uc (.str [126,124]))),qm 3 18]) (.skip))<|qS [qf 19 0 6,ql 20 1 19,qm 4 20]<|.region false [qm 21 3,qf 22 1 6,ql 23 1 22,qc 24 (g "strings.ReplaceAll") [u 23,uc (.str [126]),uc (.str [126,126])],qb 25 .add 21 24,qm 3 25]))<|.region false [qbi 26 .add 9 1,qm 9 26]
abbrev aB0:List Nat:=[10,11,12,6,13,14,15,16,17,18,3,19,20,4,21,22,23,24,25,3,26,9]
def oY(g:String->Nat):AFn:=⟨28,[6],[.tmp 2],qS [qmc 2 (.str [])]<|qS [qmc 3 (.str []),qmc 4 (.int .i64 0)]<|.seq (qS [qm 7 0,qn 8 7,qmc 9 (.int .i64 0)]<|.block 0 (.loop (aAZ g)))<|qS [qm 27 3,qm 2 27]<|.ret⟩
abbrev aBL(g:String->Nat):ACode:=qS [qb 18 .lss 17 16]<|.seq (qC 18 (.skip) (.exit 0))<|.seq (.block 1 (qS [qi 19 15 17 1,ql 20 1 19,qm 5 20]<|.region false [qm 21 3,qm 22 5,qc 23 (g "strconv.Itoa") [u 22],qq 24 (.bin .add .no (uc (.str [32])) (u 23)),qb 25 .add 21 24,qm 3 25]))<|.region false [qbi 26 .add 17 1,qm 17 26]
abbrev aBM:List Nat:=[18,19,20,5,21,22,23,24,25,3,26,17]
def rA(g:String->Nat):AFn:=⟨28,[],[.tmp 2],qS [qx 1 2 0,qmc 2 (.str [])]<|qS [qf 6 0 1,ql 7 1 6,qbi 8 .sub 7 3,qf 9 0 1,ql 10 1 9,qbi 11 .sub 10 3,qbi 12 .add 11 1,qq 13 (.sliceS (uc (.str [43,45,42,47])) (some (.tmp 8)) (some (.tmp 12))),qm 3 13]<|.seq (qS [qf 14 1 1,ql 15 1 14,qn 16 15,qmc 17 (.int .i64 0)]<|.block 0 (.loop (aBL g)))<|qS [qm 27 3,qm 2 27]<|.ret⟩
section
variable {A:AProg}{g:String->Nat}{tB tP:Nat}
theorem aKm(sep:Str):∀l:List Str,aGt sep (l.map aN)=some (sb sep l)
 | []=>rfl
 | [s]=>rfl
 |s::t::r=>by
  have ih:aGt sep (aN t::r.map aN)=some (sb sep (t::r)):=aKm sep (t::r)
  show aGt sep (aN s::aN t::r.map aN)=_
  show (match aGt sep (aN t::r.map aN)with
   |some u=>some (s++sep++u)
   |none=>none)=_
  rw[ih];rfl
theorem aD3{sep:Str}{M:Nat}:∀{l:List Str},(∀s∈l,s.length<=M)->(sb sep l).length<=l.length*(M+sep.length)
 | [],_=>by simp[sb]
 | [s],h=>by have:=h s (by simp);simp[sb];omega
 |s::t::r,h=>by
  have ih:=aD3 (l:=t::r) (sep:=sep) (M:=M) fun x hx=>h x (List.mem_cons_of_mem _ hx);have:=h s (by simp)
  show (s++sep++sb sep (t::r)).length<=_
  rw[List.length_append,List.length_append,List.length_cons,Nat.succ_mul];omega
theorem aRM(hp:A.prim (g "strings.Join")=some aHF)(l:List Str)(sep:Str)(H:List AObj)(hl:l.length<=1000000000)(hj:(sb sep l).length<=1000000000000):aL A (g "strings.Join") [.sl false (l.map aN),.str sep] H=some (.str (sb sep l),H,[]):=by
 refine gU ?_;rw[hp]
 show aHF [.sl false (l.map aN),.str sep] H=_
 unfold aHF;dsimp only;rw[aKm];dsimp only;rw[if_pos ⟨by omega,by rw[List.length_map];omega⟩]
theorem qA(hp:A.prim (g "strings.Join")=some aHF){id:Nat}{l:List Str}{w:AV}{o:AObj}(hg:GSl id 1 (l.map aN) w o)(sep:Str)(hl:l.length<=1000000000)(hj:(sb sep l).length<=1000000000000):
  ∀H site,H[id]? = some o->cY (aL A) H site (.fn (g "strings.Join") [] []) [w,.str sep]=some (.str (sb sep l),H,[]):=by
 intro H site ho;have hb:=fun H=>aRM hp l sep H hl hj;generalize hr:l.map aN=rows at *;cases hg with
 |nil=>
  simp only[go_sem,seval,hb]
 |obj ver=>
  have hst:(rows.all fun r=>r.all AV.still)=true:=by rw[<- hr];exact aO (aB bL _)
  simp only[go_sem,seval,ho,hst,hb]
theorem aCx{id:Nat}{L:List Str}{w:AV}{o:AObj}(hg:GSl id 1 (L.map aN) w o)(hL:L.length<=1000000)(s:Str):∃w' o',GSl id 1 ((L++[s]).map aN) w' o'/\∀X f,X[id]? = some o->fH X (some id) 1 16 w (.sl f [[.str s]])=some (w',X.set id o',[id]):=by
 obtain⟨v',o',hg',happ⟩:=hg.app (new:=[aN s]) (bytes:=16) (by simp) (by rfl) (by rw[List.length_map];simp;omega)
 refine⟨v',o', ?_,happ⟩;rw[List.map_append];exact hg'
theorem kQ{α β:Type}(f:α->β){l:List α}{i:Nat}(h:i<l.length):(l.take (i+1)).map f=(l.take i).map f++[f l[i]]:=by
 rw[jA h,List.map_append];rfl
structure WrtFns(A:AProg)(g:String->Nat)(tB tP:Nat) extends RepAll A g tB tP where
 join:A.prim (g "strings.Join")=some aHF
 itoa:A.prim (g "strconv.Itoa")=some aBr
 lines:Has A g "dactyl/source.writeLines" (nN g)
 runs:Has A g "dactyl/source.writeRuns" (oY g)
 sum:Has A g "dactyl/source.writeSum" (rA g)
theorem aEO(F:WrtFns A g tB tP)(l:List Str)(hl:l.length<=64)(hs:∀s∈l,s.length<=1000)(H:List AObj):aL A (g "dactyl/source.writeLines") [.sl false (l.map aN)] H=some (.str (aI6 l),H,[]):=by
 refine F.lines.call (by simp[nN]) (by kernel_rfl) ?_
 simp only[nN];simp only[go_sem,↓aC,seval,List.length_map];refine bZ (id:=0) (W:=aAa) (fun i ρ1 H1 wr=>wr=[]/\ρ1 8=vi (i:Nat)/\∃w o,H1=H++[o]/\ρ1 3=w/\GSl H.length 1 (((l.take i).map (esc mL)).map aN) w o) l.length
  (fun ρ1 H1 wr=>wr=[]/\∃w o,H1=H++[o]/\ρ1 3=w/\GSl H.length 1 ((l.map (esc mL)).map aN) w o)
  (by kernel_rfl) (by rfl) ⟨rfl,rfl,.sl true [],.gone 0,rfl,rfl,.nil _⟩ ?_ ?_
 ·rintro i ρ1 H1 wr1 hil ⟨rfl,e8,w,o,rfl,e3,hg⟩ hf;have e7:ρ1 7=vi (l.length:Nat):=by rw[hf 7 (by rfl)];rfl
  have e6:ρ1 6=.sl false (l.map aN):=by rw[hf 6 (by rfl)];rfl
  simp only[go_sem,↓aC,seval,e8,e7];refine aD (fun hb => ?_) (fun hb => ?_)
  ·have hlt:i<l.length:=by simp at hb;omega
   have hget:(l.map aN)[i]? = some (aN l[i]):=by rw[List.getElem?_map,List.getElem?_eq_getElem hlt];rfl
   have hq:=hs _ (List.getElem_mem hlt);have htk:=kQ (esc mL) hlt;generalize l[i]=s at *;have hra:=fun H=>zG F.toRepAll s (by omega) H
   obtain⟨w',o',hg',happ⟩:=aCx hg (by simp;omega) (esc mL s)
   rw[<- htk]at hg';have hw1:IntKind.i64.wrap ((i:Int)+1)=((i+1:Nat):Int):=by rw[wrap_i64 (by omega) (by omega)];omega
   have happ':=fun f=>happ (H++[o]) f (by rw[vP];rfl)
   simp only[go_sem,↓aC,seval,e8,e6,e3,Int.natCast_nonneg,Int.toNat_natCast,hlt,hget,aN,hra,happ',hw1];exact⟨w',o',rfl,rfl,hg'⟩
  ·have hi:i=l.length:=by simp at hb;omega
   subst hi;rw[List.take_length]at hg;simp only[go_sem,seval];exact⟨w,o,rfl,e3,hg⟩
 ·rintro ρ2 H2 wr2 ⟨rfl,w,o,rfl,e3,hg⟩ hf;have hj:=qA F.join hg [126,124] (by simp;omega) (by
   have:=aD3 (l:=l.map (esc mL)) (sep:=[126,124]) (M:=2000) (fun s hs'=>by
    obtain⟨t,ht,rfl⟩:=List.mem_map.1 hs';have:=xC t;have:=hs t ht;omega)
   simp at this;omega)
  have hj':=fun site=>hj (H++[o]) site (by rw[vP];rfl)
  simp only[go_sem,↓aC,seval,e3,hj'];rfl
theorem aN7:∀(k n:Nat),n<10 ^ (k+1)->oT (k+1) n=dec n
 |0,n,h=>by
  have h':n<10:=by simpa using h
  rw[dec,oT,if_pos h',if_pos h']
 |k+1,n,h=>by
  rw[dec,oT]
  split
  ·rfl
  ·rw[aN7 k (n / 10) (by rw[Nat.pow_succ]at h;omega)]
theorem aBt:∀k m,(oT k m).length<=k:=by
 intro k
 induction k with
 |zero=>intro m;exact Nat.le_refl _
 |succ k ih=>
  intro m;unfold oT
  split
  ·simp
  ·have:=ih (m / 10);simp;omega
theorem aRN(hp:A.prim (g "strconv.Itoa")=some aBr){n:Int}(h0:0<=n)(h1:n<=999999):(dec n.toNat).length<=7/\∀H,aL A (g "strconv.Itoa") [vi n] H=some (.str (dec n.toNat),H,[]):=by
 have e7:oT 7 n.toNat=dec n.toNat:=aN7 6 n.toNat (by have:(10:Nat) ^ (6+1)=10000000:=(by decide);omega)
 refine⟨by rw[<- e7];exact aBt 7 _,fun H=>gU ?_⟩
 rw[hp]
 show aBr [.int .i64 n] H=_
 simp only[aBr];rw[if_pos ⟨h0,by omega⟩,e7]
theorem aGZ(F:WrtFns A g tB tP)(op:Int)(l:List Int)(hop:3<=op/\op<=6)(hl:l.length<=16)(hs:∀n∈l,0<=n/\n<=999999)(H:List AObj):aL A (g "dactyl/source.writeSum") [.agg [vi op,.sl false (l.map bD)]] H=some (.str (aRt op l),H,[]):=by
 refine F.sum.call (by simp[rA]) (by kernel_rfl) ?_
 have hw1:IntKind.i64.wrap (op - 3)=((op - 3).toNat:Nat):=by rw[wrap_i64 (by omega) (by omega)];omega
 have hw2:IntKind.i64.wrap ((((op - 3).toNat:Nat):Int)+1)=((op - 3).toNat+1:Nat):=by rw[wrap_i64 (by omega) (by omega)];omega
 have hb:dK 4 (some (vi ((op - 3).toNat:Nat))) (some (vi ((op - 3).toNat+1:Nat))) none=some ((op - 3).toNat,(op - 3).toNat+1,4):=xB (by omega) (by omega)
 have hsg:(([43,45,42,47]:Str).take ((op - 3).toNat+1)).drop (op - 3).toNat=[sg op]:=by
  have:op=3∨op=4∨op=5∨op=6:=by omega
  rcases this with rfl | rfl | rfl | rfl<;>rfl
 have hsg':(43::([45,42,47]:Str).take (op - 3).toNat).drop (op - 3).toNat=[sg op]:=hsg;simp only[rA];simp only[go_sem,↓aC,seval,hw1,hw2,hb,hsg',List.length_map,List.length_cons,List.length_nil];refine bZ (id:=0) (W:=aBM) (fun i ρ1 H1 wr=>wr=[]/\ρ1 17=vi (i:Nat)/\H1=H/\∃s:Str,ρ1 3=.str s/\s++aJb (l.drop i)=aRt op l/\s.length<=1+i*8) l.length
  (fun ρ1 H1 wr=>wr=[]/\H1=H/\ρ1 3=.str (aRt op l))
  (by kernel_rfl) (by rfl) ⟨rfl,rfl,by simp,[sg op],rfl,rfl,by simp⟩ ?_ ?_
 ·rintro i ρ1 H1 wr1 hil ⟨rfl,e17,rfl,s,e3,hsw,hsl⟩ hf;have e16:ρ1 16=vi (l.length:Nat):=by rw[hf 16 (by rfl)];rfl
  have e15:ρ1 15=.sl false (l.map bD):=by rw[hf 15 (by rfl)];rfl
  simp only[go_sem,↓aC,seval,e17,e16];refine aD (fun hb => ?_) (fun hb => ?_)
  ·have hlt:i<l.length:=by simp at hb;omega
   have hget:(l.map bD)[i]? = some (bD l[i]):=by rw[List.getElem?_map,List.getElem?_eq_getElem hlt];rfl
   obtain⟨q1,q2⟩:=hs _ (List.getElem_mem hlt);have hdr:l.drop i=l[i]::l.drop (i+1):=List.drop_eq_getElem_cons hlt;rw[hdr]at hsw;generalize l[i]=n at *;obtain⟨d1,d2⟩:=aRN F.itoa q1 q2;have ha1:kM .add .no (.str [32]) (.str (dec n.toNat))=some (.str (32::dec n.toNat)):=jH (by simp;omega)
   have ha2:kM .add .no (.str s) (.str (32::dec n.toNat))=some (.str (s++32::dec n.toNat)):=jH (by simp;omega)
   have hw1:IntKind.i64.wrap ((i:Int)+1)=((i+1:Nat):Int):=by rw[wrap_i64 (by omega) (by omega)];omega
   simp only[go_sem,↓aC,seval,e17,e15,e3,Int.natCast_nonneg,Int.toNat_natCast,hlt,hget,bD,d2,ha1,ha2,hw1];refine⟨_,rfl,by rw[<- hsw,List.append_assoc];rfl,by simp;omega⟩
  ·have hi:i=l.length:=by simp at hb;omega
   subst hi;rw[List.drop_length]at hsw;have hsw:s++[]=aRt op l:=hsw;rw[List.append_nil]at hsw;simp only[go_sem,seval];rw[e3,hsw]
 ·rintro ρ2 H2 wr2 ⟨rfl,rfl,e3⟩ hf;simp only[go_sem,↓aC,seval,e3]
theorem aFc(F:WrtFns A g tB tP)(l:List Run)(hl:l.length<=16)(hs:∀r∈l,r.text.length<=1000)(H:List AObj):aL A (g "dactyl/source.writeRuns") [.sl false (l.map cW)] H=some (.str (qQ 0 l),H,[]):=by
 refine F.runs.call (by simp[oY]) (by kernel_rfl) ?_
 simp only[oY];simp only[go_sem,↓aC,seval,List.length_map];refine bZ (id:=0) (W:=aB0) (fun i ρ1 H1 wr=>wr=[]/\ρ1 9=vi (i:Nat)/\(∃o,H1=H++[o])/\∃(s:Str) (p:Int),ρ1 3=.str s/\ρ1 4=vi p/\s++qQ p (l.drop i)=qQ 0 l/\s.length<=i*2100) l.length
  (fun ρ1 H1 wr=>wr=[]/\(∃o,H1=H++[o])/\ρ1 3=.str (qQ 0 l))
  (by kernel_rfl) (by rfl) ⟨rfl,rfl,⟨_,rfl⟩,[],0,rfl,rfl,rfl,by simp⟩ ?_ ?_
 ·rintro i ρ1 H1 wr1 hil ⟨rfl,e9,⟨o,rfl⟩,s,p,e3,e4,hsw,hsl⟩ hf;have e8:ρ1 8=vi (l.length:Nat):=by rw[hf 8 (by rfl)];rfl
  have e7:ρ1 7=.sl false (l.map cW):=by rw[hf 7 (by rfl)];rfl
  simp only[go_sem,↓aC,seval,e9,e8];refine aD (fun hb => ?_) (fun hb => ?_)
  ·have hlt:i<l.length:=by simp at hb;omega
   have hget:(l.map cW)[i]? = some (cW l[i]):=by rw[List.getElem?_map,List.getElem?_eq_getElem hlt];rfl
   have q1:=hs _ (List.getElem_mem hlt);have hdr:l.drop i=l[i]::l.drop (i+1):=List.drop_eq_getElem_cons hlt;rw[hdr]at hsw;generalize l[i]=r at *;have hra:=fun H=>zG F.toRepAll r.text (by omega) H
   have hel:=xC r.text;have hw1:IntKind.i64.wrap ((i:Int)+1)=((i+1:Nat):Int):=by rw[wrap_i64 (by omega) (by omega)];omega
   have ha1:kM .add .no (.str s) (.str [126,124])=some (.str (s++[126,124])):=jH (by simp only[List.length_cons,List.length_nil];omega)
   have ha2:kM .add .no (.str (s++[126,124])) (.str (esc mL r.text))=some (.str (s++[126,124]++esc mL r.text)):=jH (by simp only[List.length_append,List.length_cons,List.length_nil];omega)
   have ha3:kM .add .no (.str s) (.str (esc mL r.text))=some (.str (s++esc mL r.text)):=jH (by omega)
   cases z:(r.lang != p)with
   |true=>
    have hz:r.lang≠p:=by simpa using z
    simp only[go_sem,↓aC,seval,e9,e7,e3,e4,Int.natCast_nonneg,Int.toNat_natCast,hlt,hget,cW,z,hra,ha1,ha2,hw1];refine⟨⟨_,rfl⟩,_,_,rfl,rfl, ?_,by simp;omega⟩
    rw[<- hsw];simp[qQ,hz]
   |false=>
    have hz:r.lang=p:=by simpa using z
    simp only[go_sem,↓aC,seval,e9,e7,e3,e4,Int.natCast_nonneg,Int.toNat_natCast,hlt,hget,cW,z,hra,ha3,hw1];refine⟨⟨_,rfl⟩,_,_,rfl,rfl, ?_,by simp;omega⟩
    rw[<- hsw];simp[qQ,hz]
  ·have hi:i=l.length:=by simp at hb;omega
   subst hi;rw[List.drop_length]at hsw;have hsw:s++[]=qQ 0 l:=hsw;rw[List.append_nil]at hsw;simp only[go_sem,seval];exact⟨⟨o,rfl⟩,by rw[e3,hsw]⟩
 ·rintro ρ2 H2 wr2 ⟨rfl,⟨o,rfl⟩,e3⟩ hf;simp only[go_sem,↓aC,seval,e3]
end
def mC(g:String->Nat):ACode:=.block 0 (qS [qbi 20 .eql 18 1,qm 19 20]<|qC 19 (qR [qm 21 3,qq 22 (.bsl 1 [(.int .u8 0)] 1 [(0,(.const (.int .u8 35)))]),qa 23 1 1 21 22,qm 3 23]) (qS [qbi 25 .eql 18 (-1),qm 24 25]<|qC 24 (qR [qm 26 3,qq 27 (.bsl 1 [(.int .u8 0)] 1 [(0,(.const (.int .u8 95)))]),qa 28 1 1 26 27,qm 3 28]) (.skip)))
def oZ(g:String->Nat):AFn:=⟨48,[9,16,23,28,39,46],[.tmp 2],qS [qx 1 3 0,qmc 2 (.str [])]<|qS [qmc 3 (.sl true [])]<|.seq (qS [qf 4 0 1,ql 5 1 4,qbi 6 .lss 5 0]<|qC 6 (qR [qm 7 3,qq 8 (.bsl 1 [(.int .u8 0)] 1 [(0,(.const (.int .u8 114)))]),qa 9 1 1 7 8,qm 3 9]) (qR [qm 10 3,qf 11 0 1,ql 12 1 11,qbi 13 .rem 12 7,qq 14 (.ixS (uc (.str [99,100,101,102,103,97,98])) (u 13)),qq 15 (.bsl 1 [(.int .u8 0)] 1 [(0,(.tmp 14))]),qa 16 1 1 10 15,qm 3 16]))<|.seq (qS [qf 17 2 1,ql 18 1 17]<|mC g)<|.seq (qS [qf 29 0 1,ql 30 1 29,qbi 31 .geq 30 0]<|qC 31 (qR [qm 32 3,qf 33 0 1,ql 34 1 33,qbi 35 .quo 34 7,qq 36 (.bin .add .no (ui 48) (u 35)),qq 37 (.conv (.toInt .u8) (u 36)),qq 38 (.bsl 1 [(.int .u8 0)] 1 [(0,(.tmp 37))]),qa 39 1 1 32 38,qm 3 39]) (.skip))<|qS [qm 40 3,qf 41 1 1,ql 42 1 41,qq 43 (.bin .add .no (ui 48) (u 42)),qq 44 (.conv (.toInt .u8) (u 43)),qq 45 (.bsl 1 [(.int .u8 0)] 1 [(0,(.tmp 44))]),qa 46 1 1 40 45,qq 47 (.conv .b2s (u 46)),qm 2 47]<|.ret⟩
abbrev aBN(g:String->Nat):ACode:=qS [qb 9 .lss 8 7]<|.seq (qC 9 (.skip) (.exit 0))<|.seq (.block 1 (qS [qi 10 6 8 3,qla 11 3 10,qq 5 (.alloc [(.int .i64 0),(.int .i64 0),(.int .i64 0)]),qs 3 5 11]<|.region false [qm 12 3,qla 13 3 5,qc 14 (g "dactyl/source.writeNote") [u 13],qq 15 (.bsl 1 [(.str [])] 1 [(0,(.tmp 14))]),qa 16 1 16 12 15,qm 3 16]))<|.region false [qbi 17 .add 8 1,qm 8 17]
abbrev aBO:List Nat:=[9,10,11,5,12,13,14,15,16,3,17,8]
def rB(g:String->Nat):AFn:=⟨20,[5,16],[.tmp 2],qS [qmc 2 (.str [])]<|qS [qmc 3 (.sl true [])]<|.seq (qS [qm 6 0,qn 7 6,qmc 8 (.int .i64 0)]<|.block 0 (.loop (aBN g)))<|qS [qm 18 3,qc 19 (g "strings.Join") [u 18,uc (.str [32])],qm 2 19]<|.ret⟩
abbrev zH(g:String->Nat):ACode:=qS [qb 19 .lss 18 17]<|.seq (qC 19 (.skip) (.exit 2))<|.seq (.block 3 (qS [qi 20 16 18 1,ql 21 1 20,qm 8 21]<|.region false [qm 22 6,qm 23 8,qc 24 (g "dactyl/source.writeBar") [u 23],qq 25 (.bsl 1 [(.str [])] 1 [(0,(.tmp 24))]),qa 26 1 16 22 25,qm 6 26]))<|.region false [qbi 27 .add 18 1,qm 18 27]
abbrev zI:List Nat:=[19,20,21,8,22,23,24,25,26,6,27,18]
abbrev zJ(g:String->Nat):ACode:=qS [qb 13 .lss 12 11]<|.seq (qC 13 (.skip) (.exit 0))<|.seq (.block 1 (qS [qi 14 10 12 1,ql 15 1 14,qm 5 15]<|qS [qmc 6 (.sl true [])]<|.seq (qS [qm 16 5,qn 17 16,qmc 18 (.int .i64 0)]<|.block 2 (.loop (zH g)))<|.region false [qm 28 3,qm 29 6,qc 30 (g "strings.Join") [u 29,uc (.str [124])],qq 31 (.bsl 1 [(.str [])] 1 [(0,(.tmp 30))]),qa 32 1 16 28 31,qm 3 32]))<|.region false [qbi 33 .add 12 1,qm 12 33]
abbrev zK:List Nat:=[13,14,15,5,6,16,17,18,19,20,21,8,22,23,24,25,26,6,27,18,28,29,30,31,32,3,33,12]
def mV(g:String->Nat):AFn:=⟨36,[26,32],[.tmp 2],qS [qx 1 1 0,qmc 2 (.str [])]<|qS [qmc 3 (.sl true [])]<|.seq (qS [qf 9 0 1,ql 10 1 9,qn 11 10,qmc 12 (.int .i64 0)]<|.block 0 (.loop (zJ g)))<|qS [qm 34 3,qc 35 (g "strings.Join") [u 34,uc (.str [47])],qm 2 35]<|.ret⟩
section
variable {A:AProg}{g:String->Nat}{tB tP:Nat}
theorem aP6{n:Int}(h0:0<=n)(h1:n<256):IntKind.wrap .u8 n=n:=by
 simp only[IntKind.wrap,IntKind.bits,IntKind.signed];simp;omega
structure MelFns(A:AProg)(g:String->Nat)(tB tP:Nat) extends WrtFns A g tB tP where
 note:Has A g "dactyl/source.writeNote" (oZ g)
 bar:Has A g "dactyl/source.writeBar" (rB g)
 melody:Has A g "dactyl/source.writeMelody" (mV g)
theorem aN8{H:List AObj}{n:Int}(h0:0<=n)(h1:n<256):pG H (.toInt .u8) (vi n)=some (.int .u8 n):=by
 show some (AV.int .u8 (IntKind.wrap .u8 n))=_
 rw[aP6 h0 h1]
theorem uY{H:List AObj}{x:AV}:pG H .b2s x=match eH H x with
  |some rows=>(cF rows).map .str
  |none=>none:=rfl
theorem aCy:cF []=some []:=rfl
theorem aA2{n:Int}{r:List (List AV)}:cF ([.int .u8 n]::r)=(cF r).map (UInt8.ofNat n.toNat :: ·):=rfl
theorem aN9:∀k<7,([99,100,101,102,103,97,98]:Str)[k]? = some (aMI k):=by decide
theorem aFd(F:MelFns A g tB tP)(n:Note)(hn:aEo n=true)(H:List AObj):aL A (g "dactyl/source.writeNote") [.agg (cK n)] H=some (.str (sP n),H,[]):=by
 refine F.note.call (by simp[oZ]) (by kernel_rfl) ?_
 unfold aEo at hn;simp only[Bool.and_eq_true,iP]at hn;obtain⟨⟨⟨s0,s1⟩,l0,l1⟩,a0,a1⟩:=hn;have hwl:IntKind.i64.wrap (48+n.length)=48+n.length:=wrap_i64 (by omega) (by omega)
 have hcl:=fun H=>aN8 (H:=H) (n:=48+n.length) (by omega) (by omega)
 have hlen:(48+n.length).toNat=48+n.length.toNat:=by omega
 have r1:bP 1 1=true:=by decide
 have r2:bP 2 1=true:=by decide
 have r3:bP 3 1=true:=by decide
 have r4:bP 4 1=true:=by decide
 simp only[oZ];cases z:decide (n.step<0)with
 |true=>
  have hz:n.step<0:=of_decide_eq_true z;have z2:decide (n.step ≥ 0)=false:=by rw[decide_eq_false_iff_not];omega
  simp only[go_sem,↓aC,seval,cK,z,fH,cU,eH,r1,List.length_cons,List.length_nil,List.drop_succ_cons,List.drop_zero,List.take_succ_cons,List.take_zero];simp only[mC]
  by_cases e1:n.alter=1
  ·simp only[go_sem,↓aC,seval,e1,z2,hwl,hcl,fH,cU,eH,r2,r3,List.length_cons,List.length_nil,List.drop_succ_cons,List.drop_zero,List.take_succ_cons,List.take_zero,uY,aCy,aA2,Option.map_some];simp[sP,hz,e1,show ¬0<=n.step by omega,hlen]
  by_cases e2:n.alter = -1
  ·simp only[go_sem,↓aC,seval,e2,z2,hwl,hcl,fH,cU,eH,r2,r3,List.length_cons,List.length_nil,List.drop_succ_cons,List.drop_zero,List.take_succ_cons,List.take_zero,uY,aCy,aA2,Option.map_some];simp[sP,hz,e2,show ¬0<=n.step by omega,hlen]
  ·have e1':(n.alter==1)=false:=by simpa using e1
   have e2':(n.alter == -1)=false:=by simpa using e2
   simp only[go_sem,↓aC,seval,e1',e2',z2,hwl,hcl,fH,cU,eH,r2,List.length_cons,List.length_nil,List.drop_succ_cons,List.drop_zero,List.take_succ_cons,List.take_zero,uY,aCy,aA2,Option.map_some];simp[sP,hz,e1,e2,show ¬0<=n.step by omega,hlen]
 |false=>
  have hz:¬n.step<0:=of_decide_eq_false z;have z2:decide (n.step ≥ 0)=true:=by rw[decide_eq_true_eq];omega
  have hk:(n.step % 7).toNat<7:=by omega
  have hrem:∀ek,kM .rem ek (vi n.step) (vi 7)=some (vi ((n.step % 7).toNat:Nat)):=fun ek=>by
   rw[sN (by decide)]
   have:n.step.tmod 7=n.step % 7:=Int.tmod_eq_emod_of_nonneg (by omega)
   rw[this];congr 2;omega
  have hquo:∀ek,kM .quo ek (vi n.step) (vi 7)=some (vi ((n.step / 7).toNat:Nat)):=fun ek=>by
   rw[yQ (by decide)]
   have:n.step.tdiv 7=n.step / 7:=Int.tdiv_eq_ediv_of_nonneg (by omega)
   rw[this,wrap_i64 (by omega) (by omega)]
   congr 2;omega
  have hlt:=aN9 _ hk;have hk2:(((n.step % 7).toNat:Nat):Int)<7:=by omega
  have hwq:IntKind.i64.wrap (48+(((n.step / 7).toNat:Nat):Int))=48+(((n.step / 7).toNat:Nat):Int):=wrap_i64 (by omega) (by omega)
  have hcq:=fun H=>aN8 (H:=H) (n:=48+(((n.step / 7).toNat:Nat):Int)) (by omega) (by omega)
  have hq2:(48+(((n.step / 7).toNat:Nat):Int)).toNat=48+(n.step / 7).toNat:=by omega
  simp only[go_sem,↓aC,seval,hrem,hlt,Int.natCast_nonneg,Int.toNat_natCast,cK,z,fH,cU,eH,r1,List.length_cons,List.length_nil,List.drop_succ_cons,List.drop_zero,List.take_succ_cons,List.take_zero,Option.map_some];simp only[mC]
  by_cases e1:n.alter=1
  ·simp only[go_sem,↓aC,seval,e1,hquo,hwq,hcq,z2,hwl,hcl,fH,cU,eH,r2,r3,r4,List.length_cons,List.length_nil,List.drop_succ_cons,List.drop_zero,List.take_succ_cons,List.take_zero,uY,aCy,aA2,Option.map_some];rw[hq2];simp[sP,hz,e1,show 0<=n.step by omega,hlen]
  by_cases e2:n.alter = -1
  ·simp only[go_sem,↓aC,seval,e2,hquo,hwq,hcq,z2,hwl,hcl,fH,cU,eH,r2,r3,r4,List.length_cons,List.length_nil,List.drop_succ_cons,List.drop_zero,List.take_succ_cons,List.take_zero,uY,aCy,aA2,Option.map_some];rw[hq2];simp[sP,hz,e2,show 0<=n.step by omega,hlen]
  ·have e1':(n.alter==1)=false:=by simpa using e1
   have e2':(n.alter == -1)=false:=by simpa using e2
   simp only[go_sem,↓aC,seval,e1',e2',hquo,hwq,hcq,z2,hwl,hcl,fH,cU,eH,r2,r3,List.length_cons,List.length_nil,List.drop_succ_cons,List.drop_zero,List.take_succ_cons,List.take_zero,uY,aCy,aA2,Option.map_some];rw[hq2];simp[sP,hz,e1,e2,show 0<=n.step by omega,hlen]
theorem aIp(n:Note):(sP n).length<=4:=by
 unfold sP;simp only[List.length_append]
 split<;>split<;>(try split)<;>(try split)<;>simp
theorem aH0(F:MelFns A g tB tP)(l:List Note)(hl:l.length<=16)(hs:∀n∈l,aEo n=true)(H:List AObj):aL A (g "dactyl/source.writeBar") [.sl false (l.map cK)] H=some (.str (aL7 l),H,[]):=by
 refine F.bar.call (by simp[rB]) (by kernel_rfl) ?_
 simp only[rB];simp only[go_sem,↓aC,seval,List.length_map];refine bZ (id:=0) (W:=aBO) (fun i ρ1 H1 wr=>wr=[]/\ρ1 8=vi (i:Nat)/\∃w o x,H1=H++[x,o]/\ρ1 3=w/\GSl (H.length+1) 1 (((l.take i).map sP).map aN) w o) l.length
  (fun ρ1 H1 wr=>wr=[]/\∃w o x,H1=H++[x,o]/\ρ1 3=w/\GSl (H.length+1) 1 ((l.map sP).map aN) w o)
  (by kernel_rfl) (by rfl) ⟨rfl,rfl,.sl true [],.gone 0,.gone 0,rfl,rfl,.nil _⟩ ?_ ?_
 ·rintro i ρ1 H1 wr1 hil ⟨rfl,e8,w,o,x,rfl,e3,hg⟩ hf;have e7:ρ1 7=vi (l.length:Nat):=by rw[hf 7 (by rfl)];rfl
  have e6:ρ1 6=.sl false (l.map cK):=by rw[hf 6 (by rfl)];rfl
  simp only[go_sem,↓aC,seval,e8,e7];refine aD (fun hb => ?_) (fun hb => ?_)
  ·have hlt:i<l.length:=by simp at hb;omega
   have hget:(l.map cK)[i]? = some (cK l[i]):=by rw[List.getElem?_map,List.getElem?_eq_getElem hlt];rfl
   have hq:=hs _ (List.getElem_mem hlt);have htk:=kQ sP hlt;generalize l[i]=s at *;have hra:=fun H=>aFd F s hq H;simp only[cK]at hra;obtain⟨w',o',hg',happ⟩:=aCx hg (by simp;omega) (sP s)
   rw[<- htk]at hg';have hw1:IntKind.i64.wrap ((i:Int)+1)=((i+1:Nat):Int):=by rw[wrap_i64 (by omega) (by omega)];omega
   have happ':=fun y f=>happ (H++[y,o]) f (by rw[gP];rfl)
   simp only[go_sem,↓aC,seval,e8,e6,e3,Int.natCast_nonneg,Int.toNat_natCast,hlt,hget,cK,hra,happ',hw1];exact⟨w',o',_,rfl,rfl,hg'⟩
  ·have hi:i=l.length:=by simp at hb;omega
   subst hi;rw[List.take_length]at hg;simp only[go_sem,seval];exact⟨w,o,x,rfl,e3,hg⟩
 ·rintro ρ2 H2 wr2 ⟨rfl,w,o,x,rfl,e3,hg⟩ hf;have hj:=qA F.join hg [32] (by simp;omega) (by
   have:=aD3 (l:=l.map sP) (sep:=[32]) (M:=4) (fun s hs'=>by
    obtain⟨t,ht,rfl⟩:=List.mem_map.1 hs';exact aIp t)
   simp at this;omega)
  have hj':=fun site=>hj (H++[x,o]) site (by rw[gP];rfl)
  simp only[go_sem,↓aC,seval,e3,hj'];rfl
theorem aP7{l:List Note}(hl:l.length<=16):(aL7 l).length<=80:=by
 have:=aD3 (l:=l.map sP) (sep:=[32]) (M:=4) (fun s hs'=>by
  obtain⟨t,ht,rfl⟩:=List.mem_map.1 hs';exact aIp t)
 simp at this;unfold aL7;omega
end
section
variable {A:AProg}{g:String->Nat}{tB tP:Nat}
theorem aKn{h:List (List Note)}(h1:h.length<=16)(h2:∀b∈h,b.length<=16):(sb [124] (h.map aL7)).length<=1300:=by
 have:=aD3 (l:=h.map aL7) (sep:=[124]) (M:=80) (fun s hs'=>by
  obtain⟨t,ht,rfl⟩:=List.mem_map.1 hs';exact aP7 (h2 t ht))
 simp at this;omega
theorem aDr(F:MelFns A g tB tP)(l:List (List (List Note)))(hl:l.length<=16)(hs:∀h∈l,h.length<=16/\∀b∈h,b.length<=16/\∀n∈b,aEo n=true)(H:List AObj):aL A (g "dactyl/source.writeMelody") [.agg [.sl false (l.map cE)]] H=some (.str (aCh l),H,[]):=by
 refine F.melody.call (by simp[mV]) (by kernel_rfl) ?_
 simp only[mV];simp only[go_sem,↓aC,seval,List.length_map];have hW:aCh l=sb [47] (l.map fun h=>sb [124] (h.map aL7)):=rfl;generalize hE:(fun h:List (List Note)=>sb [124] (h.map aL7))=E at hW;refine bZ (id:=0) (W:=zK) (fun i ρ1 H1 wr=>wr=[]/\ρ1 12=vi (i:Nat)/\∃w o x,H1=H++[x,o]/\ρ1 3=w/\GSl (H.length+1) 1 (((l.take i).map E).map aN) w o) l.length
  (fun ρ1 H1 wr=>wr=[]/\∃w o x,H1=H++[x,o]/\ρ1 3=w/\GSl (H.length+1) 1 ((l.map E).map aN) w o)
  (by kernel_rfl) (by rfl) ⟨rfl,rfl,.sl true [],.gone 0,.gone 0,rfl,rfl,.nil _⟩ ?_ ?_
 ·rintro i ρ1 H1 wr1 hil ⟨rfl,e12,w,o,x,rfl,e3,hg⟩ hf;have e11:ρ1 11=vi (l.length:Nat):=by rw[hf 11 (by rfl)];rfl
  have e10:ρ1 10=.sl false (l.map cE):=by rw[hf 10 (by rfl)];rfl
  simp only[go_sem,↓aC,seval,e12,e11];refine aD (fun hb => ?_) (fun hb => ?_)
  ·have hlt:i<l.length:=by simp at hb;omega
   have hget:(l.map cE)[i]? = some (cE l[i]):=by rw[List.getElem?_map,List.getElem?_eq_getElem hlt];rfl
   obtain⟨q1,q2⟩:=hs _ (List.getElem_mem hlt);have htk:=kQ E hlt;generalize l[i]=hd at *;have hEl:(E hd).length<=1300:=by rw[<- hE];exact aKn q1 fun b hb=>(q2 b hb).1
   have hEd:sb [124] (hd.map aL7)=E hd:=by rw[<- hE]
   have hw1:IntKind.i64.wrap ((i:Int)+1)=((i+1:Nat):Int):=by rw[wrap_i64 (by omega) (by omega)];omega
   simp only[go_sem,↓aC,seval,e12,e10,List.length_map,Int.natCast_nonneg,Int.toNat_natCast,hlt,hget,cE];refine bZ (id:=2) (W:=zI) (fun j ρ2 H2 wr=>wr=[]/\ρ2 18=vi (j:Nat)/\∃w2 o2,H2=H++[o2,o]/\ρ2 6=w2/\GSl H.length 1 (((hd.take j).map aL7).map aN) w2 o2) hd.length
    (fun ρ2 H2 wr=>wr=[]/\∃w2 o2,H2=H++[o2,o]/\ρ2 6=w2/\GSl H.length 1 ((hd.map aL7).map aN) w2 o2)
    (by kernel_rfl) (by rfl) ⟨rfl,rfl,.sl true [],x,rfl,rfl,.nil _⟩ ?_ ?_
   ·rintro j ρ2 H2 wr2 hjl ⟨rfl,f18,w2,o2,rfl,f6,hg2⟩ hf2;have f17:ρ2 17=vi (hd.length:Nat):=by rw[hf2 17 (by rfl)];rfl
    have f16:ρ2 16=.sl false (hd.map gS):=by rw[hf2 16 (by rfl)];rfl
    simp only[go_sem,↓aC,seval,f18,f17];refine aD (fun hb2 => ?_) (fun hb2 => ?_)
    ·have jlt:j<hd.length:=by simp at hb2;omega
     have jget:(hd.map gS)[j]? = some (gS hd[j]):=by rw[List.getElem?_map,List.getElem?_eq_getElem jlt];rfl
     obtain⟨r1,r2⟩:=q2 _ (List.getElem_mem jlt);have htk2:=kQ aL7 jlt;generalize hd[j]=bar at *;have hra:=fun H=>aH0 F bar r1 r2 H;obtain⟨w',o',hg',happ⟩:=aCx hg2 (by simp;omega) (aL7 bar)
     rw[<- htk2]at hg';have hw2:IntKind.i64.wrap ((j:Int)+1)=((j+1:Nat):Int):=by rw[wrap_i64 (by omega) (by omega)];omega
     have happ':=fun f=>happ (H++[o2,o]) f (by rw[vP];rfl)
     simp only[go_sem,↓aC,seval,f18,f16,f6,Int.natCast_nonneg,Int.toNat_natCast,jlt,jget,gS,hra,happ',hw2];exact⟨w',o',rfl,rfl,hg'⟩
    ·have hj:j=hd.length:=by simp at hb2;omega
     subst hj;rw[List.take_length]at hg2;simp only[go_sem,seval];exact⟨w2,o2,rfl,f6,hg2⟩
   ·rintro ρ2 H2 wr2 ⟨rfl,w2,o2,rfl,f6,hg2⟩ hf2;have f3:ρ2 3=w:=by rw[hf2 3 (by rfl)];exact e3
    have f12:ρ2 12=vi (i:Nat):=by rw[hf2 12 (by rfl)];exact e12
    have hj:=qA F.join hg2 [124] (by simp;omega) (by rw[hEd];omega)
    rw[hEd]at hj;have hj':=fun site=>hj (H++[o2,o]) site (by rw[vP];rfl)
    obtain⟨w',o',hg',happ⟩:=aCx hg (by simp;omega) (E hd)
    rw[<- htk]at hg';have happ':=fun f=>happ (H++[o2,o]) f (by rw[gP];rfl)
    simp only[go_sem,↓aC,seval,f3,f6,f12,hj',happ',hw1];exact⟨hlt,w',o',_,rfl,rfl,hg'⟩
  ·have hi:i=l.length:=by simp at hb;omega
   subst hi;rw[List.take_length]at hg;simp only[go_sem,seval];exact⟨w,o,x,rfl,e3,hg⟩
 ·rintro ρ2 H2 wr2 ⟨rfl,w,o,x,rfl,e3,hg⟩ hf;have hj:=qA F.join hg [47] (by simp;omega) (by
   have:=aD3 (l:=l.map E) (sep:=[47]) (M:=1300) (fun s hs'=>by
    obtain⟨t,ht,rfl⟩:=List.mem_map.1 hs';rw[<- hE];exact aKn (hs t ht).1 fun b hb=>((hs t ht).2 b hb).1)
   simp at this;omega)
  have hj':=fun site=>hj (H++[x,o]) site (by rw[gP];rfl)
  simp only[go_sem,↓aC,seval,e3,hj',hW]
end
end Go.AM
end
