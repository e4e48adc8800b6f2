/- Part 13: lemmas for the last text. -/
import Derived.Test.YtdljbhnhogpopaaGreatDoorK08
import Derived.Test.YtdljbhnhogpopaaGreatDoorK10
import Derived.Test.YtdljbhnhogpopaaGreatDoorK11
import Derived.Test.YtdljbhnhogpopaaGreatDoorK12
set_option linter.defProp false
set_option linter.unusedVariables false
set_option linter.unusedSimpArgs false
set_option maxHeartbeats 6400000
set_option maxRecDepth 100000
open Bool renaming and_eq_true -> AI, and_self -> Hg, true -> Pa, false -> Po
open Go.IntKind renaming i64 -> AR, i32 -> Gz
open Int renaming natCast_nonneg -> AU, toNat_natCast -> AT
open List renaming append_nil -> AJ, map_cons -> BI, map_nil -> BY, mem_cons_of_mem -> BZ, mem_cons -> BD, mem_cons_self -> HD, all_eq_true -> AO, drop_zero -> AD, take_succ_cons -> AA, take_zero -> AE, getElem?_append_left -> BM, mem_singleton -> CG, take_left -> GU, range -> GZ, flatMap_append -> JK, getElem?_eq_getElem -> AP, mem_of_getElem? -> AN, length_append -> BA, length_cons -> AW, length_map -> AF, length_nil -> AZ, drop_succ_cons -> AB, getElem?_map -> BN, getElem_mem -> AS, take_succ_eq_append_getElem -> EW, map_append -> DQ, getD_eq_getElem?_getD -> KV, append_assoc -> CJ, take_length -> DM, mem_of_mem_take -> FA, range' -> FM, mem_append -> AY, mem_range'_1 -> FC, take_of_length_le -> CH, cons_append -> DO, nil_append -> CW, mem_map -> DB, mem_range -> HE, set_append_left -> DX, set_comm -> JR, set_set -> EO, length -> FN, foldl_append -> Ex, mem_append_left -> CZ, getElem?_append_right -> BU, getElem?_eq_some_iff -> AH, map -> DR, getElem?_eq_none -> CY, flatMap_def -> Bz, map_congr_left -> C5, mem_append_right -> CX
open List.range renaming loop -> Cd
open Nat renaming le_refl -> AQ, zero_le -> FF, le_add_right -> EG, zero_add -> BC
open Option renaming some -> N1, none -> N2
open Option.some renaming inj -> DZ
open Prod renaming fst -> EM
section
namespace Go.AM
open Go
def bDT(g:SN):bw:=⟨2,[],[.tmp 0],qS [qmc 0 (.sl Pa [])]<|qS [qq 1 (.bsl 1 [(.str [])] 7 [(0,(.const (.str [116,101,120,116]))),(1,(.const (.str [102,111,114,109,117,108,97]))),(2,(.const (.str [99,111,108,117,109,110]))),(3,(.const (.str [101,110,116,114,105,101,115]))),(4,(.const (.str [100,114,97,119,105,110,103]))),(5,(.const (.str [109,117,115,105,99]))),(6,(.const (.str [108,105,115,116,105,110,103])))]),qm 0 1]<|.ret⟩
def bEr(g:SN):bw:=⟨2,[],[.tmp 0],qS [qmc 0 (.sl Pa [])]<|qS [qq 1 (.bsl 1 [(.str [])] 3 [(0,(.const (.str [99,104,111,105,99,101]))),(1,(.const (.str [99,111,117,110,116]))),(2,(.const (.str [111,112,101,110])))]),qm 0 1]<|.ret⟩
def bDb(g:SN):bw:=⟨6,[],[.tmp 4],qS [qx 2 2 0,qx 3 1 1,qmc 4 .bx]<|qS [qq 5 (.mkf (g "bo") [] [(.tmp 2),(.tmp 3)]),qm 4 5]<|.ret⟩
def bCS(g:SN):bw:=⟨17,[],[],.region Po [ql 8 1 3,qm 9 8,qT 10 9 (ol 1 4),qT 11 9 (om 0),qT 12 9 (om 1),qT 13 9 (om 2),qT 14 9 (.build [(.str []),z0,z0] [(0,1,(.tmp 11)),(1,1,(.tmp 12)),(2,1,(.tmp 13))]),qT 15 9 (.dm (u 10) [(.tmp 14)]),qp 16 9 15,qs 1 3 16]⟩
abbrev bDE(g:SN):List ae:=[qm 45 5,qc 46 (g "bn") [],qf 47 0 9,⟨N1 48,ol 1 47,N2,[2]⟩,⟨N1 49,oi 46 48 1,N2,[1,3,2]⟩,⟨N1 50,ol 1 49,N2,[4,1,3,2]⟩,⟨N1 51,.bin .add .no (uc (.str [66])) (u 50),N2,[5,4,1,3,2]⟩,qm 52 6,⟨N1 53,.dm (u 45) [(.tmp 51),(.tmp 52),(.const (.int .i64 (-1)))],N2,[0,6,5,4,3,2,7,1]⟩]
abbrev bD8:LN:=[1,3]
abbrev bDF(g:SN):ag:=qS [qb 42 .lss 41 40]<|.seq (qC 42 (.skip) (.exit 2))<|.seq (.block 3 (qS [qi 43 39 41 13,qla 44 13 43,qq 9 (.alloc [z0,(.sl Pa []),z0,z0,(.sl Pa []),z0,(.sl Pa []),(.sl Pa []),z0,z0,(.sl Pa []),(.sl Pa []),(.sl Pa [])]),qs 13 9 44]<|.region Pa (bDE g)))<|.region Po [qbi 54 .add 41 1,qm 41 54]
abbrev bDG(g:SN):ag:=qS [qb 61 .lss 60 59]<|.seq (qC 61 (.skip) (.exit 4))<|.seq (.block 5 (qS [qm 62 60,qi 63 58 60 1,ql 64 1 63,qm 10 62,qm 11 64]<|.region Po [qm 65 5,qm 66 11,qq 67 (.bin .add .no (uc (.str [70])) (u 66)),qm 68 6,qm 69 10,qq 70 (.dm (u 65) [(.tmp 67),(.tmp 68),(.tmp 69)])]))<|.region Po [qbi 71 .add 60 1,qm 60 71]
abbrev bDH(g:SN):List ae:=[qm 79 5,qc 80 (g "bm") [],qf 81 0 13,⟨N1 82,ol 1 81,N2,[2]⟩,⟨N1 83,oi 80 82 1,N2,[1,3,2]⟩,⟨N1 84,ol 1 83,N2,[4,1,3,2]⟩,⟨N1 85,.bin .add .no (uc (.str [81])) (u 84),N2,[5,4,1,3,2]⟩,qm 86 6,⟨N1 87,.dm (u 79) [(.tmp 85),(.tmp 86),(.const (.int .i64 (-1)))],N2,[0,6,5,4,3,2,7,1]⟩]
abbrev bD9:LN:=[1,3]
abbrev bDI(g:SN):ag:=qS [qb 92 .lss 91 90]<|.seq (qC 92 (.skip) (.exit 8))<|.seq (.block 9 (qS [qi 93 89 91 2,qla 94 2 93,qq 15 (.alloc [z0,(.str [])]),qs 2 15 94]<|.region Po [qm 95 5,qf 96 0 15,ql 97 1 96,qq 98 (.bin .add .no (ui 48) (u 97)),qq 99 (.conv (.toInt .i32) (u 98)),qq 100 (.conv .i2s (u 99)),qq 101 (.bin .add .no (uc (.str [82])) (u 100)),qf 102 1 15,ql 103 1 102,qb 104 .add 101 103,qm 105 6,qq 106 (.dm (u 95) [(.tmp 104),(.tmp 105),(.const (.int .i64 (-1)))])]))<|.region Po [qbi 107 .add 91 1,qm 91 107]
abbrev bDJ(g:SN):ag:=qS [qb 112 .lss 111 110]<|.seq (qC 112 (.skip) (.exit 10))<|.seq (.block 11 (qS [qi 113 109 111 1,ql 114 1 113,qm 17 114]<|.region Po [qm 115 5,qm 116 17,qq 117 (.bin .add .no (uc (.str [79])) (u 116)),qm 118 6,qq 119 (.dm (u 115) [(.tmp 117),(.tmp 118),(.const (.int .i64 (-1)))])]))<|.region Po [qbi 120 .add 111 1,qm 111 120]
abbrev bDK(g:SN):ag:=qS [qb 76 .lss 75 74]<|.seq (qC 76 (.skip) (.exit 6))<|.seq (.block 7 (qS [qi 77 73 75 7,qla 78 7 77,qq 13 (.alloc [z0,(.sl Pa []),(.sl Pa []),(.sl Pa []),(.str []),z0,(.sl Pa [])]),qs 7 13 78]<|.seq (.region Pa (bDH g))<|.seq (qS [qf 88 1 13,ql 89 1 88,qn 90 89,qmc 91 z0]<|.block 8 (.loop (bDI g)))<|qS [qf 108 2 13,ql 109 1 108,qn 110 109,qmc 111 z0]<|.block 10 (.loop (bDJ g))))<|.region Po [qbi 121 .add 75 1,qm 75 121]
abbrev bDL(g:SN):ag:=qS [qb 28 .lss 27 26]<|.seq (qC 28 (.skip) (.exit 0))<|.seq (.block 1 (qS [qm 29 27,qi 30 25 27 4,qla 31 4 30,qq 7 (.alloc [(.str []),(.sl Pa []),(.sl Pa []),(.sl Pa [])]),qm 6 29,qs 4 7 31]<|qS [qm 32 5,qf 33 0 7,ql 34 1 33,qq 35 (.bin .add .no (uc (.str [73])) (u 34)),qm 36 6,qq 37 (.dm (u 32) [(.tmp 35),(.tmp 36),(.const (.int .i64 (-1)))])]<|.seq (qS [qf 38 1 7,ql 39 1 38,qn 40 39,qmc 41 z0]<|.block 2 (.loop (bDF g)))<|.seq (qS [ql 55 1 2,qm 56 6,qi 57 55 56 1,ql 58 1 57,qn 59 58,qmc 60 z0]<|.block 4 (.loop (bDG g)))<|qS [qf 72 3 7,ql 73 1 72,qn 74 73,qmc 75 z0]<|.block 6 (.loop (bDK g))))<|.region Po [qbi 122 .add 27 1,qm 27 122]
def bDj(g:SN):bw:=⟨123,[4,7,9,13,15],[],qS [qx 3 1 0]<|qS [qq 4 (.alloc [(.bool Po)]),qz (.store 1 (u 4) uT)]<|qS [qq 18 (.mkf (g "h") [] [(.tmp 4),(.tmp 3)]),qm 5 18]<|qS [qm 19 5,qf 20 0 1,ql 21 1 20,qq 22 (.bin .add .no (uc (.str [84])) (u 21)),qq 23 (.dm (u 19) [(.tmp 22),(.const z0),(.const (.int .i64 (-1)))])]<|qS [qf 24 1 1,ql 25 1 24,qn 26 25,qmc 27 z0]<|.block 0 (.loop (bDL g))⟩
section
variable {A:af}{g:SN}
def bFa(h:Has A g "bn" (bDT g))(H:LO):aG A (g "bn") [] H=N1 (.sl Po (bCW.map aN),H,[]):=by refine h.call ?_;simp only[bDT];simp only[go_sem,↓aB,seval,AJ,bCW,aN,BI,BY]
def bFY(h:Has A g "bm" (bEr g))(H:LO):aG A (g "bm") [] H=N1 (.sl Po (bDZ.map aN),H,[]):=by refine h.call ?_;simp only[bEr];simp only[go_sem,↓aB,seval,AJ,bDZ,aN,BI,BY]
def bDy(h:Has A g "aF" (bDb g))(x:jm)(R:List (List Str))(H:LO):aG A (g "aF") [dE x,.sl Po (hU R)] H = N1 (.fn (g "bo") [] [.ep [.str x.title,.sl Po (x.items.map aO)] 0,.ep [.sl Po (hU R)] 0],H,[]):=by refine h.call ?_;simp only[bDb];simp only[go_sem,↓aB,seval,dE,AJ];rw[jG (AQ _)];exact⟨rfl,rfl,rfl⟩
abbrev bEi:=Str×Int×Int
abbrev bEy:=LO×LO
structure Ps(A:af)(o v base n m:Nat)(I:List bEi->bEy->Prop):Prop where
 le:base<=m/\m<n
 inv:∀{ps X},I ps X->X.1.length=n/\(X.2=[]->∀(j:Nat) x,base<=j->X.1[j]? = N1 x->x.under n=Pa)/\(X.2≠[]->∃x,X.1[m]? = N1 x/\∀k,k<=n+5->x.under k=Po)
 run:∀{ps X} (s:Str) (i k:Int) (y0 y1 y2 y3 y4:ah),I ps X->s≠[]->s.length<=2000000->ps.length<=20000 ->
  ∃X' wr,aG A YF [.own 0 [],.yld o v,.agg [.str s,vi i,vi k]] (X.1++(y0::y1::y2::y3::y4::X.2))=N1 (.bool Pa,X'.1++(y0::y1::y2::y3::y4::X'.2),wr)/\I (ps++[(s,i,k)]) X'/\(∀x∈wr,base<=x)/\(X'.2.length=X.2.length∨0<=k/\X.2=[]/\X'.2≠[]/\m∈wr)
variable {o v base n m:Nat}{I:List bEi->bEy->Prop}
def bIo(m:Nat)(wr:LN)(X:bEy):Prop:=X.2=[]∨m∈wr
def bCX{b m:Nat}(hm:m<b):∀{l wr:LN},m∈wr∨m∈l->m∈bE b wr l
 | [],wr,h=>by rcases h with h | h;exact h;cases h
 |y::r,wr,h=>by
  unfold bE;split
  ·refine bCX hm ?_;rcases h with h | h
   ·exact .inl (BZ _ h)
   rcases BD.1 h with rfl | h
   ·exact .inl HD
   exact .inr h
  rename_i hc;refine bCX hm ?_;rcases h with h | h
  ·exact .inl h
  rcases BD.1 h with rfl | h
  ·by_cases hy:m∈wr
   ·exact .inl hy
   exact Zw ⟨hm,by simpa using hy⟩ hc
  exact .inr h
def bEQ{b:Nat}{v:AV}{X L:LO}{wr:LN}{m:Nat}{x:ah}(hm:m∈wr)(hx:(X++L)[m]? = N1 x)(hu:x.under b=Po):cJ b (v,X++L,wr)=(v,X++L,wr):=by unfold cJ;dsimp only;rw[Zx];intro h;rw[AI,AO]at h;have:=h.2 m hm;rw[hx]at this;dsimp only at this;rw[hu]at this;cases this
def bDp(h:Has A g "h" (bCS g))(hR:Ps A o v base n m I){ps:List bEi}{X:bEy}(hI:I ps X)(s:Str)(i k:Int)(hs:s≠[])(hl:s.length<=2000000)(hp:ps.length<=20000)(y1 y2 y3 y4:ah):∃X' wr,aG A (g "h") [.str s,vi i,vi k,.ptr X.1.length 1 0,.ep [.yld o v] 0] (X.1++(.box 1 [.bool Pa]::y1::y2::y3::y4::X.2))=N1 (.tup [],X'.1++(.box 1 [.bool Pa]::y1::y2::y3::y4::X'.2),wr)/\I (ps++[(s,i,k)]) X'/\X'.1.length=X.1.length/\(∀x∈wr,base<=x)/\(X'.2.length=X.2.length∨0<=k/\m∈wr):=by
 obtain⟨X',wr,h1,h2,h3,h4⟩:=hR.run s i k (.box 1 [.bool Pa]) y1 y2 y3 y4 hI hs hl hp;have hn:=(hR.inv hI).1;have ze:=(hR.inv h2).1;have Uh:X.1.length=X'.1.length:=hn.trans ze.symm;have hb:=hR.le;have he:cX (aG A) (X.1++(.box 1 [.bool Pa]::y1::y2::y3::y4::X.2)) N2 (.yld o v) [.agg [.str s,vi i,vi k]]=N1 (.bool Pa,X'.1++(.box 1 [.bool Pa]::y1::y2::y3::y4::X'.2),wr):=by rw[aGL];have:kA (X.1++(.box 1 [.bool Pa]::y1::y2::y3::y4::X.2)) [.agg [.str s,vi i,vi k]]=N1 ([.agg [.str s,vi i,vi k]],[]):=rfl;rw[this];dsimp only;have e2:([AV.agg [.str s,vi i,vi k]]).map AV.strip=[.agg [.str s,vi i,vi k]]:=rfl;rw[e2,show dL (X.1++(.box 1 [.bool Pa]::y1::y2::y3::y4::X.2)) []=(X.1++(.box 1 [.bool Pa]::y1::y2::y3::y4::X.2))from rfl,h1];rfl
 obtain⟨r,H',ba,e1,rfl,rfl,e4⟩:=h.bp (args:=[.str s,vi i,vi k,.ptr X.1.length 1 0,.ep [.yld o v] 0]) (H:=X.1++(.box 1 [.bool Pa]::y1::y2::y3::y4::X.2)) (K:=λr H' w=>r=.tup []/\H'=X'.1++(.box 1 [.bool Pa]::y1::y2::y3::y4::X'.2)/\(∀x∈w,base<=x)/\(m∈wr->m∈w)) (by
  simp only[bCS];simp only[go_sem,↓aB,seval,AJ,AD,AA,AE,he];rw[Uh];simp only[go_sem,↓aB,seval,AD];have hm:∀{b b':Nat} {l:LN},m<b->m<b'->m∈wr->m∈bE b (bE b' [] wr) l:=λh h' h2=>bCX h (.inl (bCX h' (.inr h2)));have hc:∀{b:Nat} {w:LN},b=n+5+X.2.length->(m∈wr->m∈w)->cJ b (.tup [],X'.1++(.box 1 [.bool Pa]::y1::y2::y3::y4::X'.2),w)=(.tup [],X'.1++(.box 1 [.bool Pa]::y1::y2::y3::y4::X'.2),w):=λ{b w} dp hw=>by
   rcases h4 with h4 | ⟨_,h4,h5,h6⟩
   ·exact jG (by rw[dp];simp;omega)
   obtain⟨x,hx,hu⟩:=(hR.inv h2).2.2 h5;exact bEQ (hw h6) (by rw[BM omT];exact hx) (hu _ (by rw[dp,h4];exact AQ _))
  rw[hc omT (hm omT omT)];exact⟨rfl,rfl,rB (rB (λx hx=>(by cases hx)) h3) (λx hx=>by rw[CG.1 hx];omega),hm omT omT⟩)
 exact⟨X',ba,e1,h2,Uh.symm,e4.1,by rcases h4 with h4 | ⟨h7,_,_,h6⟩;exact .inl h4;exact .inr ⟨h7,e4.2 h6⟩⟩
end
@[go_sem] def bHZ{o v:Nat}:(AV.yld o v).strip=.yld o v:=(rfl)
@[go_sem] def bI0{o v:Nat}:(AV.yld o v).cells=[.yld o v]:=(rfl)
@[go_sem] def bI1{o v:Nat}:(AV.yld o v).still=true:=(rfl)
def bCY{b n base:Nat}(hb:b=n):∀{l wr:LN},(∀x∈wr,base<=x/\x<n)->(∀x∈l,base<=x)->∀x∈bE b wr l,base<=x/\x<n
 | [],wr,h,_=>h
 |y::r,wr,h,hl=>by
  unfold bE;split
  ·rename_i hc;exact bCY hb (λz hz=>by
    rcases BD.1 hz with rfl | hz
    ·exact⟨hl _ HD,omT⟩
    exact h z hz) λz hz=>hl z (BZ _ hz)
  exact bCY hb h λz hz=>hl z (BZ _ hz)
def bFq{base:Nat}{v:AV}{X L:LO}{wr:LN}(hv:v.under X.length=Pa)(h:∀j∈wr,base<=j/\j<X.length)(hu:∀(j:Nat) x,base<=j->X[j]? = N1 x->x.under X.length=Pa):cJ X.length (v,X++L,wr)=(v,X,wr):=by
 unfold cJ;dsimp only;split
 ·rw[GU]
 rename_i hc;refine Zw ?_ hc;rw[AI];refine⟨hv,AO.2 λj hj=>?_⟩;obtain⟨a,b⟩:=h j hj;rw[BM b];cases e:X[j]? with
 |none=>rfl
 |some x=>exact hu j x a e
abbrev tg(k:Int)(s:Str):bEi:=(s,k,-1)
abbrev fcT(k:Int)(j:Nat)(s:Str):bEi:=(70::s,k,(j:Int))
def bEX(k:Int)(q:Question):List bEi:=[tg k (81::bDZ.getD q.kind.toNat [])]++(q.lk.map (λr=>tg k (bFF r))++q.options.map λs=>tg k (79::s))
def bEz(k:Int)(x:Item)(F:List Str):List bEi:=[tg k (73::x.name)]++x.blocks.map (λb=>tg k (bDM b))++F.mapIdx (fcT k)++x.ask.flatMap (bEX k)
def bEf(items:List Item)(R:List (List Str))(n:Nat):List bEi:=(GZ n).flatMap λ(k:Nat)=>match items[k]?,R[k]? with
 |some x,N1 F=>bEz k x F
 |_,_=>[]
def bCG(x:jm)(R:List (List Str)):List bEi:=tg 0 (84::x.title)::bEf x.items R x.items.length
def bFZ{items:List Item}{R:List (List Str)}{k:Nat}(h1:k<items.length)(h2:k<R.length):bEf items R (k+1)=bEf items R k++bEz k items[k] R[k]:=by unfold bEf;rw[List.range_succ,JK,List.flatMap_singleton,AP h1,AP h2]
def bFM{k:Int}{q:Question}(h:q.Ok):(bEX k q).length<=33:=by have:=h.fg;have:=h.Q3;simp[bEX];omega
def bEs{items:List Item}(h:∀i∈items,i.Ok){R:List (List Str)}(hR:∀r∈R,r.length<=16)(n:Nat):(bEf items R n).length<=n*561:=by
 unfold bEf
 suffices hk:∀k:Nat,(match items[k]?,R[k]? with
  |some x,N1 F=>bEz k x F
  |_,_=>[]).length<=561 by
  have key:=bDx _ (B:=561) (GZ n) λk _=>hk k
  rwa [List.length_range]at key
 intro k;split
 ·rename_i x F e1 e2;have hx:=h x (AN e1);have hF:=hR F (AN e2);have h1:=bDx (bEX k) (B:=33) x.ask (λq hq=>bFM (hx.ask q hq));have:=hx.zq;have:=hx.tj;simp only[bEz,BA,AW,AF,List.length_mapIdx,AZ];omega
 exact FF _
section
variable {A:af}{g:SN}{o v base n m:Nat}{I:List bEi->bEy->Prop}
abbrev JP(I:List bEi->bEy->Prop)(m:Nat)(wr:LN)(ps:List bEi)(X:bEy):Prop:=I ps X/\bIo m wr X
def bEt(hR:Ps A o v base n m I){wr w:LN}{ps ps':List bEi}{X X':bEy}(h:JP I m wr ps X)(h2:I ps' X'){i:Int}(h3:X'.2.length=X.2.length∨0<=i/\m∈w):JP I m (bE X.1.length wr w) ps' X':=by
 refine⟨h2, ?_⟩;have hm:m<X.1.length:=by rw[(hR.inv h.1).1];exact hR.le.2
 rcases h3 with h3 | h3
 ·rcases h.2 with h4 | h4
  ·exact .inl (List.eq_nil_of_length_eq_zero (by rw[h3,h4];rfl))
  exact .inr (bCX hm (.inl h4))
 exact .inr (bCX hm (.inr h3.2))
@[go_sem] def bIp{n:Nat}:(0<n+1+1+1+1+1)=True:=eq_true omT
@[go_sem] def bIq{n:Nat}:(1<n+1+1+1+1+1)=True:=eq_true omT
@[go_sem] def bIr{n:Nat}:(2<n+1+1+1+1+1)=True:=eq_true omT
@[go_sem] def bIs{n:Nat}:(3<n+1+1+1+1+1)=True:=eq_true omT
@[go_sem] def bIt{n:Nat}:(4<n+1+1+1+1+1)=True:=eq_true omT
structure Px(A:af)(g:SN):Prop where
 blocks:Has A g "bn" (bDT g)
 asks:Has A g "bm" (bEr g)
 para:Has A g "aF" (bDb g)
 run:Has A g "bo" (bDj g)
 say:Has A g "h" (bCS g)
abbrev bER(it:Item):LA:=[.str it.name,.sl Po (it.blocks.map aE),.sl Po (it.facts.map aI),.sl Po (it.ask.map gR)]
def bEG(F:Px A g)(hR:Ps A o v base n m I)(x:jm)(hx:x.Ok)(hr:∀i∈x.items,Qs i)(R:List (List Str))(J2:R.length=x.items.length)(Qt:∀r∈R,r.length<=16/\∀s∈r,s.length<=1000000)(XX:LO)(hI:I [] (XX,[])):∃H' wr,aG A (g "bo") [.yld o v,.ep [.str x.title,.sl Po (x.items.map aO)] 0,.ep [.sl Po (hU R)] 0] XX=N1 (.tup [],H',wr)/\(∀y∈wr,base<=y)/\∃X',I (bCG x R) X'/\(X'.2=[]/\H'=X'.1∨X'.2≠[]/\m∈wr/\∃L,L.length=5/\H'=X'.1++(L++X'.2)):=by
 have Vv:x.title.length<=1000:=hx.title;obtain⟨r,H',ba,e1,rfl,h2,h3⟩:=F.run.bp (args:=[.yld o v,.ep [.str x.title,.sl Po (x.items.map aO)] 0,.ep [.sl Po (hU R)] 0]) (H:=XX) (K:=λr H' wr=>r=.tup []/\(∀y∈wr,base<=y)/\∃X',I (bCG x R) X'/\(X'.2=[]/\H'=X'.1∨X'.2≠[]/\m∈wr/\∃L,L.length=5/\H'=X'.1++(L++X'.2))) (by
  simp only[bDj];have Uw:JP I m [] [] (XX,[]):=⟨hI,.inl rfl⟩;obtain⟨X1,w1,c1,c2,c3,c4,c5⟩:=bDp F.say hR hI (84::x.title) 0 (-1) siT soT siT (.gone 0) (.gone 0) (.gone 0) (.gone 0);have ha:kJ .add .no (.str [84]) (.str x.title)=N1 (.str (84::x.title)):=kE soT;simp only[go_sem,↓aB,seval,c1,ha,AJ,AD,AB,AA,AE];have c2:=bEt hR Uw c2 c5;have c3:X1.1.length=XX.length:=c3;simp only at c2;rw[<- c3]at c2 ⊢;have dy:∀y∈bE X1.1.length [] w1,base<=y/\y<n:=bCY (hR.inv c2.1).1 (λy hy=>by cases hy) c4;generalize bE X1.1.length [] w1=wr0 at *
  try simp only[go_sem,↓aB,seval,AF,AJ,AD,AB,AA,AE]
  refine bJ (id:=0) (λk ρ1 H1 wr=>(∀y∈wr,base<=y/\y<n)/\ρ1 27=vi (k:Nat)/\∃X2 y1 y2 y3 y4,H1=X2.1++(.box 1 [.bool Pa]::y1::y2::y3::y4::X2.2)/\X2.1.length=X1.1.length/\JP I m wr (tg 0 (84::x.title)::bEf x.items R k) X2) x.items.length
   (λρ1 H1 wr=>(∀y∈wr,base<=y/\y<n)/\∃X2 y1 y2 y3 y4,H1=X2.1++(.box 1 [.bool Pa]::y1::y2::y3::y4::X2.2)/\X2.1.length=X1.1.length/\JP I m wr (bCG x R) X2) cB rfl ⟨dy,rfl,X1,_,_,_,_,rfl,rfl,c2⟩ ?_ ?_
  ·rintro k ρ1 H1 dc zp ⟨gn,e27,X2,y1,y2,y3,y4,rfl,Tq,I6⟩ hf;have f25:ρ1 25=.sl Po (x.items.map aO):=hf 25 rfl;have f26:ρ1 26=vi (x.items.length:Nat):=hf 26 rfl;have f5:ρ1 5=.fn (g "h") [] [.ptr X1.1.length 1 0,.ep [.yld o v] 0]:=hf 5 rfl;have f2:ρ1 2=.ep [.sl Po (hU R)] 0:=hf 2 rfl;clear hf;rw[<- Tq]at f5 ⊢;simp only[go_sem,↓aB,seval,e27,f26];refine aD (λe3=>?_) (λe3=>?_)
   ·have hlt:k<x.items.length:=by simp at e3;omega
    have Bm:=hx.G8;have Tr:k<R.length:=omT;have pg:=wS (i:=k) omT;have cj:=mgE aO hlt;have Bk:(hU R)[k]? = N1 [.sl Po (R[k].map aN)]:=by unfold hU;rw[BN,AP Tr];rfl
    have Ji:(hU R).length=x.items.length:=by unfold hU;rw[AF,J2]
    have kh:=hx.items _ (AS hlt);have Sx:=hr _ (AS hlt);obtain⟨Vw,Ux⟩:=Qt _ (AS Tr);have Ts:=bFZ hlt Tr;have Vx:=bEs hx.items (λq hq=>(Qt q hq).1) k;generalize hP:tg 0 (84::x.title)::bEf x.items R k=P at *;have Vy:P.length<=8416:=by rw[<- hP];simp;omega
    have Z0:P++bEz k x.items[k] R[k]=tg 0 (84::x.title)::bEf x.items R (k+1):=by rw[Ts,<- hP];rfl
    generalize x.items[k]=it at *;generalize R[k]=Fs at *;have W6:it.name.length<=1000:=kh.name;have M1:kJ .add .no (.str [73]) (.str it.name)=N1 (.str (73::it.name)):=kE soT;obtain⟨X3,w3,d1,d2,d3,d4,dz5⟩:=bDp F.say hR I6.1 (73::it.name) k (-1) siT soT omT (.box (y1.ver+1) (bER it)) y2 y3 y4;simp only[go_sem,↓aB,seval,e27,f25,f5,AU,AT,hlt,cj,aO,M1,d1,AD,AB,AA,AE];have pr:∀y∈bE X2.1.length dc w3,base<=y/\y<n:=bCY (hR.inv I6.1).1 gn d4;have d2:=bEt hR I6 d2 dz5;generalize bE X2.1.length dc w3=wr3 at *;rw[<- d3]at f5 ⊢
    try simp only[go_sem,↓aB,seval,AF,AD,AB,AA,AE]
    refine bJ (id:=2) (λj ρ2 H2 wr=>(∀y∈wr,base<=y/\y<n)/\ρ2 41=vi (j:Nat)/\∃X4 z2 z3 z4,H2=X4.1++(.box 1 [.bool Pa]::.box (y1.ver+1) (bER it)::z2::z3::z4::X4.2)/\X4.1.length=X3.1.length/\JP I m wr (P++[tg k (73::it.name)]++(it.blocks.take j).map (λb=>tg k (bDM b))) X4) it.blocks.length
     (λρ2 H2 wr=>(∀y∈wr,base<=y/\y<n)/\∃X4 z2 z3 z4,H2=X4.1++(.box 1 [.bool Pa]::.box (y1.ver+1) (bER it)::z2::z3::z4::X4.2)/\X4.1.length=X3.1.length/\JP I m wr (P++[tg k (73::it.name)]++it.blocks.map (λb=>tg k (bDM b))) X4) cB rfl ⟨pr,rfl,X3,_,_,_,rfl,rfl,by simpa using d2⟩ ?_ ?_
    ·rintro j ρ2 H2 en mo ⟨As,e41,X4,z2,z3,z4,rfl,Tt,Sq⟩ cq;have g39:ρ2 39=.sl Po (it.blocks.map aE):=cq 39 rfl;have g40:ρ2 40=vi (it.blocks.length:Nat):=cq 40 rfl;have g5:ρ2 5=.fn (g "h") [] [.ptr X3.1.length 1 0,.ep [.yld o v] 0]:=(cq 5 rfl).trans f5;have g6:ρ2 6=vi (k:Nat):=cq 6 rfl;clear cq;rw[<- Tt]at g5 ⊢;simp only[go_sem,↓aB,seval,e41,g40];refine aD (λe4=>?_) (λe4=>?_)
     ·have jlt:j<it.blocks.length:=by simp at e4;omega
      have zo:=kh.zq;have Kj:=wS (i:=j) omT;have fh:=mgE aE jlt;obtain⟨k0,k7⟩:=Sx.kinds _ (AS jlt);have pk:(it.blocks.take (j+1)).map (λb=>tg k (bDM b))=(it.blocks.take j).map (λb=>tg k (bDM b))++[tg k (bDM it.blocks[j])]:=by rw[EW jlt,DQ];rfl
      have Qk:(P++[tg k (73::it.name)]++(it.blocks.take j).map (λb=>tg k (bDM b))).length<=20000:=soT;generalize (it.blocks.take j).map (λb=>tg k (bDM b))=Q at *;generalize it.blocks[j]=b at *;have qv:=bG b;have iz:(aE b).all AV.ak=true:=bQ qv;have S5:List.take 1 (aE b)=[.int .i64 b.kind]:=by obtain⟨op,n,ks,ig⟩:=eW b;rw[ig];rfl
      have zp:b.kind.toNat<bCW.length:=by show _<7;omega
      have Vz:b.kind<((bCW.length:Nat):Int):=k7;have Rq:(bCW.map aN)[b.kind.toNat]? = N1 [.str (bCW.getD b.kind.toNat [])]:=by rw[BN,AP zp,KV,AP zp];rfl
      have Uy:(bCW.getD b.kind.toNat []).length<=7:=by have:∀w∈bCW,w.length<=7:=deT;exact this _ (bFn k0 k7)
      have Uz:bDM b=66::bCW.getD b.kind.toNat []:=rfl;generalize bCW.getD b.kind.toNat []=wd at *;have R7:kJ .add .no (.str [66]) (.str wd)=N1 (.str (66::wd)):=kE soT;obtain⟨X5,w5,q1,q2,q3,q4,qz5⟩:=bDp F.say hR Sq.1 (66::wd) k (-1) siT soT Qk (.box (y1.ver+1) (bER it)) (.box (z2.ver+1) (aE b)) z3 z4;have ss:=λH=>bFa F.blocks H;have Tk:(X5.1++(ah.box 1 [.bool Pa]::.box (y1.ver+1) (bER it)::.box (z2.ver+1) (aE b)::z3::z4::X5.2)).length=(X4.1++(ah.box 1 [.bool Pa]::.box (y1.ver+1) (bER it)::.box (z2.ver+1) (aE b)::z3::z4::X4.2)).length:=by simp only[BA,AW,q3,(show X5.2.length=X4.2.length from qz5.elim id λh=>Zw h.1 deT)]
      simp only[go_sem,↓aB,seval,e41,g39,AU,AT,jlt,fh,cF,bT.take,iz,AD,AB,AE,AW,AZ];refine aY (aq:=bD8) rfT rfT ?_;simp only[go_sem,↓aB,seval,bD8,cF,g5,g6,ss,S5,Rq,k0,R7,q1,Tk,eH,dG,aL,AD,AA,AE];have Au:∀y∈bE X4.1.length en w5,base<=y/\y<n:=bCY (hR.inv Sq.1).1 As q4;have q2:=bEt hR Sq q2 qz5
      try simp only[go_sem,↓aB,seval,e41,Kj]
      refine⟨jlt,Au,X5,_,_,_,rfl,q3, ?_⟩;rw[pk,<- CJ,Uz];exact q2
     have:j=it.blocks.length:=by simp at e4;omega
     subst this;rw[DM]at Sq;simp only[go_sem,seval];exact⟨As,X4,_,_,_,rfl,rfl,Sq⟩
    rintro ρ3 H3 wr4 ⟨As,X4,z2,z3,z4,rfl,Tt,Sq⟩ cq;have g5:ρ3 5=.fn (g "h") [] [.ptr X3.1.length 1 0,.ep [.yld o v] 0]:=(cq 5 rfl).trans f5;have g6:ρ3 6=vi (k:Nat):=cq 6 rfl;have g2:ρ3 2=.ep [.sl Po (hU R)] 0:=(cq 2 rfl).trans f2;have g7:ρ3 7=.ptr (X3.1.length+1) (y1.ver+1) 0:=cq 7 rfl;have g27:ρ3 27=vi (k:Nat):=(cq 27 rfl).trans e27;clear cq;rw[<- Tt]at g5 g7 ⊢;generalize Ui:P++[tg k (73::it.name)]++it.blocks.map (λb=>tg k (bDM b))=PB at *;have Va:PB.length<=8433:=by rw[<- Ui];have:=kh.zq;simp;omega
    simp only[go_sem,↓aB,seval,g2,g6,Bk,AF,AU,AT,AD,AA,AE];refine bJ (id:=4) (λj ρ2 H2 wr=>(∀y∈wr,base<=y/\y<n)/\ρ2 60=vi (j:Nat)/\∃X5,H2=X5.1++(.box 1 [.bool Pa]::.box (y1.ver+1) (bER it)::z2::z3::z4::X5.2)/\X5.1.length=X4.1.length/\JP I m wr (PB++(Fs.take j).mapIdx (fcT k)) X5) Fs.length
     (λρ2 H2 wr=>(∀y∈wr,base<=y/\y<n)/\∃X5,H2=X5.1++(.box 1 [.bool Pa]::.box (y1.ver+1) (bER it)::z2::z3::z4::X5.2)/\X5.1.length=X4.1.length/\JP I m wr (PB++Fs.mapIdx (fcT k)) X5) cB rfl ⟨As,rfl,X4,rfl,rfl,by simpa using Sq⟩ ?_ ?_
    ·rintro j ρ4 H4 wr5 mo ⟨Au,e60,X5,rfl,Tu,Sr⟩ im;have i58:ρ4 58=.sl Po (Fs.map aN):=im 58 rfl;have i59:ρ4 59=vi (Fs.length:Nat):=im 59 rfl;have i5:ρ4 5=.fn (g "h") [] [.ptr X4.1.length 1 0,.ep [.yld o v] 0]:=(im 5 rfl).trans g5;have i6:ρ4 6=vi (k:Nat):=(im 6 rfl).trans g6;clear im;rw[<- Tu]at i5 ⊢;simp only[go_sem,↓aB,seval,e60,i59];refine aD (λe4=>?_) (λe4=>?_)
     ·have jlt:j<Fs.length:=by simp at e4;omega
      have Kj:=wS (i:=j) omT;have fh:(Fs.map aN)[j]? = N1 [.str Fs[j]]:=by rw[BN,AP jlt];rfl
      have G6:=Ux _ (AS jlt);have pk:(Fs.take (j+1)).mapIdx (fcT k)=(Fs.take j).mapIdx (fcT k)++[fcT k j Fs[j]]:=by rw[EW jlt,List.mapIdx_concat,List.length_take_of_le omT]
      have Qk:(PB++(Fs.take j).mapIdx (fcT k)).length<=20000:=soT;generalize (Fs.take j).mapIdx (fcT k)=Q at *;generalize Fs[j]=s at *;have R7:kJ .add .no (.str [70]) (.str s)=N1 (.str (70::s)):=kE soT;obtain⟨X6,w6,q1,q2,q3,q4,qz5⟩:=bDp F.say hR Sr.1 (70::s) k j siT soT Qk (.box (y1.ver+1) (bER it)) z2 z3 z4;simp only[go_sem,↓aB,seval,e60,i58,i5,i6,AU,AT,jlt,fh,R7,q1,AD,AA,AE];have Lz:∀y∈bE X5.1.length wr5 w6,base<=y/\y<n:=bCY (hR.inv Sr.1).1 Au q4;have q2:=bEt hR Sr q2 qz5;simp only[go_sem,seval,Kj];refine⟨Lz,X6,rfl,q3, ?_⟩;rw[pk,<- CJ];exact q2
     have:j=Fs.length:=by simp at e4;omega
     subst this;rw[DM]at Sr;simp only[go_sem,seval];exact⟨Au,X5,rfl,rfl,Sr⟩
    rintro ρ4 H4 wr5 ⟨Au,X5,rfl,Tu,Sr⟩ im;have i5:ρ4 5=.fn (g "h") [] [.ptr X4.1.length 1 0,.ep [.yld o v] 0]:=(im 5 rfl).trans g5;have i6:ρ4 6=vi (k:Nat):=(im 6 rfl).trans g6;have i7:ρ4 7=.ptr (X4.1.length+1) (y1.ver+1) 0:=(im 7 rfl).trans g7;have i27:ρ4 27=vi (k:Nat):=(im 27 rfl).trans g27;clear im;rw[<- Tu]at i5 i7 ⊢;generalize Uj:PB++Fs.mapIdx (fcT k)=PF at *;have Vb:PF.length<=8449:=by rw[<- Uj];simp;omega
    simp only[go_sem,↓aB,seval,i7,AF,AD,AB,AA,AE];refine bJ (id:=6) (λj ρ2 H2 wr=>(∀y∈wr,base<=y/\y<n)/\ρ2 75=vi (j:Nat)/\∃X6 u1 u2 u3 u4,H2=X6.1++(.box 1 [.bool Pa]::u1::u2::u3::u4::X6.2)/\X6.1.length=X5.1.length/\JP I m wr (PF++(it.ask.take j).flatMap (bEX k)) X6) it.ask.length
     (λρ2 H2 wr=>(∀y∈wr,base<=y/\y<n)/\∃X6 u1 u2 u3 u4,H2=X6.1++(.box 1 [.bool Pa]::u1::u2::u3::u4::X6.2)/\X6.1.length=X5.1.length/\JP I m wr (PF++it.ask.flatMap (bEX k)) X6) cB rfl ⟨Au,rfl,X5,_,_,_,_,rfl,rfl,by simpa using Sr⟩ ?_ ?_
    ·rintro j ρ5 H5 wr6 mo ⟨Lz,e75,X6,u1,u2,u3,u4,rfl,Uk,Sk⟩ I3;have m73:ρ5 73=.sl Po (it.ask.map gR):=I3 73 rfl;have m74:ρ5 74=vi (it.ask.length:Nat):=I3 74 rfl;have m5:ρ5 5=.fn (g "h") [] [.ptr X5.1.length 1 0,.ep [.yld o v] 0]:=(I3 5 rfl).trans i5;have m6:ρ5 6=vi (k:Nat):=(I3 6 rfl).trans i6;clear I3;rw[<- Uk]at m5 ⊢;simp only[go_sem,↓aB,seval,e75,m74];refine aD (λe4=>?_) (λe4=>?_)
     ·have jlt:j<it.ask.length:=by simp at e4;omega
      have j8:=kh.tj;have Kj:=wS (i:=j) omT;have fh:=mgE gR jlt;have Rh:=Sx.ask _ (AS jlt);have J0:=kh.ask _ (AS jlt);have pk:(it.ask.take (j+1)).flatMap (bEX k)=(it.ask.take j).flatMap (bEX k)++bEX k it.ask[j]:=by rw[EW jlt,JK];simp
      have Vc:(PF++(it.ask.take j).flatMap (bEX k)).length<=8449+495:=by have h1:=bDx (bEX k) (B:=33) (it.ask.take j) (λq hq=>bFM (kh.ask q (FA hq)));have h2:(it.ask.take j).length<=15:=soT;rw[BA];omega
      generalize Vd:PF++(it.ask.take j).flatMap (bEX k)=PQ at *;generalize it.ask[j]=q at *;obtain⟨k0,k3,Ve,Th⟩:=Rh;have zp:q.kind.toNat<bDZ.length:=by show _<3;omega
      have Ly:q.kind<((bDZ.length:Nat):Int):=k3;have Rq:(bDZ.map aN)[q.kind.toNat]? = N1 [.str (bDZ.getD q.kind.toNat [])]:=by rw[BN,AP zp,KV,AP zp];rfl
      have Uy:(bDZ.getD q.kind.toNat []).length<=7:=by have:∀w∈bDZ,w.length<=7:=deT;exact this _ (bGc k0 k3)
      have Vf:bEX k q=[tg k (81::bDZ.getD q.kind.toNat [])]++(q.lk.map (λr=>tg k (bFF r))++q.options.map λs=>tg k (79::s)):=rfl;generalize bDZ.getD q.kind.toNat []=wd at *;have R7:kJ .add .no (.str [81]) (.str wd)=N1 (.str (81::wd)):=kE soT;obtain⟨X7,w7,q1,q2,q3,q4,qz5⟩:=bDp F.say hR Sk.1 (81::wd) k (-1) siT soT omT u1 u2 (.box (u3.ver+1) (gR q)) u4;have ss:=λH=>bFY F.asks H;have Tk:(X7.1++(ah.box 1 [.bool Pa]::u1::u2::.box (u3.ver+1) (gR q)::u4::X7.2)).length=(X6.1++(ah.box 1 [.bool Pa]::u1::u2::.box (u3.ver+1) (gR q)::u4::X6.2)).length:=by simp only[BA,AW,q3,(show X7.2.length=X6.2.length from qz5.elim id λh=>Zw h.1 deT)]
      simp only[gR]at q1 Tk fh;simp only[go_sem,↓aB,seval,e75,m73,AU,AT,jlt,fh,AD,AB,AA,AE,AW,AZ];refine aY (aq:=bD9) rfT rfT ?_;simp only[go_sem,↓aB,seval,bD9,m5,m6,ss,Rq,k0,R7,q1,Tk,eH,dG,aL,AD,AA,AE];have Vg:∀y∈bE X6.1.length wr6 w7,base<=y/\y<n:=bCY (hR.inv Sk.1).1 Lz q4;have q2:=bEt hR Sk q2 qz5;generalize bE X6.1.length wr6 w7=wr7 at *;rw[<- q3]at m5 ⊢;have Vh:(PQ++[tg k (81::wd)]).length<=8945:=soT;generalize Vi:PQ++[tg k (81::wd)]=PR at *
      try simp only[go_sem,↓aB,seval,AF,AD,AB,AA,AE]
      refine bJ (id:=8) (λi ρ2 H2 wr=>(∀y∈wr,base<=y/\y<n)/\ρ2 91=vi (i:Nat)/\∃X8 t4,H2=X8.1++(.box 1 [.bool Pa]::u1::u2::.box (u3.ver+1) [vi q.kind,.sl Po (q.lk.map cZ),.sl Po (q.options.map aN),.sl Po (q.cy.map bF),.str q.key,vi q.points,.sl Po (q.dv.map aN)]::t4::X8.2)/\X8.1.length=X7.1.length/\JP I m wr (PR++(q.lk.take i).map (λr=>tg k (bFF r))) X8) q.lk.length
       (λρ2 H2 wr=>(∀y∈wr,base<=y/\y<n)/\∃X8 t4,H2=X8.1++(.box 1 [.bool Pa]::u1::u2::.box (u3.ver+1) [vi q.kind,.sl Po (q.lk.map cZ),.sl Po (q.options.map aN),.sl Po (q.cy.map bF),.str q.key,vi q.points,.sl Po (q.dv.map aN)]::t4::X8.2)/\X8.1.length=X7.1.length/\JP I m wr (PR++q.lk.map (λr=>tg k (bFF r))) X8) cB rfl ⟨Vg,rfl,X7,_,rfl,rfl,by simpa using q2⟩ ?_ ?_
      ·rintro i ρ6 H6 wr8 mg ⟨Lf,e91,X8,t4,rfl,Tv,Ss⟩ Cv;have n89:ρ6 89=.sl Po (q.lk.map cZ):=Cv 89 rfl;have n90:ρ6 90=vi (q.lk.length:Nat):=Cv 90 rfl;have n5:ρ6 5=.fn (g "h") [] [.ptr X7.1.length 1 0,.ep [.yld o v] 0]:=(Cv 5 rfl).trans m5;have n6:ρ6 6=vi (k:Nat):=(Cv 6 rfl).trans m6;clear Cv;rw[<- Tv]at n5 ⊢;simp only[go_sem,↓aB,seval,e91,n90];refine aD (λe6=>?_) (λe6=>?_)
       ·have ilt:i<q.lk.length:=by simp at e6;omega
        have G6:=J0.fg;have V1:=wS (i:=i) omT;have iget:=mgE cZ ilt;have Vj:=Th _ (AS ilt);have gu:q.lk[i].text.length<=1000:=(J0.lk _ (AS ilt)).text;have pk:(q.lk.take (i+1)).map (λr=>tg k (bFF r))=(q.lk.take i).map (λr=>tg k (bFF r))++[tg k (bFF q.lk[i])]:=by rw[EW ilt,DQ];rfl
        have Qk:(PR++(q.lk.take i).map (λr=>tg k (bFF r))).length<=20000:=soT;generalize (q.lk.take i).map (λr=>tg k (bFF r))=Q at *;generalize q.lk[i]=r at *;obtain⟨d,Oh,O9,Vk,Vl⟩:∃d:UInt8,bFF r=82::d::r.text/\AR.wrap (48+r.gg)=(d.toNat:Int)/\Gz.wrap (d.toNat:Int)=(d.toNat:Int)/\∀H,pT H .i2s (.int .i32 (d.toNat:Int))=N1 (.str [d]):=by
         rcases Vj with e | e
         ·exact⟨48,by unfold bFF;rw[e];rfl,by rw[e];rfl,rfl,λH=>rfl⟩
         exact⟨49,by unfold bFF;rw[e];rfl,by rw[e];rfl,rfl,λH=>rfl⟩
        have Vm:∀H,pT H (.toInt .i32) (.int .i64 (d.toNat:Int))=N1 (.int .i32 (d.toNat:Int)):=λH=>by show N1 (AV.int .i32 (Gz.wrap (d.toNat:Int)))=_;rw[Vk]
        have Ay:kJ .add .no (.str [82]) (.str [d])=N1 (.str [82,d]):=kE siT;have Mv:kJ .add .no (.str [82,d]) (.str r.text)=N1 (.str (82::d::r.text)):=kE soT;obtain⟨X9,w9,p1,p2,p3,p4,pz5⟩:=bDp F.say hR Ss.1 (82::d::r.text) k (-1) siT soT Qk u1 u2 (.box (u3.ver+1) [vi q.kind,.sl Po (q.lk.map cZ),.sl Po (q.options.map aN),.sl Po (q.cy.map bF),.str q.key,vi q.points,.sl Po (q.dv.map aN)]) (.box (t4.ver+1) [vi r.gg,.str r.text]);simp only[go_sem,↓aB,seval,e91,n89,n5,n6,AU,AT,ilt,iget,cZ,O9,Vl,Vm,Ay,Mv,p1,AD,AB,AA,AE];have Qe:∀y∈bE X8.1.length wr8 w9,base<=y/\y<n:=bCY (hR.inv Ss.1).1 Lf p4;have p2:=bEt hR Ss p2 pz5
        try simp only[go_sem,seval,V1]
        refine⟨Qe,X9,_,rfl,p3, ?_⟩;rw[pk,<- CJ,Oh];exact p2
       have:i=q.lk.length:=by simp at e6;omega
       subst this;rw[DM]at Ss;simp only[go_sem,seval];exact⟨Lf,X8,_,rfl,rfl,Ss⟩
      rintro ρ6 H6 wr8 ⟨Lf,X8,t4,rfl,Tv,Ss⟩ Cv;have n5:ρ6 5=.fn (g "h") [] [.ptr X7.1.length 1 0,.ep [.yld o v] 0]:=(Cv 5 rfl).trans m5;have n6:ρ6 6=vi (k:Nat):=(Cv 6 rfl).trans m6;have n13:ρ6 13=.ptr (X7.1.length+3) (u3.ver+1) 0:=Cv 13 rfl;have n75:ρ6 75=vi (j:Nat):=(Cv 75 rfl).trans e75;clear Cv;rw[<- Tv]at n5 n13 ⊢;have Vn:(PR++q.lk.map (λr=>tg k (bFF r))).length<=8961:=by have:=J0.fg;simp;omega
      generalize Vo:PR++q.lk.map (λr=>tg k (bFF r))=PS at *;simp only[go_sem,↓aB,seval,n13,AF,AD,AB,AA,AE];refine bJ (id:=10) (λi ρ2 H2 wr=>(∀y∈wr,base<=y/\y<n)/\ρ2 111=vi (i:Nat)/\∃X9 s1 s2 s3 s4,H2=X9.1++(.box 1 [.bool Pa]::s1::s2::s3::s4::X9.2)/\X9.1.length=X8.1.length/\JP I m wr (PS++(q.options.take i).map (λs=>tg k (79::s))) X9) q.options.length
       (λρ2 H2 wr=>(∀y∈wr,base<=y/\y<n)/\∃X9 s1 s2 s3 s4,H2=X9.1++(.box 1 [.bool Pa]::s1::s2::s3::s4::X9.2)/\X9.1.length=X8.1.length/\JP I m wr (PS++q.options.map (λs=>tg k (79::s))) X9) cB rfl ⟨Lf,rfl,X8,_,_,_,_,rfl,rfl,by simpa using Ss⟩ ?_ ?_
      ·rintro i ρ7 H7 wr9 mg ⟨Qe,e111,X9,s1,s2,s3,s4,rfl,Ul,Sl⟩ Lv;have l109:ρ7 109=.sl Po (q.options.map aN):=Lv 109 rfl;have l110:ρ7 110=vi (q.options.length:Nat):=Lv 110 rfl;have l5:ρ7 5=.fn (g "h") [] [.ptr X8.1.length 1 0,.ep [.yld o v] 0]:=(Lv 5 rfl).trans n5;have l6:ρ7 6=vi (k:Nat):=(Lv 6 rfl).trans n6;clear Lv;rw[<- Ul]at l5 ⊢;simp only[go_sem,↓aB,seval,e111,l110];refine aD (λe6=>?_) (λe6=>?_)
       ·have ilt:i<q.options.length:=by simp at e6;omega
        have G6:=J0.Q3;have V1:=wS (i:=i) omT;have iget:(q.options.map aN)[i]? = N1 [.str q.options[i]]:=by rw[BN,AP ilt];rfl
        have gu:q.options[i].length<=1000:=J0.options _ (AS ilt);have pk:(q.options.take (i+1)).map (λs=>tg k (79::s))=(q.options.take i).map (λs=>tg k (79::s))++[tg k (79::q.options[i])]:=by rw[EW ilt,DQ];rfl
        have Qk:(PS++(q.options.take i).map (λs=>tg k (79::s))).length<=20000:=soT;generalize (q.options.take i).map (λs=>tg k (79::s))=Q at *;generalize q.options[i]=s at *;have Mv:kJ .add .no (.str [79]) (.str s)=N1 (.str (79::s)):=kE soT;obtain⟨X10,w10,p1,p2,p3,p4,pz5⟩:=bDp F.say hR Sl.1 (79::s) k (-1) siT soT Qk s1 s2 s3 s4;simp only[go_sem,↓aB,seval,e111,l109,l5,l6,AU,AT,ilt,iget,Mv,p1,AD,AA,AE];have Tw:∀y∈bE X9.1.length wr9 w10,base<=y/\y<n:=bCY (hR.inv Sl.1).1 Qe p4;have p2:=bEt hR Sl p2 pz5
        try simp only[go_sem,seval,V1]
        refine⟨Tw,X10,_,_,_,_,rfl,p3, ?_⟩;rw[pk,<- CJ];exact p2
       have:i=q.options.length:=by simp at e6;omega
       subst this;rw[DM]at Sl;simp only[go_sem,seval];exact⟨Qe,X9,_,_,_,_,rfl,rfl,Sl⟩
      rintro ρ7 H7 wr9 ⟨Qe,X9,s1,s2,s3,s4,rfl,Ul,Sl⟩ Lv;have l75:ρ7 75=vi (j:Nat):=(Lv 75 rfl).trans n75;clear Lv;simp only[go_sem,↓aB,seval,l75,Kj];have e:PF++(it.ask.take (j+1)).flatMap (bEX k)=PS++q.options.map (λs=>tg k (79::s)):=by rw[pk,<- CJ,Vd,Vf,<- Vo,<- Vi];simp
      rw[<- e]at Sl;exact⟨jlt,Qe,X9,_,_,_,_,rfl,omT,Sl⟩
     have:j=it.ask.length:=by simp at e4;omega
     subst this;rw[DM]at Sk;simp only[go_sem,seval];exact⟨Lz,X6,_,_,_,_,rfl,rfl,Sk⟩
    rintro ρ5 H5 wr6 ⟨Lz,X6,u1,u2,u3,u4,rfl,Uk,Sk⟩ I3;have m27:ρ5 27=vi (k:Nat):=(I3 27 rfl).trans i27;clear I3;simp only[go_sem,↓aB,seval,m27,pg];refine⟨hlt,Lz,X6,_,_,_,_,rfl,omT, ?_⟩;have e:PF++it.ask.flatMap (bEX k)=P++bEz k it Fs:=by rw[<- Uj,<- Ui];simp[bEz]
    rw[e,Z0]at Sk;exact Sk
   have:k=x.items.length:=by simp at e3;omega
   subst this;simp only[go_sem,seval];exact⟨gn,X2,_,_,_,_,rfl,rfl,I6⟩
  rintro ρ' H' ba ⟨gn,X2,y1,y2,y3,y4,rfl,Tq,I6⟩ hf;rw[<- Tq];have xh:=(hR.inv I6.1).1;simp only[go_sem,↓aB,seval];have pr:∀y∈ba,base<=y:=λy hy=>(gn y hy).1;by_cases hY:X2.2=[]
  ·rw[hY,bFq rfl (base:=base) (λj hj=>by obtain⟨a,b⟩:=gn j hj;exact⟨a,omT⟩) (λj x hj hx=>by rw[xh];exact (hR.inv I6.1).2.1 hY j x hj hx)];exact⟨rfl,pr,X2,I6.1,.inl ⟨hY,rfl⟩⟩
  have hm:m∈ba:=by rcases I6.2 with h | h;exact Zw h hY;exact h
  obtain⟨z,hz,hu⟩:=(hR.inv I6.1).2.2 hY;have Rf:=hR.le.2;rw[bEQ hm (by rw[BM omT];exact hz) (hu _ omT)];exact⟨rfl,pr,X2,I6.1,.inr ⟨hY,hm,[_,_,_,_,_],rfl,rfl⟩⟩)
 exact⟨H',ba,e1,h2,h3⟩
end
def bCO(g:SN):bw:=⟨9,[],[.tmp 4],qS [qx 2 1 0,qx 3 1 1,qmc 4 .bx]<|.seq (qS [ql 5 1 3,qbi 6 .lss 5 1]<|qC 6 (qR [qq 7 (.km 9 (uc (.str [99,97,110,110,111,116,32,98,101,32,108,101,115,115,32,116,104,97,110,32,49]))),qz (.bad)]) (.skip))<|qS [qq 8 (.mkf (g "J") [] [(.tmp 2),(.tmp 3)]),qm 4 8]<|.ret⟩
abbrev bD0(g:SN):List ae:=[ql 13 1 2,ql 14 1 1,qm 15 4,⟨N1 16,.gw 1 (u 14) (N1 (.tmp 15)) N2 N2,N2,[1,2]⟩,⟨N1 17,on 16,N2,[3,1,2]⟩,⟨N1 18,.mm Po [(.tmp 13),(.tmp 17)],N2,[0,4,3,1,2]⟩,⟨N1 5,om 18,N2,[5,0,4,3,1,2]⟩]
abbrev bCK:LN:=[]
abbrev bD1(g:SN):ag:=.seq (qS [qm 6 4,ql 7 1 1,qn 8 7,qb 9 .lss 6 8]<|qC 9 (.skip) (.exit 0))<|.seq (.block 1 (.seq (.region Pa (bD0 g))<|qS [qm 19 0,ql 20 1 1,qm 21 4,qm 22 4,qm 23 5,qb 24 .add 22 23,qm 25 4,qm 26 5,qb 27 .add 25 26,qq 28 (.gw 1 (u 20) (N1 (.tmp 21)) (N1 (.tmp 24)) (N1 (.tmp 27))),qq 29 (.dm (u 19) [(.tmp 28)]),qq 30 (.un .not (u 29))]<|qC 30 (.ret) (.skip)))<|.region Po [qm 10 4,ql 11 1 2,qb 12 .add 10 11,qm 4 12]
def kR(g:SN):bw:=⟨31,[],[],qS [qmc 4 z0]<|.block 0 (.loop (bD1 g))⟩
def bCE(g:SN):ag:=.block 0 (.dz (.tmp 6) [7] (qS [qm 5 7]<|.block 1 (qR [ql 8 1 2,qm 9 5,qq 10 (.bsl 1 [.ar] 1 [(0,(.tmp 9))]),qa 11 1 24 8 10,qs 1 2 11])))
def bCI(g:SN):bw:=⟨13,[2,7,11],[.tmp 4],qS [qx 2 1 0,qmc 4 .ar]<|.seq (qS [qm 6 1]<|bCE g)<|qS [ql 12 1 2,qm 4 12]<|.ret⟩
def bD2(g:SN):bw:=⟨5,[],[.tmp 2],qS [qmc 2 .ar]<|qS [qm 3 0,qc 4 (g "cH") [uc .ar,u 3],qm 2 4]<|.ret⟩
section
variable {A:af}{g:SN}{o v base n:Nat}{I:List (List Str)->LO->Prop}
structure Rb(A:af)(o v base n:Nat)(I:List (List Str)->LO->Prop):Prop where
 len:∀{cs X},I cs X->X.length=n
 run:∀{cs X} (c:List Str),I cs X->cs.length<=10000000000 ->
  ∃X' wr,aG A YF [.own 0 [],.yld o v,.sl Po (c.map aN)] X=N1 (.bool Pa,X',wr)/\I (cs++[c]) X'/\∀x∈wr,base<=x
abbrev bEj:ag:=qS [qm 5 7]<|.block 1 (qR [ql 8 1 2,qm 9 5,qq 10 (.bsl 1 [.ar] 1 [(0,(.tmp 9))]),qa 11 1 24 8 10,qs 1 2 11])
def bI8(H:LO)(cs:List (List Str))(X:LO):Prop:=∃w x3 l,X=H++[.box 1 [w],.rnd 1 H.length [2,7,11] [7] bEj l Po N2,x3]/\l.length=13/\ck l 2=.ptr H.length 1 0 /\
 ((cs=[]/\w=.ar)∨(cs≠[]/\∃ver,w=.sr (H.length+2) ver cs.length/\x3=.vec ver 1 (hU cs)))
def bGg(cs:List (List Str))(c:List Str):hU (cs++[c])=hU cs++[[.sl Po (c.map aN)]]:=by unfold hU;rw[DQ];rfl
def bE2(cs:List (List Str)):(hU cs).length=cs.length:=by unfold hU;rw[AF]
def bGh(hY:sn A)(H:LO):Rb A (H.length+1) 1 H.length (H.length+3) (bI8 H) where
 len:=by rintro cs X ⟨w,x3,l,rfl,_⟩;simp
 run:=by
  rintro cs X c ⟨w,x3,l,rfl,hl,h2,hw⟩ kq;have key:∃(e:bf) (H':LO) (ba:LN),aG A YF [.own 0 [],.yld (H.length+1) 1,.sl Po (c.map aN)] (H++[.box 1 [w],.rnd 1 H.length [2,7,11] [7] bEj l Po N2,x3])=N1 (.bool (decide (e=.normal)),H',ba)/\(e=.normal/\bI8 H (cs++[c]) H'/\∀x∈ba,H.length<=x):=by
   refine mT hY (K:=λe H' wr=>e=.normal/\bI8 H (cs++[c]) H'/\∀x∈wr,H.length<=x) (N:=13) (l:=l) (by rw[bX];rfl) rfl cB cB hl ?_;have hs:ck (dH l [7] [.sl Po (c.map aN)])=upd (ck l) 7 (.sl Po (c.map aN)):=nG omT;rw[hs];generalize hρ:ck l=ρ at *;simp only[go_sem,↓aB,seval];have B8:(⟨H.length,[2,7,11,YF+(H.length+1),YF+1]⟩:Ctx).site (N1 10)=none:=aIE (l:=[2,7,11]) (ys:=[YF+(H.length+1),YF+1]) rfT deT (λy hy=>by simp at hy;omega);have fq:∀{w2:LN} {n:Nat},(∀x∈w2,H.length<=x)->∀x∈FM H.length n++(H.length+1)::w2,H.length<=x:=λ{w2 n} h x hx=>by
    rcases AY.1 hx with hx | hx
    ·rw[FC]at hx;exact hx.1
    rcases BD.1 hx with rfl | hx
    ·omega
    exact h x hx
   refine⟨_,_,_,_,_,rfl, ?_⟩;rcases hw with⟨rfl,rfl⟩ | ⟨bl,ver,rfl,rfl⟩
   ·have hr:bP 1 24=true:=deT;simp only[go_sem,↓aB,seval,h2,B8,AD,AA,AE,eX,cG,dO,hr,AW,AZ];exact⟨_,_,_,_,_,rfl,⟨_,_,l,rfl,hl,by rw[hρ];exact h2,.inr ⟨siT,_,rfl,rfl⟩⟩,fq siT⟩
   have hr:bP (cs.length+1) 24=true:=by unfold bP;simp;omega
   have nv:bP ((hU cs).length+1) 24=true:=by rw[bE2];exact hr
   simp only[go_sem,↓aB,seval,h2,B8,AD,AA,AE,eX,cG,dO,hr,bE2,AW,AZ];exact⟨_,_,_,_,_,rfl,⟨_,_,l,rfl,hl,by rw[hρ];exact h2,.inr ⟨siT,ver,by rw[BA];rfl,by rw[bGg]⟩⟩,fq siT⟩
  obtain⟨e,H',ba,h1,rfl,h3,h4⟩:=key;exact⟨H',ba,by simpa using h1,h3,h4⟩
def bHv{n l k:Nat}(h1:l<=k)(h2:k<=n):dU n (N1 (vi l)) (N1 (vi k)) (N1 (vi k))=N1 (l,k,k):=by unfold dU iL vi;dsimp only;rw[Zy ⟨omT,omT⟩];dsimp only;rw[Zy ⟨omT,omT⟩];dsimp only;rw[Zy ⟨omT,omT⟩];simp
def bFr(h:Has A g "J" (kR g))(hR:Rb A o v base n I)(l:List Str)(hl:l.length<=100000000000)(X:LO)(hI:I [] X):∃X' wr,aG A (g "J") [.yld o v,.ep [.sl Po (l.map aN)] 0,.ep [vi 50] 0] X=N1 (.tup [],X',wr)/\I (cI l) X'/\∀y∈wr,base<=y:=by
 obtain⟨r,H',ba,e1,rfl,h2,h3⟩:=h.bp (args:=[.yld o v,.ep [.sl Po (l.map aN)] 0,.ep [vi 50] 0]) (H:=X) (K:=λr H' wr=>r=.tup []/\I (cI l) H'/\∀y∈wr,base<=y) (by
  simp only[kR];have ax:=hR.len hI;have kq:=bEC l;simp only[go_sem,↓aB,seval,AJ];refine bJ (id:=0) (λk ρ1 H1 wr=>(∀y∈wr,base<=y)/\ρ1 4=vi ((50*k:Nat):Int)/\I ((cI l).take k) H1) (cI l).length
   (λρ1 H1 wr=>(∀y∈wr,base<=y)/\I (cI l) H1) cB rfl ⟨λy hy=>(by cases hy),rfl,hI⟩ ?_ ?_
  ·rintro k ρ1 H1 dc zp ⟨hw,e4,yy⟩ hf;have f0:ρ1 0=.yld o v:=hf 0 rfl;have f1:ρ1 1=.ep [.sl Po (l.map aN)] 0:=hf 1 rfl;have f2:ρ1 2=.ep [vi 50] 0:=hf 2 rfl;have qe:=hR.len yy;simp only[go_sem,↓aB,seval,e4,f1,AF,AD,AA,AE];refine aD (λe3=>?_) (λe3=>?_)
   ·have hlt:50*k<l.length:=by simp at e3;omega
    have Tl:k<(cI l).length:=omT;have Um:=bFU l k Tl;have E8:(cI l)[k]=(l.drop (50*k)).take 50:=by rw[AP Tl]at Um;exact DZ Um
    have pk:(cI l).take (k+1)=(cI l).take k++[(l.drop (50*k)).take 50]:=by rw[EW Tl,E8]
    have fo:dU l.length (N1 (vi ((50*k:Nat):Int))) N2 N2=N1 (50*k,l.length,l.length):=aL6 omT;have E3:(if (50:Int)<((l.length - 50*k:Nat):Int)then (50:Int)else ((l.length - 50*k:Nat):Int))=((min 50 (l.length - 50*k):Nat):Int):=by split<;>omega
    have Tx:(if ((l.length - 50*k:Nat):Int)<(50:Int)then ((l.length - 50*k:Nat):Int)else (50:Int))=((min 50 (l.length - 50*k):Nat):Int):=by split<;>omega
    have Un:AR.wrap (((50*k:Nat):Int)+((min 50 (l.length - 50*k):Nat):Int))=((50*k+min 50 (l.length - 50*k):Nat):Int):=by rw[wrap_i64 omT omT];omega
    have pg:AR.wrap (((50*k:Nat):Int)+50)=((50*(k+1):Nat):Int):=by rw[wrap_i64 omT omT];omega
    have dp:dU l.length (N1 (vi ((50*k:Nat):Int))) (N1 (vi ((50*k+min 50 (l.length - 50*k):Nat):Int))) (N1 (vi ((50*k+min 50 (l.length - 50*k):Nat):Int)))=N1 (50*k,50*k+min 50 (l.length - 50*k),50*k+min 50 (l.length - 50*k)):=bHv omT omT;have Og:dF 1 (l.map aN)=true:=by cases l<;>rfl
    have Uo:((l.map aN).take (50*k+min 50 (l.length - 50*k))).drop (50*k)=((l.drop (50*k)).take 50).map aN:=by
     rw[List.drop_take,List.map_take,List.map_drop];rcases Nat.lt_or_ge 50 (l.length - 50*k)with h | h
     ·rw[Nat.min_eq_left omT];rw[show 50*k+50 - 50*k=50 by omega]
     rw[Nat.min_eq_right h,CH (by simp<;>omega),CH (by simp<;>omega)]
    have Ik:((l.map aN).drop (50*k)).length=l.length - 50*k:=siT;have tl:(l.map aN).take l.length=l.map aN:=CH siT;generalize hC:(l.drop (50*k)).take 50=C at *;obtain⟨X',en,q1,q2,q3⟩:=hR.run C yy soT;have he:∀f,cX (aG A) H1 N2 (.yld o v) [.sl f (C.map aN)]=N1 (.bool Pa,X',en):=λf=>by
     rw[aGL];have:kA H1 [.sl f (C.map aN)]=N1 ([.sl f (C.map aN)],[]):=rfl;rw[this];dsimp only;have e2:([AV.sl f (C.map aN)]).map AV.strip=[.sl Po (C.map aN)]:=rfl;rw[e2,show dL H1 []=H1 from rfl,q1];rfl
    simp only[go_sem,seval];refine aY (aq:=bCK) rfT rfT ?_;simp only[go_sem,↓aB,seval,bCK,e4,f1,f2,fo,Og,Tx,tl,Ik,Un,dp,Uo,f0,he,pg,AF,AD,AA,AE]
    try simp only[go_sem,↓aB,seval,e4,f0,f1,f2,Un,dp,Og,Uo,he,pg,AF,AD,AA,AE]
    have Ty:k<(cI l).length:=Tl;refine⟨Ty,rB hw q3, ?_⟩;rw[pk];exact q2
   have:k=(cI l).length:=by simp at e3;omega
   subst this;rw[DM]at yy;simp only[go_sem,seval];exact⟨hw,yy⟩
  rintro ρ' H' ba ⟨hw,yy⟩ hf;have qe:=hR.len yy;simp only[go_sem,↓aB,seval];rw[jG omT];exact⟨rfl,yy,hw⟩)
 exact⟨H',ba,e1,h2,h3⟩
structure y8(A:af)(g:SN):Prop where
 yf:sn A
 chunk:Has A g "bU" (bCO g)
 St:Has A g "J" (kR g)
 app:Has A g "cH" (bCI g)
 Gb:Has A g "bV" (bD2 g)
def bG0(F:y8 A g)(rows:List LA)(H:LO):aG A (g "bU") [.sl Po rows,vi 50] H=N1 (.fn (g "J") [] [.ep [.sl Po rows] 0,.ep [vi 50] 0],H,[]):=by refine F.chunk.call ?_;simp only[bCO];simp only[go_sem,↓aB,seval,AJ,AD,AA,AE];rw[jG (AQ _)];exact⟨rfl,rfl,rfl⟩
def bGi(F:y8 A g)(l:List Str)(bl:l≠[])(hl:l.length<=100000000000)(H:LO):aG A (g "cH") [.ar,.fn (g "J") [] [.ep [.sl Po (l.map aN)] 0,.ep [vi 50] 0]] H=N1 (.own 1 (hU (cI l)),H,[]):=by
 obtain⟨r,H',ba,e1,rfl,rfl,rfl⟩:=F.app.bp (args:=[.ar,.fn (g "J") [] [.ep [.sl Po (l.map aN)] 0,.ep [vi 50] 0]]) (H:=H) (K:=λr H' wr=>wr=[]/\H'=H/\r=.own 1 (hU (cI l))) (by
  simp only[bCI];simp only[go_sem,↓aB,seval];simp only[bCE];simp only[go_sem,seval];refine wC (id:=H.length+1) (v:=1) (X:=λl=>H++[.box 1 [.ar],.rnd 1 H.length [2,7,11] [7] bEj l Po N2,.gone 0]) rfT rfT siT (λ_=>rfT) (by unfold bH;rw[bX];rfl) (λl=>by rw[sV];rfl) ?_;intro l2 iq he;have Lw:bI8 H [] (H++[.box 1 [.ar],.rnd 1 H.length [2,7,11] [7] bEj l2 Po N2,.gone 0]):=⟨_,_,l2,rfl,iq,by rw[he];rfl,.inl ⟨rfl,rfl⟩⟩;obtain⟨H2,en,k1,k2,k3⟩:=bFr F.St (bGh F.yf H) l hl _ Lw;obtain⟨w,x3,l3,rfl,yz,_,hw⟩:=k2;refine⟨_,_,_,_,_,_,_,_,N2,k1,by rw[bX];rfl, ?_⟩;rw[kH (λx hx=>by rcases BD.1 hx with rfl | hx;exact EG _ _;exact k3 x hx),eS];show pP 0 _ _ .normal _ _ _;have Tz:cI l≠[]:=by rw[bE0 bl];simp
  rcases hw with⟨e,_⟩ | ⟨_,ver,rfl,rfl⟩
  ·exact Zw e Tz
  have hd:=aHh (cI l);simp only[go_sem,↓aB,seval,AD,AA,AE,aT hd,aA hd,bE2])
 exact e1
def bES(F:y8 A g)(l:List Str)(bl:l≠[])(hl:l.length<=100000000000)(H:LO):aG A (g "bV") [.fn (g "J") [] [.ep [.sl Po (l.map aN)] 0,.ep [vi 50] 0]] H=N1 (.sl Po (hU (cI l)),H,[]):=by have mj:=λH=>bGi F l bl hl H;refine F.Gb.call ?_;simp only[bD2];have hd:=aHh (cI l);simp only[go_sem,↓aB,seval,mj,AJ];rw[jG (AQ _)];exact⟨rfl,rfl,rfl⟩
end
def bEa(g:SN):bw:=⟨14,[],[.tmp 2,.tmp 3],qS [qx 1 2 0,qmc 2 (.sl Pa []),qmc 3 z0]<|.seq (qS [qla 5 2 1,qc 6 (g "e") [u 5],qm 4 6]<|qS [qm 7 4,qbi 8 .neq 7 0]<|qC 8 (qS [qm 9 4,qmc 2 (.sl Pa []),qm 3 9]<|.ret) (.skip))<|qS [qla 10 2 1,qc 11 (g "au") [u 10],qq 12 (.ext 0 (u 11)),qq 13 (.ext 1 (u 11)),qm 2 12,qm 3 13]<|.ret⟩
abbrev bDO(g:SN):List ae:=[ql 20 1 6,qf 21 0 7,⟨N1 22,ol 1 21,N2,[1]⟩,⟨N1 23,oc (g "A") [u 22],N2,[2,1]⟩,⟨N1 24,oa 1 16 20 23,N2,[0,3,2,1]⟩,⟨N2,os 1 6 24,N2,[4,0,3,2,1]⟩]
abbrev bDP:LN:=[0,3]
def bDQ(g:SN):ag:=.block 0 (.dz (.tmp 18) [19] (qS [qq 7 (.alloc [(.str []),z0,z0]),qs 3 7 19]<|.block 1 (.region Pa (bDO g))))
def bDq(g:SN):bw:=⟨28,[6,19,7,24],[.tmp 2,.tmp 3],qS [qx 1 2 0,qmc 2 (.sl Pa []),qmc 3 z0]<|qS [qla 9 2 1,qc 10 (g "ax") [u 9],qm 8 10,qq 11 (.ext 0 (u 8)),qq 12 (.ext 1 (u 8)),qm 4 11,qm 5 12]<|.seq (qS [qm 13 5,qbi 14 .neq 13 0]<|qC 14 (qS [qm 15 5,qmc 2 (.sl Pa []),qm 3 15]<|.ret) (.skip))<|qS [qq 6 (.alloc [(.sl Pa [])])]<|.seq (qS [qla 16 2 1,qm 17 4,qc 18 (g "aF") [u 16,u 17]]<|bDQ g)<|.seq (.seq (.frz [(1,6)])<|.region Po [ql 25 1 6,qc 26 (g "bU") [u 25,ui 50],qc 27 (g "bV") [u 26],qm 2 27,qmc 3 z0])<|.ret⟩
section
variable {A:af}{g:SN}
def bG1{x:Item}(h:aGU x=Pa):Qs x:=by
 unfold aGU at h;simp only[AI,AO]at h;obtain⟨⟨⟨_,_,h1⟩,_⟩,_,h2⟩:=h;refine⟨λb hb=>?_,λq hq=>?_⟩
 ·have hB:=h1 b hb;unfold dQ at hB;simp only[AI]at hB;have hK:=hB.2;unfold xU at hK;by_cases k0:b.kind=0;omega;by_cases k1:b.kind=1;omega;by_cases k2:b.kind=2;omega;by_cases k3:b.kind=3;omega;by_cases k4:b.kind=4;omega;by_cases k5:b.kind=5;omega;by_cases k6:b.kind=6;omega;rw[Zx k0,Zx k1,Zx k2,Zx k3,Zx k4,Zx k5,Zx k6]at hK;cases hK
 have hA:=h2 q hq;unfold aWp aGx at hA;simp only[AI,eG,AO]at hA;have hk:=hA.1.1.1.1.1.1.1;have hr:=hA.1.1.1.1.1.1.2;refine⟨hk.1,omT,λe=>?_,λr hm=>?_⟩
 ·rw[e]at hr;have:=hr.2.1.1;simp at this
 have:=hr.2.2 r hm;unfold aUL at this;simp only[AI,eG]at this;omega
def ew.under{id k n:Nat}{rows:List LA}{v:AV}{o:ah}(h:ew id k rows v o)(bl:rows≠[])(hd:gG rows=Pa):o.under n=true:=by
 cases h with
 |nil=>exact Zw rfl bl
 |obj ver=>exact aA hd
def ew.Su{id k n:Nat}{rows:List LA}{v:AV}{o:ah}(h:ew id k rows v o)(hn:id<n):v.under n=true:=by
 cases h with
 |nil=>rfl
 |obj ver=>simpa [AV.under]using hn
abbrev bDz(g:SN):ag:=qS [qq 7 (.alloc [(.str []),z0,z0]),qs 3 7 19]<|.block 1 (.region Pa (bDO g))
abbrev bCQ(ps:List bEi):List Str:=(ps.map EM).flatMap cH
def bI9(g:SN)(H:LO)(ps:List bEi)(X:bEy):Prop:=X.2=[]/\∃w x2 x3 l,X.1=H++[.box 1 [w],.rnd 1 H.length [6,19,7,24] [19] (bDz g) l Po N2,x2,x3]/\l.length=28/\ck l 6=.ptr H.length 1 0 /\
 dJ (H.length+4) l=Pa/\x2.under (H.length+4)=Pa/\x3.under (H.length+4)=Pa/\ew (H.length+3) 1 ((bCQ ps).map aN) w x3/\∀p∈ps.map EM,p.length<=2000000
def bGP(hY:sn A)(hL:Has A g "A" (bD3 g))(H:LO):Ps A (H.length+1) 1 H.length (H.length+4) H.length (bI9 g H) where
 le:=omT
 inv:=by
  rintro ps ⟨X,Y⟩ ⟨hY,w,x2,x3,l,hX,hl,h6,R6,Rz,Pn,hG,Hx⟩;have hX:X=_:=hX;subst hX;refine⟨siT,λ_ j x hj hx=>?_,λh=>Zw hY h⟩;have hx:(H++[ah.box 1 [w],.rnd 1 H.length [6,19,7,24] [19] (bDz g) l Po N2,x2,x3])[j]? = N1 x:=hx;obtain⟨i,rfl⟩:∃i,j=H.length+i:=⟨j - H.length,omT⟩;rw[bX]at hx
  match i,hx with
  |0,hx=>cases hx;show dJ _ [w]=Pa;simp only[dJ,hG.Su (n:=H.length+4) omT,Hg]
  |1,hx=>cases hx;exact R6
  |2,hx=>cases hx;exact Rz
  |3,hx=>cases hx;exact Pn
  |i+4,hx=>simp at hx
 run:=by
  rintro ps ⟨X,Y⟩ s i k y0 y1 y2 y3 y4 ⟨Ua,w,x2,x3,l,hX,ym,h6,R6,Rz,Pn,hG,Hx⟩ hs G6 hp;have hX:X=_:=hX;have Ua:Y=_:=Ua;subst hX Ua;have key:∃(e:bf) (H':LO) (ba:LN),aG A YF [.own 0 [],.yld (H.length+1) 1,.agg [.str s,vi i,vi k]] (H++[.box 1 [w],.rnd 1 H.length [6,19,7,24] [19] (bDz g) l Po N2,x2,x3,y0,y1,y2,y3,y4])=N1 (.bool (decide (e=.normal)),H',ba)/\(e=.normal/\(∃X',H'=X'++[y0,y1,y2,y3,y4]/\bI9 g H (ps++[(s,i,k)]) (X',[]))/\∀x∈ba,H.length<=x):=by
   refine mT hY (K:=λe H' wr=>e=.normal/\(∃X',H'=X'++[y0,y1,y2,y3,y4]/\bI9 g H (ps++[(s,i,k)]) (X',[]))/\∀x∈wr,H.length<=x) (N:=28) (l:=l) (by rw[bX];rfl) rfl cB cB ym ?_;have nu:ck (dH l [19] [.agg [.str s,vi i,vi k]])=upd (ck l) 19 (.agg [.str s,vi i,vi k]):=nG omT;rw[nu];generalize hρ:ck l=ρ at *;simp only[DO,CW];have fq:∀{w2:LN} {n:Nat},(∀x∈w2,H.length<=x)->∀x∈FM H.length n++(H.length+1)::w2,H.length<=x:=λ{w2 n} h x hx=>by
    rcases AY.1 hx with hx | hx
    ·rw[FC]at hx;exact hx.1
    rcases BD.1 hx with rfl | hx
    ·omega
    exact h x hx
   have s23:(⟨H.length,[6,19,7,24,YF+(H.length+1),YF+1]⟩:Ctx).site (N1 23)=none:=aIE (l:=[6,19,7,24]) (ys:=[YF+(H.length+1),YF+1]) rfT deT (λy hy=>by simp at hy;omega);have xd:=λH=>bEF hL s hs omT H;have ki:(cH s).map aN≠[]:=by unfold cH;rw[bDi hs];simp
   have Og:dF 1 ((cH s).map aN)=true:=by cases cH s<;>rfl
   have qe:(bCQ ps).length<=_:=bF6 (B:=2000000) Hx;rw[AF]at qe;have iq:=bDo s;obtain⟨v',o',Sw,Gx⟩:=hG.app (new:=(cH s).map aN) (bytes:=16) ki Og (by simp only[AF];omega);have I9:bCQ (ps++[(s,i,k)])=bCQ ps++cH s:=by unfold bCQ;rw[DQ,JK];simp
   have Ub:o'.under (H.length+4)=true:=Sw.under (by simp[ki]) (by rw[<- DQ];exact aC bO _);have mj:v'.cells=[v']:=Sw.aj;have nc:v'.ak=true:=Sw.ak;have a7:=Gx (H++[.box 1 [w],.rnd 1 H.length [6,19,7,24] [19] (bDz g) l Pa N2,.box (x2.ver+1) [.str s,vi i,vi k],x3,y0,y1,y2,y3,y4]) Po (by rw[bX];rfl);rw[eS]at a7;simp only[go_sem,↓aB,seval];refine⟨_,_,_,_,_,rfl, ?_⟩;refine aY (aq:=bDP) rfT rfT ?_;simp only[go_sem,↓aB,seval,bDP,h6,s23,xd,a7,mj,nc,List.all_cons,List.all_nil,AW,AZ,eH,dG,aL,AD,AA,AE,AB];exact⟨_,_,_,_,_,rfl,⟨H++[.box 1 [v'],.rnd 1 H.length [6,19,7,24] [19] (bDz g) l Po N2,.box (x2.ver+1) [.str s,vi i,vi k],o'],siT,⟨rfl,v',.box (x2.ver+1) [.str s,vi i,vi k],o',l,rfl,ym,by rw[hρ];exact h6,R6,rfl,Ub,by rw[I9,DQ];exact Sw,λp hp=>by
    rw[DQ]at hp;rcases AY.1 hp with hp | hp
    ·exact Hx p hp
    rw[CG.1 hp];exact G6⟩⟩,fq siT⟩
  obtain⟨e,H',ba,h1,rfl,⟨X',rfl,h2⟩,h3⟩:=key;exact⟨(X',[]),ba,by simpa using h1,h2,h3,.inl rfl⟩
structure Pu(A:af)(g:SN)(V:Item->Fact->Str)(Q:Item->Fact->Prop)(W:jm->Int):Prop where
 val:bEN A g V Q
 valid:bF8 A g W
 Qu:Has A g "au" (tM g)
 Qv:Has A g "ax" (bEa g)
 lines:Has A g "A" (bD3 g)
 para:Px A g
 chunk:y8 A g
 render:Has A g "P" (bDq g)
structure y6(Q:Item->Fact->Prop)(x:jm):Prop where
 ok:x.Ok
 right:bDt x=Pa
 told:∀it∈x.items,∀f∈it.facts,Q it f
def y6.items{Q:Item->Fact->Prop}{x:jm}(h:y6 Q x):∀i∈x.items,Qs i:=λi hi=>by
 have:=h.right;simp only[bDt,AI,AO]at this;exact bG1 (this.2.2 i hi)
variable {V:Item->Fact->Str}{Q:Item->Fact->Prop}{W:jm->Int}
def bEb{F:bEN A g V Q}{x:jm}(hx:y6 Q x):(bCF V x).length=x.items.length/\∀r∈bCF V x,r.length<=16/\∀s∈r,s.length<=1000000:=by refine⟨by unfold bCF;rw[AF],λr hr=>?_⟩;obtain⟨it,M5,rfl⟩:=DB.1 hr;have kh:=hx.ok.items it M5;refine⟨by rw[AF];exact kh.B1,λs hs=>?_⟩;obtain⟨f,hf,rfl⟩:=DB.1 hs;exact (F it kh f (hx.told it M5 f hf) []).2
def bDr(F:Pu A g V Q W){x:jm}(hx:y6 Q x)(H:LO):aG A (g "ax") [dE x] H=N1 (.tup [.sl Po (if W x=0 then hU (bCF V x)else []),vi (W x)],H,[]):=by
 have h1:=λH=>(F.valid x hx.ok).1 H;have h2:=λH=>bGN F.val F.Qu x hx.ok hx.told H;simp only[dE]at h1 h2;refine F.Qv.call ?_;simp only[bEa];cases z:(W x != 0)with
 |true=>
  have hz:W x≠0:=by simpa using z
  rw[Zx hz];simp only[go_sem,↓aB,seval,dE,h1,z,AJ,AD,AA,AE]
 |false=>
  have hz:W x=0:=by simpa using z
  rw[Zy hz];rw[hz]at h1 ⊢;simp only[go_sem,↓aB,seval,dE,h1,h2,AJ,AD,AA,AE,bne_self_eq_false];rw[jG (AQ _)];exact⟨rfl,rfl,rfl⟩
def bEH(F:Pu A g V Q W){x:jm}(hx:y6 Q x)(bl:W x≠0)(H:LO):aG A (g "P") [dE x] H=N1 (.tup [.sl Po [],vi (W x)],H,[]):=by
 have h1:=λH=>bDr F hx H;rw[Zx bl]at h1;have hz:(W x != 0)=true:=by simpa using bl
 simp only[dE]at h1;refine F.render.call ?_;simp only[bDq];simp only[go_sem,↓aB,seval,dE,h1,hz,AJ,AD,AA,AE]
def bDU{n:Nat}:∀{l:LA},(∀t,t<l.length->(ck l t).under n=Pa)->dJ n l=Pa
 | [],_=>rfl
 |v::r,h=>by
  have h0:=h 0 siT;have h1:=bDU (l:=r) (n:=n) λt ht=>by
   have:=h (t+1) soT;simpa [ck]using this
  simp only[dJ,h1,Bool.and_true];simpa [ck]using h0
def bE3(F:Pu A g V Q W){x:jm}(Se:y6 Q x)(hw:W x=0)(H:LO):aG A (g "P") [dE x] H=N1 (.tup [.sl Po (hU (cI (bCQ (bCG x (bCF V x))))),vi 0],H,[])/\(bCQ (bCG x (bCF V x))).length<=100000000000:=by
 have hx:=Se.ok;have h1:=λH=>bDr F Se H;rw[Zy hw,hw]at h1;have h2:=λH=>bDy F.para.para x (bCF V x) H;have Sx:=Se.items;obtain⟨J2,Qt⟩:=bEb (F:=F.val) Se;have Uc:=aHh (bCF V x);generalize bCF V x=R at *;simp only[dE]at h1 h2;obtain⟨r,H',ba,e1,rfl,rfl,rfl,P0⟩:=F.render.bp (args:=[dE x]) (H:=H) (K:=λr H' wr=>wr=[]/\H'=H/\r=.tup [.sl Po (hU (cI (bCQ (bCG x R)))),vi 0]/\(bCQ (bCG x R)).length<=100000000000) (by
  simp only[bDq];simp only[go_sem,↓aB,seval,dE,h1,h2,AJ,AD,AA,AE];simp only[bDQ];simp only[go_sem,seval];refine wC (id:=H.length+1) (v:=1) (X:=λl=>H++[.box 1 [.sl Pa []],.rnd 1 H.length [6,19,7,24] [19] (bDz g) l Po N2,.gone 0,.gone 0]) rfT rfT siT (λ_=>rfT) (by unfold bH;rw[bX];rfl) (λl=>by rw[sV];rfl) ?_;intro l2 iq he;have R6:dJ (H.length+4) l2=true:=by
   have M5:eR (H.length+4) (x.items.map aO)=true:=aA (aC dV _);have Ud:eR (H.length+4) (hU R)=true:=aA Uc;have da:((GZ 28).all λt=>(ck l2 t).under (H.length+4))=true:=by
    rw[he];simp[GZ,Cd,upd,pO,AV.under,dJ,eR,M5,Ud]
    done
   refine bDU λt ht=>?_;rw[iq]at ht;exact AO.1 da t (HE.2 ht)
  have Lw:bI9 g H [] (H++[.box 1 [.sl Pa []],.rnd 1 H.length [6,19,7,24] [19] (bDz g) l2 Po N2,.gone 0,.gone 0],[]):=⟨rfl,_,_,_,l2,rfl,iq,by rw[he];rfl,R6,rfl,rfl,.nil _,λp hp=>(by cases hp)⟩;obtain⟨H2,en,k1,k3,⟨X',Y'⟩,⟨hY,w,x2,x3,l3,hX,yz,_,_,_,_,hG,Hx⟩,k5⟩:=bEG F.para (bGP F.chunk.yf F.lines H) x hx Sx R J2 Qt _ Lw;have hX:X'=_:=hX;have hY:Y'=[]:=hY;subst hX hY;have k6:H2=H++[.box 1 [w],.rnd 1 H.length [6,19,7,24] [19] (bDz g) l3 Po N2,x2,x3]:=k5.elim (λh=>h.2) λh=>Zw rfl h.1;subst k6;refine⟨_,_,_,_,_,_,_,_,N2,k1,by rw[bX];rfl, ?_⟩;rw[kH (λy hy=>by rcases BD.1 hy with rfl | hy;exact EG _ _;exact k3 y hy),eS];show pP 0 _ _ .normal _ _ _;have bl:bCQ (bCG x R)≠[]:=by unfold bCG bCQ;rw[BI,List.flatMap_cons];unfold cH;rw[bDi siT];simp
  have ax:(bCQ (bCG x R)).length<=100000000000:=by have h3:(bCQ (bCG x R)).length<=_:=bF6 (B:=2000000) Hx;have h4:=bEs (λi hi=>hx.items i hi) (R:=R) (λr hr=>(Qt r hr).1) x.items.length;have h5:=hx.G8;have h6:(bCG x R).length=(bEf x.items R x.items.length).length+1:=rfl;rw[AF]at h3;omega
  have ru:=λH=>bES F.chunk _ bl ax H;have Vp:=λrows H=>bG0 F.chunk rows H;have hd:gG ((bCQ (bCG x R)).map aN)=true:=aC bO _;have ya:(bCQ (bCG x R)).map aN≠[]:=by simpa using bl
  have Vq:=aHh (cI (bCQ (bCG x R)));generalize (bCQ (bCG x R)).map aN=rows at *;cases hG with
  |nil=>exact Zw rfl ya
  |obj ver=>
   simp only[go_sem,↓aB,seval,AD,AA,AE,aT hd,Vp,ru,aA Vq];exact ax)
 exact⟨e1,P0⟩
end
abbrev bET(g:SN):ag:=qS [qb 15 .lss 14 13]<|.seq (qC 15 (.skip) (.exit 0))<|.seq (.block 1 (qS [qi 16 12 14 1,ql 17 1 16,qm 8 17]<|.region Po [qm 18 6,qm 19 8,qq 20 (.fg (u 19)),qb 21 .add 18 20,qm 6 21]))<|.region Po [qbi 22 .add 14 1,qm 14 22]
abbrev bEU(g:SN):List ae:=[ql 40 1 2,qm 41 6,⟨N1 42,ob .add 40 41,N2,[0,1]⟩,ql 43 1 3,qm 44 5,⟨N1 45,on 44,N2,[4]⟩,⟨N1 46,ob .add 43 45,N2,[3,5,4]⟩,⟨N2,os 1 2 42,N2,[2,0,1]⟩,⟨N2,os 1 3 46,N2,[6,3,5,4,7,2,0,1]⟩]
abbrev bCP:LN:=[3,7]
def bD4(g:SN):bw:=⟨47,[4,39],[],qS [qx 4 3 0]<|qS [qf 9 0 4,ql 10 1 9,qc 11 (g "A") [u 10],qm 5 11]<|qS [qmc 6 z0]<|.seq (qS [qm 12 5,qn 13 12,qmc 14 z0]<|.block 0 (.loop (bET g)))<|.seq (qS [qf 23 2 4,ql 24 1 23,qbi 25 .geq 24 0]<|qC 25 (qR [ql 26 1 1,qf 27 1 4,ql 28 1 27,qf 29 2 4,ql 30 1 29,ql 31 1 2,qm 32 6,ql 33 1 3,qbi 34 .quo 33 50,ql 35 1 3,qbi 36 .rem 35 50,qq 37 (.build [z0,z0,z0,z0,z0,z0] [(0,1,(.tmp 28)),(1,1,(.tmp 30)),(2,1,(.tmp 31)),(3,1,(.tmp 32)),(4,1,(.tmp 34)),(5,1,(.tmp 36))]),qq 38 (.bsl 6 [z0,z0,z0,z0,z0,z0] 1 [(0,(.tmp 37))]),qa 39 6 48 26 38,qs 1 1 39]) (.skip))<|.region Pa (bEU g)⟩
def bEI{a b:List LA}(ha:gG a=Pa)(hb:gG b=Pa):gG (a++b)=true:=by
 induction a with
 |nil=>exact hb
 |cons r a ih=>simp only[gG,AI]at ha;simp only[DO,gG,ha.1,ih ha.2,Hg]
def SQ4(H:LO)(o1 o2 o3 o4:Nat)(x1 x2 x3 x4:ah):LO:=(((H.set o4 x4).set o1 x1).set o2 x2).set o3 x3
structure Qc(H:LO)(o1 o2 o3 o4:Nat):Prop where
 l1:o1<H.length
 l2:o2<H.length
 l3:o3<H.length
 n12:o1≠o2
 n13:o1≠o3
 n23:o2≠o3
 n14:o1≠o4
 n24:o2≠o4
 n34:o3≠o4
section
variable {H L:LO}{o1 o2 o3 o4 i:Nat}{x1 x2 x3 x4 y:ah}
def bDa:(SQ4 H o1 o2 o3 o4 x1 x2 x3 x4).length=H.length:=by simp[SQ4]
def bGj(C:Qc H o1 o2 o3 o4):(SQ4 H o1 o2 o3 o4 x1 x2 x3 x4++L)[o1]? = N1 x1/\(SQ4 H o1 o2 o3 o4 x1 x2 x3 x4++L)[o2]? = N1 x2/\(SQ4 H o1 o2 o3 o4 x1 x2 x3 x4++L)[o3]? = N1 x3:=by obtain⟨l1,l2,l3,n12,n13,n23,n14,n24,n34⟩:=C;refine⟨?_, ?_, ?_⟩<;>rw[BM (by rw[bDa];assumption)]<;>simp[SQ4,l1,l2,l3,n12.symm,n13.symm,n23.symm]
def bGk(C:Qc H o1 o2 o3 o4):(SQ4 H o1 o2 o3 o4 x1 x2 x3 x4++L)[o1]? = N1 x1:=(bGj C).1
def bFb(C:Qc H o1 o2 o3 o4):(SQ4 H o1 o2 o3 o4 x1 x2 x3 x4++L)[o2]? = N1 x2:=(bGj C).2.1
def bFc(C:Qc H o1 o2 o3 o4):(SQ4 H o1 o2 o3 o4 x1 x2 x3 x4++L)[o3]? = N1 x3:=(bGj C).2.2
def bHf(C:Qc H o1 o2 o3 o4)(h:o4<H.length):(SQ4 H o1 o2 o3 o4 x1 x2 x3 x4++L)[o4]? = N1 x4:=by obtain⟨l1,l2,l3,n12,n13,n23,n14,n24,n34⟩:=C;rw[BM (by rw[bDa];exact h)];simp[SQ4,n14,n24,n34,h]
def bGl(C:Qc H o1 o2 o3 o4):(SQ4 H o1 o2 o3 o4 x1 x2 x3 x4++L).set o1 y=SQ4 H o1 o2 o3 o4 y x2 x3 x4++L:=by rw[DX _ _ (by rw[bDa];exact C.l1)];unfold SQ4;rw[JR _ _ C.n13.symm,JR _ _ C.n12.symm,EO]
def bFs(C:Qc H o1 o2 o3 o4):(SQ4 H o1 o2 o3 o4 x1 x2 x3 x4++L).set o2 y=SQ4 H o1 o2 o3 o4 x1 y x3 x4++L:=by rw[DX _ _ (by rw[bDa];exact C.l2)];unfold SQ4;rw[JR _ _ C.n23.symm,EO]
def bFt(C:Qc H o1 o2 o3 o4):(SQ4 H o1 o2 o3 o4 x1 x2 x3 x4++L).set o3 y=SQ4 H o1 o2 o3 o4 x1 x2 y x4++L:=by rw[DX _ _ (by rw[bDa];exact C.l3)];unfold SQ4;rw[EO]
def bHw(C:Qc H o1 o2 o3 o4)(h:o4<H.length):(SQ4 H o1 o2 o3 o4 x1 x2 x3 x4++L).set o4 y=SQ4 H o1 o2 o3 o4 x1 x2 x3 y++L:=by rw[DX _ _ (by rw[bDa];exact h)];unfold SQ4;rw[JR _ _ C.n34,JR _ _ C.n24,JR _ _ C.n14,EO]
def bHg:(SQ4 H o1 o2 o3 o4 x1 x2 x3 x4++L)[H.length+i]? = L[i]? := by rw[<- bDa (H:=H) (o1:=o1) (o2:=o2) (o3:=o3) (o4:=o4) (x1:=x1) (x2:=x2) (x3:=x3) (x4:=x4),bX]
def bEV:(SQ4 H o1 o2 o3 o4 x1 x2 x3 x4++L)[H.length]? = L[0]? := bHg (i:=0)
def bHh:(SQ4 H o1 o2 o3 o4 x1 x2 x3 x4++L).set (H.length+i) y=SQ4 H o1 o2 o3 o4 x1 x2 x3 x4++L.set i y:=by rw[<- bDa (H:=H) (o1:=o1) (o2:=o2) (o3:=o3) (o4:=o4) (x1:=x1) (x2:=x2) (x3:=x3) (x4:=x4),eS]
def bHx:(SQ4 H o1 o2 o3 o4 x1 x2 x3 x4++L).set H.length y=SQ4 H o1 o2 o3 o4 x1 x2 x3 x4++L.set 0 y:=bHh (i:=0)
end
def bE4{b:Nat}{P:Nat->Prop}:∀{l wr:LN},(∀x∈wr,P x)->(∀x∈l,P x)->∀x∈bE b wr l,P x
 | [],wr,h,_=>h
 |y::r,wr,h,h2=>by
  unfold bE;split
  ·exact bE4 (λx hx=>by rcases BD.1 hx with rfl | hx;exact h2 _ HD;exact h x hx) λx hx=>h2 x (BZ _ hx)
  exact bE4 h λx hx=>h2 x (BZ _ hx)
def bCZ{b:Nat}{P:Nat->Prop}{wr:LN}{y:Nat}(h:∀x∈wr,P x)(hy:P y):∀x∈bE b wr [y],P x:=bE4 h λx hx=>by rw[CG.1 hx];exact hy
def bFN{b:Nat}{v:AV}{X L:LO}{wr:LN}(hX:X.length=b)(hv:v.under b=Pa)(h:∀j∈wr,j<b/\∀x,X[j]? = N1 x->x.under b=Pa):cJ b (v,X++L,wr)=(v,X,wr):=by
 unfold cJ;dsimp only;rw[Zy,<- hX,GU];rw[hv,Bool.true_and,AO];intro j hj;obtain⟨a,c⟩:=h j hj;rw[BM omT];cases e:X[j]? with
 |none=>rfl
 |some x=>exact c x e
def bCL(l:List Str):Nat:=(l.map FN).sum
def bFu(l:List Str)(s:Str):bCL (l++[s])=bCL l+s.length:=by simp[bCL]
def bEu:∀(n:Nat) (m:UInt8) (s:Str),s.length<=n->∀l∈bDN m s,l.length<=60
 |n,m,[],_=>by rw[bE8];simp
 |0,m,c::t,h=>by simp at h
 |n+1,m,c::t,h=>by
  rw[bDi siT];intro l hl;rcases BD.1 hl with rfl | hl
  ·simp;omega
  exact bEu n 43 _ (by simp at h ⊢;omega) l hl
def bEv{l:List Str}(h:∀s∈l,s.length<=60):bCL l<=l.length*60:=by
 induction l with
 |nil=>exact AQ _
 |cons s l ih=>have h1:=h s siT;have h2:=ih λt ht=>h t (BZ _ ht);simp only[bCL,BI,List.sum_cons,AW]at h2 ⊢;omega
def bDe(i k:Int)(st ln:Nat)(s:Str):LA:=[vi i,vi k,vi st,vi (bCL (cH s)),vi ((ln / 50:Nat):Int),vi ((ln % 50:Nat):Int)]
def bHR(o4:Nat)(rows:List LA)(w:AV)(x4:ah):Prop:=rows=[]/\w=.sl Pa []∨rows≠[]/\∃ver,w=.sr o4 ver rows.length/\x4=.vec ver 6 rows
section
variable {A:af}{g:SN}
def bGQ(hL:Has A g "A" (bD3 g))(h:Has A g "C" (bD4 g)){H:LO}{o1 o2 o3 o4:Nat}(C:Qc H o1 o2 o3 o4){v1 v2 v3 st ln:Nat}{w:AV}{x4:ah}{rows:List LA}(hw:bHR o4 rows w x4)(h4:rows≠[]->o4<H.length) (bd:st<=4000000000000) (xd:ln<=4000000000000) (gu:rows.length<=20000) (zj:gG rows=Pa) {s:Str} (hs:s≠[]) (G6:s.length<=2000000) (i k:Int):∃H' wr,aG A (g "C") [.agg [.str s,vi i,vi k],.ptr o1 v1 0,.ptr o2 v2 0,.ptr o3 v3 0] (SQ4 H o1 o2 o3 o4 (.box v1 [w]) (.box v2 [vi st]) (.box v3 [vi ln]) x4)=N1 (.tup [],H',wr)/\(∀x∈wr,x=o1∨x=o2∨x=o3∨x=o4) /\ (k<0->H'=SQ4 H o1 o2 o3 o4 (.box v1 [w]) (.box v2 [vi (st+bCL (cH s):Nat)]) (.box v3 [vi (ln+(cH s).length:Nat)]) x4) /\ (0<=k->rows≠[]->∃w' x4',bHR o4 (rows++[bDe i k st ln s]) w' x4'/\H'=SQ4 H o1 o2 o3 o4 (.box v1 [w']) (.box v2 [vi (st+bCL (cH s):Nat)]) (.box v3 [vi (ln+(cH s).length:Nat)]) x4') /\ (0<=k->rows=[]->o1∈wr/\H'=SQ4 H o1 o2 o3 o4 (.box v1 [.sr (H.length+1) 1 1]) (.box v2 [vi (st+bCL (cH s):Nat)]) (.box v3 [vi (ln+(cH s).length:Nat)]) x4++[.box 1 [.str s,vi i,vi k],.vec 1 6 [bDe i k st ln s]]):=by
 obtain⟨r,H',ba,e1,rfl,hk⟩:=h.bp (args:=[.agg [.str s,vi i,vi k],.ptr o1 v1 0,.ptr o2 v2 0,.ptr o3 v3 0]) (H:=SQ4 H o1 o2 o3 o4 (.box v1 [w]) (.box v2 [vi st]) (.box v3 [vi ln]) x4) (K:=λr H' wr=>r=.tup []/\(∀x∈wr,x=o1∨x=o2∨x=o3∨x=o4) /\
   (k<0->H'=SQ4 H o1 o2 o3 o4 (.box v1 [w]) (.box v2 [vi (st+bCL (cH s):Nat)]) (.box v3 [vi (ln+(cH s).length:Nat)]) x4) /\
   (0<=k->rows≠[]->∃w' x4',bHR o4 (rows++[bDe i k st ln s]) w' x4'/\H'=SQ4 H o1 o2 o3 o4 (.box v1 [w']) (.box v2 [vi (st+bCL (cH s):Nat)]) (.box v3 [vi (ln+(cH s).length:Nat)]) x4') /\
   (0<=k->rows=[]->o1∈wr/\H'=SQ4 H o1 o2 o3 o4 (.box v1 [.sr (H.length+1) 1 1]) (.box v2 [vi (st+bCL (cH s):Nat)]) (.box v3 [vi (ln+(cH s).length:Nat)]) x4++[.box 1 [.str s,vi i,vi k],.vec 1 6 [bDe i k st ln s]])) (by
  have Sv:=λH=>bEF hL s hs omT H;have Rg:∀l∈cH s,l.length<=60:=bEu _ _ s (AQ _);have ym:=bDo s;have Hr:=bEv Rg;simp only[bD4];rw[bDa];simp only[go_sem,↓aB,seval,Sv,bEV,bHx,bDa,AD,AA,AE];refine bJ (id:=0) (λj ρ1 H1 wr=>wr=[]/\H1=SQ4 H o1 o2 o3 o4 (.box v1 [w]) (.box v2 [vi st]) (.box v3 [vi ln]) x4++[.box 1 [.str s,vi i,vi k],.gone 0]/\ρ1 14=vi (j:Nat)/\ρ1 6=vi (bCL ((cH s).take j):Nat)) (cH s).length
   (λρ1 H1 wr=>wr=[]/\H1=SQ4 H o1 o2 o3 o4 (.box v1 [w]) (.box v2 [vi st]) (.box v3 [vi ln]) x4++[.box 1 [.str s,vi i,vi k],.gone 0]/\ρ1 6=vi (bCL (cH s):Nat)) cB rfl ⟨rfl,rfl,rfl,rfl⟩ ?_ ?_
  ·rintro j ρ1 H1 dc mo ⟨rfl,rfl,e14,e6⟩ hf;have f13:ρ1 13=vi ((cH s).length:Nat):=hf 13 rfl;have f12:ρ1 12=.sl Po ((cH s).map aN):=hf 12 rfl;simp only[go_sem,↓aB,seval,e14,f13];refine aD (λhb=>?_) (λhb=>?_)
   ·have jlt:j<(cH s).length:=by simp at hb;omega
    have fh:((cH s).map aN)[j]? = N1 [.str (cH s)[j]]:=getElem?_map_of jlt;have pk:(cH s).take (j+1)=(cH s).take j++[(cH s)[j]]:=EW jlt;have h1:=bEv (l:=(cH s).take j) λt ht=>Rg t (FA ht);have h2:=Rg _ (AS jlt);have h3:((cH s).take j).length<=2000000:=soT;have dy:=wS (i:=j) omT;have gn:AR.wrap ((bCL ((cH s).take j):Nat)+((cH s)[j].length:Nat):Int)=((bCL ((cH s).take (j+1)):Nat):Int):=by rw[wrap_i64 omT omT,pk,bFu];omega
    simp only[go_sem,↓aB,seval,e14,e6,f12,jlt,fh,dy,gn,AU,AT]
   have:j=(cH s).length:=by simp at hb;omega
   subst this;rw[DM]at e6;simp only[go_sem,seval,e6]
  rintro ρ' H' ba ⟨rfl,rfl,e6⟩ hf;have f0:ρ' 4=.ptr H.length 1 0:=hf 4 rfl;have f1:ρ' 1=.ptr o1 v1 0:=hf 1 rfl;have f2:ρ' 2=.ptr o2 v2 0:=hf 2 rfl;have f3:ρ' 3=.ptr o3 v3 0:=hf 3 rfl;have f5:ρ' 5=.sl Po ((cH s).map aN):=hf 5 rfl;clear hf;have dy:AR.wrap ((st:Int)+(bCL (cH s):Nat))=((st+bCL (cH s):Nat):Int):=by rw[wrap_i64 omT omT];omega
  have gn:AR.wrap ((ln:Int)+((cH s).length:Nat))=((ln+(cH s).length:Nat):Int):=by rw[wrap_i64 omT omT];omega
  have n23:(o2==o3)=false:=by simpa using C.n23
  have n32:(o3==o2)=false:=by simpa using C.n23.symm
  simp only[go_sem,↓aB,seval,f0,bEV,AD,AB,AA,AE];refine aD (λhb=>?_) (λhb=>?_)
  ·have hk:0<=k:=by simpa using hb
   have hq:kJ .quo .no (vi ln) (vi 50)=N1 (vi ((ln / 50:Nat):Int)):=by rw[aAl deT,Int.tdiv_eq_ediv_of_nonneg omT,wrap_i64 omT omT];rfl
   have hr:kJ .rem .no (vi ln) (vi 50)=N1 (vi ((ln % 50:Nat):Int)):=by rw[tS deT,Int.tmod_eq_emod_of_nonneg omT];rfl
   by_cases hR:rows=[]
   ·obtain⟨_,rfl⟩ | ⟨h,_⟩:=hw
    ·simp only[go_sem,↓aB,seval,f0,f1,f2,f3,e6,bHg,bEV,bHh,bDa,bGk C,bFb C,bFc C,bGl C,hq,hr,eX,cG,dO,bP,AD,AB,AA,AE];refine aY (aq:=bCP) rfT rfT ?_;simp only[go_sem,↓aB,seval,bCP,f2,f3,f5,e6,bFb C,bFc C,bDa,bFs C,bFt C,dy,gn,n32,AF,eH,dG,aL,AD,AB,AA,AE];have tk:∀x∈bE H.length (bE H.length (bE H.length [] [o1]) [o2]) [o3],x=o1∨x=o2∨x=o3∨x=o4:=bCZ (bCZ (bCZ (λx hx=>by cases hx) (.inl rfl)) (.inr (.inl rfl))) (.inr (.inr (.inl rfl)));have iv:o1∈bE H.length (bE H.length (bE H.length [] [o1]) [o2]) [o3]:=bCX C.l1 (.inl (bCX C.l1 (.inl (bCX C.l1 (.inr HD)))));rw[bEQ iv (bGk C) (by simp[ah.under,dJ,AV.under])];exact⟨rfl,tk,λh=>Zw h omT,λ_ h=>Zw hR h,λ_ _=>⟨iv,rfl⟩⟩
    exact Zw hR h
   obtain⟨h,_⟩ | ⟨_,ver,rfl,rfl⟩:=hw
   ·exact Zw h hR
   have l4:=h4 hR;have R1:bP (rows.length+1) 48=true:=by unfold bP;simp;omega
   simp only[go_sem,↓aB,seval,f0,f1,f2,f3,e6,bEV,bGk C,bFb C,bFc C,bHf C l4,bGl C,bHw C l4,hq,hr,eX,cG,dO,R1,AW,AZ,BC,AD,AB,AA,AE];refine aY (aq:=bCP) rfT rfT ?_;simp only[go_sem,↓aB,seval,bCP,f2,f3,f5,e6,bFb C,bFc C,bDa,bFs C,bFt C,dy,gn,n32,AF,eH,dG,aL,AD,AB,AA,AE];have tk:∀x∈bE H.length (bE H.length (bE H.length (bE H.length [] [o4]) [o1]) [o2]) [o3],x=o1∨x=o2∨x=o3∨x=o4:=bCZ (bCZ (bCZ (bCZ (λx hx=>by cases hx) (.inr (.inr (.inr rfl)))) (.inl rfl)) (.inr (.inl rfl))) (.inr (.inr (.inl rfl)));rw[bFN bDa rfl λj hj=>?_]
   ·exact⟨rfl,tk,λh=>Zw h omT,λ_ _=>⟨_,_,.inr ⟨siT,ver,rfl,rfl⟩,by rw[BA];rfl⟩,λ_ h=>Zw h hR⟩
   obtain⟨b1,b2,b3⟩:=bGj (L:=[]) (x1:=.box v1 [.sr o4 ver (rows.length+1)]) (x2:=.box v2 [vi (st+bCL (cH s):Nat)]) (x3:=.box v3 [vi (ln+(cH s).length:Nat)]) (x4:=.vec ver 6 (rows++[bDe i k st ln s])) C;have b4:=bHf (L:=[]) (x1:=.box v1 [.sr o4 ver (rows.length+1)]) (x2:=.box v2 [vi (st+bCL (cH s):Nat)]) (x3:=.box v3 [vi (ln+(cH s).length:Nat)]) (x4:=.vec ver 6 (rows++[bDe i k st ln s])) C l4;rw[AJ]at b1 b2 b3 b4;rcases tk j hj with rfl | rfl | rfl | rfl
   ·exact⟨C.l1,λx hx=>by rw[show bDe i k st ln s=[AV.int .i64 i,.int .i64 k,.int .i64 st,.int .i64 (bCL (cH s):Nat),.int .i64 ((ln / 50:Nat):Int),.int .i64 ((ln % 50:Nat):Int)] from rfl]at b1;rw[b1]at hx;cases hx;simp[ah.under,dJ,AV.under,l4]⟩
   ·exact⟨C.l2,λx hx=>by rw[show bDe i k st ln s=[AV.int .i64 i,.int .i64 k,.int .i64 st,.int .i64 (bCL (cH s):Nat),.int .i64 ((ln / 50:Nat):Int),.int .i64 ((ln % 50:Nat):Int)] from rfl]at b2;rw[b2]at hx;cases hx;rfl⟩
   ·exact⟨C.l3,λx hx=>by rw[show bDe i k st ln s=[AV.int .i64 i,.int .i64 k,.int .i64 st,.int .i64 (bCL (cH s):Nat),.int .i64 ((ln / 50:Nat):Int),.int .i64 ((ln % 50:Nat):Int)] from rfl]at b3;rw[b3]at hx;cases hx;rfl⟩
   exact⟨l4,λx hx=>by
    have hx:(SQ4 H o1 o2 o3 j (.box v1 [.sr j ver (rows.length+1)]) (.box v2 [vi (st+bCL (cH s):Nat)]) (.box v3 [vi (ln+(cH s).length:Nat)]) (.vec ver 6 (rows++[bDe i k st ln s])))[j]? = N1 x:=hx;rw[b4]at hx;cases hx;have:gG (rows++[bDe i k st ln s])=true:=bEI zj rfl;exact aA this⟩
  have hk:k<0:=by simp at hb;omega
  simp only[go_sem,seval];refine aY (aq:=bCP) rfT rfT ?_;simp only[go_sem,↓aB,seval,bCP,f2,f3,f5,e6,bFb C,bFc C,bDa,bFs C,bFt C,dy,gn,n32,AF,eH,dG,aL,AD,AB,AA,AE];have tk:∀x∈bE H.length (bE H.length [] [o2]) [o3],x=o2∨x=o3:=bCZ (bCZ (λx hx=>by cases hx) (.inl rfl)) (.inr rfl);rw[bFN bDa rfl λj hj=>?_]
  ·exact⟨rfl,λx hx=>by rcases tk x hx with h | h;exact .inr (.inl h);exact .inr (.inr (.inl h)),λ_=>rfl,λh=>Zw h omT,λh=>Zw h omT⟩
  obtain⟨b1,b2,b3⟩:=bGj (L:=[]) (x1:=.box v1 [w]) (x2:=.box v2 [vi (st+bCL (cH s):Nat)]) (x3:=.box v3 [vi (ln+(cH s).length:Nat)]) (x4:=x4) C;rw[AJ]at b2 b3;rcases tk j hj with rfl | rfl
  ·exact⟨C.l2,λx hx=>by rw[b2]at hx;cases hx;rfl⟩
  exact⟨C.l3,λx hx=>by rw[b3]at hx;cases hx;rfl⟩)
 exact⟨H',ba,e1,hk⟩
end
def bEw(g:SN):ag:=.block 0 (.dz (.tmp 22) [23] (qS [qq 10 (.alloc [(.str []),z0,z0]),qs 3 10 23]<|.block 1 (qR [ql 24 1 9,qla 25 3 10,qq 26 (.dm (u 24) [(.tmp 25)])])))
def bDD(g:SN):bw:=⟨28,[1,6,7,8,9,23,10],[.tmp 2,.tmp 3],qS [qx 1 2 0,qmc 2 (.sl Pa []),qmc 3 z0]<|qS [qla 12 2 1,qc 13 (g "ax") [u 12],qm 11 13,qq 14 (.ext 0 (u 11)),qq 15 (.ext 1 (u 11)),qm 4 14,qm 5 15]<|.seq (qS [qm 16 5,qbi 17 .neq 16 0]<|qC 17 (qS [qm 18 5,qmc 2 (.sl Pa []),qm 3 18]<|.ret) (.skip))<|qS [qq 6 (.alloc [(.sl Pa [])])]<|qS [qq 7 (.alloc [z0]),qq 8 (.alloc [z0]),qz (.store 1 (u 7) (ui 0)),qz (.store 1 (u 8) (ui 0))]<|qS [qq 19 (.mkf (g "C") [] [(.tmp 6),(.tmp 7),(.tmp 8)]),qq 9 (.alloc [.bx]),qs 1 9 19]<|.seq (qS [qla 20 2 1,qm 21 4,qc 22 (g "aF") [u 20,u 21]]<|bEw g)<|qS [ql 27 1 6,qm 2 27,qmc 3 z0]<|.ret⟩
def bDA(a:List LA×Nat×Nat)(p:bEi):List LA×Nat×Nat:=(if p.2.2<0 then a.1 else a.1++[bDe p.2.1 p.2.2 a.2.1 a.2.2 p.1],a.2.1+bCL (cH p.1),a.2.2+(cH p.1).length)
def bCV(ps:List bEi):List LA×Nat×Nat:=ps.foldl bDA ([],0,0)
def bGm(ps:List bEi)(p:bEi):bCV (ps++[p])=bDA (bCV ps) p:=by unfold bCV;rw[Ex];rfl
section
variable {A:af}{g:SN}
abbrev bFv:ag:=qS [qq 10 (.alloc [(.str []),z0,z0]),qs 3 10 23]<|.block 1 (qR [ql 24 1 9,qla 25 3 10,qq 26 (.dm (u 24) [(.tmp 25)])])
abbrev bHy(g:SN)(H:LO):AV:=.fn (g "C") [] [.ptr (H.length+1) 1 0,.ptr (H.length+2) 1 0,.ptr (H.length+3) 1 0]
abbrev bFj(g:SN)(H:LO)(x0:ah)(w:AV)(st ln:Nat)(l:LA)(b:Bool)(pb:ah)(T:LO):LO:=H++(x0::.box 1 [w]::.box 1 [vi st]::.box 1 [vi ln]::.box 1 [bHy g H]::.rnd 1 H.length [1,6,7,8,9,23,10] [23] bFv l b N2::pb::T)
abbrev bFO(g:SN)(H:LO)(l:LA)(pb:ah)(T:LO):LO:=.box 1 [bHy g H]::.rnd 1 H.length [1,6,7,8,9,23,10] [23] bFv l Pa N2::pb::T
def bIg(g:SN)(H:LO)(ps:List bEi)(X:bEy):Prop:=∃x0 w pb l x4,X.1=bFj g H x0 w (bCV ps).2.1 (bCV ps).2.2 l Po pb []/\l.length=28/\ck l 9=.ptr (H.length+4) 1 0 /\
 (dJ (H.length+7) l=Pa/\x0.under (H.length+7)=Pa/\pb.under (H.length+7)=Pa)/\bHR (H.length+13) (bCV ps).1 w x4/\((bCV ps).1=[]->X.2=[])/\((bCV ps).1≠[]->∃pb2,X.2=[pb2,x4]) /\
 (bCV ps).2.1<=ps.length*120000000/\(bCV ps).2.2<=ps.length*2000000/\(bCV ps).1.length<=ps.length/\gG (bCV ps).1=Pa
def bGR{H T:LO}{x0 x1 x2 x3:ah}:Qc (H++(x0::x1::x2::x3::T)) (H.length+1) (H.length+2) (H.length+3) (H.length+13):=by constructor<;>simp
def bHi{H T:LO}{x0 x1 x2 x3 y1 y2 y3 y4:ah}:SQ4 (H++(x0::x1::x2::x3::T)) (H.length+1) (H.length+2) (H.length+3) (H.length+13) y1 y2 y3 y4=H++(x0::y1::y2::y3::T.set 9 y4):=by simp[SQ4]
def bGn{H:LO}{wr:LN}(h:∀x∈wr,x=H.length+1∨x=H.length+2∨x=H.length+3∨x=H.length+13):∀x∈wr,H.length<=x:=λx hx=>by have:=h x hx;omega
def bGS(hY:sn A)(hL:Has A g "A" (bD3 g))(hM:Has A g "C" (bD4 g))(H:LO):Ps A (H.length+5) 1 H.length (H.length+7) (H.length+1) (bIg g H) where
 le:=omT
 inv:=by
  rintro ps ⟨X,Y⟩ ⟨x0,w,pb,l,x4,hX,hl,h9,⟨yi,Rz,Pn⟩,hO,Sy,Sf,bd,xd,gu,hd⟩;have hX:X=_:=hX;subst hX;refine⟨siT,λhy j x hj hx=>?_,λhy=>?_⟩
  ·have hr:(bCV ps).1=[]:=by
    by_cases h:(bCV ps).1=[]
    ·exact h
    obtain⟨pb2,e⟩:=Sf h;rw[show Y=[] from hy]at e;cases e
   have hw:w=.sl Pa []:=by
    rcases hO with⟨_,h⟩ | ⟨h,_⟩
    ·exact h
    exact Zw hr h
   subst hw;obtain⟨i,rfl⟩:∃i,j=H.length+i:=⟨j - H.length,omT⟩;have hx:(H++[x0,.box 1 [.sl Pa []],.box 1 [vi (bCV ps).2.1],.box 1 [vi (bCV ps).2.2],.box 1 [bHy g H],.rnd 1 H.length [1,6,7,8,9,23,10] [23] bFv l Po N2,pb])[H.length+i]? = N1 x:=hx;rw[bX]at hx
   match i,hx with
   |0,hx=>cases hx;exact Rz
   |1,hx=>cases hx;rfl
   |2,hx=>cases hx;rfl
   |3,hx=>cases hx;rfl
   |4,hx=>cases hx;simp[ah.under,dJ,AV.under]
   |5,hx=>cases hx;exact yi
   |6,hx=>cases hx;exact Pn
   |i+7,hx=>simp at hx
  have hr:(bCV ps).1≠[]:=λh=>hy (Sy h);rcases hO with⟨h,_⟩ | ⟨_,ver,rfl,_⟩
  ·exact Zw h hr
  exact⟨_,bX (i:=1),λk hk=>by simp[ah.under,dJ,AV.under];omega⟩
 run:=by
  rintro ps ⟨X,Y⟩ s i k y0 y1 y2 y3 y4 ⟨x0,w,pb,l,x4,hX,ym,h9,⟨yi,Rz,Pn⟩,hO,Sy,Sf,bd,xd,gu,hd⟩ hs G6 hp;have hX:X=_:=hX;subst hX;have Gc:bFj g H x0 w (bCV ps).2.1 (bCV ps).2.2 l Po pb []++(y0::y1::y2::y3::y4::Y)=bFj g H x0 w (bCV ps).2.1 (bCV ps).2.2 l Po pb (y0::y1::y2::y3::y4::Y):=siT;have Rg:=bEv (bEu _ 61 s (AQ _));have Rg:bCL (cH s)<=(cH s).length*60:=Rg;have Vr:=bDo s;have Oi:=bGm ps (s,i,k);have az:∀pb':ah,∃wr w' x4' Y',aG A (g "C") [.agg [.str s,vi i,vi k],.ptr (H.length+1) 1 0,.ptr (H.length+2) 1 0,.ptr (H.length+3) 1 0] (bFj g H x0 w (bCV ps).2.1 (bCV ps).2.2 l Pa pb' (y0::y1::y2::y3::y4::Y))=N1 (.tup [],bFj g H x0 w' (bCV (ps++[(s,i,k)])).2.1 (bCV (ps++[(s,i,k)])).2.2 l Pa pb' (y0::y1::y2::y3::y4::Y'),wr)/\(∀x∈wr,H.length<=x) /\
    bHR (H.length+13) (bCV (ps++[(s,i,k)])).1 w' x4'/\((bCV (ps++[(s,i,k)])).1=[]->Y'=[])/\((bCV (ps++[(s,i,k)])).1≠[]->∃pb2,Y'=[pb2,x4'])/\(Y'.length=Y.length∨0<=k/\Y=[]/\Y'≠[]):=λpb'=>by
   have gy:(bFO g H l pb' (y0::y1::y2::y3::y4::Y)).set 9 x4=bFO g H l pb' (y0::y1::y2::y3::y4::Y):=by
    by_cases h:(bCV ps).1=[]
    ·rw[show Y=[] from Sy h];rfl
    obtain⟨pb2,e⟩:=Sf h;rw[show Y=[pb2,x4] from e];rfl
   obtain⟨G',wr,e1,hw,c1,c2,c3⟩:=bGQ hL hM (H:=bFj g H x0 w (bCV ps).2.1 (bCV ps).2.2 l Pa pb' (y0::y1::y2::y3::y4::Y)) (v1:=1) (v2:=1) (v3:=1) (st:=(bCV ps).2.1) (ln:=(bCV ps).2.2) bGR hO (λh=>by obtain⟨pb2,e⟩:=Sf h;rw[show Y=[pb2,x4] from e];simp) omT omT omT hd hs G6 i k;rw[show bFj g H x0 w (bCV ps).2.1 (bCV ps).2.2 l Pa pb' (y0::y1::y2::y3::y4::Y)=H++(x0::.box 1 [w]::.box 1 [vi (bCV ps).2.1]::.box 1 [vi (bCV ps).2.2]::bFO g H l pb' (y0::y1::y2::y3::y4::Y))from rfl]at e1 c1 c2 c3;rw[bHi,gy]at e1;simp only[bHi]at c1 c2 c3;rw[Oi];unfold bDA;by_cases hk:k<0
   ·have c1:=c1 hk;rw[gy]at c1;subst c1;rw[Zy hk];exact⟨wr,w,x4,Y,e1,bGn hw,hO,Sy,Sf,.inl rfl⟩
   rw[Zx hk];by_cases hr:(bCV ps).1=[]
   ·obtain⟨c4,c5⟩:=c3 omT hr;have Ue:Y=[]:=Sy hr;subst Ue;rw[gy]at c5;subst c5;refine⟨wr,.sr (H.length+13) 1 1,.vec 1 6 [bDe i k (bCV ps).2.1 (bCV ps).2.2 s],[.box 1 [.str s,vi i,vi k],.vec 1 6 [bDe i k (bCV ps).2.1 (bCV ps).2.2 s]], ?_,bGn hw, ?_, ?_, ?_,.inr ⟨omT,rfl,siT⟩⟩
    ·rw[show bFj g H x0 w (bCV ps).2.1 (bCV ps).2.2 l Pa pb' [y0,y1,y2,y3,y4]=H++(x0::.box 1 [w]::.box 1 [vi (bCV ps).2.1]::.box 1 [vi (bCV ps).2.2]::bFO g H l pb' [y0,y1,y2,y3,y4])from rfl,e1];simp
    ·rw[hr];exact .inr ⟨siT,1,rfl,rfl⟩
    ·intro h;simp at h
    intro _;exact⟨_,rfl⟩
   obtain⟨w',x4',c4,c5⟩:=c2 omT hr;obtain⟨pb2,e⟩:=Sf hr;have Ue:Y=[pb2,x4]:=e;subst Ue c5;exact⟨wr,w',x4',[pb2,x4'],e1,bGn hw,c4,(λh=>by simp at h),λ_=>⟨pb2,rfl⟩,.inl rfl⟩
  have fo:(bCV (ps++[(s,i,k)])).2.1<=(ps++[(s,i,k)]).length*120000000:=by rw[Oi,BA];show (bCV ps).2.1+bCL (cH s)<=(ps.length+1)*120000000;omega
  have dp:(bCV (ps++[(s,i,k)])).2.2<=(ps++[(s,i,k)]).length*2000000:=by rw[Oi,BA];show (bCV ps).2.2+(cH s).length<=(ps.length+1)*2000000;omega
  have D3:(bCV (ps++[(s,i,k)])).1.length<=(ps++[(s,i,k)]).length:=by
   rw[Oi,BA];show (if k<0 then _ else _:List LA).length<=ps.length+1;split
   ·omega
   rw[BA];show _+1<=_;omega
  have Is:gG (bCV (ps++[(s,i,k)])).1=true:=by
   rw[Oi];show gG (if k<0 then _ else _:List LA)=Pa;split
   ·exact hd
   exact bEI hd rfl
  generalize Vs:bCV (ps++[(s,i,k)])=M at *;generalize bCV ps=M0 at *;have key:∃(e:bf) (H':LO) (ba:LN),aG A YF [.own 0 [],.yld (H.length+5) 1,.agg [.str s,vi i,vi k]] (bFj g H x0 w M0.2.1 M0.2.2 l Po pb (y0::y1::y2::y3::y4::Y))=N1 (.bool (decide (e=.normal)),H',ba) /\
    (e=.normal/\(∃w' x4' Y' pb',H'=bFj g H x0 w' M.2.1 M.2.2 l Po pb' (y0::y1::y2::y3::y4::Y')/\pb'.under (H.length+7)=Pa/\bHR (H.length+13) M.1 w' x4'/\(M.1=[]->Y'=[])/\(M.1≠[]->∃pb2,Y'=[pb2,x4'])/\(Y'.length=Y.length∨0<=k/\Y=[]/\Y'≠[]))/\(∀x∈ba,H.length<=x)/\H.length+1∈ba):=by
   refine mT hY (N:=28) (l:=l) (by rw[bX];rfl) rfl cB cB ym ?_;have nu:ck (dH l [23] [.agg [.str s,vi i,vi k]])=upd (ck l) 23 (.agg [.str s,vi i,vi k]):=nG omT;rw[nu];generalize hρ:ck l=ρ at *;have s26:(⟨H.length,[1,6,7,8,9,23,10,YF+(H.length+5),YF+1]⟩:Ctx).site (N1 26)=none:=aIE (l:=[1,6,7,8,9,23,10]) (ys:=[YF+(H.length+5),YF+1]) rfT deT (λy hy=>by simp at hy;omega);obtain⟨wr,w',x4',Y',e1,k1,k2,k3,k4,k5⟩:=az (.box (pb.ver+1) [.str s,vi i,vi k]);simp only[bFj,DO,CW];simp only[bFj]at e1;have h6:(6<Y.length+1+1+1+1+1+1+1+1+1+1+1+1)=True:=eq_true omT;simp only[go_sem,↓aB,seval,h6];refine⟨_,_,_,_,_,rfl, ?_⟩;simp only[go_sem,↓aB,seval,h9,s26,e1,AD,AA,AE];refine⟨_,_,_,_,_,rfl,⟨w',x4',Y',_,rfl,rfl,k2,k3,k4,k5⟩,λx hx=>?_, ?_⟩
   ·rcases AY.1 hx with hx | hx
    ·rw[FC]at hx;exact hx.1
    rcases BD.1 hx with rfl | hx
    ·omega
    exact bE4 (P:=λx=>H.length<=x) (λx hx=>by cases hx) k1 x hx
   refine CZ _ ?_;rw[FC];omega
  obtain⟨e,H',ba,h1,rfl,⟨w',x4',Y',pb',rfl,h2,h3,h4,h5,h6⟩,h7,h8⟩:=key;refine⟨(bFj g H x0 w' M.2.1 M.2.2 l Po pb' [],Y'),ba, ?_, ?_,h7, ?_⟩
  ·rw[Gc,h1];simp
  ·unfold bIg;rw[Vs];exact⟨x0,w',pb',l,x4',rfl,ym,h9,⟨yi,Rz,h2⟩,h3,h4,h5,fo,dp,D3,Is⟩
  rcases h6 with h6 | ⟨a,b,c⟩
  ·exact .inl h6
  exact .inr ⟨a,b,c,h8⟩
variable {V:Item->Fact->Str}{Q:Item->Fact->Prop}{W:jm->Int}
def bHz(F:Pu A g V Q W)(hM:Has A g "I" (bDD g)){x:jm}(hx:y6 Q x)(bl:W x≠0)(H:LO):aG A (g "I") [dE x] H=N1 (.tup [.sl Po [],vi (W x)],H,[]):=by
 have h1:=λH=>bDr F hx H;rw[Zx bl]at h1;have hz:(W x != 0)=true:=by simpa using bl
 simp only[dE]at h1;refine hM.call ?_;simp only[bDD];simp only[go_sem,↓aB,seval,dE,h1,hz,AJ,AD,AA,AE]
def bHj(F:Pu A g V Q W)(hM:Has A g "I" (bDD g))(Om:Has A g "C" (bD4 g)){x:jm}(Se:y6 Q x)(hw:W x=0)(H:LO):aG A (g "I") [dE x] H=N1 (.tup [.sl Po (bCV (bCG x (bCF V x))).1,vi 0],H,[]):=by
 have hx:=Se.ok;have h1:=λH=>bDr F Se H;rw[Zy hw,hw]at h1;have h2:=λH=>bDy F.para.para x (bCF V x) H;have Sx:=Se.items;obtain⟨J2,Qt⟩:=bEb (F:=F.val) Se;have Uc:=aHh (bCF V x);generalize bCF V x=R at *;simp only[dE]at h1 h2;obtain⟨r,H',ba,e1,rfl,rfl,rfl⟩:=hM.bp (args:=[dE x]) (H:=H) (K:=λr H' wr=>wr=[]/\H'=H/\r=.tup [.sl Po (bCV (bCG x R)).1,vi 0]) (by
  simp only[bDD];simp only[go_sem,↓aB,seval,dE,h1,h2,AJ,AD,AA,AE];simp only[bEw];simp only[go_sem,seval];refine wC (id:=H.length+5) (v:=1) (X:=λl=>bFj g H (.box 1 [.str x.title,.sl Po (x.items.map aO)]) (.sl Pa []) 0 0 l Po (.gone 0) []) rfT rfT siT (λ_=>rfT) (by unfold bH;rw[bX];rfl) (λl=>by rw[sV];rfl) ?_;intro l2 iq he;have M5:eR (H.length+7) (x.items.map aO)=true:=aA (aC dV _);have R6:dJ (H.length+7) l2=true:=by
   have Ud:eR (H.length+7) (hU R)=true:=aA Uc;have da:((GZ 28).all λt=>(ck l2 t).under (H.length+7))=true:=by
    rw[he];simp[GZ,Cd,upd,pO,AV.under,dJ,eR,M5,Ud]
    done
   refine bDU λt ht=>?_;rw[iq]at ht;exact AO.1 da t (HE.2 ht)
  have Lw:bIg g H [] (bFj g H (.box 1 [.str x.title,.sl Po (x.items.map aO)]) (.sl Pa []) 0 0 l2 Po (.gone 0) [],[]):=⟨_,_,_,l2,.gone 0,rfl,iq,by rw[he];rfl,⟨R6,by simp[ah.under,dJ,AV.under,M5],rfl⟩,.inl ⟨rfl,rfl⟩,λ_=>rfl,λh=>Zw rfl h,FF _,FF _,AQ _,rfl⟩;obtain⟨H2,en,k1,k3,⟨X',Y'⟩,⟨x0,w,pb,l,x4,hX,ym,_,_,hO,Sy,Sf,_,_,_,hd⟩,k5⟩:=bEG F.para (bGS F.chunk.yf F.lines Om H) x hx Sx R J2 Qt _ Lw;have hX:X'=_:=hX;subst hX;generalize bCV (bCG x R)=M at *;have k6:∃T:LO,H2=bFj g H x0 w M.2.1 M.2.2 l Po pb T/\(M.1≠[]->T[6]? = N1 x4):=by
   rcases k5 with⟨hy,rfl⟩ | ⟨hy,_,L,hL,rfl⟩
   ·exact⟨[],rfl,λh=>by obtain⟨pb2,e⟩:=Sf h;rw[show Y'=[] from hy]at e;cases e⟩
   refine⟨L++Y',siT,λh=>?_⟩;obtain⟨pb2,e⟩:=Sf h;rw[show Y'=[pb2,x4] from e,BU omT,hL];rfl
  obtain⟨T,rfl,hT⟩:=k6;refine⟨_,_,_,_,_,_,_,_,N2,k1,by rw[bX];rfl, ?_⟩;rw[kH (λy hy=>by rcases BD.1 hy with rfl | hy;exact EG _ _;exact k3 y hy),eS];show pP 0 _ _ .normal _ _ _;rcases hO with⟨hr,rfl⟩ | ⟨hr,ver,rfl,rfl⟩
  ·rw[hr];simp only[go_sem,↓aB,seval,AD,AA,AE]
  have hT:=hT hr;simp only[go_sem,↓aB,seval,AD,AA,AE,aT hd,aA hd,hT])
 exact e1
end
abbrev bDk(g:SN):List ae:=[qm 17 0,qm 18 5,⟨N1 19,oi 17 18 1,N2,[0,1]⟩,⟨N1 20,ol 1 19,N2,[2,0,1]⟩,qm 21 1,qm 22 5,⟨N1 23,oi 21 22 1,N2,[4,5]⟩,⟨N1 24,ol 1 23,N2,[6,4,5]⟩,⟨N1 25,ob .neq 20 24,N2,[3,2,0,1,7,6,4,5]⟩]
abbrev bCT:LN:=[]
abbrev bDl(g:SN):ag:=.seq (qS [qm 11 5,qm 12 0,qn 13 12,qb 14 .lss 11 13]<|qC 14 (.skip) (.exit 0))<|.seq (.block 1 (.seq (.region Pa (bDk g))<|qC 25 (qS [qmc 4 (.bool Po)]<|.ret) (.skip)))<|.region Po [qm 15 5,qbi 16 .add 15 1,qm 5 16]
def cN(g:SN):bw:=⟨26,[],[.tmp 4],qS [qmc 4 (.bool Po)]<|.seq (qS [qm 6 0,qn 7 6,qm 8 1,qn 9 8,qb 10 .neq 7 9]<|qC 10 (qS [qmc 4 (.bool Po)]<|.ret) (.skip))<|.seq (qS [qmc 5 z0]<|.block 0 (.loop (bDl g)))<|qS [qmc 4 (.bool Pa)]<|.ret⟩
abbrev bDm(g:SN):List ae:=[qm 17 0,qm 18 5,⟨N1 19,oi 17 18 1,N2,[0,1]⟩,⟨N1 20,ol 1 19,N2,[2,0,1]⟩,qm 21 1,qm 22 5,⟨N1 23,oi 21 22 1,N2,[4,5]⟩,⟨N1 24,ol 1 23,N2,[6,4,5]⟩,⟨N1 25,oc (g "X") [u 20,u 24],N2,[3,2,0,1,7,6,4,5]⟩,⟨N1 26,.un .not (u 25),N2,[8,3,2,0,1,7,6,4,5]⟩]
abbrev bCU:LN:=[]
abbrev bDn(g:SN):ag:=.seq (qS [qm 11 5,qm 12 0,qn 13 12,qb 14 .lss 11 13]<|qC 14 (.skip) (.exit 0))<|.seq (.block 1 (.seq (.region Pa (bDm g))<|qC 26 (qS [qmc 4 (.bool Po)]<|.ret) (.skip)))<|.region Po [qm 15 5,qbi 16 .add 15 1,qm 5 16]
def bCJ(g:SN):bw:=⟨27,[],[.tmp 4],qS [qmc 4 (.bool Po)]<|.seq (qS [qm 6 0,qn 7 6,qm 8 1,qn 9 8,qb 10 .neq 7 9]<|qC 10 (qS [qmc 4 (.bool Po)]<|.ret) (.skip))<|.seq (qS [qmc 5 z0]<|.block 0 (.loop (bDn g)))<|qS [qmc 4 (.bool Pa)]<|.ret⟩
abbrev bDf(g:SN):List ae:=[qm 17 0,qm 18 5,⟨N1 19,oi 17 18 6,N2,[0,1]⟩,⟨N1 20,ola 6 19,N2,[2,0,1]⟩,qm 21 1,qm 22 5,⟨N1 23,oi 21 22 6,N2,[4,5]⟩,⟨N1 24,ola 6 23,N2,[6,4,5]⟩,⟨N1 25,.bin .neq (.cells [.int,.int,.int,.int,.int,.int]) (u 20) (u 24),N2,[3,2,0,1,7,6,4,5]⟩]
abbrev bCR:LN:=[]
abbrev bDg(g:SN):ag:=.seq (qS [qm 11 5,qm 12 0,qn 13 12,qb 14 .lss 11 13]<|qC 14 (.skip) (.exit 0))<|.seq (.block 1 (.seq (.region Pa (bDf g))<|qC 25 (qS [qmc 4 (.bool Po)]<|.ret) (.skip)))<|.region Po [qm 15 5,qbi 16 .add 15 1,qm 5 16]
def bCH(g:SN):bw:=⟨26,[],[.tmp 4],qS [qmc 4 (.bool Po)]<|.seq (qS [qm 6 0,qn 7 6,qm 8 1,qn 9 8,qb 10 .neq 7 9]<|qC 10 (qS [qmc 4 (.bool Po)]<|.ret) (.skip))<|.seq (qS [qmc 5 z0]<|.block 0 (.loop (bDg g)))<|qS [qmc 4 (.bool Pa)]<|.ret⟩
abbrev bFd(g:SN):ag:=qS [qb 26 .lss 25 24]<|.seq (qC 26 (.skip) (.exit 2))<|.seq (.block 3 (qS [qi 27 23 25 1,ql 28 1 27,qm 7 28]<|.region Po [qq 29 (.iaA 3 1 (u 3) (ui 2)),ql 30 1 29,qm 31 7,qq 32 (.fg (u 31)),qb 33 .add 30 32,qq 34 (.iaA 3 1 (u 3) (ui 2)),qs 1 34 33]))<|.region Po [qbi 35 .add 25 1,qm 25 35]
abbrev bFe(g:SN):ag:=qS [qb 14 .lss 13 12]<|.seq (qC 14 (.skip) (.exit 0))<|.seq (.block 1 (qS [qi 15 11 13 1,ql 16 1 15,qm 5 16]<|qS [qq 17 (.iaA 3 1 (u 3) (ui 1)),ql 18 1 17,qm 19 5,qn 20 19,qb 21 .add 18 20,qq 22 (.iaA 3 1 (u 3) (ui 1)),qs 1 22 21]<|qS [qm 23 5,qn 24 23,qmc 25 z0]<|.block 2 (.loop (bFd g))))<|.region Po [qbi 36 .add 13 1,qm 13 36]
def bE5(g:SN):bw:=⟨38,[2,3],[.cell 2 3 Pa],qS [qq 2 (.alloc [z0,z0,z0])]<|qS [qm 8 0,qn 9 8,qq 10 (.build [z0,z0,z0] [(0,1,(.tmp 9)),(1,1,(.const z0)),(2,1,(.const z0))]),qq 3 (.alloc [z0,z0,z0]),qs 3 3 10]<|.seq (qS [qm 11 0,qn 12 11,qmc 13 z0]<|.block 0 (.loop (bFe g)))<|qS [qla 37 3 3,qs 3 2 37]<|.ret⟩
section
variable {A:af}{g:SN}
def bG2(h:Has A g "X" (cN g))(r:List Str)(hl:r.length<=100000000000)(H:LO):aG A (g "X") [.sl Po (r.map aN),.sl Po (r.map aN)] H=N1 (.bool Pa,H,[]):=by
 refine h.call ?_;simp only[cN];simp only[go_sem,↓aB,seval,AF,bne_self_eq_false];refine bJ (id:=0) (λi ρ1 H1 wr=>wr=[]/\H1=H/\ρ1 5=vi (i:Nat)) r.length (λρ1 H1 wr=>wr=[]/\H1=H) cB rfl ⟨rfl,siT,rfl⟩ ?_ ?_
 ·rintro i ρ1 H1 dc mg ⟨rfl,rfl,e5⟩ hf;have f0:ρ1 0=.sl Po (r.map aN):=hf 0 rfl;have f1:ρ1 1=.sl Po (r.map aN):=hf 1 rfl;simp only[go_sem,↓aB,seval,e5,f0,AF];refine aD (λhb=>?_) (λhb=>?_)
  ·have hlt:i<r.length:=by simpa using hb
   have hg:(r.map aN)[i]? = N1 [.str r[i]]:=getElem?_map_of hlt;have V1:=wS (i:=i) omT;simp only[go_sem,seval];refine aY (aq:=bCT) rfT rfT ?_;simp only[go_sem,↓aB,seval,bCT,e5,f0,f1,hg,hlt,V1,bne_self_eq_false,AU,AT,AD,AA,AE]
  have:i=r.length:=by simp at hb;omega
  subst this;simp only[go_sem,seval]
 rintro ρ' H' ba ⟨rfl,rfl⟩ hf;simp only[go_sem,↓aB,seval]
def bFw(hT:Has A g "X" (cN g))(h:Has A g "ae" (bCJ g))(C:List (List Str))(hl:C.length<=100000000000)(hr:∀r∈C,r.length<=100000000000)(H:LO):aG A (g "ae") [.sl Po (hU C),.sl Po (hU C)] H=N1 (.bool Pa,H,[]):=by
 refine h.call ?_;have tl:=bE2 C;simp only[bCJ];simp only[go_sem,↓aB,seval,tl,bne_self_eq_false];refine bJ (id:=0) (λi ρ1 H1 wr=>wr=[]/\H1=H/\ρ1 5=vi (i:Nat)) C.length (λρ1 H1 wr=>wr=[]/\H1=H) cB rfl ⟨rfl,siT,rfl⟩ ?_ ?_
 ·rintro i ρ1 H1 dc mg ⟨rfl,rfl,e5⟩ hf;have f0:ρ1 0=.sl Po (hU C):=hf 0 rfl;have f1:ρ1 1=.sl Po (hU C):=hf 1 rfl;simp only[go_sem,↓aB,seval,e5,f0,tl];refine aD (λhb=>?_) (λhb=>?_)
  ·have hlt:i<C.length:=by simpa using hb
   have hg:(hU C)[i]? = N1 [.sl Po (C[i].map aN)]:=by unfold hU;rw[BN,AP hlt];rfl
   have V1:=wS (i:=i) omT;have hc:=λH=>bG2 hT C[i] (hr _ (AS hlt)) H;generalize C[i]=r at *;simp only[go_sem,seval];refine aY (aq:=bCU) rfT rfT ?_;simp only[go_sem,↓aB,seval,bCU,e5,f0,f1,hg,hc,hlt,V1,AU,AT,AD,AA,AE]
  have:i=C.length:=by simp at hb;omega
  subst this;simp only[go_sem,seval]
 rintro ρ' H' ba ⟨rfl,rfl⟩ hf;simp only[go_sem,↓aB,seval]
def bI2(r:LA):Prop:=∃a b c d e f:Int,r=[vi a,vi b,vi c,vi d,vi e,vi f]
def bGT(ps:List bEi):∀r∈(bCV ps).1,bI2 r:=by
 have:∀(ps:List bEi) (a:List LA×Nat×Nat),(∀r∈a.1,bI2 r)->∀r∈(ps.foldl bDA a).1,bI2 r:=by
  intro ps
  induction ps with
  |nil=>exact λa h=>h
  |cons p ps ih=>
   intro a h;refine ih _ λr hr=>?_;unfold bDA at hr;simp only at hr;split at hr
   ·exact h r hr
   rcases AY.1 hr with hr | hr
   ·exact h r hr
   rw[CG.1 hr];exact⟨_,_,_,_,_,_,rfl⟩
 exact this ps _ siT
def bIu{r:LA}(h:bI2 r):kJ .neq (.cells [.int,.int,.int,.int,.int,.int]) (.agg r) (.agg r)=N1 (.bool Po):=by obtain⟨a,b,c,d,e,f,rfl⟩:=h;simp[kJ,tN,lP,aCO]
def bFx(h:Has A g "aM" (bCH g))(R:List LA)(hl:R.length<=100000000000)(hr:∀r∈R,bI2 r)(H:LO):aG A (g "aM") [.sl Po R,.sl Po R] H=N1 (.bool Pa,H,[]):=by
 refine h.call ?_;simp only[bCH];simp only[go_sem,↓aB,seval,bne_self_eq_false];refine bJ (id:=0) (λi ρ1 H1 wr=>wr=[]/\H1=H/\ρ1 5=vi (i:Nat)) R.length (λρ1 H1 wr=>wr=[]/\H1=H) cB rfl ⟨rfl,siT,rfl⟩ ?_ ?_
 ·rintro i ρ1 H1 dc mg ⟨rfl,rfl,e5⟩ hf;have f0:ρ1 0=.sl Po R:=hf 0 rfl;have f1:ρ1 1=.sl Po R:=hf 1 rfl;simp only[go_sem,↓aB,seval,e5,f0];refine aD (λhb=>?_) (λhb=>?_)
  ·have hlt:i<R.length:=by simpa using hb
   have hg:R[i]? = N1 R[i]:=AP hlt;have V1:=wS (i:=i) omT;have h6:=hr _ (AS hlt);generalize R[i]=r at *;have he:=bIu h6;obtain⟨a,b,c,d,e,f,rfl⟩:=h6;simp only[go_sem,seval];refine aY (aq:=bCR) rfT rfT ?_;simp only[go_sem,↓aB,seval,bCR,e5,f0,f1,hg,he,hlt,V1,AU,AT,AD,AA,AE]
  have:i=R.length:=by simp at hb;omega
  subst this;simp only[go_sem,seval]
 rintro ρ' H' ba ⟨rfl,rfl⟩ hf;simp only[go_sem,↓aB,seval]
def szL(l:List Str)(a:Int):Int:=l.foldl (λa s=>AR.wrap (a+(s.length:Nat))) a
def szB(C:List (List Str)):Int:=C.foldl (λa p=>AR.wrap (a+(p.length:Nat))) 0
def szC(C:List (List Str)):Int:=C.foldl (λa p=>szL p a) 0
def bEc{α β:Type}(f:β->α->β)(b:β){l:List α}{j:Nat}(h:j<l.length):(l.take (j+1)).foldl f b=f ((l.take j).foldl f b) l[j]:=by rw[EW h,Ex];rfl
def bFy(h:Has A g "af" (bE5 g))(C:List (List Str))(hl:C.length<=100000000000)(hr:∀r∈C,r.length<=100000000000)(H:LO):aG A (g "af") [.sl Po (hU C)] H=N1 (.agg [vi C.length,vi (szB C),vi (szC C)],H,[]):=by
 refine h.call ?_;have tl:=bE2 C;simp only[bE5];simp only[go_sem,↓aB,seval,tl];refine bJ (id:=0) (λi ρ1 H1 wr=>wr=[]/\H1=H++[.box 1 [vi 0,vi 0,vi 0],.box 1 [vi C.length,vi (szB (C.take i)),vi (szC (C.take i))]]/\ρ1 13=vi (i:Nat)) C.length (λρ1 H1 wr=>wr=[]/\H1=H++[.box 1 [vi 0,vi 0,vi 0],.box 1 [vi C.length,vi (szB C),vi (szC C)]]) cB rfl ⟨rfl,rfl,rfl⟩ ?_ ?_
 ·rintro i ρ1 H1 dc mg ⟨rfl,rfl,e13⟩ hf;have f11:ρ1 11=.sl Po (hU C):=hf 11 rfl;have f12:ρ1 12=vi (C.length:Nat):=hf 12 rfl;have f3:ρ1 3=.ptr (H.length+1) 1 0:=hf 3 rfl;simp only[go_sem,↓aB,seval,e13,f12];refine aD (λhb=>?_) (λhb=>?_)
  ·have hlt:i<C.length:=by simp at hb;omega
   have hg:(hU C)[i]? = N1 [.sl Po (C[i].map aN)]:=by unfold hU;rw[BN,AP hlt];rfl
   have V1:=wS (i:=i) omT;have hB:szB (C.take (i+1))=AR.wrap (szB (C.take i)+(C[i].length:Nat)):=bEc _ _ hlt;have hC:szC (C.take (i+1))=szL C[i] (szC (C.take i)):=bEc _ _ hlt;have gu:=hr _ (AS hlt);generalize C[i]=r at *;generalize szB (C.take i)=b at *;generalize szC (C.take i)=c at *;simp only[go_sem,↓aB,seval,e13,f11,f3,hg,hlt,AF,AU,AT,AD,AB,AA,AE];refine bJ (id:=2) (λj ρ2 H2 wr=>wr=[]/\H2=H++[.box 1 [vi 0,vi 0,vi 0],.box 1 [vi C.length,vi (AR.wrap (b+(r.length:Nat))),vi (szL (r.take j) c)]]/\ρ2 25=vi (j:Nat)) r.length (λρ2 H2 wr=>wr=[]/\H2=H++[.box 1 [vi 0,vi 0,vi 0],.box 1 [vi C.length,vi (AR.wrap (b+(r.length:Nat))),vi (szL r c)]]) cB rfl ⟨rfl,rfl,rfl⟩ ?_ ?_
   ·rintro j ρ2 H2 en mo ⟨rfl,rfl,e25⟩ cq;have g23:ρ2 23=.sl Po (r.map aN):=cq 23 rfl;have g24:ρ2 24=vi (r.length:Nat):=cq 24 rfl;have g3:ρ2 3=.ptr (H.length+1) 1 0:=(cq 3 rfl).trans f3;simp only[go_sem,↓aB,seval,e25,g24];refine aD (λdp=>?_) (λdp=>?_)
    ·have jlt:j<r.length:=by simp at dp;omega
     have fh:(r.map aN)[j]? = N1 [.str r[j]]:=getElem?_map_of jlt;have Kj:=wS (i:=j) omT;have hS:szL (r.take (j+1)) c=AR.wrap (szL (r.take j) c+(r[j].length:Nat)):=bEc _ _ jlt;generalize r[j]=s at *;generalize szL (r.take j) c=d at *;simp only[go_sem,↓aB,seval,e25,g23,g3,fh,jlt,Kj,hS,AU,AT,AD,AB,AA,AE]
    have:j=r.length:=by simp at dp;omega
    subst this;rw[DM];simp only[go_sem,seval]
   rintro ρ3 H3 wr3 ⟨rfl,rfl⟩ cq;have g13:ρ3 13=vi (i:Nat):=(cq 13 rfl).trans e13;simp only[go_sem,↓aB,seval,g13,V1,hB,hC];exact hlt
  have:i=C.length:=by simp at hb;omega
  subst this;rw[DM];simp only[go_sem,seval]
 rintro ρ' H' ba ⟨rfl,rfl⟩ hf;have f2:ρ' 2=.ptr H.length 1 0:=hf 2 rfl;have f3:ρ' 3=.ptr (H.length+1) 1 0:=hf 3 rfl;simp only[go_sem,↓aB,seval,f2,f3,AD,AB,AA,AE]
end
abbrev bDc(g:SN):ag:=.seq (qS [qm 53 13,qf 54 6 11,ql 55 1 54,qn 56 55,qb 57 .lss 53 56]<|qC 57 (.skip) (.exit 4))<|.seq (.block 5 (qR [qm 60 12,qq 61 (.bsl 1 [(.str [])] 3 [(0,(.const (.str []))),(1,(.const (.str [110,111]))),(2,(.const (.str [97,32,115,108,105,112])))]),qm 62 1,qm 63 6,qm 64 13,qb 65 .add 63 64,qc 66 (g "o") [u 62,u 65,ui 3],qi 67 61 66 1,ql 68 1 67,qq 69 (.bsl 1 [(.str [])] 1 [(0,(.tmp 68))]),qa 70 1 16 60 69,qm 12 70]))<|.region Po [qm 58 13,qbi 59 .add 58 1,qm 13 59]
abbrev bDV:LN:=[53,54,55,56,57,60,61,62,63,64,65,66,67,68,69,70,12,58,59,13]
abbrev bDd(g:SN):ag:=.seq (qS [qm 29 10,qf 30 3 8,ql 31 1 30,qn 32 31,qb 33 .lss 29 32]<|qC 33 (.skip) (.exit 2))<|.seq (.block 3 (qS [qf 36 3 8,ql 37 1 36,qm 38 10,qi 39 37 38 7,qla 40 7 39,qq 11 (.alloc [z0,(.sl Pa []),(.sl Pa []),(.sl Pa []),(.str []),z0,(.sl Pa [])]),qs 7 11 40]<|qS [qq 41 (.bsl 1 [(.str [])] 5 [(0,(.const (.str [48]))),(1,(.const (.str [49,55]))),(2,(.const (.str [98]))),(3,(.const (.str []))),(4,(.const (.str [121,101,115])))]),qm 42 1,qm 43 6,qc 44 (g "o") [u 42,u 43,ui 5],qi 45 41 44 1,ql 46 1 45,qf 47 4 11,qs 1 47 46]<|qS [qm 48 1,qm 49 6,qbi 50 .add 49 1,qc 51 (g "o") [u 48,u 50,ui 101],qf 52 5 11,qs 1 52 51]<|qS [qmc 12 (.sl Pa [])]<|.seq (qS [qmc 13 z0]<|.block 4 (.loop (bDc g)))<|qS [qm 71 12,qf 72 6 11,qs 1 72 71]<|qS [qm 73 9,qla 74 7 11,qq 75 (.bsl 7 [z0,(.sl Po []),(.sl Po []),(.sl Po []),(.str []),z0,(.sl Po [])] 1 [(0,(.tmp 74))]),qa 76 7 128 73 75,qm 9 76]<|.region Po [qm 77 6,qbi 78 .add 77 2,qm 6 78]))<|.region Po [qm 34 10,qbi 35 .add 34 1,qm 10 35]
abbrev bDW:LN:=[29,30,31,32,33,36,37,38,39,40,11,41,42,43,44,45,46,47,48,49,50,51,52,12,13,53,54,55,56,57,60,61,62,63,64,65,66,67,68,69,70,12,58,59,13,71,72,73,74,75,76,9,77,78,6,34,35,10]
abbrev bDX(g:SN):ag:=.seq (qS [qm 17 7,qf 18 1 2,ql 19 1 18,qn 20 19,qb 21 .lss 17 20]<|qC 21 (.skip) (.exit 0))<|.seq (.block 1 (qS [qf 24 1 2,ql 25 1 24,qm 26 7,qi 27 25 26 4,qla 28 4 27,qq 8 (.alloc [(.str []),(.sl Pa []),(.sl Pa []),(.sl Pa [])]),qs 4 8 28]<|qS [qmc 9 (.sl Pa [])]<|.seq (qS [qmc 10 z0]<|.block 2 (.loop (bDd g)))<|qS [qm 79 9,qf 80 3 8,qs 1 80 79]<|.region Po [qf 81 1 5,ql 82 1 81,qla 83 4 8,qq 84 (.bsl 4 [(.str []),(.sl Po []),(.sl Po []),(.sl Po [])] 1 [(0,(.tmp 83))]),qa 85 4 88 82 84,qf 86 1 5,qs 1 86 85]))<|.region Po [qm 22 7,qbi 23 .add 22 1,qm 7 23]
def bD7(g:SN):bw:=⟨88,[2,4,5,8,11,70,76,85],[.cell 4 2 Pa],qS [qx 2 2 0,qq 4 (.alloc [(.str []),(.sl Pa [])])]<|qS [qf 14 0 2,ql 15 1 14,qq 16 (.build [(.str []),(.sl Pa [])] [(0,1,(.tmp 15))]),qq 5 (.alloc [(.str []),(.sl Pa [])]),qs 2 5 16]<|qS [qmc 6 z0]<|.seq (qS [qmc 7 z0]<|.block 0 (.loop (bDX g)))<|qS [qla 87 2 5,qs 2 4 87]<|.ret⟩
abbrev bIh:List Str:=[[48],[49,55],[98],[],[121,101,115]]
abbrev bHS:List Str:=[[],[110,111],[97,32,115,108,105,112]]
structure Rc(q r:Question):Prop where
 kind:r.kind=q.kind
 lk:r.lk=q.lk
 options:r.options=q.options
 cy:r.cy=q.cy
 key:r.key∈bIh
 points:0<=r.points/\r.points<=100
 len:r.dv.length=q.dv.length
 rea:∀s∈r.dv,s∈bHS
structure mu{α:Type}(P:α->α->Prop)(l r:List α):Prop where
 len:r.length=l.length
 rel:∀(k:Nat) a b,l[k]? = N1 a->r[k]? = N1 b->P a b
def mu.nil{α:Type}{P:α->α->Prop}:mu P [] []:=⟨rfl,λk a b h=>by simp at h⟩
def mu.snoc{α:Type}{P:α->α->Prop}{l r:List α}{a b:α}(h:mu P l r)(Pb:P a b):mu P (l++[a]) (r++[b]):=by
 refine⟨by simp[h.len],λk x y hx hy=>?_⟩;by_cases hk:k<l.length
 ·rw[BM hk]at hx;rw[BM (by rw[h.len];exact hk)]at hy;exact h.rel k x y hx hy
 rw[BU omT]at hx;rw[BU (by rw[h.len];omega),h.len]at hy;have h0:k - l.length=0:=by have:=(AH.1 hx).1;simpa using this
 rw[h0]at hx hy;cases hx;cases hy;exact Pb
structure Qf(x y:Item):Prop where
 name:y.name=x.name
 blocks:y.blocks=x.blocks
 facts:y.facts=x.facts
 ask:mu Rc x.ask y.ask
abbrev bGo:LN:=[2,4,5,8,11,70,76,85]
section
variable {A:af}{g:SN}
def bG3(jk:∀(l:List Int) (i m:Int) (H:LO),aG A (g "o") [.sl Po (l.map bF),vi i,vi m] H=N1 (vi (atZ l i m),H,[])){H:LO}{Q:bf->bN->LO->LN->Prop}{tg}{m:List Int}(hm:jP m) {o0 o1 o2 o3 o5 o6 o7:ah} {vq:Nat} {c0 c1 c2 c3 c4 c5:AV} {rs:List Str} (sy:rs.length<=16) {n:Nat} (hn:n<=100000) {ρ:bN} (e1:ρ 1=.sl Po (m.map bF)) (e6:ρ 6=vi n) (e11:ρ 11=.ptr (H.length+4) vq 0) (e12:ρ 12=.sl Pa []) (e13:ρ 13=vi 0) (hQ:∀ρ' o5 (r:List Str),(∀t,bDV.contains t=Po->ρ' t=ρ t)->r.length=rs.length->(∀s∈r,s∈bHS)->ew (H.length+5) 1 (r.map aN) (ρ' 12) o5 ->Q (.exit 4) ρ' (H++[o0,o1,o2,o3,.box vq [c0,c1,c2,c3,c4,c5,.sl Po (rs.map aN)],o5,o6,o7]) []):wl A 88 ⟨H.length,bGo⟩ (bDc g) ρ (H++[o0,o1,o2,o3,.box vq [c0,c1,c2,c3,c4,c5,.sl Po (rs.map aN)],o5,o6,o7]) [] Q tg:=by
 refine bJ (λj ρ1 H1 wr=>wr=[]/\ρ1 13=vi j/\∃o5,∃r:List Str,H1=H++[o0,o1,o2,o3,.box vq [c0,c1,c2,c3,c4,c5,.sl Po (rs.map aN)],o5,o6,o7]/\ew (H.length+5) 1 (r.map aN) (ρ1 12) o5/\r.length=j/\∀s∈r,s∈bHS) rs.length
  (λρ1 H1 wr=>wr=[]/\∃o5,∃r:List Str,H1=H++[o0,o1,o2,o3,.box vq [c0,c1,c2,c3,c4,c5,.sl Po (rs.map aN)],o5,o6,o7]/\ew (H.length+5) 1 (r.map aN) (ρ1 12) o5/\r.length=rs.length/\∀s∈r,s∈bHS)
  cB rfl ⟨rfl,e13,o5,[],rfl,by rw[e12];exact .nil _,rfl,siT⟩ ?_ (by
   rintro ρ' H' ba ⟨rfl,o5,r,rfl,hg,h1,h2⟩ hf;exact hQ ρ' o5 r hf h1 h2 hg)
 rintro j ρ1 H1 dc mo ⟨rfl,e13,o5,r,rfl,hg,gu,il⟩ hf;have f1:ρ1 1=.sl Po (m.map bF):=(hf 1 rfl).trans e1;have f6:ρ1 6=vi n:=(hf 6 rfl).trans e6;have f11:ρ1 11=.ptr (H.length+4) vq 0:=(hf 11 rfl).trans e11;simp only[go_sem,↓aB,seval,f11,e13,AF];refine aD (λhb=>?_) (λhb=>?_)
 ·have hlt:j<rs.length:=by simpa using hb
  have hw:AR.wrap ((n:Int)+(j:Int))=((n+j:Nat):Int):=by rw[wrap_i64 omT omT];omega
  have ha:=jk m ((n+j:Nat):Int) 3;obtain⟨a0,a1⟩:=aTj hm ((n+j:Nat):Int) (m:=3) deT;generalize atZ m ((n+j:Nat):Int) 3=a at *;obtain⟨s,hs,cx⟩:=aQl bHS a0 a1;simp only[DR,aN]at cx;obtain⟨v',o',eu,db⟩:=hg.app (new:=[[.str s]]) (bytes:=16) siT rfT (by rw[AF,gu];simp;omega);rw[show r.map aN++[[.str s]]=(r++[s]).map aN by simp[aN]]at eu;simp only[go_sem,↓aB,seval,f1,f6,e13,hw,ha,a0,cx,db];rw[dW omT];exact⟨hlt,rfl,o',r++[s],rfl,eu,by simp[gu],pS il hs⟩
 have hlt:j=rs.length:=by
  have:¬j<rs.length:=by simpa using hb
  omega
 subst hlt;simp only[go_sem,seval];exact⟨o5,r,rfl,hg,gu,il⟩
def bHA(jk:∀(l:List Int) (i m:Int) (H:LO),aG A (g "o") [.sl Po (l.map bF),vi i,vi m] H=N1 (vi (atZ l i m),H,[])){H:LO}{Q:bf->bN->LO->LN->Prop}{tg}{m:List Int}(hm:jP m) {o0 o1 o2 o4 o5 o6 o7:ah} {vt:Nat} {c0 c1 c2:AV} {l:List Question} (hl:l.length<=16) (hq:∀q∈l,q.Ok) {n:Nat} (hn:n<=10000) {ρ:bN} (e1:ρ 1=.sl Po (m.map bF)) (e6:ρ 6=vi n) (e8:ρ 8=.ptr (H.length+3) vt 0) (e9:ρ 9=.sl Pa []) (e10:ρ 10=vi 0) (hQ:∀ρ' o4 o5 o6 (r:List Question),(∀t,bDW.contains t=Po->ρ' t=ρ t)->mu Rc l r->ρ' 6=vi (n+2*l.length:Nat)->ew (H.length+6) 7 (r.map gR) (ρ' 9) o6 ->Q (.exit 2) ρ' (H++[o0,o1,o2,.box vt [c0,c1,c2,.sl Po (l.map gR)],o4,o5,o6,o7]) []):wl A 88 ⟨H.length,bGo⟩ (bDd g) ρ (H++[o0,o1,o2,.box vt [c0,c1,c2,.sl Po (l.map gR)],o4,o5,o6,o7]) [] Q tg:=by
 refine bJ (λj ρ1 H1 wr=>wr=[]/\ρ1 10=vi j/\ρ1 6=vi (n+2*j:Nat)/\∃o4 o5 o6,∃r:List Question,H1=H++[o0,o1,o2,.box vt [c0,c1,c2,.sl Po (l.map gR)],o4,o5,o6,o7]/\ew (H.length+6) 7 (r.map gR) (ρ1 9) o6/\mu Rc (l.take j) r) l.length
  (λρ1 H1 wr=>wr=[]/\ρ1 6=vi (n+2*l.length:Nat)/\∃o4 o5 o6,∃r:List Question,H1=H++[o0,o1,o2,.box vt [c0,c1,c2,.sl Po (l.map gR)],o4,o5,o6,o7]/\ew (H.length+6) 7 (r.map gR) (ρ1 9) o6/\mu Rc l r)
  cB rfl ⟨rfl,e10,e6,o4,o5,o6,[],rfl,by rw[e9];exact .nil _,mu.nil⟩ ?_ (by
   rintro ρ' H' ba ⟨rfl,h6,o4,o5,o6,r,rfl,hg,h1⟩ hf;exact hQ ρ' o4 o5 o6 r hf h1 h6 hg)
 rintro j ρ1 H1 dc mo ⟨rfl,e10,e6,o4,o5,o6,r,rfl,hg,Rr⟩ hf;have f1:ρ1 1=.sl Po (m.map bF):=(hf 1 rfl).trans e1;have f8:ρ1 8=.ptr (H.length+3) vt 0:=(hf 8 rfl).trans e8;simp only[go_sem,↓aB,seval,f8,e10,AF];refine aD (λhb=>?_) (λhb=>?_)
 ·have hlt:j<l.length:=by simpa using hb
  have Rn:=hq l[j] (AS hlt);have pk:l.take (j+1)=l.take j++[l[j]]:=EW hlt;have cj:(l.map gR)[j]? = N1 (gR l[j]):=getElem?_map_of hlt;have gu:r.length<=16:=by have:=Rr.len;simp at this;omega
  generalize l[j]=q at *;have dy:AR.wrap (((n+2*j:Nat):Int)+1)=((n+2*j+1:Nat):Int):=by rw[wrap_i64 omT omT];omega
  have gn:AR.wrap (((n+2*j:Nat):Int)+2)=((n+2*(j+1):Nat):Int):=by rw[wrap_i64 omT omT];omega
  have ha:=jk m ((n+2*j:Nat):Int) 5;obtain⟨a0,a1⟩:=aTj hm ((n+2*j:Nat):Int) (m:=5) deT;generalize atZ m ((n+2*j:Nat):Int) 5=a at *;obtain⟨key,Y2,cx⟩:=aQl bIh a0 a1;simp only[DR,aN]at cx;have du:=jk m ((n+2*j+1:Nat):Int) 101;obtain⟨b0,b1⟩:=aTj hm ((n+2*j+1:Nat):Int) (m:=101) deT;generalize atZ m ((n+2*j+1:Nat):Int) 101=b at *;simp only[go_sem,↓aB,seval,f1,f8,e6,e10,cj,hlt,gR,dy,ha,a0,cx,du];refine bG3 jk hm (rs:=q.dv) Rn.vw (n:=n+2*j) omT (by simp only[go_sem,seval,f1]) (by simp only[go_sem,seval,e6]) (by simp only[go_sem,seval]) (by simp only[go_sem,seval]) (by simp only[go_sem,seval]) ?_;intro ρ2 o5' rs cq h1 h2 qu;have g6:ρ2 6=vi (n+2*j:Nat):=by rw[cq 6 rfl];simp only[go_sem,seval,e6]
  have g9:ρ2 9=ρ1 9:=by rw[cq 9 rfl];simp only[go_sem,seval]
  have g10:ρ2 10=vi j:=by rw[cq 10 rfl];simp only[go_sem,seval,e10]
  have g11:ρ2 11=.ptr (H.length+4) (o4.ver+1) 0:=by rw[cq 11 rfl];simp only[go_sem,seval]
  obtain⟨r1,l1,o5'',qe,iq,yz⟩:=qu.dw (aC bO _);obtain⟨v',o',eu,db⟩:=hg.app (new:=[gR (Question.mk q.kind q.lk q.options q.cy key b rs)]) (bytes:=128) siT rfT (by simp only[AF,AW,AZ];omega);rw[show r.map gR++[gR (Question.mk q.kind q.lk q.options q.cy key b rs)]=(r++[(Question.mk q.kind q.lk q.options q.cy key b rs)]).map gR by simp]at eu;simp only[gR]at db;simp only[go_sem,↓aB,seval,g6,g9,g10,g11,qu.ak,qu.aj,qe,iq,yz,db,gn];rw[dW omT];refine⟨hlt,rfl,_,_,_,_,rfl,eu, ?_⟩;rw[pk];exact Rr.snoc ⟨rfl,rfl,rfl,rfl,Y2,⟨b0,by show b<=100;omega⟩,h1,h2⟩
 have hlt:j=l.length:=by
  have:¬j<l.length:=by simpa using hb
  omega
 subst hlt;rw[DM]at Rr;simp only[go_sem,seval];exact⟨e6,o4,o5,o6,r,rfl,hg,Rr⟩
def bFz(h:Has A g "aN" (bD7 g))(jk:∀(l:List Int) (i m:Int) (H:LO),aG A (g "o") [.sl Po (l.map bF),vi i,vi m] H=N1 (vi (atZ l i m),H,[]))(x:jm)(hx:x.Ok){m:List Int}(hm:jP m)(H:LO):∃y:jm,aG A (g "aN") [dE x,.sl Po (m.map bF)] H=N1 (dE y,H,[])/\y.title=x.title/\mu Qf x.items y.items:=by
 obtain⟨v,H',wr,e1,rfl,rfl,y,rfl,hy⟩:=h.bp (args:=[dE x,.sl Po (m.map bF)]) (H:=H) (K:=λv H' wr=>wr=[]/\H'=H/\∃y:jm,v=dE y/\y.title=x.title/\mu Qf x.items y.items) (by
  simp only[bD7];simp only[go_sem,↓aB,seval,dE,AD,AB,AA,AE];have hl:=hx.G8;have hq:=hx.items;generalize x.items=l at *;refine bJ (id:=0) (λj ρ1 H1 wr=>wr=[]/\ρ1 7=vi j/\(∃n:Nat,n<=32*j/\ρ1 6=vi n)/\∃o3 o4 o5 o6 o7 w,∃r:List Item,H1=H++[.box 1 [.str x.title,.sl Po (l.map aO)],.box 1 [.str [],.sl Pa []],.box 1 [.str x.title,w],o3,o4,o5,o6,o7]/\ew (H.length+7) 4 (r.map aO) w o7/\mu Qf (l.take j) r) l.length
   (λρ1 H1 wr=>wr=[]/\∃o3 o4 o5 o6 o7 w,∃r:List Item,H1=H++[.box 1 [.str x.title,.sl Po (l.map aO)],.box 1 [.str [],.sl Pa []],.box 1 [.str x.title,w],o3,o4,o5,o6,o7]/\ew (H.length+7) 4 (r.map aO) w o7/\mu Qf l r)
   cB rfl ⟨rfl,rfl,⟨0,AQ _,rfl⟩,_,_,_,_,.gone 0,.sl Pa [],[],rfl,.nil _,mu.nil⟩ ?_ ?_
  ·rintro j ρ1 H1 dc mo ⟨rfl,e7,⟨n,hn,e6⟩,o3,o4,o5,o6,o7,w,r,rfl,hg,Rr⟩ hf;have f1:ρ1 1=.sl Po (m.map bF):=by rw[hf 1 rfl];rfl
   have f2:ρ1 2=.ptr H.length 1 0:=by rw[hf 2 rfl];rfl
   have f5:ρ1 5=.ptr (H.length+2) 1 0:=by rw[hf 5 rfl];rfl
   simp only[go_sem,↓aB,seval,f2,e7,AF,AD,AB,AA,AE];refine aD (λhb=>?_) (λhb=>?_)
   ·have hlt:j<l.length:=by simpa using hb
    have kh:=hq l[j] (AS hlt);have pk:l.take (j+1)=l.take j++[l[j]]:=EW hlt;have cj:(l.map aO)[j]? = N1 (aO l[j]):=getElem?_map_of hlt;have gu:r.length<=16:=by have:=Rr.len;simp at this;omega
    generalize l[j]=it at *;simp only[go_sem,↓aB,seval,f2,e7,cj,hlt,aO,AD,AB,AA,AE];refine bHA jk hm (l:=it.ask) kh.tj kh.ask (n:=n) omT (by simp only[go_sem,seval,f1]) (by simp only[go_sem,seval,e6]) (by simp only[go_sem,seval]) (by simp only[go_sem,seval]) (by simp only[go_sem,seval]) ?_;intro ρ2 p4 p5 p6 qs cq h1 h6 qu;have g5:ρ2 5=.ptr (H.length+2) 1 0:=by rw[cq 5 rfl];simp only[go_sem,seval,f5]
    have g7:ρ2 7=vi j:=by rw[cq 7 rfl];simp only[go_sem,seval,e7]
    have g8:ρ2 8=.ptr (H.length+3) (o3.ver+1) 0:=by rw[cq 8 rfl];simp only[go_sem,seval]
    have Tj:=kh.tj;obtain⟨r1,l1,o5'',qe,iq,yz⟩:=qu.dw (aC aBI _);obtain⟨v',o',eu,db⟩:=hg.app (new:=[aO (Item.mk it.name it.blocks it.facts qs)]) (bytes:=88) siT rfT (by simp only[AF,AW,AZ];omega);rw[show r.map aO++[aO (Item.mk it.name it.blocks it.facts qs)]=(r++[Item.mk it.name it.blocks it.facts qs]).map aO by simp]at eu;simp only[aO]at db;simp only[go_sem,↓aB,seval,g5,g7,g8,qu.ak,qu.aj,qe,iq,yz,db,eu.ak,eu.aj,AD,AB,AA,AE];rw[dW omT];refine⟨hlt,rfl,⟨_, ?_,h6⟩,_,_,_,_,_,_,_,rfl,eu, ?_⟩
    ·omega
    rw[pk];exact Rr.snoc ⟨rfl,rfl,rfl,h1⟩
   have hlt:j=l.length:=by
    have:¬j<l.length:=by simpa using hb
    omega
   subst hlt;rw[DM]at Rr;simp only[go_sem,seval];exact⟨o3,o4,o5,o6,o7,w,r,rfl,hg,Rr⟩
  rintro ρ' H' ba ⟨rfl,o3,o4,o5,o6,o7,w,r,rfl,hg,Rr⟩ hf;have f4:ρ' 4=.ptr (H.length+1) 1 0:=by rw[hf 4 rfl];rfl
  have f5:ρ' 5=.ptr (H.length+2) 1 0:=by rw[hf 5 rfl];rfl
  obtain⟨r1,l1,o5'',qe,iq,yz⟩:=hg.dw (aC dV _);simp only[go_sem,↓aB,seval,f4,f5,hg.ak,qe,iq,yz,aA (aC dV _),AD,AB,AA,AE];exact⟨jm.mk x.title r,rfl,rfl,Rr⟩)
 exact⟨y,e1,hy⟩
end
def mu.mem{α:Type}{P:α->α->Prop}{l r:List α}(h:mu P l r){b:α}(hb:b∈r):∃a∈l,P a b:=by
 obtain⟨k,hk⟩:=List.getElem?_of_mem hb;have zp:k<l.length:=by rw[<- h.len];exact (AH.1 hk).1
 exact⟨l[k],AS zp,h.rel k _ _ (AP zp) hk⟩
def mu.mono{α:Type}{P Q:α->α->Prop}{l r:List α}(h:mu P l r)(p0:∀a∈l,∀b,P a b->Q a b):mu Q l r:=⟨h.len,λk a b h1 h2=>p0 a (AN h1) b (h.rel k a b h1 h2)⟩
def mu.map{α:Type}{P:α->α->Prop}{l:List α}{f:α->α}(h:∀a∈l,P a (f a)):mu P l (l.map f):=⟨siT,λk a b h1 h2=>by
 rw[BN,h1]at h2;cases h2;exact h a (AN h1)⟩
def mu.Rs{α β:Type}{P:α->α->Prop}{l r:List α}(h:mu P l r){f:α->β}(hf:∀a∈l,∀b∈r,P a b->f b=f a):r.map f=l.map f:=by
 refine List.ext_getElem? λk=>?_;rw[BN,BN];by_cases hk:k<l.length
 ·have z8:k<r.length:=by rw[h.len];exact hk
  rw[AP hk,AP z8];exact congrArg N1 (hf _ (AS hk) _ (AS z8) (h.rel k _ _ (AP hk) (AP z8)))
 have h1:=h.len;rw[CY omT,CY omT]
structure OQ(q r:Question):Prop where
 kind:r.kind=q.kind
 lk:r.lk=q.lk
 options:r.options=q.options
 cy:r.cy=q.cy
 right:aWp r=Pa
 ok:r.Ok
structure OI(x y:Item):Prop where
 name:y.name=x.name
 blocks:y.blocks=x.blocks
 facts:y.facts=x.facts
 ask:mu OQ x.ask y.ask
structure OX(x y:jm):Prop where
 title:y.title=x.title
 items:mu OI x.items y.items
def bHk{m:Nat}{q r:Question}(h:jt m q)(hm:m<=6)(hk:r.kind=q.kind)(hs:r.lk=q.lk)(ho:r.options=q.options)(hn:r.cy=q.cy)(hl:r.dv.length=q.dv.length)(hr:∀s∈r.dv,vP 0 60 s=Pa)(hy:vP 0 40 r.key=Pa)(hp:0<=r.points/\r.points<=100):OQ q r:=by
 have h0:=h.right omT;have h1:=h.ok omT;refine⟨hk,hs,ho,hn, ?_, ?_⟩
 ·unfold aWp at h0 ⊢;rw[hk,hs,ho,hn,hl,hy];simp only[AI,AO,eG]at h0 ⊢;exact⟨⟨⟨⟨h0.1.1.1.1,h0.1.1.1.2.1,hr⟩,h0.1.1.2⟩,trivial⟩,hp⟩
 have Cm:r.key.length<=40:=by unfold vP at hy;simp only[AI,eG]at hy;omega
 exact⟨by rw[hk];exact h1.kind,by rw[hs];exact h1.fg,by rw[hs];exact h1.lk,by rw[ho];exact h1.Q3,by rw[ho];exact h1.options,by rw[hn];exact h1.Q4,by rw[hn];exact h1.cy,by show r.key.length<=1000;omega,by unfold eA;omega,by rw[hl];exact h1.vw,λs hs=>by
  have:=hr s hs;unfold vP at this;simp only[AI,eG]at this;show s.length<=1000;omega⟩
def bGp{x y:jm}(hx:R2 x)(ht:y.title=x.title)(h:mu Qf x.items y.items):OX x y:=⟨ht,h.mono λa ha b Pb=>⟨Pb.name,Pb.blocks,Pb.facts,Pb.ask.mono λq hq r Rh=>by
  have hi:=hx.item a ha;exact bHk (hi.ask q hq) hi.B1 Rh.kind Rh.lk Rh.options Rh.cy Rh.len (λs hs=>(by decide:∀s∈bHS,vP 0 60 s=Pa) s (Rh.rea s hs)) ((by decide:∀s∈bIh,vP 0 40 s=Pa) _ Rh.key) Rh.points⟩⟩
def bG4{x:jm}(hx:R2 x):OX x (bD5 x):=⟨rfl,mu.map λa ha=>⟨rfl,rfl,rfl,mu.map λq hq=>by
  have hi:=hx.item a ha;have hk:=(hi.ask q hq).kind;refine bHk (hi.ask q hq) hi.B1 rfl rfl rfl rfl (by simp[bEe]) (λs hs=>?_) ?_ ⟨by show (0:Int)<=0;decide,by show (0:Int)<=100;decide⟩
  ·have hs:s∈List.replicate q.dv.length ([]:Str):=hs;rw[(List.mem_replicate.1 hs).2];decide
  have Ly:q.kind=0∨q.kind=1∨q.kind=2:=omT;show vP 0 40 (bDC q.kind)=Pa;rcases Ly with e | e | e<;>rw[e]<;>decide⟩⟩
section
variable {E:Int->Int->List Shape->Int}{x y:jm}
def bGq{a b:Item}(h:b.blocks=a.blocks){f:Fact}(ht:Told E a f):Told E b f:=⟨ht.b0,by rw[h];exact ht.b1,by rw[h];exact ht.right⟩
def OX.right(hE:∀s,bGI s->E 60 50 s=0)(hx:R2 x)(h:OX x y):y6 (Told E) y:=by
 have hk:=hx.ok;have hB:=hx.right;have iv:∀i∈y.items,i.Ok/\aGU i=true:=λi hi=>by
  obtain⟨a,ha,Pb⟩:=h.items.mem hi;have Sz:=hk.items a ha;have Tm:aGU a=true:=(hx.item a ha).right;refine⟨⟨by rw[Pb.name];exact Sz.name,by rw[Pb.blocks];exact Sz.zq,by rw[Pb.blocks];exact Sz.blocks,by rw[Pb.facts];exact Sz.B1,by rw[Pb.facts];exact Sz.facts,by rw[Pb.ask.len];exact Sz.tj,λq hq=>?_⟩, ?_⟩
  ·obtain⟨p,_,p0⟩:=Pb.ask.mem hq;exact p0.ok
  unfold aGU at Tm ⊢;rw[Pb.name,Pb.blocks,Pb.facts,Pb.ask.len];simp only[AI,AO]at Tm ⊢;exact⟨Tm.1,Tm.2.1,λq hq=>by obtain⟨p,_,p0⟩:=Pb.ask.mem hq;exact p0.right⟩
 refine⟨⟨by rw[h.title];exact hk.title,by rw[h.items.len];exact hk.G8,λi hi=>(iv i hi).1⟩, ?_,λi hi f hf=>?_⟩
 ·unfold bDt at hB ⊢;rw[h.title,h.items.len];simp only[AI,AO]at hB ⊢;exact⟨hB.1,hB.2.1,λi hi=>(iv i hi).2⟩
 obtain⟨a,ha,Pb⟩:=h.items.mem hi;rw[Pb.facts]at hf;exact bGq Pb.blocks ((hx.item a ha).told hE hf)
def bGr{k:Int}{q r:Question}(h:OQ q r):bEX k r=bEX k q:=by unfold bEX;rw[h.kind,h.lk,h.options]
def bG5{k:Int}{a b:Item}(h:OI a b)(F:List Str):bEz k b F=bEz k a F:=by unfold bEz;rw[h.name,h.blocks,Bz,Bz,h.ask.Rs λq _ r _ Rh=>bGr Rh]
def OX.Sm(h:OX x y)(R:List (List Str)):bCG y R=bCG x R:=by
 unfold bCG bEf;rw[h.title,h.items.len];congr 1;rw[Bz,Bz];refine congrArg List.flatten (C5 λk hk=>?_);have hk:=HE.1 hk;have z8:k<y.items.length:=by rw[h.items.len];exact hk
 rw[AP hk,AP z8];have:=h.items.rel k _ _ (AP hk) (AP z8);cases R[k]? with
 |none=>rfl
 |some F=>exact bG5 this F
def OX.facts{V:Item->Fact->Str}(hV:∀a b:Item,a.Ok->b.Ok->a.blocks=b.blocks->∀f,Told E a f->Told E b f->V a f=V b f)(hE:∀s,bGI s->E 60 50 s=0)(hx:R2 x)(h:OX x y):bCF V y=bCF V x:=by unfold bCF;have hy:=h.right hE hx;refine h.items.Rs λa ha b hb Pb=>?_;rw[Pb.facts];refine C5 λf hf=>?_;exact hV b a (hy.ok.items b hb) (hx.ok.items a ha) Pb.blocks f (hy.told b hb f (by rw[Pb.facts];exact hf)) ((hx.item a ha).told hE hf)
end
def bCM(g:SN):bw:=⟨100,[5,6],[.tmp 4],qS [qmc 4 (.bool Po)]<|qS [qm 17 0,qc 18 (g "av") [u 17],qq 5 (.alloc [(.str []),(.sl Pa [])]),qs 2 5 18]<|qS [qla 19 2 5,qm 20 1,qc 21 (g "aN") [u 19,u 20],qq 6 (.alloc [(.str []),(.sl Pa [])]),qs 2 6 21]<|qS [qla 23 2 5,qc 24 (g "P") [u 23],qm 22 24,qq 25 (.ext 0 (u 22)),qq 26 (.ext 1 (u 22)),qm 7 25,qm 8 26]<|qS [qla 28 2 6,qc 29 (g "P") [u 28],qm 27 29,qq 30 (.ext 0 (u 27)),qq 31 (.ext 1 (u 27)),qm 9 30,qm 10 31]<|qS [qla 33 2 5,qc 34 (g "aw") [u 33],qc 35 (g "P") [u 34],qm 32 35,qq 36 (.ext 0 (u 32)),qq 37 (.ext 1 (u 32)),qm 11 36,qm 12 37]<|qS [qla 39 2 5,qc 40 (g "I") [u 39],qm 38 40,qq 41 (.ext 0 (u 38)),qq 42 (.ext 1 (u 38)),qm 13 41,qm 14 42]<|qS [qla 44 2 6,qc 45 (g "I") [u 44],qm 43 45,qq 46 (.ext 0 (u 43)),qq 47 (.ext 1 (u 43)),qm 15 46,qm 16 47]<|.seq (qS [qm 48 12,qbi 49 .eql 48 4]<|qC 49 (qS [qc 50 (g "ad") [],qm 4 50]<|.ret) (.skip))<|.seq (qS [qm 51 8,qbi 52 .neq 51 0,qm 53 52,qF 54 53 (om 12),qF 55 53 (obi .neq 54 0),qq 56 (.pick (u 53) uT (u 55)),qm 57 56,qF 58 57 (om 14),qF 59 57 (obi .neq 58 0),qq 60 (.pick (u 57) uT (u 59))]<|qC 60 (qS [qmc 4 (.bool Po)]<|.ret) (.skip))<|.seq (qS [qm 61 10,qbi 62 .neq 61 0,qm 63 62,qF 64 63 (om 16),qF 65 63 (obi .neq 64 0),qq 66 (.pick (u 63) uT (u 65))]<|qC 66 (qS [qm 67 10,qm 68 16,qb 69 .eql 67 68,qm 70 69,qT 71 70 (om 10),qT 72 70 (obi .eql 71 4),qp 73 70 72,qm 74 73,qT 75 74 (oc (g "ad") []),qp 76 74 75,qm 4 76]<|.ret) (.skip))<|qS [qm 77 7,qm 78 9,qc 79 (g "ae") [u 77,u 78],qm 80 79,qT 81 80 (om 7),qT 82 80 (om 11),qT 83 80 (oc (g "ae") [u 81,u 82]),qp 84 80 83,qm 85 84,qT 86 85 (om 13),qT 87 85 (om 15),qT 88 85 (oc (g "aM") [u 86,u 87]),qp 89 85 88,qm 90 89,qT 91 90 (om 7),qT 92 90 (oc (g "af") [u 91]),qT 93 90 (om 9),qT 94 90 (oc (g "af") [u 93]),qT 95 90 (.bin .eql (.cells [.int,.int,.int]) (u 92) (u 94)),qp 96 90 95,qm 97 96,qT 98 97 (oc (g "ad") []),qp 99 97 98,qm 4 99]<|.ret⟩
def bGU(ps:List bEi):(bCV ps).1.length<=ps.length:=by
 have:∀(ps:List bEi) (a:List LA×Nat×Nat),(ps.foldl bDA a).1.length<=a.1.length+ps.length:=by
  intro ps
  induction ps with
  |nil=>exact λa=>AQ _
  |cons p ps ih=>
   intro a;refine Nat.le_trans (ih _) ?_;have:(bDA a p).1.length<=a.1.length+1:=by
    unfold bDA;simp only;split
    ·omega
    simp
   simp only[AW];omega
 have h:=this ps ([],0,0);rw[AZ,BC]at h;exact h
def bG6{l:List Str}:(cI l).length<=l.length/\∀r∈cI l,r.length<=l.length:=by refine⟨by rw[bEC];omega,λr hr=>?_⟩;have h:=bFm l;obtain⟨a,b,e⟩:=List.append_of_mem hr;rw[e]at h;have:=congrArg FN h;simp at this;omega
section
variable {A:af}{g:SN}{V:Item->Fact->Str}{W:jm->Int}{E:Int->Int->List Shape->Int}
structure Sg(A:af)(g:SN)(V:Item->Fact->Str)(W:jm->Int)(E:Int->Int->List Shape->Int):Prop where
 J3:∀{l:List Int},jP l->∀H,∃x:jm,aG A (g "av") [.sl Po (l.map bF)] H=N1 (dE x,H,[])/\R2 x
 fig:∀s,bGI s->E 60 50 s=0
 ren:Pu A g V (Told E) W
 same:∀a b:Item,a.Ok->b.Ok->a.blocks=b.blocks->∀f,Told E a f->Told E b f->V a f=V b f
 map:Has A g "I" (bDD g)
 Ru:Has A g "C" (bD4 g)
 Sh:∀(x:jm),x.Ok->∀{m:List Int},jP m->∀H,∃y:jm,aG A (g "aN") [dE x,.sl Po (m.map bF)] H=N1 (dE y,H,[])/\y.title=x.title/\mu Qf x.items y.items
 erase:∀(x:jm),x.Ok->∀H,aG A (g "aw") [dE x] H=N1 (dE (bD5 x),H,[])
 Re:Has A g "X" (cN g)
 Qi:Has A g "ae" (bCJ g)
 Qj:Has A g "aM" (bCH g)
 size:Has A g "af" (bE5 g)
 law:Has A g "bk" (bCM g)
 wu:∀H,aG A (g "ad") [] H=N1 (.bool Pa,H,[])
def bEA(S:Sg A g V W E){l m:List Int}(hl:jP l)(hm:jP m)(H:LO):aG A (g "bk") [.sl Po (l.map bF),.sl Po (m.map bF)] H=N1 (.bool Pa,H,[]):=by
 refine S.law.call ?_;obtain⟨x,lz,hx⟩:=S.J3 hl (H++[.gone 0,.gone 0]);obtain⟨y,tc,Cm,Vt⟩:=S.Sh x hx.ok hm (H++[.box 1 [.str x.title,.sl Po (x.items.map aO)],.gone 0]);have oy:=bGp hx Cm Vt;have oz:=bG4 hx;have xr:y6 (Told E) x:=⟨hx.ok,hx.right,λit M5 f hf=>(hx.item it M5).told S.fig hf⟩;have yr:=oy.right S.fig hx;have zr:=oz.right S.fig hx;have rr:=λH=>S.erase x hx.ok H;have wx:=(S.ren.valid x hx.ok).2.2 hx;have wy:=(S.ren.valid y yr.ok).2.1 yr.right;have wz:=(S.ren.valid _ zr.ok).2.1 zr.right;have px:=λH=>(bE3 S.ren xr wx H).1;have hb:=(bE3 S.ren xr wx []).2;have mx:=λH=>bHj S.ren S.map S.Ru xr wx H;have fy:=oy.facts S.same S.fig hx;have fz:=oz.facts S.same S.fig hx;have py:=λ(h:W y=0) H=>(bE3 S.ren yr h H).1;have my:=λ(h:W y=0) H=>bHj S.ren S.map S.Ru yr h H;have pz:=λ(h:W (bD5 x)=0) H=>(bE3 S.ren zr h H).1;rw[fy,oy.Sm]at py my;rw[fz,oz.Sm]at pz;have E4:=λH=>S.wu H;obtain⟨c1,c2⟩:=bG6 (l:=bCQ (bCG x (bCF V x)));have e1:=λH=>bFw S.Re S.Qi (cI (bCQ (bCG x (bCF V x)))) omT (λr hr=>by have:=c2 r hr;omega) H;have Qk:(bCG x (bCF V x)).length<=100000:=by have h4:=bEs hx.ok.items (R:=bCF V x) (λr hr=>((bEb (F:=S.ren.val) xr).2 r hr).1) x.items.length;have h5:=hx.G8;have h6:(bCG x (bCF V x)).length=(bEf x.items (bCF V x) x.items.length).length+1:=rfl;omega
 have e2:=λH=>bFx S.Qj (bCV (bCG x (bCF V x))).1 (by have:=bGU (bCG x (bCF V x));omega) (bGT _) H;have e3:=λH=>bFy S.size (cI (bCQ (bCG x (bCF V x)))) omT (λr hr=>by have:=c2 r hr;omega) H;generalize (bCV (bCG x (bCF V x))).1=M at *;generalize cI (bCQ (bCG x (bCF V x)))=C at *;generalize szB C=s1 at *;generalize szC C=s2 at *;have e4:kJ .eql (.cells [.int,.int,.int]) (.agg [vi C.length,vi s1,vi s2]) (.agg [vi C.length,vi s1,vi s2])=N1 (.bool Pa):=by simp[kJ,tN,lP,aCO]
 have ry:=λ(h:W y≠0) H=>bEH S.ren yr h H;have ny:=λ(h:W y≠0) H=>bHz S.ren S.map yr h H;have rz:=λ(h:W (bD5 x)≠0) H=>bEH S.ren zr h H;generalize bD5 x=z at *;simp only[bCM];rcases wz with wz | wz
 ·have pz:=pz wz;rcases wy with wy | wy
  ·have py:=py wy;have my:=my wy;simp only[dE]at lz tc rr px mx py my pz;simp only[go_sem,↓aB,seval,lz,tc,rr,px,py,pz,mx,my,e1,e2,e3,e4,E4,AD,AB,AA,AE]
  have py:=ry omT;have my:=ny omT;rw[wy]at py my;simp only[dE]at lz tc rr px mx py my pz;simp only[go_sem,↓aB,seval,lz,tc,rr,px,py,pz,mx,my,E4,AD,AB,AA,AE]
 have pz:=rz omT;rw[wz]at pz;rcases wy with wy | wy
 ·have py:=py wy;have my:=my wy;simp only[dE]at lz tc rr px mx py my pz;simp only[go_sem,↓aB,seval,lz,tc,rr,px,py,pz,mx,my,E4,AD,AB,AA,AE]
 have py:=ry omT;have my:=ny omT;rw[wy]at py my;simp only[dE]at lz tc rr px mx py my pz;simp only[go_sem,↓aB,seval,lz,tc,rr,px,py,pz,mx,my,E4,AD,AB,AA,AE]
end
def aSy{A:af}{g:SN}(h:Has A g "L" (rR g)){x y w hh:Int}(hx:0<=x/\x<=1000)(hy:0<=y/\y<=1000)(hw:0<=w/\w<=1000)(ft:0<=hh/\hh<=1000)(H:LO):aG A (g "L") [vi x,vi y,vi w,vi hh] H=N1 (.sl Po ([(x,y),(x+w,y),(x+w,y+hh),(x,y+hh)].map bL),H,[]):=by have h1:AR.wrap (x+w)=x+w:=wrap_i64 omT omT;have h2:AR.wrap (y+hh)=y+hh:=wrap_i64 omT omT;refine h.call ?_;simp only[rR];simp only[go_sem,seval,h1,h2,bL]
def aOz{A:af}{g:SN}(h:Has A g "az" (fD g))(ht:fR A g) (V6:∀{x y w hh:Int},(0<=x/\x<=1000)->(0<=y/\y<=1000)->(0<=w/\w<=1000)->(0<=hh/\hh<=1000)->∀H,aG A (g "L") [vi x,vi y,vi w,vi hh] H=N1 (.sl Po ((P4 x y w hh).map bL),H,[])):dI A (g "az") [] aNr:=by
 refine h.gen (by simp[fD]) (λn=>cB) ?_;intro l i o v H hl hlt ho;have bl:∀k,(H.length+k==o)=false:=λk=>by simp;omega
 simp only[fD];simp only[go_sem,seval];refine aY (aq:=kW) rfT rfT ?_;simp only[go_sem,seval,kW];refine eB (bA ht (m:=4) deT) hl (i:=i) (by simp only[go_sem,seval,eK,hlt,ho]) ?_;rintro val i1 ⟨x1,rfl,jr,lz⟩;have w1:AR.wrap (24+x1)=24+x1:=wrap_i64 omT omT;simp only[go_sem,seval,hlt,fN,w1];refine eB (bA ht (m:=9) deT) hl (i:=i1) (by simp only[go_sem,seval,aP,hlt]) ?_;rintro val i2 ⟨x2,rfl,C9,Jj⟩;have w2:AR.wrap (30+x2)=30+x2:=wrap_i64 omT omT;have fo:=λH=>V6 (x:=2) (y:=2) (w:=24+x1) (hh:=30+x2) deT deT omT omT H;simp only[go_sem,seval,hlt,aR,w2,fo,bP,eH,dG,bl,aL];refine bB (bA ht (m:=3) deT) hl (i:=i2) (by simp only[go_sem,seval,aP,hlt]) ?_;rintro val i3 ⟨x3,rfl,Pd,Pe⟩;simp only[go_sem,seval,hlt,aR];have s1:Shape.mk 2 (P4 2 2 (24+x1) (30+x2))∈bE7:=CZ _ (bEo (f:=λx y=>⟨2,P4 2 2 (24+x) (30+y)⟩) jr lz C9 Jj);have S1:bHs [Shape.mk 2 (P4 2 2 (24+x1) (30+x2))]:=⟨λa ha=>by rw[CG.1 ha];exact s1,_,_,rfl,rfl⟩;refine xX (W:=[23,24,25,26,27,28,29,30,31,32,33,34,35,36]) (λ_ H1 wr=>wr=[o]/\∃i' o5,∃S:List Shape,1<=S.length/\S.length<=2/\bHs S /\
  H1=H.set o (.box v (aM l i'))++[.gone 0,.gone 0,.box 1 [vi 0,vi 0,.sl Pa []],.box 1 [vi 60,vi 50,.sr (H.length+4) 1 S.length],.vec 1 2 (S.map aH),o5,.gone 0,.gone 0,.gone 0]) rfT (λhb=>?_) (λhb=>?_) ?_
 ·refine aY (aq:=kX) rfT rfT ?_;simp only[go_sem,seval,kX];refine eB (bA ht (m:=5) deT) hl (i:=i3) (by simp only[go_sem,seval,aP,hlt]) ?_;rintro val i4 ⟨x4,rfl,Pf,Pg⟩;have w4:AR.wrap (10+x4)=10+x4:=wrap_i64 omT omT;simp only[go_sem,seval,hlt,aR,w4];refine eB (bA ht (m:=8) deT) hl (i:=i4) (by simp only[go_sem,seval,aP,hlt]) ?_;rintro val i5 ⟨x5,rfl,Ph,Pj⟩;have w5:AR.wrap (12+x5)=12+x5:=wrap_i64 omT omT;simp only[go_sem,seval,hlt,aR,w5,bP,eH,dG,bl,aL];exact⟨i5,_,[Shape.mk 2 (P4 2 2 (24+x1) (30+x2)),Shape.mk 0 [(10+x4,12+x5)]],siT,siT,S1.app (CX _ (CZ _ (bEo (f:=λx y=>⟨0,[(10+x,12+y)]⟩) Pf Pg Ph Pj))),rfl⟩
 ·simp only[go_sem,seval];exact⟨i3,_,[Shape.mk 2 (P4 2 2 (24+x1) (30+x2))],siT,siT,S1,rfl⟩
 rintro ρ2 H2 en ⟨rfl,i6,o5,S,Pk,Pl,Jk,rfl⟩ cq;have g0:ρ2 0=.ptr o v 0:=by rw[cq 0 rfl];simp only[go_sem,seval]
 have g2:ρ2 2=.ptr (H.length+2) 1 0:=by rw[cq 2 rfl];simp only[go_sem,seval]
 have g3:ρ2 3=.ptr (H.length+3) 1 0:=by rw[cq 3 rfl];simp only[go_sem,seval]
 have g94:ρ2 94=.undef:=by rw[cq 94 rfl];simp only[go_sem,seval]
 simp only[go_sem,seval,g0];refine bB (bA ht (m:=4) deT) hl (i:=i6) (by simp only[go_sem,seval,aP,hlt]) ?_;rintro val i7 ⟨x6,rfl,Mw,Mx⟩;have w6:AR.wrap (36+x6)=36+x6:=wrap_i64 omT omT;simp only[go_sem,seval,hlt,aR,w6];refine bB (bA ht (m:=2) deT) hl (i:=i7) (by simp only[go_sem,seval,aP,hlt]) ?_;rintro val i8 ⟨x7,rfl,My,Mz⟩;simp only[go_sem,seval,hlt,aR];have vg:∀(a:Shape) (S:List Shape),S.map aH++[[vi a.kind,.sl Po (a.points.map bL)]]=(S++[a]).map aH:=λa S=>by simp[aH]
 refine xX (W:=[43,44,45,46,47,48,49,50,51,52,53,54,55,56,57,58,59,60,61,62,63,64,65,66,67,68,69,70]) (λ_ H1 wr=>wr=[o]/\∃i' o5 o6 o7,∃S:List Shape,2<=S.length/\S.length<=3/\bHs S /\
  H1=H.set o (.box v (aM l i'))++[.gone 0,.gone 0,.box 1 [vi 0,vi 0,.sl Pa []],.box 1 [vi 60,vi 50,.sr (H.length+4) 1 S.length],.vec 1 2 (S.map aH),o5,o6,o7,.gone 0]) rfT (λhb=>?_) (λhb=>?_) ?_
 ·refine aY (aq:=kY) rfT rfT ?_;have w7:AR.wrap (36+x6+8)=36+x6+8:=wrap_i64 omT omT;simp only[go_sem,seval,kY,g0,g3,w7];refine eB (bA ht (m:=6) deT) hl (i:=i8) (by simp only[go_sem,seval,aP,hlt]) ?_;rintro val i9 ⟨x8,rfl,Hd,He⟩;have w8:AR.wrap (10+x8)=10+x8:=wrap_i64 omT omT;have hr:bP (S.length+1) 32=true:=by unfold bP;simp;omega
  have N0:=vg ⟨1,[(36+x6,4),(36+x6+8,10+x8),(36+x6,30)]⟩ S;simp only[DR,bL]at N0;simp only[go_sem,seval,hlt,aR,w8,hr,N0,eH,dG,bl,aL];exact⟨i9,_,_,_,S++[⟨1,[(36+x6,4),(36+x6+8,10+x8),(36+x6,30)]⟩],soT,soT,Jk.app (CX _ (CX _ (CZ _ (bEo (f:=λx y=>⟨1,[(36+x,4),(36+x+8,10+y),(36+x,30)]⟩) Mw Mx Hd He)))),by simp only[BA,AW,AZ,BC];rfl⟩
 ·refine aY (aq:=kZ) rfT rfT ?_;simp only[go_sem,seval,kZ,g0,g3];refine eB (bA ht (m:=12) deT) hl (i:=i8) (by simp only[go_sem,seval,aP,hlt]) ?_;rintro val i9 ⟨x8,rfl,Hd,He⟩;have w8:AR.wrap (12+x8)=12+x8:=wrap_i64 omT omT;have hr:bP (S.length+1) 32=true:=by unfold bP;simp;omega
  have dp:=λH=>V6 (x:=36+x6) (y:=5) (w:=10) (hh:=12+x8) omT deT deT omT H;have N0:=vg ⟨2,P4 (36+x6) 5 10 (12+x8)⟩ S;simp only[DR]at N0 dp;simp only[go_sem,seval,hlt,aR,w8,dp,hr,N0,eH,dG,bl,aL];exact⟨i9,_,_,_,S++[⟨2,P4 (36+x6) 5 10 (12+x8)⟩],soT,soT,Jk.app (CX _ (CX _ (CX _ (CZ _ (bEo (f:=λx y=>⟨2,P4 (36+x) 5 10 (12+y)⟩) Mw Mx Hd He))))),by simp only[BA,AW,AZ,BC];rfl⟩
 rintro ρ3 H3 wr3 ⟨rfl,i9,o5',o6,o7,T,Na,Pm,Jl,rfl⟩ im;have e0:ρ3 0=.ptr o v 0:=by rw[im 0 rfl];simp only[go_sem,seval,g0]
 have e2:ρ3 2=.ptr (H.length+2) 1 0:=by rw[im 2 rfl];simp only[go_sem,seval,g2]
 have e3:ρ3 3=.ptr (H.length+3) 1 0:=by rw[im 3 rfl];simp only[go_sem,seval,g3]
 have e94:ρ3 94=.undef:=by rw[im 94 rfl];simp only[go_sem,seval,g94]
 clear cq im;simp only[go_sem,seval,e0];refine bB (bA ht (m:=3) deT) hl (i:=i9) (by simp only[go_sem,seval,aP,hlt]) ?_;rintro val i10 ⟨x9,rfl,Nb,Nc⟩;simp only[go_sem,seval,hlt,aR];refine aD (λhb=>?_) (λhb=>?_)
 ·simp only[go_sem,seval];refine aY (aq:=lA) rfT rfT ?_;simp only[go_sem,seval,lA,e0,e3];refine eB (bA ht (m:=20) deT) hl (i:=i10) (by simp only[go_sem,seval,aP,hlt]) ?_;rintro val i11 ⟨x10,rfl,Nd,Nf⟩;have w10:AR.wrap (36+x10)=36+x10:=wrap_i64 omT omT;have hr:bP (T.length+1) 32=true:=by unfold bP;simp;omega
  simp only[go_sem,seval,e3,hlt,aR,w10,hr,eH,dG,bl,aL];have w11:AR.wrap (((T.length+1:Nat):Int) - 1)=(T.length:Int):=by rw[wrap_i64 omT omT];omega
  have l8:(T.map aH++[[AV.int AR 1,AV.sr H.length 1 2]])[T.length]? = N1 [AV.int AR 1,AV.sr H.length 1 2]:=siT;rw[w11];refine aY (aq:=lB) rfT rfT ?_;have w12:AR.wrap (36+x10+3)=36+x10+3:=wrap_i64 omT omT;have lg:∀x y,(T.map aH++[x]).set T.length y=T.map aH++[y]:=λx y=>by simp
  have N0:=vg ⟨1,[(36,44),(36+x10+3,44)]⟩ T;simp only[DR,bL]at N0;have ax:(T++[Shape.mk 1 [(36,44),(36+x10+3,44)]]).length=T.length+1:=siT;simp only[go_sem,seval,lB,e2,e3,l8,AT,w12,lg,N0,hlt,ax,AF,aT (aC bW (T++[Shape.mk 1 [(36,44),(36+x10+3,44)]])),aW,aA (aC bW _),aA (aC aU _)];exact⟨⟨i11,rfl⟩,T++[Shape.mk 1 [(36,44),(36+x10+3,44)]],rfl,soT,Jl.app (CX _ (CX _ (CX _ (CX _ (bEo (y:=0) (f:=λx y=>⟨1,[(36,44),(36+x+3,44)]⟩) Nd Nf deT deT)))))⟩
 simp only[go_sem,seval,e3,e94,e2,hlt,aT (aC bW T),aW,aA (aC bW _),aA (aC aU _)];exact⟨⟨i10,rfl⟩,T,rfl,⟨Na,omT⟩,Jl⟩
structure Qw(A:af)(g:SN):Prop where
 J3:Has A g "av" (pM g)
 bu:Has A g "bl" (nP g)
 J6:Has A g "K" (mV g)
 take:Has A g "a" (kC g)
 block:Has A g "Y" (fT g)
 fact:Has A g "N" (gF g)
 has:Has A g "z" (rI g)
 jd:Has A g "Z" (eT g)
 at':Has A g "o" (oQ g)
 runs:Has A g "O" (gB g)
 expr:Has A g "ay" (gE g)
 sum:Has A g "aD" (gQ g)
 cd:Has A g "aA" (gC g)
 ye:Has A g "az" (fD g)
 yb:Has A g "aC" (fE g)
 lines:Has A g "aB" (fS g)
 phrase:Has A g "j" (fC g)
 term:Has A g "n" (gD g)
 box:Has A g "L" (rR g)
 arity:Has A g "aE" (oI g)
structure Rv(A:af)(g:SN):Prop where
 Rw:Qw A g
 law:Has A g "bk" (bCM g)
 Qu:Has A g "au" (tM g)
 Qv:Has A g "ax" (bEa g)
 lines:Has A g "A" (bD3 g)
 render:Has A g "P" (bDq g)
 para:Px A g
 chunk:y8 A g
 map:Has A g "I" (bDD g)
 Ru:Has A g "C" (bD4 g)
 Sh:Has A g "aN" (bD7 g)
 erase:Has A g "aw" (bDw g)
 Rx:a8 A (g "bp") 7 128
 Ry:a8 A (g "bS") 4 88
 Re:Has A g "X" (cN g)
 Qi:Has A g "ae" (bCJ g)
 Qj:Has A g "aM" (bCH g)
 size:Has A g "af" (bE5 g)
 wu:∀H,aG A (g "ad") [] H=N1 (.bool Pa,H,[])
section
variable {A A1:af}{g:SN}{E:Int->Int->List Shape->Int}{P:Block->Fact->Bool}{tB tP:Nat}
def bIi(F:Qw A g):Gens A g:=by
 have ha:=yX F.bu;have ht:=aQi F.take F.at' ha;have hp:=aOq F.phrase ht;have hr:=aSp F.runs ht hp;have Db:=λop H=>aOv F.arity op H;have qt:=λd hd=>aNp F.term ht Db d hd;have V6:∀{x y w hh:Int},(0<=x/\x<=1000)->(0<=y/\y<=1000)->(0<=w/\w<=1000)->(0<=hh/\hh<=1000)->∀H,aG A (g "L") [vi x,vi y,vi w,vi hh] H=N1 (.sl Po ((P4 x y w hh).map bL),H,[]):=
  λh1 h2 h3 h4 H=>aSy F.box h1 h2 h3 h4 H
 exact⟨ht,λh0 h1=>aQy F.block hr (aSx F.expr ht qt) (aVx F.sum ht) (aSv F.cd ht hp) (aOz F.ye ht V6) (aOx F.yb ht) (aQp F.lines ht) h0 h1,
  λhb _ h0 h1=>aSz F.fact ht hb h0 h1,λl hl f=>aSq F.has l hl f,λhm=>aLg F.jd ht hp hr (aLd F.J6) hm⟩
def bFA(F:Rv A g)(G:Qb A1 g E P tB tP)(hE:∀s,bGI s->E 60 50 s=0)(hV:A.bq (g "g")=N1 (aFb A1 (g "g")))(hW:A.bq (g "e")=N1 (aFb A1 (g "e"))){l m:List Int}(hl:jP l)(hm:jP m)(H:LO):aG A (g "bk") [.sl Po (l.map bF),.sl Po (m.map bF)] H=N1 (.bool Pa,H,[]):=
 bEA (V:=bHu A1 (g "g")) (W:=bFJ A1 (g "e")) (E:=E) {
  J3:=λhl H=>by
   obtain⟨v,H',wr,h1,rfl,rfl,x,rfl,hx⟩:=aQB F.Rw.J3 (bIi F.Rw) hl H;exact⟨x,h1,hx⟩
  fig:=hE
  ren:=⟨bFX G hV,bF9 G.hold.valid hW,F.Qu,F.Qv,F.lines,F.para,F.chunk,F.render⟩
  same:=λa b ha hb h f h1 h2=>bGe G ha hb h h1 h2
  map:=F.map
  Ru:=F.Ru
  Sh:=λx hx m hm H=>bFz F.Sh (aVi F.Rw.at' (yX F.Rw.bu)) x hx hm H
  erase:=λx hx H=>bFT F.erase F.Rx F.Ry x hx H
  Re:=F.Re
  Qi:=F.Qi
  Qj:=F.Qj
  size:=F.size
  law:=F.law
  wu:=F.wu } hl hm H
end
def aYp:List (String×Nat)->SN
 | [],_=>100000
 | (a,n)::r,s=>if a=s then n else aYp r s
def bBo:List (String×Nat):=[("a",13),
 ("b",243),
 ("bl",40),
 ("g",58),
 ("h",44),
 ("e",41),
 ("c",64),
 ("d",74),
 ("i",121),
 ("j",38),
 ("n",52),
 ("o",18),
 ("K",39),
 ("L",53),
 ("f",115),
 ("au",42),
 ("X",30),
 ("z",16),
 ("A",21),
 ("av",4),
 ("k",240),
 ("aw",7),
 ("M",82),
 ("N",15),
 ("O",31),
 ("p",78),
 ("P",6),
 ("q",87),
 ("r",254),
 ("s",253),
 ("t",129),
 ("Y",14),
 ("Z",17),
 ("v",76),
 ("w",122),
 ("bm",46),
 ("bn",45),
 ("ax",19),
 ("u",124),
 ("x",214),
 ("y",383),
 ("ay",32),
 ("az",35),
 ("aA",34),
 ("aB",37),
 ("aC",36),
 ("aD",33),
 ("B",75),
 ("aE",61),
 ("C",26),
 ("aF",20),
 ("D",130),
 ("E",131),
 ("F",132),
 ("l",185),
 ("m",181),
 ("G",91),
 ("H",393),
 ("I",8),
 ("bo",43),
 ("J",48),
 ("bp",25),
 ("Q",80),
 ("R",178),
 ("S",255),
 ("T",54),
 ("U",105),
 ("V",186),
 ("W",297),
 ("aa",81),
 ("ab",117),
 ("ac",371),
 ("ad",9),
 ("ae",10),
 ("af",12),
 ("ag",216),
 ("ah",212),
 ("ai",217),
 ("aj",213),
 ("ak",104),
 ("al",92),
 ("am",113),
 ("an",148),
 ("ao",161),
 ("ap",63),
 ("aq",141),
 ("ar",157),
 ("bS",24),
 ("as",236),
 ("bq",144),
 ("br",273),
 ("at",116),
 ("aG",79),
 ("aH",118),
 ("aI",114),
 ("aJ",234),
 ("aK",171),
 ("aL",170),
 ("aM",11),
 ("aN",5),
 ("aO",175),
 ("aP",174),
 ("bs",123),
 ("aQ",176),
 ("aR",237),
 ("aS",215),
 ("aT",62),
 ("aU",119),
 ("aV",98),
 ("aW",71),
 ("aX",167),
 ("aY",73),
 ("aZ",97),
 ("ba",107),
 ("bb",149),
 ("bc",125),
 ("bd",387),
 ("be",394),
 ("bt",299),
 ("bf",328),
 ("bg",271),
 ("bh",183),
 ("dn",51),
 ("bi",187),
 ("bj",150),
 ("bu",120),
 ("bv",233),
 ("bk",3),
 ("do",49),
 ("bw",179),
 ("bx",180),
 ("by",182),
 ("bz",184),
 ("bA",83),
 ("bB",127),
 ("bC",86),
 ("bD",69),
 ("bE",101),
 ("bF",103),
 ("bG",56),
 ("bH",163),
 ("bI",165),
 ("bJ",67),
 ("bK",96),
 ("bT",95),
 ("bL",57),
 ("bM",304),
 ("bU",23),
 ("bV",22),
 ("bN",239),
 ("dp",50),
 ("bO",126),
 ("bP",99),
 ("bQ",218),
 ("cL",140),
 ("bR",242),
 ("bW",77),
 ("bX",211),
 ("bY",232),
 ("bZ",241),
 ("ca",193),
 ("cb",177),
 ("cc",85),
 ("cd",84),
 ("ce",188),
 ("cf",207),
 ("cg",192),
 ("ch",195),
 ("ci",199),
 ("cj",203),
 ("ck",200),
 ("cl",208),
 ("cm",204),
 ("cn",128),
 ("co",189),
 ("cp",196),
 ("cq",102),
 ("cr",160),
 ("cs",147),
 ("ct",100),
 ("cu",108),
 ("cv",135),
 ("cw",137),
 ("cx",391),
 ("cy",385),
 ("cz",382),
 ("cA",384),
 ("cB",386),
 ("cC",388),
 ("cD",389),
 ("cE",390),
 ("cF",392),
 ("cG",279),
 ("cH",47),
 ("cI",139),
 ("cM",142),
 ("dq",59),
 ("dr",60),
 ("cJ",246),
 ("cK",272),
 ("ds",28),
 ("cN",194),
 ("cO",209),
 ("cP",190),
 ("cQ",197),
 ("cR",201),
 ("cS",205),
 ("cT",162),
 ("cU",164),
 ("cV",68),
 ("cW",70),
 ("cX",55),
 ("cY",166),
 ("cZ",72),
 ("da",106),
 ("db",305),
 ("dc",158),
 ("dd",146),
 ("de",138),
 ("df",143),
 ("dg",145),
 ("dh",136),
 ("di",306),
 ("dj",307),
 ("dt",65),
 ("du",247),
 ("dk",265),
 ("dl",264),
 ("dm",298)]
def gZ(s:String):Nat:=aYp bBo s
def bEJ{A:af}{f:Nat}(args:LA)(hp:A.bq f=N1 Go.Proofs.Sa.Qa)(H:LO):(A.bq f).bind (· args H)=match args with | [.sl _ []]=>N1 (.sl Po [],[],[]) | _=>none:=by rw[hp];rfl
def bGV:sn AM0 where
 fn:=cB
 bq:=cB
def bG7:Qw AM0 gZ:=by constructor<;>exact⟨cB,cB⟩
def bFB:Px AM0 gZ:=by constructor<;>exact⟨cB,cB⟩
def bFf:y8 AM0 gZ:=by refine' {yf:=bGV,..}<;>exact⟨cB,cB⟩
def bG8:Rv AM0 gZ:=by refine' {Rw:=bG7,para:=bFB,chunk:=bFf,Rx:=bEB (zs:=[z0,(.sl Po []),(.sl Po []),(.sl Po []),(.str []),z0,(.sl Po [])]) cB λargs H=>bEJ args cB H,Ry:=bEB (zs:=[(.str []),(.sl Po []),(.sl Po []),(.sl Po [])]) cB λargs H=>bEJ args cB H,wu:=λH=>(by rw[show gZ "ad" = 9 by kernel_rfl];exact dT rfl),..}<;>exact⟨cB,cB⟩
def aLp:mh AMh gZ:=by refine' {load:=by kernel_rfl,..}<;>exact⟨cB,cB⟩
def aQI:OutFns AMh gZ 151 153:=by refine' {cc:=by kernel_rfl,itoa:=by kernel_rfl,..}<;>exact⟨cB,cB⟩
def aOC:TextFns AMh gZ 151 153:=by refine' {toOutFns:=aQI,rep:=aLp,num:=by kernel_rfl,cnt:=by kernel_rfl,..}<;>exact⟨cB,cB⟩
def aMt:BlockPrt AMh gZ 151 153:=by refine' {toTextFns:=aOC,..}<;>exact⟨cB,cB⟩
def aQJ:uw AMh gZ 151 where
 toBlockPrt:=aMt
 source:=⟨cB,cB⟩
 str:=cB
def aQK:RepAll AMh gZ 151 153:=by refine' {cc:=by kernel_rfl,str:=by kernel_rfl,grow:=by kernel_rfl,cnt:=by kernel_rfl,ix1:=by kernel_rfl,..}<;>exact⟨cB,cB⟩
def aQL:WrtFns AMh gZ 151 153:=by refine' {toRepAll:=aQK,join:=by kernel_rfl,itoa:=by kernel_rfl,..}<;>exact⟨cB,cB⟩
def aQM:MelFns AMh gZ 151 153:=by refine' {toWrtFns:=aQL,..}<;>exact⟨cB,cB⟩
def aOD:rj AMh gZ 151 153:=by refine' {toMelFns:=aQM,rpl:=aLp,num:=by kernel_rfl,..}<;>exact⟨cB,cB⟩
def bGW:sn AL where
 fn:=cB
 bq:=cB
def bFg:PlaneFns AL gZ:=by refine' {yf:=bGW,..}<;>exact⟨cB,cB⟩
def bEK:Rp AL gZ:=by refine' {toPlaneFns:=bFg,..}<;>exact⟨cB,cB⟩
def bDB:ij AMs gZ (shV AL (gZ "m")) (shV AL (gZ "l")):=by refine' {shaped:=(bF3 bEK cB cB).1,simple:=(bF3 bEK cB cB).2,Bb:=⟨224,⟨cB,cB⟩,⟨cB,cB⟩⟩,Bc:=⟨238,⟨cB,cB⟩,⟨cB,cB⟩⟩,..}<;>exact⟨cB,cB⟩
def bGX:sn AM2 where
 fn:=cB
 bq:=cB
def bFh:PlaneFns AM2 gZ:=by refine' {yf:=bGX,..}<;>exact⟨cB,cB⟩
def bGs:C2 AM2 gZ:=by refine' {fns:=bFh,con:=⟨238,⟨cB,cB⟩,⟨cB,cB⟩⟩,..}<;>exact⟨cB,cB⟩
def aMw:X0 AMh gZ:=by constructor<;>exact⟨cB,cB⟩
def aQO:si AMh gZ:=by refine' {Aj:=⟨⟨226,257,227,⟨cB,cB⟩,⟨cB,cB⟩,⟨cB,cB⟩,⟨cB,cB⟩⟩⟩,sj:=⟨⟨228,258,229,⟨cB,cB⟩,⟨cB,cB⟩,⟨cB,cB⟩,⟨cB,cB⟩⟩⟩,Ak:=⟨⟨230,259,231,⟨cB,cB⟩,⟨cB,cB⟩,⟨cB,cB⟩,⟨cB,cB⟩⟩⟩,..}<;>exact⟨cB,cB⟩
def aMx:kb AMh gZ:=by refine' {mel:=aQO,same:=aMw,sj:=⟨⟨88,133,89,⟨cB,cB⟩,⟨cB,cB⟩,⟨cB,cB⟩,⟨cB,cB⟩⟩⟩,Q8:=⟨⟨219,256,220,⟨cB,cB⟩,⟨cB,cB⟩,⟨cB,cB⟩,⟨cB,cB⟩⟩⟩,allI:=⟨⟨151,221,152,⟨cB,cB⟩,⟨cB,cB⟩,⟨cB,cB⟩,⟨cB,cB⟩⟩⟩,Am:=⟨⟨153,222,154,⟨cB,cB⟩,⟨cB,cB⟩,⟨cB,cB⟩,⟨cB,cB⟩⟩⟩,An:=⟨⟨155,223,156,⟨cB,cB⟩,⟨cB,cB⟩,⟨cB,cB⟩,⟨cB,cB⟩⟩⟩,Ao:=⟨⟨158,224,159,⟨cB,cB⟩,⟨cB,cB⟩,⟨cB,cB⟩,⟨cB,cB⟩⟩⟩,Ap:=⟨⟨183,238,225,⟨cB,cB⟩,⟨cB,cB⟩,⟨cB,cB⟩,⟨cB,cB⟩⟩⟩,..}<;>exact⟨cB,cB⟩
def aHq:kc AMh gZ 151:=by refine' {blk:=aMx,src:=aQJ,R9:=⟨⟨93,134,94,⟨cB,cB⟩,⟨cB,cB⟩,⟨cB,cB⟩,⟨cB,cB⟩⟩⟩,B6:=⟨⟨109,168,110,⟨cB,cB⟩,⟨cB,cB⟩,⟨cB,cB⟩,⟨cB,cB⟩⟩⟩,S0:=⟨⟨111,169,112,⟨cB,cB⟩,⟨cB,cB⟩,⟨cB,cB⟩,⟨cB,cB⟩⟩⟩,allI:=⟨⟨65,90,66,⟨cB,cB⟩,⟨cB,cB⟩,⟨cB,cB⟩,⟨cB,cB⟩⟩⟩,..}<;>exact⟨cB,cB⟩
def aIM:lu AMh gZ:=by refine' {con:=⟨270,⟨cB,cB⟩,⟨cB,cB⟩⟩,..}<;>exact⟨cB,cB⟩
def aOE:oh AMh gZ 151:=by refine' {val:=aHq,..}<;>exact⟨cB,cB⟩
def aQN:sn AMh where
 fn:=cB
 bq:=cB
def aQP:j0 AMh gZ:=by refine' {noY:=aQN,..}<;>exact⟨cB,cB⟩
def aMy:lp AMh gZ 151:=by refine' {fam:=aQP,valid:=aOE,..}<;>exact⟨cB,cB⟩
def aOF:og AMh gZ 151 153:=by refine' {form:=aIM,wrt:=aOD,B9:=aMs ⟨cB,cB⟩ ⟨cB,cB⟩ cB,..}<;>exact⟨cB,cB⟩
def bGt:Qb AMh gZ (aNn AMs (gZ "u")) (bGK AM2 (gZ "q")) 151 153:=by refine' {hold:=aMy,text:=aOF,fig:=aOt bDB cB,ph:=bGd bGs (aOt bDB cB) cB,..}<;>exact⟨cB,cB⟩
noncomputable def bEg(k:Nat):Bool:=((bE7.drop k).take 7).all λa=>aE3 AL 10000 100 181 [.agg (aH a)] [] aJi&&aE3 AL 10000 100 185 [.agg (aH a)] [] aJi
end Go.AM
end
