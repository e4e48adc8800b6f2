/- Part 35: lemmas for the last text. -/
import Derived.Test.YtfpndhocfmfgdaaGreatDoorK34
set_option linter.unusedVariables false
set_option linter.unusedSimpArgs false
section
set_option maxRecDepth 8000
namespace Go.AM
open Go
def eS(g:String->Nat):AFn:=⟨10,[],[.tmp 2],qS [qmc 2 (.str [])]<|qS [qq 4 (.bsl 1 [(.str [])] 12 [(0,(.const (.str [116,104,101,32,104,97,110,100]))),(1,(.const (.str [97]))),(2,(.const (.str [73,32,97,110,100,32,121,111,117]))),(3,(.const (.str [84,101,110,32,49,48]))),(4,(.const (.str [97,110,100]))),(5,(.const (.str [110,111,44,32,52,50,46]))),(6,(.const (.str [108,97,110,100]))),(7,(.const (.str [67,104,105,108,100]))),(8,(.const (.str [120]))),(9,(.const (.str [99,97,110,32,105,116]))),(10,(.const (.str [55,32,104,97,110,100,115]))),(11,(.const (.str [111,102,32,116,104,101])))]),qm 3 4]<|qS [qm 5 3,qm 6 0,qc 7 (g "(*dactyl/dactylref23.Maker).Take") [u 6,ui 12],qi 8 5 7 1,ql 9 1 8,qm 2 9]<|.ret⟩
abbrev tH(g:String->Nat):ACode:=.seq (qS [qm 14 6,qm 15 5,qb 16 .lss 14 15]<|qC 16 (.skip) (.exit 0))<|.seq (.block 1 (qR [qm 19 4,qm 20 3,qm 21 6,qb 22 .add 20 21,qbi 23 .rem 22 2,qm 24 0,qc 25 (g "(*dactyl/dactylref23.Maker).Phrase") [u 24],qq 26 (.build [(.int .i64 0),(.str [])] [(0,1,(.tmp 23)),(1,1,(.tmp 25))]),qq 27 (.bsl 2 [(.int .i64 0),(.str [])] 1 [(0,(.tmp 26))]),qa 28 2 24 19 27,qm 4 28]))<|.region false [qm 17 6,qbi 18 .add 17 1,qm 6 18]
abbrev tI:List Nat:=[14,15,16,19,20,21,22,23,24,25,26,27,28,4,17,18,6]
def fR(g:String->Nat):AFn:=⟨30,[28],[.tmp 2],qS [qmc 2 (.sl true [])]<|qS [qm 7 0,qc 8 (g "(*dactyl/dactylref23.Maker).Take") [u 7,ui 2],qm 3 8]<|qS [qmc 4 (.sl true [])]<|qS [qq 9 (.bsl 1 [(.int .i64 0)] 5 [(0,(.const (.int .i64 1))),(1,(.const (.int .i64 1))),(2,(.const (.int .i64 1))),(3,(.const (.int .i64 2))),(4,(.const (.int .i64 3)))]),qm 10 0,qc 11 (g "(*dactyl/dactylref23.Maker).Take") [u 10,ui 5],qi 12 9 11 1,ql 13 1 12,qm 5 13]<|.seq (qS [qmc 6 (.int .i64 0)]<|.block 0 (.loop (tH g)))<|qS [qm 29 4,qm 2 29]<|.ret⟩
abbrev rV(g:String->Nat):ACode:=.seq (qS [qm 11 6,qm 12 5,qb 13 .lss 11 12]<|qC 13 (.skip) (.exit 0))<|.seq (.block 1 (qR [qm 16 4,qm 17 3,qm 18 0,qc 19 (g "(*dactyl/dactylref23.Maker).Take") [u 18,ui 7],qi 20 17 19 1,ql 21 1 20,qq 22 (.bsl 1 [(.str [])] 1 [(0,(.tmp 21))]),qa 23 1 16 16 22,qm 4 23]))<|.region false [qm 14 6,qbi 15 .add 14 1,qm 6 15]
abbrev rW:List Nat:=[11,12,13,16,17,18,19,20,21,22,23,4,14,15,6]
def fD(g:String->Nat):AFn:=⟨25,[23],[.tmp 2],qS [qmc 2 (.sl true [])]<|qS [qq 7 (.bsl 1 [(.str [])] 7 [(0,(.const (.str [105,102,32,120,32,60,32,51,32,123]))),(1,(.const (.str [32,32,121,32,61,32,123,49,44,32,50,125]))),(2,(.const (.str [125]))),(3,(.const (.str []))),(4,(.const (.str [32,32,32,32,114,101,116,117,114,110,32,65,91,105,93,32,43,32,34,115,34]))),(5,(.const (.str [102,111,114,32,105,32,58,61,32,48,59,32,105,32,60,32,49,48,59,32,105,43,43,32,123,32,116,111,116,97,108,32,61,32,116,111,116,97,108,32,43,32,118,97,108,117,101,115,91,105,93,32,42,32,50,32,125]))),(6,(.const (.str [32,97,92,98,32,126,32,99])))]),qm 3 7]<|qS [qmc 4 (.sl true [])]<|qS [qm 8 0,qc 9 (g "(*dactyl/dactylref23.Maker).Take") [u 8,ui 3],qq 10 (.bin .add .no (ui 1) (u 9)),qm 5 10]<|.seq (qS [qmc 6 (.int .i64 0)]<|.block 0 (.loop (rV g)))<|qS [qm 24 4,qm 2 24]<|.ret⟩
abbrev gD(l:List Int):Prop:=∀a∈l,dN a
theorem kB{n m:Int}(hn:dN n)(hm:1<=m):0<=around n m/\around n m<m:=by
 obtain⟨h1,h2⟩:=hn;unfold around;rw[if_neg (by omega)]
 split
 ·rw[wrap_i64 (n:=n+1) (by omega) (by omega),wrap_i64 (by omega) (by omega)]
  exact⟨Int.tmod_nonneg _ (by omega),Int.tmod_lt_of_pos _ (by omega)⟩
 ·exact⟨Int.tmod_nonneg _ (by omega),Int.tmod_lt_of_pos _ (by omega)⟩
theorem aPY{l:List Int}(hl:gD l)(i:Int){m:Int}(hm:1<=m):0<=atZ l i m/\atZ l i m<m:=by
 unfold atZ
 split
 ·omega
 ·rename_i h;refine kB ?_ hm;have hlt:i.toNat<l.length:=by omega
  rw[List.getD_eq_getElem?_getD,List.getElem?_eq_getElem hlt];exact hl _ (List.getElem_mem hlt)
abbrev cX(A:AProg)(f:Nat)(args:List AV)(P:AV->Prop):Prop:=∀(l:List Int) (i:Int) (o v:Nat) (H:List AObj),gD l->H[o]? = some (.box v (aH l i)) ->
 ∃val i',aL A f (.ptr o v 0::args) H=some (val,H.set o (.box v (aH l i')),[o])/\P val
theorem aW{A:AProg}{f:Nat}{args:List AV}{P:AV->Prop}(hs:cX A f args P){l:List Int}{i:Int}{o v:Nat}{H H2:List AObj}(hl:gD l)(ho:H[o]? = some (.box v (aH l i))){site:Option Nat}{q:Bool}
  {k:AV×List AObj×List Nat->Prop} {tg} (hk:∀val i',P val->bnd (eD site q H2 (some (val,H.set o (.box v (aH l i')),[o]))) k):aCe (eD site q H2 (aL A f (.ptr o v 0::args) H)) k tg:=by
 obtain⟨val,i',h1,h2⟩:=hs l i o v H hl ho;rw[h1];exact hk val i' h2
theorem dP{A:AProg}{f:Nat}{args:List AV}{P:AV->Prop}(hs:cX A f args P){l:List Int}{i:Int}{o v:Nat}{H H2 H3:List AObj}(hl:gD l)(ho:H[o]? = some (.box v (aH l i))){site:Option Nat}{q:Bool}
  {k:AV×List AObj×List Nat×Option (List Nat)->Prop} {tg} (hk:∀val i',P val->bnd (nH H3 (eD site q H2 (some (val,H.set o (.box v (aH l i')),[o])))) k):aCe (nH H3 (eD site q H2 (aL A f (.ptr o v 0::args) H))) k tg:=by
 obtain⟨val,i',h1,h2⟩:=hs l i o v H hl ho;rw[h1];exact hk val i' h2
theorem Has.gen{A:AProg}{g:String->Nat}{name:String}{fn:AFn}(h:Has A g name fn){args:List AV}{P:AV->Prop}(hN:args.length+1<=fn.ntmps)(hok:∀n,cZ fn.ntmps ⟨n,fn.sites⟩ fn.body=true)
  (hw:∀(l:List Int) (i:Int) (o v:Nat) (H:List AObj),gD l->o<H.length->H[o]? = some (.box v (aH l i)) ->
   wc A fn.ntmps ⟨H.length,fn.sites⟩ fn.body (pE (.ptr o v 0::args)) (H++List.replicate fn.sites.length (.gone 0)) [] (aOs H.length fn.results (fun val H' wr=>(∃i',H'=H.set o (.box v (aH l i')))/\wr=[o]/\P val) ⟨⟩) ⟨⟩):
  cX A (g name) args P:=by
 intro l i o v H hl ho;obtain⟨val,H',wr,h1,⟨i',rfl⟩,rfl,h2⟩:=h.callEx (args:=.ptr o v 0::args) (by simpa using hN) (hok _) (hw l i o v H hl (getElem?_lt ho) ho)
 exact⟨val,i',h1,h2⟩
abbrev Below(m:Int)(v:AV):Prop:=∃x:Int,v=vi x/\0<=x/\x<m
theorem aU{A:AProg}{g:String->Nat}(h:fC A g){m:Int}(hm:1<=m):cX A (g "(*dactyl/dactylref23.Maker).Take") [vi m] (Below m):=by
 intro l i o v H hl ho;exact⟨_,_,h l i m o v H ho,_,rfl,(aPY hl _ hm).1,(aPY hl _ hm).2⟩
theorem aNg(ns:List Int){x:Int}(h0:0<=x)(hx:x<ns.length):∃n∈ns,(ns.map bD)[x.toNat]? = some [vi n]:=by
 have hlt:x.toNat<ns.length:=by omega
 exact⟨ns[x.toNat],List.getElem_mem hlt,getElem?_map_of hlt⟩
theorem aNh(ns:List Str){x:Int}(h0:0<=x)(hx:x<ns.length):∃n∈ns,(ns.map aN)[x.toNat]? = some [.str n]:=by
 have hlt:x.toNat<ns.length:=by omega
 exact⟨ns[x.toNat],List.getElem_mem hlt,getElem?_map_of hlt⟩
abbrev aNi:List Str:=[[116,104,101,32,104,97,110,100],[97],[73,32,97,110,100,32,121,111,117],[84,101,110,32,49,48],[97,110,100],[110,111,44,32,52,50,46],[108,97,110,100],[67,104,105,108,100],[120],[99,97,110,32,105,116],[55,32,104,97,110,100,115],[111,102,32,116,104,101]]
abbrev aG7(v:AV):Prop:=∃s:Str,v=.str s/\s.length<=60
theorem aLk{A:AProg}{g:String->Nat}(h:Has A g "(*dactyl/dactylref23.Maker).Phrase" (eS g))(ht:fC A g):cX A (g "(*dactyl/dactylref23.Maker).Phrase") [] aG7:=by
 refine h.gen (by simp[eS]) (fun n=>by kernel_rfl) ?_
 intro l i o v H hl hlt ho;simp only[eS];simp only[go_sem,seval];refine aW (aU ht (m:=12) (by decide)) hl ho ?_
 rintro val i' ⟨x,rfl,h0,hx⟩;obtain⟨s,hs,htab⟩:=aNh aNi h0 hx;simp only[List.map,aN]at htab;simp only[go_sem,seval,hlt,h0,htab,aD2,aA (aB aP _)];refine⟨⟨i',rfl⟩,s,rfl, ?_⟩;have:∀s∈aNi,s.length<=60:=by decide
 exact this s hs
abbrev ROk(a:Run):Prop:=a.Ok/\a.text.length<=60
abbrev aNj(v:AV):Prop:=∃r:List Run,v=.own 2 (r.map cW)/\1<=r.length/\r.length<=3/\∀a∈r,ROk a
theorem aPd{A:AProg}{g:String->Nat}(h:Has A g "(*dactyl/dactylref23.Maker).Runs" (fR g))(ht:fC A g)(hp:cX A (g "(*dactyl/dactylref23.Maker).Phrase") [] aG7):
  cX A (g "(*dactyl/dactylref23.Maker).Runs") [] aNj:=by
 refine h.gen (by simp[fR]) (fun n=>by kernel_rfl) ?_
 intro l i o v H hl hlt ho;simp only[fR];simp only[go_sem,seval];refine aW (aU ht (m:=2) (by decide)) hl (i:=i) (by simp only[go_sem,seval,gQ,hlt,ho]) ?_
 rintro val i1 ⟨x,rfl,hx0,hx1⟩;simp only[go_sem,seval,hlt,gH];refine aW (aU ht (m:=5) (by decide)) hl (i:=i1) (by simp only[go_sem,seval,aI,hlt]) ?_
 rintro val i2 ⟨y,rfl,hy0,hy1⟩;obtain⟨n,hn,htab⟩:=aNg [1,1,1,2,3] hy0 hy1;simp only[List.map,bD]at htab;have hn3:1<=n/\n<=3:=by
  have:∀n∈([1,1,1,2,3]:List Int),1<=n/\n<=3:=by decide
  exact this n hn
 simp only[go_sem,seval,hlt,aK,hy0,htab];refine bZ (id:=0) (W:=tI) (fun j ρ1 H1 wr=>wr=[o]/\ρ1 6=vi j/\∃i' o1,∃r:List Run,H1=H.set o (.box v (aH l i'))++[o1]/\GSl H.length 2 (r.map cW) (ρ1 4) o1/\r.length=j/\∀a∈r,ROk a) n.toNat
  (fun ρ1 H1 wr=>wr=[o]/\∃i' o1,∃r:List Run,H1=H.set o (.box v (aH l i'))++[o1]/\GSl H.length 2 (r.map cW) (ρ1 4) o1/\r.length=n.toNat/\∀a∈r,ROk a)
  (by kernel_rfl) (by rfl) ⟨by simp only[go_sem,seval],by simp only[go_sem,seval],i2,_,[],rfl,by simp only[go_sem,seval];exact .nil _,rfl,by simp⟩ ?_ ?_
 ·rintro j ρ1 H1 wr1 hjl ⟨rfl,e6,i',o1,r,rfl,hg,hrl,hro⟩ hf;have e0:ρ1 0=.ptr o v 0:=by rw[hf 0 (by decide)];simp only[go_sem,seval]
  have e3:ρ1 3=vi x:=by rw[hf 3 (by decide)];simp only[go_sem,seval]
  have e5:ρ1 5=vi n:=by rw[hf 5 (by decide)];simp only[go_sem,seval]
  simp only[go_sem,seval,e5,e6];refine aD (fun hb => ?_) (fun hb => ?_)
  ·have hlt2:j<n.toNat:=by simp at hb;omega
   have hw:IntKind.i64.wrap (x+j)=x+j:=wrap_i64 (by omega) (by omega)
   simp only[go_sem,seval,e0,e3,e6,sN (b:=2) (by decide),hw]
   refine aW hp hl (i:=i') (by simp only[go_sem,seval,aI,hlt]) ?_
   rintro val i3 ⟨s,rfl,hs⟩;obtain⟨v',o',hg',happ⟩:=hg.app (new:=[[vi ((x+j).tmod 2),.str s]]) (bytes:=24) (by simp) (by rfl) (by rw[List.length_map,hrl];simp;omega)
   rw[show r.map cW++[[vi ((x+j).tmod 2),.str s]]=(r++[Run.mk ((x+j).tmod 2) s]).map cW by simp[cW]]at hg'
   have hm1:=Int.tmod_lt_of_pos (x+j) (b:=2) (by decide)
   have hm0:=Int.tmod_nonneg 2 (a:=x+j) (by omega)
   simp only[go_sem,seval,hlt,aK,happ];rw[dH (by omega)]
   refine⟨hlt2,rfl,i3,o',r++[Run.mk ((x+j).tmod 2) s],rfl,hg',by simp[hrl], ?_⟩
   intro a ha;rcases List.mem_append.1 ha with ha | ha
   ·exact hro a ha
   ·have:a=Run.mk ((x+j).tmod 2) s:=by simpa using ha
    subst this;exact⟨⟨⟨by show -9223372036854775808<=(x+j).tmod 2;omega,by show (x+j).tmod 2<=9223372036854775807;omega⟩,by show s.length<=1000;omega⟩,hs⟩
  ·have hlt2:j=n.toNat:=by simp at hb;omega
   subst hlt2;simp only[go_sem,seval];exact⟨i',o1,r,rfl,hg,hrl,hro⟩
 ·rintro ρ2 H2 wr2 ⟨rfl,i',o1,r,rfl,hg,hrl,hro⟩ hf;have hne:r.map cW≠[]:=by
   intro h;have:=congrArg List.length h;simp only[List.length_map,hrl,List.length_nil]at this;omega
  obtain⟨ver,e4,rfl⟩:=hg.inv hne;simp only[go_sem,seval,e4,hlt,aO (aB bT _),aA (aB bT _),aA (aB aP _),aS];exact⟨⟨i',rfl⟩,r,rfl,by omega,by omega,hro⟩
abbrev aNk(v:AV):Prop:=∃r:List Str,v=.own 1 (r.map aN)/\1<=r.length/\r.length<=3/\∀s∈r,s.length<=60
abbrev listing:List Str:=[[105,102,32,120,32,60,32,51,32,123],[32,32,121,32,61,32,123,49,44,32,50,125],[125],[],[32,32,32,32,114,101,116,117,114,110,32,65,91,105,93,32,43,32,34,115,34],[102,111,114,32,105,32,58,61,32,48,59,32,105,32,60,32,49,48,59,32,105,43,43,32,123,32,116,111,116,97,108,32,61,32,116,111,116,97,108,32,43,32,118,97,108,117,101,115,91,105,93,32,42,32,50,32,125],[32,97,92,98,32,126,32,99]]
theorem aNl{A:AProg}{g:String->Nat}(h:Has A g "(*dactyl/dactylref23.Maker).Lines" (fD g))(ht:fC A g):
  cX A (g "(*dactyl/dactylref23.Maker).Lines") [] aNk:=by
 refine h.gen (by simp[fD]) (fun n=>by kernel_rfl) ?_
 intro l i o v H hl hlt ho;simp only[fD];simp only[go_sem,seval];refine aW (aU ht (m:=3) (by decide)) hl (i:=i) (by simp only[go_sem,seval,gQ,hlt,ho]) ?_
 rintro val i1 ⟨x,rfl,hx0,hx1⟩;have hwx:IntKind.i64.wrap (1+x)=1+x:=wrap_i64 (by omega) (by omega)
 simp only[go_sem,seval,hlt,gH,hwx];refine bZ (id:=0) (W:=rW) (fun j ρ1 H1 wr=>wr=[o]/\ρ1 6=vi j/\∃i' o1,∃r:List Str,H1=H.set o (.box v (aH l i'))++[o1]/\GSl H.length 1 (r.map aN) (ρ1 4) o1/\r.length=j/\∀a∈r,a.length<=60) (1+x).toNat
  (fun ρ1 H1 wr=>wr=[o]/\∃i' o1,∃r:List Str,H1=H.set o (.box v (aH l i'))++[o1]/\GSl H.length 1 (r.map aN) (ρ1 4) o1/\r.length=(1+x).toNat/\∀a∈r,a.length<=60)
  (by kernel_rfl) (by rfl) ⟨by simp only[go_sem,seval],by simp only[go_sem,seval],i1,_,[],rfl,by simp only[go_sem,seval];exact .nil _,rfl,by simp⟩ ?_ ?_
 ·rintro j ρ1 H1 wr1 hjl ⟨rfl,e6,i',o1,r,rfl,hg,hrl,hro⟩ hf;have e0:ρ1 0=.ptr o v 0:=by rw[hf 0 (by decide)];simp only[go_sem,seval]
  have e3:ρ1 3=.sl true (listing.map aN):=by rw[hf 3 (by decide)];simp only[go_sem,seval,listing,aN]
  have e5:ρ1 5=vi (1+x):=by rw[hf 5 (by decide)];simp only[go_sem,seval]
  simp only[go_sem,seval,e5,e6];refine aD (fun hb => ?_) (fun hb => ?_)
  ·have hlt2:j<(1+x).toNat:=by simp at hb;omega
   simp only[go_sem,seval,e0,e3,e6];refine aW (aU ht (m:=7) (by decide)) hl (i:=i') (by simp only[go_sem,seval,aI,hlt]) ?_
   rintro val i3 ⟨y,rfl,hy0,hy1⟩;obtain⟨s,hs,htab⟩:=aNh listing hy0 hy1;have hsl:s.length<=60:=by
    have:∀s∈listing,s.length<=60:=by decide
    exact this s hs
   obtain⟨v',o',hg',happ⟩:=hg.app (new:=[[.str s]]) (bytes:=16) (by simp) (by rfl) (by rw[List.length_map,hrl];simp;omega)
   rw[show r.map aN++[[.str s]]=(r++[s]).map aN by simp[aN]]at hg'
   simp only[List.map,aN]at htab;simp only[go_sem,seval,hlt,aK,aN,happ,hy0,htab];rw[dH (by omega)]
   refine⟨hlt2,rfl,i3,o',r++[s],rfl,hg',by simp[hrl], ?_⟩
   intro a ha;rcases List.mem_append.1 ha with ha | ha
   ·exact hro a ha
   ·have:a=s:=by simpa using ha
    subst this;exact hsl
  ·have hlt2:j=(1+x).toNat:=by simp at hb;omega
   subst hlt2;simp only[go_sem,seval];exact⟨i',o1,r,rfl,hg,hrl,hro⟩
 ·rintro ρ2 H2 wr2 ⟨rfl,i',o1,r,rfl,hg,hrl,hro⟩ hf;have hne:r.map aN≠[]:=by
   intro h;have:=congrArg List.length h;simp only[List.length_map,hrl,List.length_nil]at this;omega
  obtain⟨ver,e4,rfl⟩:=hg.inv hne;simp only[go_sem,seval,e4,hlt,aO (aB bL _),aA (aB bL _),aA (aB aP _),aS];exact⟨⟨i',rfl⟩,r,rfl,by omega,by omega,hro⟩
def gE(g:String->Nat):AFn:=⟨47,[2],[.cell 2 2 true],qS [qq 2 (.alloc [(.int .i64 0),(.sl true [])])]<|qS [qq 6 (.bsl 1 [(.int .i64 0)] 5 [(0,(.const (.int .i64 3))),(1,(.const (.int .i64 3))),(2,(.const (.int .i64 4))),(3,(.const (.int .i64 5))),(4,(.const (.int .i64 6)))]),qm 7 0,qc 8 (g "(*dactyl/dactylref23.Maker).Take") [u 7,ui 5],qi 9 6 8 1,ql 10 1 9,qm 3 10]<|qS [qq 11 (.bsl 1 [(.int .i64 0)] 6 [(0,(.const (.int .i64 0))),(1,(.const (.int .i64 5))),(2,(.const (.int .i64 99))),(3,(.const (.int .i64 123))),(4,(.const (.int .i64 1005))),(5,(.const (.int .i64 47)))]),qm 12 0,qc 13 (g "(*dactyl/dactylref23.Maker).Take") [u 12,ui 6],qi 14 11 13 1,ql 15 1 14,qm 4 15]<|qS [qq 16 (.bsl 1 [(.int .i64 0)] 6 [(0,(.const (.int .i64 3))),(1,(.const (.int .i64 9))),(2,(.const (.int .i64 12))),(3,(.const (.int .i64 58))),(4,(.const (.int .i64 1))),(5,(.const (.int .i64 70)))]),qm 17 0,qc 18 (g "(*dactyl/dactylref23.Maker).Take") [u 17,ui 6],qi 19 16 18 1,ql 20 1 19,qm 5 20]<|.seq (qS [qm 21 3,qbi 22 .eql 21 4]<|qC 22 (qS [qm 23 3,qm 24 4,qm 25 5,qb 26 .add 24 25,qm 27 5,qq 28 (.bsl 1 [(.int .i64 0)] 2 [(0,(.tmp 26)),(1,(.tmp 27))]),qq 29 (.build [(.int .i64 0),(.sl true [])] [(0,1,(.tmp 23)),(1,1,(.tmp 28))]),qs 2 2 29]<|.ret) (.skip))<|.seq (qS [qm 30 3,qbi 31 .eql 30 3,qm 32 31,qT 33 32 (om 0),qT 34 32 (oc (g "(*dactyl/dactylref23.Maker).Take") [u 33,ui 3]),qT 35 32 (obi .eql 34 0),qp 36 32 35]<|qC 36 (qS [qm 37 3,qm 38 4,qm 39 5,qq 40 (.bsl 1 [(.int .i64 0)] 3 [(0,(.tmp 38)),(1,(.tmp 39)),(2,(.const (.int .i64 808)))]),qq 41 (.build [(.int .i64 0),(.sl true [])] [(0,1,(.tmp 37)),(1,1,(.tmp 40))]),qs 2 2 41]<|.ret) (.skip))<|qS [qm 42 3,qm 43 4,qm 44 5,qq 45 (.bsl 1 [(.int .i64 0)] 2 [(0,(.tmp 43)),(1,(.tmp 44))]),qq 46 (.build [(.int .i64 0),(.sl true [])] [(0,1,(.tmp 42)),(1,1,(.tmp 45))]),qs 2 2 46]<|.ret⟩
abbrev lI(g:String->Nat):ACode:=.seq (qS [qm 20 8,qm 21 5,qb 22 .lss 20 21]<|qC 22 (.skip) (.exit 2))<|.seq (.block 3 (qR [qm 25 7,qm 26 0,qc 27 (g "(*dactyl/dactylref23.Maker).Phrase") [u 26],qq 28 (.bsl 1 [(.str [])] 1 [(0,(.tmp 27))]),qa 29 1 16 25 28,qm 7 29]))<|.region false [qm 23 8,qbi 24 .add 23 1,qm 8 24]
abbrev lJ:List Nat:=[20,21,22,25,26,27,28,29,7,23,24,8]
abbrev tJ(g:String->Nat):ACode:=.seq (qS [qm 15 6,qm 16 4,qb 17 .lss 15 16]<|qC 17 (.skip) (.exit 0))<|.seq (.block 1 (qS [qmc 7 (.sl true [])]<|.seq (qS [qmc 8 (.int .i64 0)]<|.block 2 (.loop (lI g)))<|.region false [qf 30 0 3,ql 31 1 30,qm 32 7,qq 33 (.bsl 1 [(.sl false [])] 1 [(0,(.tmp 32))]),qa 34 1 24 31 33,qf 35 0 3,qs 1 35 34]))<|.region false [qm 18 6,qbi 19 .add 18 1,qm 6 19]
abbrev tK:List Nat:=[15,16,17,7,8,20,21,22,25,26,27,28,29,7,23,24,8,30,31,32,33,34,35,18,19,6]
def fS(g:String->Nat):AFn:=⟨37,[2,3,29,34],[.cell 2 1 true],qS [qq 2 (.alloc [(.sl true [])])]<|qS [qq 3 (.alloc [(.sl true [])])]<|qS [qm 9 0,qc 10 (g "(*dactyl/dactylref23.Maker).Take") [u 9,ui 3],qq 11 (.bin .add .no (ui 1) (u 10)),qm 4 11]<|qS [qm 12 0,qc 13 (g "(*dactyl/dactylref23.Maker).Take") [u 12,ui 3],qq 14 (.bin .add .no (ui 1) (u 13)),qm 5 14]<|.seq (qS [qmc 6 (.int .i64 0)]<|.block 0 (.loop (tJ g)))<|qS [qla 36 1 3,qs 1 2 36]<|.ret⟩
abbrev tL(g:String->Nat):List AOper:=[qf 39 2 7,⟨some 40,ol 1 39,none,[0]⟩,qm 41 0,qm 42 1,⟨some 43,obi .sub 42 1,none,[3]⟩,⟨some 44,oc (g "(*dactyl/dactylref23.Maker).term") [u 41,u 43],none,[2,4,3]⟩,⟨some 45,.bsl 3 [(.int .i64 0),(.int .i64 0),(.sl false [])] 1 [(0,(.tmp 44))],none,[5,2,4,3]⟩,⟨some 46,oa 3 40 40 45,none,[1,0,6,5,2,4,3]⟩,⟨some 47,of 2 7,none,[7,1,0,6,5,2,4,3]⟩,⟨none,os 1 47 46,none,[8,7,1,0,6,5,2,4,3]⟩]
abbrev lK:List Nat:=[1,5]
abbrev tM(g:String->Nat):ACode:=.seq (qS [qm 33 8,qm 34 6,qc 35 (g "dactyl/dactylref23.Arity") [u 34],qb 36 .lss 33 35]<|qC 36 (.skip) (.exit 0))<|.seq (.block 1 (.region true (tL g)))<|.region false [qm 37 8,qbi 38 .add 37 1,qm 8 38]
abbrev tN:List Nat:=[33,34,35,36,39,40,41,42,43,44,45,46,47,37,38,8]
def fT(g:String->Nat):AFn:=⟨49,[4,7,46],[.cell 4 3 true],qS [qq 4 (.alloc [(.int .i64 0),(.int .i64 0),(.sl true [])])]<|qS [qm 9 0,qc 10 (g "(*dactyl/dactylref23.Maker).Take") [u 9,ui 12],qm 5 10]<|.seq (qS [qm 11 1,qbi 12 .leq 11 0]<|qC 12 (qR [qm 13 5,qbi 14 .rem 13 3,qm 5 14]) (.skip))<|.seq (qS [qm 15 5,qbi 16 .lss 15 2]<|qC 16 (qS [qq 17 (.bsl 1 [(.int .i64 0)] 6 [(0,(.const (.int .i64 0))),(1,(.const (.int .i64 1))),(2,(.const (.int .i64 7))),(3,(.const (.int .i64 12))),(4,(.const (.int .i64 100))),(5,(.const (.int .i64 999999)))]),qm 18 0,qc 19 (g "(*dactyl/dactylref23.Maker).Take") [u 18,ui 6],qi 20 17 19 1,ql 21 1 20,qq 22 (.build [(.int .i64 0),(.int .i64 0),(.sl true [])] [(0,1,(.const (.int .i64 0))),(1,1,(.tmp 21))]),qs 3 4 22]<|.ret) (.skip))<|.seq (qS [qm 23 5,qbi 24 .eql 23 2]<|qC 24 (qS [qm 25 0,qc 26 (g "(*dactyl/dactylref23.Maker).Take") [u 25,ui 4],qq 27 (.build [(.int .i64 0),(.int .i64 0),(.sl true [])] [(0,1,(.const (.int .i64 1))),(1,1,(.tmp 26))]),qs 3 4 27]<|.ret) (.skip))<|qS [qm 28 0,qc 29 (g "(*dactyl/dactylref23.Maker).Take") [u 28,ui 7],qq 30 (.bin .add .no (ui 2) (u 29)),qm 6 30]<|qS [qm 31 6,qq 32 (.build [(.int .i64 0),(.int .i64 0),(.sl true [])] [(0,1,(.tmp 31))]),qq 7 (.alloc [(.int .i64 0),(.int .i64 0),(.sl true [])]),qs 3 7 32]<|.seq (qS [qmc 8 (.int .i64 0)]<|.block 0 (.loop (tM g)))<|qS [qla 48 3 7,qs 3 4 48]<|.ret⟩
abbrev tO(g:String->Nat):List AOper:=[qm 13 0,⟨some 14,oc (g "(*dactyl/dactylref23.Maker).Take") [u 13,ui 2],none,[0]⟩,⟨some 15,.bin .add .no (ui 9) (u 14),none,[1,0]⟩,qla 16 3 5,qm 17 0,qm 18 1,⟨some 19,obi .sub 18 1,none,[5]⟩,⟨some 20,oc (g "(*dactyl/dactylref23.Maker).term") [u 17,u 19],none,[4,6,5,1,0]⟩,⟨some 21,.bsl 3 [(.int .i64 0),(.int .i64 0),(.sl false [])] 2 [(0,(.tmp 16)),(1,(.tmp 20))],none,[3,7,4,6,5,1,0]⟩,⟨some 22,.build [(.int .i64 0),(.int .i64 0),(.sl true [])] [(0,1,(.tmp 15)),(2,1,(.tmp 21))],none,[2,8,3,7,4,6,5,1,0]⟩,⟨none,os 3 4 22,none,[9,2,8,3,7,4,6,5,1,0]⟩]
abbrev lL:List Nat:=[1,3,7]
def fU(g:String->Nat):AFn:=⟨26,[4,5],[.cell 4 3 true],qS [qq 4 (.alloc [(.int .i64 0),(.int .i64 0),(.sl true [])])]<|.seq (qS [qm 6 0,qc 7 (g "(*dactyl/dactylref23.Maker).Take") [u 6,ui 4],qbi 8 .eql 7 0]<|qC 8 (qS [qm 9 0,qm 10 1,qbi 11 .sub 10 1,qc 12 (g "(*dactyl/dactylref23.Maker).term") [u 9,u 11],qq 5 (.alloc [(.int .i64 0),(.int .i64 0),(.sl true [])]),qs 3 5 12]<|.seq (.region true (tO g))<|.ret) (.skip))<|qS [qm 23 0,qm 24 1,qc 25 (g "(*dactyl/dactylref23.Maker).term") [u 23,u 24],qs 3 4 25]<|.ret⟩
abbrev aRR(v:AV):Prop:=∃(op:Int) (a:List Int),v=.agg [vi op,.sl false (a.map bD)]/\dN op/\a.length<=3/\(∀n∈a,dN n)/\0<=op/\op<=10
theorem bU{n:Int}(h0:0<=n)(h1:n<=1000000):dN n:=by constructor<;>omega
set_option maxHeartbeats 1600000 in
theorem aRS{A:AProg}{g:String->Nat}(h:Has A g "(*dactyl/dactylref23.Maker).Sum" (gE g))(ht:fC A g):cX A (g "(*dactyl/dactylref23.Maker).Sum") [] aRR:=by
 refine h.gen (by simp[gE]) (fun n=>by kernel_rfl) ?_
 intro l i o v H hl hlt ho;simp only[gE];simp only[go_sem,seval];refine aW (aU ht (m:=5) (by decide)) hl (i:=i) (by simp only[go_sem,seval,gQ,hlt,ho]) ?_
 rintro val i1 ⟨x,rfl,hx0,hx1⟩;obtain⟨op,hop,htab⟩:=aNg [3,3,4,5,6] hx0 hx1;simp only[List.map,bD]at htab;have hopb:0<=op/\op<=6:=by
  have:∀n∈([3,3,4,5,6]:List Int),0<=n/\n<=6:=by decide
  exact this _ hop
 simp only[go_sem,seval,hlt,gH,hx0,htab];refine aW (aU ht (m:=6) (by decide)) hl (i:=i1) (by simp only[go_sem,seval,aI,hlt]) ?_
 rintro val i2 ⟨y,rfl,hy0,hy1⟩;obtain⟨a,ha,htab2⟩:=aNg [0,5,99,123,1005,47] hy0 hy1;simp only[List.map,bD]at htab2;have hab:0<=a/\a<=1005:=by
  have:∀n∈([0,5,99,123,1005,47]:List Int),0<=n/\n<=1005:=by decide
  exact this _ ha
 simp only[go_sem,seval,hlt,aK,hy0,htab2];refine aW (aU ht (m:=6) (by decide)) hl (i:=i2) (by simp only[go_sem,seval,aI,hlt]) ?_
 rintro val i3 ⟨z,rfl,hz0,hz1⟩;obtain⟨b,hb,htab3⟩:=aNg [3,9,12,58,1,70] hz0 hz1;simp only[List.map,bD]at htab3;have hbb:0<=b/\b<=70:=by
  have:∀n∈([3,9,12,58,1,70]:List Int),0<=n/\n<=70:=by decide
  exact this _ hb
 have hw:IntKind.i64.wrap (a+b)=a+b:=wrap_i64 (by omega) (by omega)
 have fin:∀ns:List Int,ns.length<=3->(∀n∈ns,0<=n/\n<=1000000)->aRR (.agg [vi op,.sl false (ns.map bD)]):=fun ns h1 h2=>⟨op,ns,rfl,bU hopb.1 (by omega),h1,fun n hn=>bU (h2 n hn).1 (h2 n hn).2,hopb.1,by omega⟩
 simp only[go_sem,seval,hlt,aK,hz0,htab3];refine aD (fun hbr => ?_) (fun hbr => ?_)
 ·simp only[go_sem,seval,hlt,hw,aS,aA (aB aP _)];exact⟨⟨i3,rfl⟩,fin [a+b,b] (by simp) (by intro n hn;simp only[List.mem_cons,List.not_mem_nil,or_false]at hn;rcases hn with rfl | rfl<;>omega)⟩
 ·simp only[go_sem,seval,hbr];refine aD (fun hbr2 => ?_) (fun hbr2 => ?_)
  ·simp only[go_sem,seval,hbr2];refine aW (aU ht (m:=3) (by decide)) hl (i:=i3) (by simp only[go_sem,seval,aI,hlt]) ?_
   rintro val i4 ⟨w,rfl,hw0,hw1⟩;have hbr3:(op==3)=true:=by simpa using hbr2
   simp only[go_sem,seval,hlt,aK,hbr3];refine aD (fun hbr4 => ?_) (fun hbr4 => ?_)
   ·simp only[go_sem,seval,hlt,aS,aA (aB aP _)];exact⟨⟨i4,rfl⟩,fin [a,b,808] (by simp) (by intro n hn;simp only[List.mem_cons,List.not_mem_nil,or_false]at hn;rcases hn with rfl | rfl | rfl<;>omega)⟩
   ·simp only[go_sem,seval,hlt,aS,aA (aB aP _)];exact⟨⟨i4,rfl⟩,fin [a,b] (by simp) (by intro n hn;simp only[List.mem_cons,List.not_mem_nil,or_false]at hn;rcases hn with rfl | rfl<;>omega)⟩
  ·have hbr3:(op==3)=false:=by
    cases hq:(op==3)with
    |false=>rfl
    |true=>rw[hq]at hbr2;cases hbr2
   simp only[go_sem,seval,hbr3,hlt,aS,aA (aB aP _)];exact⟨⟨i3,rfl⟩,fin [a,b] (by simp) (by intro n hn;simp only[List.mem_cons,List.not_mem_nil,or_false]at hn;rcases hn with rfl | rfl<;>omega)⟩
abbrev aG8(r:List Str):Prop:=1<=r.length/\r.length<=3/\∀s∈r,s.length<=60
abbrev aPZ(v:AV):Prop:=∃rows:List (List Str),v=.agg [.sl false (rows.map cA)]/\1<=rows.length/\rows.length<=3/\∀r∈rows,aG8 r
theorem aPe{A:AProg}{g:String->Nat}(hp:cX A (g "(*dactyl/dactylref23.Maker).Phrase") [] aG7){H:List AObj}{Q:AExit->bH->List AObj->List Nat->Prop}{tg}{l:List Int}(hl:gD l){o v:Nat}(hlt:o<H.length)
  {i:Int} {o0 o1 o2 o3:AObj} {c:Int} (hc0:1<=c) (hc1:c<=3) {ρ:bH} (e0:ρ 0=.ptr o v 0) (e5:ρ 5=vi c) (e7:ρ 7=.sl true []) (e8:ρ 8=vi 0)
  (hQ:∀ρ' i' o2 (r:List Str),(∀t,lJ.contains t=false->ρ' t=ρ t)->aG8 r->GSl (H.length+2) 1 (r.map aN) (ρ' 7) o2->Q (.exit 2) ρ' (H.set o (.box v (aH l i'))++[o0,o1,o2,o3]) [o]):
  wl A 37 ⟨H.length,[2,3,29,34]⟩ (lI g) ρ (H.set o (.box v (aH l i))++[o0,o1,o2,o3]) [o] Q tg:=by
 refine bZ (W:=lJ) (fun j ρ1 H1 wr=>wr=[o]/\ρ1 8=vi j/\∃i' o2,∃r:List Str,H1=H.set o (.box v (aH l i'))++[o0,o1,o2,o3]/\GSl (H.length+2) 1 (r.map aN) (ρ1 7) o2/\r.length=j/\∀a∈r,a.length<=60) c.toNat
  (fun ρ1 H1 wr=>wr=[o]/\∃i' o2,∃r:List Str,H1=H.set o (.box v (aH l i'))++[o0,o1,o2,o3]/\GSl (H.length+2) 1 (r.map aN) (ρ1 7) o2/\aG8 r)
  (by kernel_rfl) (by rfl) ⟨rfl,e8,i,o2,[],rfl,by rw[e7];exact .nil _,rfl,by simp⟩ ?_ (by
   rintro ρ' H' wr' ⟨rfl,i',o2,r,rfl,hg,hr⟩ hf;exact hQ ρ' i' o2 r hf hr hg)
 rintro j ρ1 H1 wr1 hjl ⟨rfl,e8,i',o2,r,rfl,hg,hrl,hro⟩ hf;have f0:ρ1 0=.ptr o v 0:=(hf 0 (by decide)).trans e0
 have f5:ρ1 5=vi c:=(hf 5 (by decide)).trans e5
 simp only[go_sem,seval,f5,e8];refine aD (fun hb => ?_) (fun hb => ?_)
 ·have hlt2:j<c.toNat:=by simp at hb;omega
  simp only[go_sem,seval,f0,e8];refine aW hp hl (i:=i') (by simp only[go_sem,seval,aI,hlt]) ?_
  rintro val i3 ⟨s,rfl,hs⟩;obtain⟨v',o',hg',happ⟩:=hg.app (new:=[[.str s]]) (bytes:=16) (by simp) (by rfl) (by rw[List.length_map,hrl];simp;omega)
  rw[show r.map aN++[[.str s]]=(r++[s]).map aN by simp[aN]]at hg'
  simp only[go_sem,seval,hlt,aK,happ];rw[dH (by omega)]
  refine⟨hlt2,rfl,i3,o',r++[s],rfl,hg',by simp[hrl], ?_⟩
  intro a ha;rcases List.mem_append.1 ha with ha | ha
  ·exact hro a ha
  ·have:a=s:=by simpa using ha
   subst this;exact hs
 ·have hlt2:j=c.toNat:=by simp at hb;omega
  subst hlt2;simp only[go_sem,seval];exact⟨i',o2,r,rfl,hg,by omega,by omega,hro⟩
theorem aPf{A:AProg}{g:String->Nat}(h:Has A g "(*dactyl/dactylref23.Maker).Grid" (fS g))(ht:fC A g)(hp:cX A (g "(*dactyl/dactylref23.Maker).Phrase") [] aG7):
  cX A (g "(*dactyl/dactylref23.Maker).Grid") [] aPZ:=by
 refine h.gen (by simp[fS]) (fun n=>by kernel_rfl) ?_
 intro l i o v H hl hlt ho;simp only[fS];simp only[go_sem,seval];refine aW (aU ht (m:=3) (by decide)) hl (i:=i) (by simp only[go_sem,seval,gQ,hlt,ho]) ?_
 rintro val i1 ⟨x,rfl,hx0,hx1⟩;have hwx:IntKind.i64.wrap (1+x)=1+x:=wrap_i64 (by omega) (by omega)
 simp only[go_sem,seval,hlt,gH,hwx];refine aW (aU ht (m:=3) (by decide)) hl (i:=i1) (by simp only[go_sem,seval,aI,hlt]) ?_
 rintro val i2 ⟨y,rfl,hy0,hy1⟩;have hwy:IntKind.i64.wrap (1+y)=1+y:=wrap_i64 (by omega) (by omega)
 simp only[go_sem,seval,hlt,aK,hwy];refine bZ (id:=0) (W:=tK) (fun j ρ1 H1 wr=>wr=[o]/\ρ1 6=vi j/\∃i' o2 o3 w,∃rows:List (List Str),H1=H.set o (.box v (aH l i'))++[.box 1 [.sl true []],.box 1 [w],o2,o3]/\GSl (H.length+3) 1 (rows.map cA) w o3/\rows.length=j/\∀a∈rows,aG8 a) (1+x).toNat
  (fun ρ1 H1 wr=>wr=[o]/\∃i' o2 o3 w,∃rows:List (List Str),H1=H.set o (.box v (aH l i'))++[.box 1 [.sl true []],.box 1 [w],o2,o3]/\GSl (H.length+3) 1 (rows.map cA) w o3/\rows.length=(1+x).toNat/\∀a∈rows,aG8 a)
  (by kernel_rfl) (by rfl) ⟨by simp only[go_sem,seval],by simp only[go_sem,seval],i2,.gone 0,.gone 0,.sl true [],[],rfl,.nil _,rfl,by simp⟩ ?_ ?_
 ·rintro j ρ1 H1 wr1 hjl ⟨rfl,e6,i',o2,o3,w,rows,rfl,hg,hrl,hro⟩ hf;have e0:ρ1 0=.ptr o v 0:=by rw[hf 0 (by decide)];simp only[go_sem,seval]
  have e3:ρ1 3=.ptr (H.length+1) 1 0:=by rw[hf 3 (by decide)];simp only[go_sem,seval]
  have e4:ρ1 4=vi (1+x):=by rw[hf 4 (by decide)];simp only[go_sem,seval]
  have e5:ρ1 5=vi (1+y):=by rw[hf 5 (by decide)];simp only[go_sem,seval]
  simp only[go_sem,seval,e4,e6];refine aD (fun hb => ?_) (fun hb => ?_)
  ·have hlt2:j<(1+x).toNat:=by simp at hb;omega
   simp only[go_sem,seval];refine aPe hp hl hlt (c:=1+y) (by omega) (by omega) (by simp only[go_sem,seval,e0]) (by simp only[go_sem,seval,e5]) (by simp only[go_sem,seval]) (by simp only[go_sem,seval]) ?_
   intro ρ2 i4 o2' r hf2 hr hg2;have g3:ρ2 3=.ptr (H.length+1) 1 0:=by rw[hf2 3 (by decide)];simp only[go_sem,seval,e3]
   have g6:ρ2 6=vi j:=by rw[hf2 6 (by decide)];simp only[go_sem,seval,e6]
   obtain⟨ff,lf,o2'',hfx,hgo,haw⟩:=hg2.lend (aB bL _);have hle:∀H',H'[H.length+2]? = some o2'->lend H' (ρ2 7)=some (.sl ff (r.map aN),lf):=by
    intro H' hh;have:=hfx H' hh;obtain⟨ver,h7,_⟩:=hg2.inv (by
     intro hnil;have:=congrArg List.length hnil;have h1:=hr.1;simp only[List.length_map,List.length_nil]at this;omega)
    rw[h7]at this ⊢;exact this
   obtain⟨v',o',hg',happ⟩:=hg.app (new:=[[.sl false (r.map aN)]]) (bytes:=24) (by simp) (by rfl) (by rw[List.length_map,hrl];simp;omega)
   rw[show rows.map cA++[[.sl false (r.map aN)]]=(rows++[r]).map cA by simp[cA]]at hg'
   simp only[go_sem,seval,g3,g6,hle,hgo,haw,happ,hg'.strip1,hg'.cellOk];rw[dH (by omega)]
   refine⟨hlt2,rfl,i4,o2'',o',v',rows++[r],rfl,hg',by simp[hrl], ?_⟩
   intro a ha;rcases List.mem_append.1 ha with ha | ha
   ·exact hro a ha
   ·have:a=r:=by simpa using ha
    subst this;exact hr
  ·have hlt2:j=(1+x).toNat:=by simp at hb;omega
   subst hlt2;simp only[go_sem,seval];exact⟨i',o2,o3,w,rows,rfl,hg,hrl,hro⟩
 ·rintro ρ2 H2 wr2 ⟨rfl,i',o2,o3,w,rows,rfl,hg,hrl,hro⟩ hf;have e2:ρ2 2=.ptr H.length 1 0:=by rw[hf 2 (by decide)];simp only[go_sem,seval]
  have e3:ρ2 3=.ptr (H.length+1) 1 0:=by rw[hf 3 (by decide)];simp only[go_sem,seval]
  have hne:rows.map cA≠[]:=by
   intro h;have:=congrArg List.length h;simp only[List.length_map,hrl,List.length_nil]at this;omega
  obtain⟨ver,e4,rfl⟩:=hg.inv hne;simp only[go_sem,seval,e2,e3,e4,hlt,aO (aB cR _),aA (aB cR _),aA (aB aP _),aS];exact⟨⟨i',rfl⟩,rows,rfl,by omega,by omega,hro⟩
inductive Deep:Nat->Expr->Prop where
 |mk (d:Nat) (op n:Int) (kids:List Expr):(0<=op/\op<=100)->(0<=n/\n<=1000000)->kids.length<=2->(∀e∈kids,Deep d e)->(kids.length=0/\op<=1∨kids.length=1/\(op=2∨op=8)∨kids.length=2/\(3<=op/\op<=7∨9<=op/\op<=10))->Deep (d+1) (.mk op n kids)
theorem Deep.ok:∀{d:Nat} {e:Expr},Deep d e->e.Ok/\iN e<=2 ^ d - 1
 |0,e,h=>by cases h
 |d+1,.mk op n kids,h=>by
  cases h with
  |mk _ _ _ _ h1 h2 h3 h4 h5=>
   refine⟨.mk _ _ _ (bU h1.1 (by omega)) (bU h2.1 h2.2) (by omega) fun e he=>(Deep.ok (h4 e he)).1, ?_⟩
   have hk:cP kids<=2*(2 ^ d - 1):=by
    match kids,h3,h4 with
    | [],_,_=>simp[cP]
    | [a],_,h4=>have:=(Deep.ok (h4 a (by simp))).2;simp only[cP];omega
    | [a,b],_,h4=>have h5:=(Deep.ok (h4 a (by simp))).2;have h6:=(Deep.ok (h4 b (by simp))).2;simp only[cP];omega
    |_::_::_::_,h3,_=>simp at h3
   have hp:1<=2 ^ d:=Nat.one_le_two_pow;rw[iN,Nat.pow_succ];omega
abbrev aD5(d:Nat)(v:AV):Prop:=∃e:Expr,v=.agg (aF e)/\Deep d e
def arity(op:Int):Int:=if op=0 then 0 else if op=1 then 0 else if op=2 then 1 else if op=8 then 1 else 2
theorem aLl{A:AProg}{g:String->Nat}(h:Has A g "dactyl/dactylref23.Arity" (kR g))(op:Int)(H:List AObj):aL A (g "dactyl/dactylref23.Arity") [vi op] H=some (vi (arity op),H,[]):=by
 refine h.call (by simp[kR]) (by kernel_rfl) ?_
 simp only[kR]
 by_cases h0:op=0
 ·subst h0;simp only[go_sem,seval,arity]
 ·by_cases h1:op=1
  ·subst h1;simp only[go_sem,seval,arity]
  ·by_cases h2:op=2
   ·subst h2;simp only[go_sem,seval,arity]
   ·by_cases h8:op=8
    ·subst h8;simp only[go_sem,seval,arity]
    ·simp only[go_sem,seval,arity,aD4 h0,aD4 h1,aD4 h2,aD4 h8,h0,h1,h2,h8]
theorem aPg(op:Int):0<=arity op/\arity op<=2:=by
 unfold arity
 split
 ·omega
 ·split
  ·omega
  ·split
   ·omega
   ·split<;>omega
theorem aNm{op:Int}(h1:2<=op)(h2:op<=8):(arity op).toNat=1/\(op=2∨op=8)∨(arity op).toNat=2/\(3<=op/\op<=7∨9<=op/\op<=10):=by
 unfold arity;rw[if_neg (by omega),if_neg (by omega)]
 by_cases h3:op=2
 ·rw[if_pos h3];exact .inl ⟨rfl,.inl h3⟩
 ·rw[if_neg h3]
  by_cases h4:op=8
  ·rw[if_pos h4];exact .inl ⟨rfl,.inr h4⟩
  ·rw[if_neg h4];exact .inr ⟨rfl,.inl ⟨by omega,by omega⟩⟩
set_option maxHeartbeats 1600000 in
theorem aKp{A:AProg}{g:String->Nat}(h:Has A g "(*dactyl/dactylref23.Maker).term" (fT g))(ht:fC A g)
  (har:∀(op:Int) (H:List AObj),aL A (g "dactyl/dactylref23.Arity") [vi op] H=some (vi (arity op),H,[])):∀d:Nat,d<=3->cX A (g "(*dactyl/dactylref23.Maker).term") [vi d] (aD5 (d+1))
 |d,hd=>by
  have ih:∀d',d=d'+1->cX A (g "(*dactyl/dactylref23.Maker).term") [vi d'] (aD5 (d'+1)):=fun d' hd'=>aKp h ht har d' (by omega)
  refine h.gen (by simp[fT]) (fun n=>by kernel_rfl) ?_
  intro l i o v H hl hlt ho;have leaf:∀op n:Int,0<=op->op<=1->0<=n->n<=1000000->aD5 (d+1) (.agg [vi op,vi n,.sl false []]):=fun op n h1 h2 h3 h4=>⟨.mk op n [],rfl,.mk _ _ _ _ ⟨h1,by omega⟩ ⟨h3,h4⟩ (by simp) (by simp) (.inl ⟨rfl,h2⟩)⟩
  simp only[fT];simp only[go_sem,seval];refine aW (aU ht (m:=12) (by decide)) hl (i:=i) (by simp only[go_sem,seval,gQ,hlt,ho]) ?_
  rintro val i1 ⟨k,rfl,hk0,hk1⟩;cases d with
  |zero=>
   have hkm:0<=k.tmod 3/\k.tmod 3<3:=⟨Int.tmod_nonneg _ hk0,Int.tmod_lt_of_pos _ (by decide)⟩
   simp only[go_sem,seval,hlt,gH,sN (b:=3) (by decide),Int.cast_ofNat_Int]
   refine aD (fun hb => ?_) (fun hb => ?_)
   ·simp only[go_sem,seval];refine aW (aU ht (m:=6) (by decide)) hl (i:=i1) (by simp only[go_sem,seval,aI,hlt]) ?_
    rintro val i2 ⟨x,rfl,hx0,hx1⟩;obtain⟨n,hn,htab⟩:=aNg [0,1,7,12,100,999999] hx0 hx1;simp only[List.map,bD]at htab;have hnb:0<=n/\n<=1000000:=by
     have:∀n∈([0,1,7,12,100,999999]:List Int),0<=n/\n<=1000000:=by decide
     exact this _ hn
    simp only[go_sem,seval,hlt,aK,hx0,htab,aS,aA (aB aP _)];exact⟨⟨i2,rfl⟩,leaf 0 n (by decide) (by decide) hnb.1 hnb.2⟩
   ·simp only[go_sem,seval];refine aD (fun hb2 => ?_) (fun hb2 => ?_)
    ·simp only[go_sem,seval];refine aW (aU ht (m:=4) (by decide)) hl (i:=i1) (by simp only[go_sem,seval,aI,hlt]) ?_
     rintro val i2 ⟨x,rfl,hx0,hx1⟩;simp only[go_sem,seval,hlt,aK,aS,aA (aB aP _)];exact⟨⟨i2,rfl⟩,leaf 1 x (by decide) (by decide) hx0 (by omega)⟩
    ·exfalso;simp at hb hb2;omega
  |succ d'=>
   have hd0:decide ((((d'+1:Nat):Int))<=0)=false:=by first | (simp;done)|(simp;omega)
   have hcast:(((d'+1:Nat):Int))=(d':Int)+1:=rfl;simp only[go_sem,seval,hlt,gH,hd0];refine aD (fun hb => ?_) (fun hb => ?_)
   ·simp only[go_sem,seval];refine aW (aU ht (m:=6) (by decide)) hl (i:=i1) (by simp only[go_sem,seval,aI,hlt]) ?_
    rintro val i2 ⟨x,rfl,hx0,hx1⟩;obtain⟨n,hn,htab⟩:=aNg [0,1,7,12,100,999999] hx0 hx1;simp only[List.map,bD]at htab;have hnb:0<=n/\n<=1000000:=by
     have:∀n∈([0,1,7,12,100,999999]:List Int),0<=n/\n<=1000000:=by decide
     exact this _ hn
    simp only[go_sem,seval,hlt,aK,hx0,htab,aS,aA (aB aP _)];exact⟨⟨i2,rfl⟩,leaf 0 n (by decide) (by decide) hnb.1 hnb.2⟩
   ·simp only[go_sem,seval];refine aD (fun hb2 => ?_) (fun hb2 => ?_)
    ·simp only[go_sem,seval];refine aW (aU ht (m:=4) (by decide)) hl (i:=i1) (by simp only[go_sem,seval,aI,hlt]) ?_
     rintro val i2 ⟨x,rfl,hx0,hx1⟩;simp only[go_sem,seval,hlt,aK,aS,aA (aB aP _)];exact⟨⟨i2,rfl⟩,leaf 1 x (by decide) (by decide) hx0 (by omega)⟩
    ·simp only[go_sem,seval];refine aW (aU ht (m:=7) (by decide)) hl (i:=i1) (by simp only[go_sem,seval,aI,hlt]) ?_
     rintro val i2 ⟨x,rfl,hx0,hx1⟩;have hwx:IntKind.i64.wrap (2+x)=2+x:=wrap_i64 (by omega) (by omega)
     simp only[go_sem,seval,hlt,aK,hwx];have hal:=aPg (2+x);refine bZ (id:=0) (W:=tN) (fun j ρ1 H1 wr=>wr=[o]/\ρ1 8=vi j/\∃i' o2 w,∃kids:List Expr,H1=H.set o (.box v (aH l i'))++[.box 1 [vi 0,vi 0,.sl true []],.box 1 [vi (2+x),vi 0,w],o2]/\GSl (H.length+2) 3 (kids.map aF) w o2/\kids.length=j/\∀a∈kids,Deep (d'+1) a) (arity (2+x)).toNat
      (fun ρ1 H1 wr=>wr=[o]/\∃i' o2 w,∃kids:List Expr,H1=H.set o (.box v (aH l i'))++[.box 1 [vi 0,vi 0,.sl true []],.box 1 [vi (2+x),vi 0,w],o2]/\GSl (H.length+2) 3 (kids.map aF) w o2/\kids.length=(arity (2+x)).toNat/\∀a∈kids,Deep (d'+1) a)
      (by kernel_rfl) (by rfl) ⟨by simp only[go_sem,seval],by simp only[go_sem,seval],i2,.gone 0,.sl true [],[],by simp only[go_sem,seval],.nil _,rfl,by simp⟩ ?_ ?_
     ·rintro j ρ1 H1 wr1 hjl ⟨rfl,e8,i',o2,w,kids,rfl,hg,hkl,hko⟩ hf;have e0:ρ1 0=.ptr o v 0:=by rw[hf 0 (by decide)];simp only[go_sem,seval]
      have e1:ρ1 1=vi ((d':Int)+1):=by rw[hf 1 (by decide)];simp only[go_sem,seval];rfl
      have e6:ρ1 6=vi (2+x):=by rw[hf 6 (by decide)];simp only[go_sem,seval]
      have e7:ρ1 7=.ptr (H.length+1) 1 0:=by rw[hf 7 (by decide)];simp only[go_sem,seval]
      simp only[go_sem,seval,e6,e8,har];refine aD (fun hb3 => ?_) (fun hb3 => ?_)
      ·have hlt2:j<(arity (2+x)).toNat:=by simp at hb3;omega
       have hwd:IntKind.i64.wrap ((d':Int)+1 - 1)=(d':Int):=by rw[wrap_i64 (by omega) (by omega)];omega
       have hne:(H.length+1==o)=false:=by simp;omega
       simp only[go_sem,seval];refine bN (keep:=lK) (by rfl) (by rfl) ?_
       simp only[go_sem,seval,lK,e0,e1,e7,hwd];refine dP (ih d' rfl) hl (i:=i') (by simp only[go_sem,seval,aI,hlt]) ?_
       rintro val i3 ⟨e,rfl,he⟩;obtain⟨w',o',hg',happ⟩:=hg.app (new:=[aF e]) (bytes:=40) (by simp) (by rw[vQ,oH];rfl) (by rw[List.length_map,hkl];simp;omega)
       rw[show kids.map aF++[aF e]=(kids++[e]).map aF by simp]at hg'
       simp only[go_sem,seval,hlt,e8,aK,oH,aM (aQ _),bK (aQ _),happ,hg'.cellOk,hg'.strip1,fG,eB,hne,aR];rw[dH (by omega)]
       refine⟨hlt2,rfl,i3,o',w',kids++[e],rfl,hg',by simp[hkl], ?_⟩
       intro a ha;rcases List.mem_append.1 ha with ha | ha
       ·exact hko a ha
       ·have:a=e:=by simpa using ha
        subst this;exact he
      ·have hlt2:j=(arity (2+x)).toNat:=by simp at hb3;omega
       subst hlt2;simp only[go_sem,seval];exact⟨i',o2,w,kids,rfl,hg,hkl,hko⟩
     ·rintro ρ2 H2 wr2 ⟨rfl,i',o2,w,kids,rfl,hg,hkl,hko⟩ hf;have e4:ρ2 4=.ptr H.length 1 0:=by rw[hf 4 (by decide)];simp only[go_sem,seval]
      have e7:ρ2 7=.ptr (H.length+1) 1 0:=by rw[hf 7 (by decide)];simp only[go_sem,seval]
      obtain⟨ff,lf,o2'',hfx,hgo,haw⟩:=hg.lend (aB aQ _);simp only[go_sem,seval,e4,e7,hlt,hg.cellOk,hfx,hgo,haw,aA (aB aQ _),aA (aB aP _),aS];exact⟨⟨i',rfl⟩,.mk (2+x) 0 kids,by rw[aF,aZ],.mk _ _ _ _ ⟨by omega,by omega⟩ ⟨by decide,by decide⟩ (by omega) hko (by rw[hkl];exact .inr (aNm (by omega) (by omega)))⟩
end Go.AM
end
