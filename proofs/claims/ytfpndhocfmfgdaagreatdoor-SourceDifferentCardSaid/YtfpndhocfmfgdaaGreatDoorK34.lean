/- Part 34: lemmas for the last text. -/
import Derived.Test.YtfpndhocfmfgdaaGreatDoorK23
import Derived.Test.YtfpndhocfmfgdaaGreatDoorK24
import Derived.Test.YtfpndhocfmfgdaaGreatDoorK27
import Derived.Test.YtfpndhocfmfgdaaGreatDoorK33
set_option linter.unusedVariables false
set_option linter.unusedSimpArgs false
section
set_option maxRecDepth 8000
namespace Go.AM
open Go
abbrev aB1(g:String->Nat):ACode:=qS [qb 22 .lss 21 20]<|.seq (qC 22 (.skip) (.exit 2))<|.seq (.block 3 (qS [qi 23 19 21 1,ql 24 1 23,qm 9 24]<|.region false [qm 25 7,qm 26 3,qm 27 9,qc 28 (g "(*strings.Replacer).Replace") [u 26,u 27],qq 29 (.bsl 1 [(.str [])] 1 [(0,(.tmp 28))]),qa 30 1 16 25 29,qm 7 30]))<|.region false [qbi 31 .add 21 1,qm 21 31]
abbrev aB2:List Nat:=[22,23,24,9,25,26,27,28,29,30,7,31,21]
abbrev aB3(g:String->Nat):ACode:=qS [qb 16 .lss 15 14]<|.seq (qC 16 (.skip) (.exit 0))<|.seq (.block 1 (qS [qi 17 13 15 1,ql 18 1 17,qm 6 18]<|qS [qmc 7 (.sl true [])]<|.seq (qS [qm 19 6,qn 20 19,qmc 21 (.int .i64 0)]<|.block 2 (.loop (aB1 g)))<|.region false [qm 32 4,qm 33 7,qc 34 (g "strings.Join") [u 33,uc (.str [124])],qq 35 (.bsl 1 [(.str [])] 1 [(0,(.tmp 34))]),qa 36 1 16 32 35,qm 4 36]))<|.region false [qbi 37 .add 15 1,qm 15 37]
abbrev aB4:List Nat:=[16,17,18,6,7,19,20,21,22,23,24,9,25,26,27,28,29,30,7,31,21,32,33,34,35,36,4,37,15]
def pA(g:String->Nat):AFn:=⟨40,[30,36],[.tmp 2],qS [qx 1 1 0,qmc 2 (.str [])]<|qS [qq 10 (.bsl 1 [(.str [])] 6 [(0,(.const (.str [126]))),(1,(.const (.str [126,126]))),(2,(.const (.str [124]))),(3,(.const (.str [126,124]))),(4,(.const (.str [59]))),(5,(.const (.str [126,59])))]),qc 11 (g "strings.NewReplacer") [u 10],qm 3 11]<|qS [qmc 4 (.sl true [])]<|.seq (qS [qf 12 0 1,ql 13 1 12,qn 14 13,qmc 15 (.int .i64 0)]<|.block 0 (.loop (aB3 g)))<|qS [qm 38 4,qc 39 (g "strings.Join") [u 38,uc (.str [59])],qm 2 39]<|.ret⟩
def mGp:List (UInt8×Str):=[(126,[126,126]),(124,[126,124]),(59,[126,59])]
theorem aJt:∀s:Str,mZ (fW mGp) s=esc mG s
 | []=>rfl
 |c::s=>by
  rw[yY,sE,aJt s];congr 1;unfold mG
  by_cases e1:c=126
  ·subst e1;rfl
  by_cases e2:c=124
  ·subst e2;rfl
  by_cases e3:c=59
  ·subst e3;rfl
  have:fW mGp c=none:=by simp[fW,mGp,e1,e2,e3]
  rw[aCq this];simp[e1,e2,e3]
theorem aP8(s:Str):(esc mG s).length<=2*s.length:=by
 rw[<- aJt];exact aBC (fun c t e=>by
  have:=aBD e;have h2:∀p∈mGp,p.2.length<=2:=by decide
  exact h2 _ this) (by omega) s
def xW(H:List AObj)(r:Bool)(a b:AObj):List AObj:=H++(if r then [a,b,.vec 1 1 (fB mGp),qU 1 (H.length+5)]++sZ mGp (H.length+4)else [a,b,.vec 1 1 (fB mGp),aG0 1 (H.length+2) 1 6])
section
variable {H:List AObj}{r:Bool}{a b x:AObj}
theorem aY2:(xW H r a b)[H.length]? = some a:=by unfold xW;rw[vP];cases r<;>rfl
theorem aY3:(xW H r a b)[H.length+1]? = some b:=by unfold xW;rw[gP];cases r<;>rfl
theorem aXj:(xW H r a b).set H.length x=xW H r x b:=by unfold xW;rw[aBu];cases r<;>rfl
theorem aXk:(xW H r a b).set (H.length+1) x=xW H r a x:=by unfold xW;rw[nI];cases r<;>rfl
theorem aRO:(xW H r a b).take H.length=H:=by unfold xW;rw[aBv]
end
section
variable {A:AProg}{g:String->Nat}{tB tP:Nat}
structure GridFns(A:AProg)(g:String->Nat)(tB tP:Nat) extends MelFns A g tB tP where
 newR:Has A g "strings.NewReplacer" (fM g)
 rpl:RepFns A g
 bsr:Has A g "(*strings.byteStringReplacer).Replace" (bX g)
 num:g "(*strings.byteStringReplacer).Replace" = 355
 grid:Has A g "dactyl/source.writeGrid" (pA g)
theorem aP9(F:GridFns A g tB tP){H:List AObj}{r:Bool}{a b:AObj}{s:Str}(hs:s.length<=1000):∃wr,aL A (g "(*strings.Replacer).Replace") [.ptr (H.length+3) 1 0,.str s] (xW H r a b)=some (.str (esc mG s),xW H true a b,wr)/\∀x∈wr,H.length<=x:=by
 have hB:=aKh F.bsr F.num F.cnt mGp (by decide) (by decide) (by decide) (by decide)
 rw[<- aJt];cases r with
 |true=>
  have h1:(xW H true a b)[H.length+3]? = some (qU 1 (H.length+5)):=by unfold xW;rw[gP];rfl
  have h2:(xW H true a b)[H.length+5]? = some (.box 1 (bsr (fW mGp) (.sr (H.length+4) 1 mGp.length))):=by unfold xW;rw[gP];rfl
  have h3:(xW H true a b)[H.length+4]? = some (.vec 1 1 (mGp.reverse.map fun p=>[.str [p.1]])):=by unfold xW;rw[gP];rfl
  exact⟨[],aGQ F.rpl hB hs h1 h2 h3,fun x hx=>by cases hx⟩
 |false=>
  have h1:(xW H false a b)[H.length+3]? = some (aG0 1 (H.length+2) 1 (fB mGp).length):=by unfold xW;rw[gP];rfl
  have h2:(xW H false a b)[H.length+2]? = some (.vec 1 1 (fB mGp)):=by unfold xW;rw[gP];rfl
  have h3:=aBz F.rpl hB (by decide) (by decide) (by decide) (by decide) hs h1 h2
  refine⟨[H.length+3], ?_,fun x hx=>by rw[List.mem_singleton.1 hx];omega⟩
  rw[h3];have hl:(xW H false a b).length=H.length+4:=by unfold xW;simp
  rw[hl];unfold xW;simp only[Bool.false_eq_true,if_false,if_true];rw[nI,List.append_assoc];rfl
theorem aFe(F:GridFns A g tB tP)(l:List (List Str))(hl:l.length<=16)(hs:∀r∈l,r.length<=16/\∀s∈r,s.length<=1000)(H:List AObj):aL A (g "dactyl/source.writeGrid") [.agg [.sl false (l.map cA)]] H=some (.str (aL6 l),H,[]):=by
 refine F.grid.call (by simp[pA]) (by kernel_rfl) ?_
 have h1:=xR F.newR mGp (by decide) (by decide) (H++[.gone 0,.gone 0])
 rw[show (H++[AObj.gone 0,.gone 0]).length+1=H.length+3 by simp,show H++[AObj.gone 0,.gone 0]++[.vec 1 1 (fB mGp),.box 1 [.int .u32 0,.int .i32 0,.int .u32 0,.nilIfc,.sr (H++[AObj.gone 0,.gone 0]).length 1 (fB mGp).length]]=xW H false (.gone 0) (.gone 0)from by
  unfold xW aG0;rw[show (H++[AObj.gone 0,.gone 0]).length=H.length+2 by simp,List.append_assoc]
  rfl]at h1
 have hrow:[[AV.str [126]],[AV.str [126,126]],[AV.str [124]],[AV.str [126,124]],[AV.str [59]],[AV.str [126,59]]]=fB mGp:=rfl;simp only[pA];simp only[go_sem,↓aC,seval,List.length_map,hrow,h1];have hW:aL6 l=sb [59] (l.map fun r=>sb [124] (r.map (esc mG))):=rfl;have hEl:∀r∈l,(sb [124] (r.map (esc mG))).length<=33000:=fun r hr=>by
  obtain⟨q1,q2⟩:=hs r hr;have:=aD3 (l:=r.map (esc mG)) (sep:=[124]) (M:=2000) (fun s hs'=>by
   obtain⟨t,ht,rfl⟩:=List.mem_map.1 hs';have:=aP8 t;have:=q2 t ht;omega)
  simp at this;omega
 generalize hE:(fun r:List Str=>sb [124] (r.map (esc mG)))=E at hW;refine bZ (id:=0) (W:=aB4) (fun i ρ1 H1 wr=>wr=[]/\ρ1 15=vi (i:Nat)/\∃w o x r,H1=xW H r x o/\ρ1 4=w/\GSl (H.length+1) 1 (((l.take i).map E).map aN) w o) l.length
  (fun ρ1 H1 wr=>wr=[]/\∃w o x r,H1=xW H r x o/\ρ1 4=w/\GSl (H.length+1) 1 ((l.map E).map aN) w o)
  (by kernel_rfl) (by rfl) ⟨rfl,rfl,.sl true [],.gone 0,.gone 0,false,rfl,rfl,.nil _⟩ ?_ ?_
 ·rintro i ρ1 H1 wr1 hil ⟨rfl,e15,w,o,x,rb,rfl,e4,hg⟩ hf;have e14:ρ1 14=vi (l.length:Nat):=by rw[hf 14 (by rfl)];rfl
  have e13:ρ1 13=.sl false (l.map cA):=by rw[hf 13 (by rfl)];rfl
  have e3:ρ1 3=.ptr (H.length+3) 1 0:=by rw[hf 3 (by rfl)];rfl
  simp only[go_sem,↓aC,seval,e15,e14];refine aD (fun hb => ?_) (fun hb => ?_)
  ·have hlt:i<l.length:=by simp at hb;omega
   have hget:(l.map cA)[i]? = some (cA l[i]):=by rw[List.getElem?_map,List.getElem?_eq_getElem hlt];rfl
   obtain⟨q1,q2⟩:=hs _ (List.getElem_mem hlt);have htk:=kQ E hlt;have hEd:sb [124] (l[i].map (esc mG))=E l[i]:=by rw[<- hE]
   have hEl1:=hEl _ (List.getElem_mem hlt);generalize l[i]=row at *;rw[hEd]at hEl1;have hw1:IntKind.i64.wrap ((i:Int)+1)=((i+1:Nat):Int):=by rw[wrap_i64 (by omega) (by omega)];omega
   simp only[go_sem,↓aC,seval,e15,e13,List.length_map,Int.natCast_nonneg,Int.toNat_natCast,hlt,hget,cA];refine bZ (id:=2) (W:=aB2) (fun j ρ2 H2 wr=>wr=[]/\ρ2 21=vi (j:Nat)/\∃w2 o2 r2,H2=xW H r2 o2 o/\ρ2 7=w2/\GSl H.length 1 (((row.take j).map (esc mG)).map aN) w2 o2) row.length
    (fun ρ2 H2 wr=>wr=[]/\∃w2 o2 r2,H2=xW H r2 o2 o/\ρ2 7=w2/\GSl H.length 1 ((row.map (esc mG)).map aN) w2 o2)
    (by kernel_rfl) (by rfl) ⟨rfl,rfl,.sl true [],x,rb,rfl,rfl,.nil _⟩ ?_ ?_
   ·rintro j ρ2 H2 wr2 hjl ⟨rfl,f21,w2,o2,r2,rfl,f7,hg2⟩ hf2;have f20:ρ2 20=vi (row.length:Nat):=by rw[hf2 20 (by rfl)];rfl
    have f19:ρ2 19=.sl false (row.map aN):=by rw[hf2 19 (by rfl)];rfl
    have f3:ρ2 3=.ptr (H.length+3) 1 0:=by rw[hf2 3 (by rfl)];exact e3
    simp only[go_sem,↓aC,seval,f21,f20];refine aD (fun hb2 => ?_) (fun hb2 => ?_)
    ·have jlt:j<row.length:=by simp at hb2;omega
     have jget:(row.map aN)[j]? = some (aN row[j]):=by rw[List.getElem?_map,List.getElem?_eq_getElem jlt];rfl
     have q3:=q2 _ (List.getElem_mem jlt);have htk2:=kQ (esc mG) jlt;generalize row[j]=s at *;obtain⟨wr3,c1,c2⟩:=aP9 F (H:=H) (r:=r2) (a:=o2) (b:=o) q3;obtain⟨w',o',hg',happ⟩:=aCx hg2 (by simp;omega) (esc mG s)
     rw[<- htk2]at hg';have hw2:IntKind.i64.wrap ((j:Int)+1)=((j+1:Nat):Int):=by rw[wrap_i64 (by omega) (by omega)];omega
     have happ':=fun f=>happ (xW H true o2 o) f aY2;rw[aXj]at happ';simp only[go_sem,↓aC,seval,f21,f19,f3,f7,Int.natCast_nonneg,Int.toNat_natCast,jlt,jget,aN,c1,aA0 c2,happ',hw2];exact⟨w',o',true,rfl,rfl,hg'⟩
    ·have hj:j=row.length:=by simp at hb2;omega
     subst hj;rw[List.take_length]at hg2;simp only[go_sem,seval];exact⟨w2,o2,r2,rfl,f7,hg2⟩
   ·rintro ρ2 H2 wr2 ⟨rfl,w2,o2,r2,rfl,f7,hg2⟩ hf2;have f4:ρ2 4=w:=by rw[hf2 4 (by rfl)];exact e4
    have f15:ρ2 15=vi (i:Nat):=by rw[hf2 15 (by rfl)];exact e15
    have hj:=qA F.join hg2 [124] (by simp;omega) (by rw[hEd];omega)
    rw[hEd]at hj;have hj':=fun site=>hj (xW H r2 o2 o) site aY2;obtain⟨w',o',hg',happ⟩:=aCx hg (by simp;omega) (E row)
    rw[<- htk]at hg';have happ':=fun f=>happ (xW H r2 o2 o) f aY3;rw[aXk]at happ';simp only[go_sem,↓aC,seval,f4,f7,f15,hj',happ',hw1];exact⟨hlt,w',o',_,_,rfl,rfl,hg'⟩
  ·have hi:i=l.length:=by simp at hb;omega
   subst hi;rw[List.take_length]at hg;simp only[go_sem,seval];exact⟨w,o,x,rb,rfl,e4,hg⟩
 ·rintro ρ2 H2 wr2 ⟨rfl,w,o,x,rb,rfl,e4,hg⟩ hf;have hj:=qA F.join hg [59] (by simp;omega) (by
   have:=aD3 (l:=l.map E) (sep:=[59]) (M:=33000) (fun s hs'=>by
    obtain⟨t,ht,rfl⟩:=List.mem_map.1 hs';rw[<- hE];exact hEl t ht)
   simp at this;omega)
  have hj':=fun site=>hj (xW H rb x o) site aY3;simp only[go_sem,↓aC,seval,e4,hj',hW,aRO]
end
def xD(g:String->Nat):AFn:=⟨9,[1],[.tmp 0],qS [qmc 0 .undef]<|qS [qq 1 (.mkmap),qq 2 (.build [.nilFn,.nilFn] [(0,1,(.const (.fn (g "dactyl/source.ways$1") [] []))),(1,1,(.const (.fn (g "dactyl/source.ways$2") [] [])))]),qz (.ins (u 1) (ui 0) (u 2)),qq 3 (.build [.nilFn,.nilFn] [(0,1,(.const (.fn (g "dactyl/source.ways$3") [] []))),(1,1,(.const (.fn (g "dactyl/source.readFormula") [] [])))]),qz (.ins (u 1) (ui 1) (u 3)),qq 4 (.build [.nilFn,.nilFn] [(0,1,(.const (.fn (g "dactyl/source.ways$4") [] []))),(1,1,(.const (.fn (g "dactyl/source.ways$5") [] [])))]),qz (.ins (u 1) (ui 2) (u 4)),qq 5 (.build [.nilFn,.nilFn] [(0,1,(.const (.fn (g "dactyl/source.ways$6") [] []))),(1,1,(.const (.fn (g "dactyl/source.ways$7") [] [])))]),qz (.ins (u 1) (ui 3) (u 5)),qq 6 (.build [.nilFn,.nilFn] [(0,1,(.const (.fn (g "dactyl/source.ways$8") [] []))),(1,1,(.const (.fn (g "dactyl/source.ways$9") [] [])))]),qz (.ins (u 1) (ui 5) (u 6)),qq 7 (.build [.nilFn,.nilFn] [(0,1,(.const (.fn (g "dactyl/source.ways$10") [] []))),(1,1,(.const (.fn (g "dactyl/source.ways$11") [] [])))]),qz (.ins (u 1) (ui 6) (u 7)),qm 8 1,qm 0 8]<|.ret⟩
def xE(g:String->Nat):AFn:=⟨6,[],[.tmp 2],qS [qx 1 13 0,qmc 2 (.str [])]<|qS [qf 3 1 1,ql 4 1 3,qc 5 (g "dactyl/source.writeRuns") [u 4],qm 2 5]<|.ret⟩
def xF(g:String->Nat):AFn:=⟨6,[],[.tmp 2],qS [qx 1 13 0,qmc 2 (.str [])]<|qS [qf 3 2 1,qla 4 3 3,qc 5 (g "dactyl/formula.Text") [u 4],qm 2 5]<|.ret⟩
def xG(g:String->Nat):AFn:=⟨6,[],[.tmp 2],qS [qx 1 13 0,qmc 2 (.str [])]<|qS [qf 3 5 1,qla 4 2 3,qc 5 (g "dactyl/source.writeSum") [u 4],qm 2 5]<|.ret⟩
def xH(g:String->Nat):AFn:=⟨6,[],[.tmp 2],qS [qx 1 13 0,qmc 2 (.str [])]<|qS [qf 3 7 1,qla 4 1 3,qc 5 (g "dactyl/source.writeGrid") [u 4],qm 2 5]<|.ret⟩
def xI(g:String->Nat):AFn:=⟨6,[],[.tmp 2],qS [qx 1 13 0,qmc 2 (.str [])]<|qS [qf 3 11 1,qla 4 1 3,qc 5 (g "dactyl/source.writeMelody") [u 4],qm 2 5]<|.ret⟩
def tE(g:String->Nat):AFn:=⟨6,[],[.tmp 2],qS [qx 1 13 0,qmc 2 (.str [])]<|qS [qf 3 12 1,ql 4 1 3,qc 5 (g "dactyl/source.writeLines") [u 4],qm 2 5]<|.ret⟩
abbrev aFf(g:String->Nat):List AOper:=[qc 13 (g "dactyl/source.ways") [],qf 14 0 1,⟨some 15,ol 1 14,none,[1]⟩,⟨some 16,.look (.agg [.nilFn,.nilFn]) (u 13) (u 15) true,none,[0,2,1]⟩,⟨some 12,om 16,none,[3,0,2,1]⟩,⟨some 17,.ext 0 (u 12),none,[4,3,0,2,1]⟩,⟨some 18,.ext 1 (u 12),none,[4,3,0,2,1]⟩,qq 5 (.alloc [.nilFn,.nilFn]),⟨none,os 2 5 17,none,[5,4,3,0,2,1,7]⟩,⟨some 6,om 18,none,[6,8,5,4,3,0,2,1,7]⟩]
abbrev tF:List Nat:=[0,2,7]
def aB5(g:String->Nat):AFn:=⟨25,[5],[.tmp 2,.tmp 3],qS [qx 1 13 0,qmc 2 (.str []),qmc 3 (.int .i64 0)]<|.seq (qS [qla 7 13 1,qc 8 (g "dactyl/source.check") [u 7],qm 4 8]<|qS [qm 9 4,qbi 10 .neq 9 0]<|qC 10 (qS [qm 11 4,qmc 2 (.str []),qm 3 11]<|.ret) (.skip))<|.seq (.region true (aFf g))<|.seq (qS [qm 19 6,qq 20 (.un .not (u 19))]<|qC 20 (qS [qmc 2 (.str []),qmc 3 (.int .i64 13)]<|.ret) (.skip))<|qS [qf 21 0 5,ql 22 1 21,qla 23 13 1,qq 24 (.callv (u 22) [(.tmp 23)]),qm 2 24,qmc 3 (.int .i64 0)]<|.ret⟩
theorem aPX:∀(m:List Run) (r:Run),(∀i,i+1<(r::m).length->sD (r::m) (i+1)≠sD (r::m) i)->(∀x∈m,x.lang=0∨x.lang=1)->Alt r.lang m
 | [],_,_,_=>trivial
 |x::m,r,h,hl=>by
  refine⟨?_,hl x List.mem_cons_self,aPX m x (fun i hi => ?_) fun y hy=>hl y (List.mem_cons_of_mem _ hy)⟩
  ·exact h 0 (by simp)
  ·have:=h (i+1) (by simp at hi ⊢;omega)
   exact this
theorem aPa{l:List Run}(h:aI3 l=true):RunsG l:=by
 simp only[aI3,Bool.and_eq_true,iP]at h;obtain⟨h1,⟨h2,_⟩,h3⟩:=h;have h4:∀r∈l,(r.lang=0∨r.lang=1)/\r.text≠[]:=fun r hr=>by
  have:=List.all_eq_true.1 h3 r hr;simp only[aSG,aGG,Bool.and_eq_true,iP]at this;refine⟨by omega,fun e => ?_⟩
  rw[e]at this;simp at this
 refine⟨fun e=>by rw[e]at h2;simp at h2,h4,fun r m e => ?_⟩
 subst e;refine aPX m r (fun i hi => ?_) fun x hx=>(h4 x (List.mem_cons_of_mem _ hx)).1;unfold aSF at h1;have:=List.all_eq_true.1 h1 i (List.mem_range.2 (by simp at hi ⊢;omega))
 simpa using this
theorem qB{α:Type}{l:List α}(h:(1:Int)<=l.length):l≠[]:=fun e=>by rw[e]at h;simp at h
theorem aPb{b:Block}(h:kT b=true)(h4:b.kind≠4)(h1:b.kind=1->aBB b.expr=0):GoodB b:=by
 unfold kT at h;rw[Bool.and_eq_true,dI]at h;obtain⟨ho,hk⟩:=h;unfold aDf at hk;have hkk:b.kind=0∨b.kind=1∨b.kind=2∨b.kind=3∨b.kind=5∨b.kind=6:=by
  by_cases k0:b.kind=0;· omega
  by_cases k1:b.kind=1;· omega
  by_cases k2:b.kind=2;· omega
  by_cases k3:b.kind=3;· omega
  by_cases k5:b.kind=5;· omega
  by_cases k6:b.kind=6;· omega
  rw[if_neg k0,if_neg k1,if_neg k2,if_neg k3,if_neg h4,if_neg k5,if_neg k6]at hk;cases hk
 refine⟨ho,hkk,fun k => ?_,fun k=>aIe (h1 k),fun k => ?_,fun k => ?_,fun k => ?_,fun k => ?_⟩
 ·rw[if_pos k]at hk;exact aPa hk
 ·rw[if_neg (by omega),if_neg (by omega),if_pos k]at hk
  simp only[Bool.and_eq_true,iP]at hk;obtain⟨hop,_,hnA⟩:=hk;refine⟨by simp at hop;omega,fun n hn => ?_⟩
  have:=List.all_eq_true.1 hnA n hn;simp only[aRx,iP]at this;exact this.1
 ·rw[if_neg (by omega),if_neg (by omega),if_neg (by omega),if_pos k]at hk
  simp only[Bool.and_eq_true,iP]at hk;obtain⟨⟨hl,_⟩,hr⟩:=hk;refine⟨qB hl,fun r hm => ?_⟩;have:=List.all_eq_true.1 hr r hm;simp only[aUk,Bool.and_eq_true,iP]at this;exact qB this.2.1.1
 ·rw[if_neg (by omega),if_neg (by omega),if_neg (by omega),if_neg (by omega),if_neg (by omega),if_pos k]at hk
  simp only[aSH,Bool.and_eq_true,iP]at hk;obtain⟨⟨hl,_⟩,hr⟩:=hk;refine⟨qB hl,fun hd hm => ?_⟩;have:=List.all_eq_true.1 hr hd hm;simp only[aJd,Bool.and_eq_true,iP]at this;refine⟨qB this.2.1.1,fun bar hbar => ?_⟩;have:=List.all_eq_true.1 this.2.2 bar hbar;simp only[aRw,Bool.and_eq_true,iP]at this;refine⟨qB this.1.1,fun n hn => ?_⟩;have:=List.all_eq_true.1 this.2 n hn;simp only[aEo,Bool.and_eq_true,iP]at this;exact⟨this.1.1.1,this.1.1.2,this.1.2.1,this.1.2.2,this.2.1,this.2.2⟩
 ·rw[if_neg (by omega),if_neg (by omega),if_neg (by omega),if_neg (by omega),if_neg (by omega),if_neg (by omega),if_pos k]at hk
  simp only[Bool.and_eq_true,iP]at hk;exact qB hk.1.1
section
variable {A:AProg}{g:String->Nat}{tB tP:Nat}
def aCz:List AV:=[vi 0,vi 1,vi 2,vi 3,vi 5,vi 6]
def aCA(g:String->Nat):List AV:=[("dactyl/source.ways$1","dactyl/source.ways$2"),("dactyl/source.ways$3","dactyl/source.readFormula"),("dactyl/source.ways$4","dactyl/source.ways$5"),("dactyl/source.ways$6","dactyl/source.ways$7"),("dactyl/source.ways$8","dactyl/source.ways$9"),("dactyl/source.ways$10","dactyl/source.ways$11")].map fun p=>.agg [.fn (g p.1) [] [],.fn (g p.2) [] []]
theorem aRP{base o v:Nat}{H:List AObj}:aD6 base H (.mp o v)=match H[o]? with
  |some (.map v' es)=>if v'=v/\base<=o then some (.fmp (es.map Prod.fst) (es.map Prod.snd),H.set o (.gone v),[o])else some (.mp o v,H,[])
  |_=>some (.mp o v,H,[]):=rfl
theorem aNa(h:Has A g "dactyl/source.ways" (xD g))(H:List AObj):aL A (g "dactyl/source.ways") [] H=some (.fmp aCz (aCA g),H,[]):=by
 refine h.call (by simp[xD]) (by kernel_rfl) ?_
 simp only[xD];simp only[go_sem,↓aC,seval,aRP,Nat.le_refl];rw[aAI (by rfl),aBv]
 exact⟨rfl,rfl,rfl⟩
structure HasText(A:AProg)(g:String->Nat)(tB tP:Nat):Prop where
 chk:HasCheck A g tB
 wrt:GridFns A g tB tP
 appInt:zY A g
 ways:Has A g "dactyl/source.ways" (xD g)
 w1:Has A g "dactyl/source.ways$1" (xE g)
 w3:Has A g "dactyl/source.ways$3" (xF g)
 w4:Has A g "dactyl/source.ways$4" (xG g)
 w6:Has A g "dactyl/source.ways$6" (xH g)
 w8:Has A g "dactyl/source.ways$8" (xI g)
 w10:Has A g "dactyl/source.ways$10" (tE g)
 text:Has A g "dactyl/source.Text" (aB5 g)
theorem aUs(F:HasText A g tB tP)(b:Block)(hb:b.Ok)(h:kT b=true)(h1:b.kind=1->aBB b.expr=0):b.kind≠4 ->
  ∃j,j<6/\aCz[j]? = some (vi b.kind)/\∃f1 f2,(aCA g)[j]? = some (.agg [.fn f1 [] [],.fn f2 [] []])/\∀H,aL A f1 [.agg (aE b)] H=some (.str (wB b),H,[]):=by
 intro h4;have hk:aDf b=true:=by unfold kT at h;simp only[Bool.and_eq_true]at h;exact h.2
 obtain⟨op,n,ks,hex⟩:∃op n ks,b.expr=Expr.mk op n ks:=by cases b.expr;exact⟨_,_,_,rfl⟩
 have hee:aF b.expr=[vi op,vi n,.sl false (ks.map aF)]:=by rw[hex,aF,aV]
 have hcb:aE b=[vi b.kind,.sl false (b.runs.map cW),vi op,vi n,.sl false (ks.map aF),vi b.sumOp,.sl false (b.sumA.map bD),.sl false (b.grid.map cA),vi b.w,vi b.h,.sl false (b.shapes.map bB),.sl false (b.hands.map cE),.sl false (b.lines.map aN)]:=by
  unfold aE;rw[hee];rfl
 unfold aDf at hk
 by_cases k0:b.kind=0
 ·refine⟨0,by decide,by rw[k0];rfl,_,_,rfl,fun H => ?_⟩
  have hw:wB b=qQ 0 b.runs:=by unfold wB;rw[if_pos k0]
  have hr:=aFc F.wrt.toWrtFns b.runs hb.lenR (fun r hr=>(hb.runs r hr).text) H;rw[hw,hcb];refine F.w1.call (by simp[xE]) (by kernel_rfl) ?_
  simp only[xE];simp only[go_sem,↓aC,seval,hr,List.drop_succ_cons,List.drop_zero,List.take_succ_cons,List.take_zero,List.append_nil]
 by_cases k1:b.kind=1
 ·refine⟨1,by decide,by rw[k1];rfl,_,_,rfl,fun H => ?_⟩
  have hw:wB b=wX b.expr:=by unfold wB;rw[if_neg k0,if_pos k1]
  have hr:=aGR F.chk.form F.appInt b.expr hb.expr hb.size (h1 k1) H;rw[hee]at hr;rw[hw,hcb];refine F.w3.call (by simp[xF]) (by kernel_rfl) ?_
  simp only[xF];simp only[go_sem,↓aC,seval,hr,List.drop_succ_cons,List.drop_zero,List.take_succ_cons,List.take_zero,List.append_nil]
 by_cases k2:b.kind=2
 ·refine⟨2,by decide,by rw[k2];rfl,_,_,rfl,fun H => ?_⟩
  rw[if_neg k0,if_neg k1,if_pos k2]at hk;simp only[Bool.and_eq_true,iP]at hk;obtain⟨hop,_,hnA⟩:=hk;have hw:wB b=aRt b.sumOp b.sumA:=by unfold wB;rw[if_neg k0,if_neg k1,if_pos k2]
  have hr:=aGZ F.wrt.toWrtFns b.sumOp b.sumA (by simp at hop;omega) hb.lenA (fun n hn=>by
   have:=List.all_eq_true.1 hnA n hn;simp only[aRx,iP]at this;exact this) H
  rw[hw,hcb];refine F.w4.call (by simp[xG]) (by kernel_rfl) ?_
  simp only[xG];simp only[go_sem,↓aC,seval,hr,List.drop_succ_cons,List.drop_zero,List.take_succ_cons,List.take_zero,List.append_nil]
 by_cases k3:b.kind=3
 ·refine⟨3,by decide,by rw[k3];rfl,_,_,rfl,fun H => ?_⟩
  have hw:wB b=aL6 b.grid:=by unfold wB;rw[if_neg k0,if_neg k1,if_neg k2,if_pos k3]
  have hr:=aFe F.wrt b.grid hb.lenG hb.grid H;rw[hw,hcb];refine F.w6.call (by simp[xH]) (by kernel_rfl) ?_
  simp only[xH];simp only[go_sem,↓aC,seval,hr,List.drop_succ_cons,List.drop_zero,List.take_succ_cons,List.take_zero,List.append_nil]
 by_cases k5:b.kind=5
 ·refine⟨4,by decide,by rw[k5];rfl,_,_,rfl,fun H => ?_⟩
  rw[if_neg k0,if_neg k1,if_neg k2,if_neg k3,if_neg h4,if_pos k5]at hk;simp only[aSH,Bool.and_eq_true,iP]at hk;obtain⟨_,hH⟩:=hk;have hw:wB b=aCh b.hands:=by unfold wB;rw[if_neg k0,if_neg k1,if_neg k2,if_neg k3,if_pos k5]
  have hr:=aDr F.wrt.toMelFns b.hands hb.lenH (fun x hx=>⟨(hb.hands x hx).1,fun bar hbar=>⟨((hb.hands x hx).2 bar hbar).1,fun nt hnt=>by
   have h1:=List.all_eq_true.1 hH x hx;simp only[aJd,Bool.and_eq_true]at h1;have h2:=List.all_eq_true.1 h1.2.2 bar hbar;simp only[aRw,Bool.and_eq_true]at h2;exact List.all_eq_true.1 h2.2 nt hnt⟩⟩) H
  rw[hw,hcb];refine F.w8.call (by simp[xI]) (by kernel_rfl) ?_
  simp only[xI];simp only[go_sem,↓aC,seval,hr,List.drop_succ_cons,List.drop_zero,List.take_succ_cons,List.take_zero,List.append_nil]
 by_cases k6:b.kind=6
 ·refine⟨5,by decide,by rw[k6];rfl,_,_,rfl,fun H => ?_⟩
  have hw:wB b=aI6 b.lines:=by unfold wB;rw[if_neg k0,if_neg k1,if_neg k2,if_neg k3,if_neg k5]
  have hr:=aEO F.wrt.toWrtFns b.lines (by have:=hb.lenL;omega) hb.lines H
  rw[hw,hcb];refine F.w10.call (by simp[tE]) (by kernel_rfl) ?_
  simp only[tE];simp only[go_sem,↓aC,seval,hr,List.drop_succ_cons,List.drop_zero,List.take_succ_cons,List.take_zero,List.append_nil]
 rw[if_neg k0,if_neg k1,if_neg k2,if_neg k3,if_neg h4,if_neg k5,if_neg k6]at hk;cases hk
theorem aPc{k:Int}{v:AV}:∀j<6,aCz[j]? = some (vi k)->(aCA g)[j]? = some v->gY (vi k) (aCz.zip (aCA g)) 0=some (some (j,v)):=by
 intro j hj h1 h2;rcases j with _ | _ | _ | _ | _ | _ | j
 all_goals first
  |omega
  | (simp only[aCz,List.getElem?_cons_zero,List.getElem?_cons_succ,Option.some.injEq,AV.int.injEq,true_and]at h1;subst h1;simp only[aCA,List.map_cons,List.getElem?_cons_zero,List.getElem?_cons_succ,Option.some.injEq]at h2;subst h2;rfl)
theorem aNb:gY (vi 4) (aCz.zip (aCA g)) 0=some none:=rfl
def aCB(A:AProg)(g:String->Nat):Prop:=∀(b:Block),b.Ok->∀H,∃(s:Str) (e:Int),aL A (g "dactyl/source.Text") [.agg (aE b)] H=some (.tup [.str s,vi e],H,[])/\(e=0->GoodB b/\s=wB b)
set_option maxHeartbeats 1600000 in
theorem aNc(F:HasText A g tB tP):aCB A g:=by
 intro b hb H;obtain⟨e,hc,hc0⟩:=aCw F.chk b hb H;obtain⟨op,n,ks,hex⟩:∃op n ks,b.expr=Expr.mk op n ks:=by cases b.expr;exact⟨_,_,_,rfl⟩
 have hee:aF b.expr=[vi op,vi n,.sl false (ks.map aF)]:=by rw[hex,aF,aV]
 have hcb:aE b=[vi b.kind,.sl false (b.runs.map cW),vi op,vi n,.sl false (ks.map aF),vi b.sumOp,.sl false (b.sumA.map bD),.sl false (b.grid.map cA),vi b.w,vi b.h,.sl false (b.shapes.map bB),.sl false (b.hands.map cE),.sl false (b.lines.map aN)]:=by
  unfold aE;rw[hee];rfl
 obtain⟨v,H',wr,h1,rfl,rfl,s,e',rfl,h2⟩:=F.text.callEx (args:=[.agg (aE b)]) (H:=H) (K:=fun v H' wr=>wr=[]/\H'=H/\∃(s:Str) (e:Int),v=.tup [.str s,vi e]/\(e=0->GoodB b/\s=wB b)) (by simp[aB5]) (by kernel_rfl) (by
  have hd13:=bO b;have hb0:∃r,aE b=vi b.kind::r:=⟨_,hcb⟩;have hcE:=fun X:List AObj=>aCw F.chk b hb X;have hwy:=fun X=>aNa F.ways (g:=g) X;obtain⟨e1,hc1,hc10⟩:=aCw F.chk b hb (H++[.gone 0]);simp only[aB5];cases z:(e1 != 0)with
  |true=>
   have hz:e1≠0:=by simpa using z
   simp only[go_sem,↓aC,seval,cQ,gC.take,gC.still,gC.strips,aY hd13,hc1,z];exact⟨_,_,rfl,fun e=>absurd e hz⟩
  |false=>
  have hz:e1=0:=by simpa using z
  subst hz;obtain⟨hB,hv⟩:=hc10 rfl;simp only[go_sem,↓aC,seval,cQ,gC.take,gC.still,gC.strips,aY hd13,hc1,z];refine bN (keep:=tF) (H0:=_) (by simp only[go_sem,seval,cI];rfl) (by rfl) ?_
  have htk:List.take 1 (aE b)=[vi b.kind]:=by rw[hcb];rfl
  have hle:(1:Nat)<=13:=by decide
  by_cases h4:b.kind=4
  ·rw[h4]at htk;simp only[go_sem,↓aC,seval,tF,hwy,htk,hle,cQ,List.drop_zero,aNb,fG,eB,aR];exact⟨_,_,rfl,fun e=>absurd e (by decide)⟩
  ·obtain⟨j,hj,hj1,f1,f2,hj2,hj3⟩:=aUs F b hb hB hv h4;have hfw:=aPc j hj hj1 hj2;simp only[go_sem,↓aC,seval,tF,hwy,htk,hle,cQ,List.drop_zero,hfw,fG,eB,aR,gC.take,aY hd13,aM hd13,hj3];exact⟨_,_,rfl,fun _=>⟨aPb hB h4 hv,rfl⟩⟩)
 exact⟨s,e',h1,h2⟩
end
end Go.AM
end
section

end
section
set_option maxRecDepth 8000
namespace Go.AM
open Go
abbrev aEP(A:AProg)(g:String->Nat):Prop:=∀(n:Nat) (H:List AObj),n<1000000->aL A (g "dactyl/dactylref23.Decimal") [vi n] H=some (.str (dec n),H,[])
theorem aD4{a b:Int}(h:a≠b):(a==b)=false:=by simpa using h
abbrev xX(g:String->Nat):List AOper:=[qm 10 0,⟨some 11,obi .quo 10 10,none,[0]⟩,⟨some 12,oc (g "dactyl/dactylref23.Decimal") [u 11],none,[1,0]⟩,qm 13 0,⟨some 14,obi .rem 13 10,none,[3]⟩,⟨some 15,.bin .add .no (ui 48) (u 14),none,[4,3]⟩,⟨some 16,.conv (.toInt .u8) (u 15),none,[5,4,3]⟩,⟨some 17,.bsl 1 [(.int .u8 0)] 1 [(0,(.tmp 16))],none,[6,5,4,3]⟩,⟨some 18,.conv .b2s (u 17),none,[7,6,5,4,3]⟩,⟨some 19,ob .add 12 18,none,[2,1,0,8,7,6,5,4,3]⟩,⟨some 2,om 19,none,[9,2,1,0,8,7,6,5,4,3]⟩]
def iJ(g:String->Nat):AFn:=⟨20,[],[.tmp 2],qS [qmc 2 (.str [])]<|.seq (qS [qm 3 0,qbi 4 .lss 3 10]<|qC 4 (qS [qm 5 0,qq 6 (.bin .add .no (ui 48) (u 5)),qq 7 (.conv (.toInt .u8) (u 6)),qq 8 (.bsl 1 [(.int .u8 0)] 1 [(0,(.tmp 7))]),qq 9 (.conv .b2s (u 8)),qm 2 9]<|.ret) (.skip))<|.seq (.region true (xX g))<|.ret⟩
def jM(g:String->Nat):AFn:=⟨15,[],[.tmp 4],qS [qmc 4 (.int .i64 0)]<|.seq (qS [qm 5 0,qbi 6 .lss 5 0]<|qC 6 (qR [qm 7 0,qbi 8 .add 7 1,qq 9 (.un .neg (u 8)),qm 0 9]) (.skip))<|.seq (qS [qm 10 1,qbi 11 .lss 10 1]<|qC 11 (qS [qmc 4 (.int .i64 0)]<|.ret) (.skip))<|qS [qm 12 0,qm 13 1,qb 14 .rem 12 13,qm 4 14]<|.ret⟩
def lH(g:String->Nat):AFn:=⟨21,[],[.tmp 6],qS [qmc 6 (.int .i64 0)]<|.seq (qS [qm 7 1,qbi 8 .lss 7 0,qm 9 8,qF 10 9 (om 1),qF 11 9 (om 0),qF 12 9 (on 11),qF 13 9 (ob .geq 10 12),qq 14 (.pick (u 9) uT (u 13))]<|qC 14 (qS [qmc 6 (.int .i64 0)]<|.ret) (.skip))<|qS [qm 15 0,qm 16 1,qi 17 15 16 1,ql 18 1 17,qm 19 2,qc 20 (g "dactyl/dactylref01.Around") [u 18,u 19],qm 6 20]<|.ret⟩
abbrev tG(g:String->Nat):List AOper:=[qm 12 0,⟨some 13,.nilck (u 12),none,[0]⟩,⟨some 14,of 0 13,none,[1,0]⟩,⟨some 15,ol 1 14,none,[2,1,0]⟩,qm 16 0,⟨some 17,.nilck (u 16),none,[4]⟩,⟨some 18,of 1 17,none,[5,4]⟩,⟨some 19,ol 1 18,none,[6,5,4]⟩,⟨some 20,obi .sub 19 1,none,[7,6,5,4]⟩,qm 21 1,⟨some 22,oc (g "dactyl/dactylref01.At") [u 15,u 20,u 21],none,[3,2,1,0,8,7,6,5,4,9]⟩,⟨some 4,om 22,none,[10,3,2,1,0,8,7,6,5,4,9]⟩]
def fQ(g:String->Nat):AFn:=⟨23,[],[.tmp 4],qS [qmc 4 (.int .i64 0)]<|qS [qm 5 0,qq 6 (.nilck (u 5)),qf 7 1 6,ql 8 1 7,qbi 9 .add 8 1,qq 10 (.nilck (u 5)),qf 11 1 10,qs 1 11 9]<|.seq (.region true (tG g))<|.ret⟩
def kR(g:String->Nat):AFn:=⟨15,[],[.tmp 2],qS [qmc 2 (.int .i64 0)]<|.seq (qS [qm 3 0,qbi 4 .eql 3 0,qm 5 4,qF 6 5 (om 0),qF 7 5 (obi .eql 6 1),qq 8 (.pick (u 5) uT (u 7))]<|qC 8 (qS [qmc 2 (.int .i64 0)]<|.ret) (.skip))<|.seq (qS [qm 9 0,qbi 10 .eql 9 2,qm 11 10,qF 12 11 (om 0),qF 13 11 (obi .eql 12 8),qq 14 (.pick (u 11) uT (u 13))]<|qC 14 (qS [qmc 2 (.int .i64 1)]<|.ret) (.skip))<|qS [qmc 2 (.int .i64 2)]<|.ret⟩
theorem aNd{n:Int}(h1:0<=n)(h2:n<=255):IntKind.wrap .u8 n=n:=by
 unfold IntKind.wrap IntKind.bits IntKind.signed;simp;omega
theorem aIq{A:AProg}{g:String->Nat}(h:Has A g "dactyl/dactylref23.Decimal" (iJ g)):aEP A g:=by
 have key:∀(k n:Nat) (H:List AObj),n<k->n<1000000->aL A (g "dactyl/dactylref23.Decimal") [vi n] H=some (.str (dec n),H,[]):=by
  intro k
  induction k with
  |zero=>intro n H hk;omega
  |succ k ih=>
   intro n H hk hn;refine h.call (by simp[iJ]) (by kernel_rfl) ?_
   simp only[iJ];simp only[go_sem,seval];refine aD (fun hb => ?_) (fun hb => ?_)
   ·have hlt:n<10:=by simp at hb;omega
    have hw:IntKind.i64.wrap (48+(n:Int))=((48+n:Nat):Int):=by rw[wrap_i64 (by omega) (by omega)];omega
    have hu:IntKind.u8.wrap ((48+n:Nat):Int)=((48+n:Nat):Int):=aNd (by omega) (by omega)
    have hd:dec n=[UInt8.ofNat (48+n)]:=by rw[dec,if_pos hlt]
    simp only[go_sem,seval,hw,hu,pG,cF,hd]
   ·have hge:¬n<10:=by simp at hb;omega
    have hq:(n:Int).tdiv 10=((n / 10:Nat):Int):=rfl;have hr:(n:Int).tmod 10=((n % 10:Nat):Int):=rfl;have hwq:IntKind.i64.wrap ((n / 10:Nat):Int)=((n / 10:Nat):Int):=wrap_i64 (by omega) (by omega)
    have hw:IntKind.i64.wrap (48+((n % 10:Nat):Int))=((48+n % 10:Nat):Int):=by rw[wrap_i64 (by omega) (by omega)];omega
    have hu:IntKind.u8.wrap ((48+n % 10:Nat):Int)=((48+n % 10:Nat):Int):=aNd (by omega) (by omega)
    have hih:=fun H=>ih (n / 10) H (by omega) (by omega)
    have hd:dec n=dec (n / 10)++[UInt8.ofNat (48+n % 10)]:=by rw[dec,if_neg hge]
    have hl:(dec (n / 10)).length+1<=4611686018427387904:=by have:=aEj 5 (n / 10) (by omega);omega
    simp only[go_sem,seval];refine bN (keep:=[2,6,8]) (by rfl) (by rfl) ?_
    simp only[go_sem,seval,yQ (b:=10) (by decide),sN (b:=10) (by decide),hq,hr,hwq,hw,hu,hih,pG,cF,jH,hl,fG,eB,aR,hd]
 intro n H hn;exact key (n+1) n H (by omega) hn
def around(n most:Int):Int:=if most<1 then 0 else (if n<0 then IntKind.i64.wrap (0 - IntKind.i64.wrap (n+1))else n).tmod most
abbrev nO(A:AProg)(g:String->Nat):Prop:=∀(n m:Int) (H:List AObj),aL A (g "dactyl/dactylref01.Around") [vi n,vi m] H=some (vi (around n m),H,[])
theorem rC{A:AProg}{g:String->Nat}(h:Has A g "dactyl/dactylref01.Around" (jM g)):nO A g:=by
 intro n m H;refine h.call (by simp[jM]) (by kernel_rfl) ?_
 simp only[jM];simp only[go_sem,seval];refine aD (fun hb => ?_) (fun hb => ?_)
 ·have hn:n<0:=by simpa using hb
  simp only[go_sem,seval];refine aD (fun hb => ?_) (fun hb => ?_)
  ·have hm:m<1:=by simpa using hb
   simp only[go_sem,seval,around,hm]
  ·have hm:¬m<1:=by simpa using hb
   simp only[go_sem,seval,around,hm,hn,sN (show m≠0 by omega)]
 ·have hn:¬n<0:=by simpa using hb
  simp only[go_sem,seval];refine aD (fun hb => ?_) (fun hb => ?_)
  ·have hm:m<1:=by simpa using hb
   simp only[go_sem,seval,around,hm]
  ·have hm:¬m<1:=by simpa using hb
   simp only[go_sem,seval,around,hm,hn,sN (show m≠0 by omega)]
def atZ(l:List Int)(i most:Int):Int:=if i<0∨i ≥ l.length then 0 else around (l.getD i.toNat 0) most
theorem aRQ{A:AProg}{g:String->Nat}(h:Has A g "dactyl/dactylref01.At" (lH g))(ha:nO A g)(l:List Int)(i m:Int)(H:List AObj):
  aL A (g "dactyl/dactylref01.At") [.sl false (l.map bD),vi i,vi m] H=some (vi (atZ l i m),H,[]):=by
 refine h.call (by simp[lH]) (by kernel_rfl) ?_
 simp only[lH]
 by_cases h0:i<0
 ·simp only[go_sem,seval,h0,atZ,true_or]
 ·by_cases h1:i ≥ l.length
  ·simp only[go_sem,seval,h0,h1,atZ,or_true]
  ·have hi:i.toNat<l.length:=by omega
   have h2:0<=i:=by omega
   have hg:(l.map bD)[i.toNat]? = some [vi (l.getD i.toNat 0)]:=by
    rw[List.getElem?_map,List.getD_eq_getElem?_getD,List.getElem?_eq_getElem hi];rfl
   simp only[go_sem,seval,h0,h1,h2,hg,ha,atZ,or_false]
abbrev aH(l:List Int)(i:Int):List AV:=[.sl false (l.map bD),vi i]
abbrev fC(A:AProg)(g:String->Nat):Prop:=∀(l:List Int) (i m:Int) (o v:Nat) (H:List AObj),H[o]? = some (.box v (aH l i)) ->
 aL A (g "(*dactyl/dactylref23.Maker).Take") [.ptr o v 0,vi m] H=some (vi (atZ l (IntKind.i64.wrap (IntKind.i64.wrap (i+1) - 1)) m),H.set o (.box v (aH l (IntKind.i64.wrap (i+1)))),[o])
theorem aNe{A:AProg}{g:String->Nat}(h:Has A g "(*dactyl/dactylref23.Maker).Take" (fQ g))(ha:Has A g "dactyl/dactylref01.At" (lH g))(hr:nO A g):fC A g:=by
 intro l i m o v H ho;have hlt:=getElem?_lt ho;refine h.call (by simp[fQ]) (by kernel_rfl) ?_
 simp only[fQ];simp only[go_sem,seval,ho,hlt];refine bN (keep:=[]) (by rfl) (by rfl) ?_
 have hat:=fun H=>aRQ ha hr l (IntKind.i64.wrap (IntKind.i64.wrap (i+1) - 1)) m H;simp only[go_sem,seval,hlt,hat,aD2,aA (aB aP _)]
def aVP(m:Nat):List UInt8:=if m=0 then [] else UInt8.ofNat m::aVP (m / 256)
decreasing_by omega
def mag(n:Int):Nat:=if n<0 then (-1 - n).toNat else n.toNat
def aXl(n:Int)(d:UInt8):UInt8:=if n<0 then 255 - d else d
def aXm(n:Int):UInt8:=if n<0 then UInt8.ofNat (127 - (aVP (mag n)).length)else UInt8.ofNat (128+(aVP (mag n)).length)
def aKo(n:Int):List UInt8:=aXm n::(aVP (mag n)).reverse.map (aXl n)
def aNf(l:List Int):List UInt8:=aKo l.length++l.flatMap aKo
theorem aYx{a b:Nat}(h:a+b<=1000000000):bP (a+b) 1=true:=by unfold bP;simp;omega
mutual
def aIr:Expr->List UInt8
 |.mk op n kids=>aNf [op,n,kids.length]++aA3 kids
def aA3:List Expr->List UInt8
 | []=>[]
 |e::r=>aIr e++aA3 r
end
theorem aEQ:∀l:List Expr,aA3 l=l.flatMap aIr
 | []=>rfl
 |e::r=>by rw[aA3,aEQ r,List.flatMap_cons]
theorem oH(e:Expr):(aF e).length=3:=by cases e;rfl
theorem aZ:∀l:List Expr,gB l=l.map aF
 | []=>rfl
 |e::r=>by rw[gB,aZ r];rfl
end Go.AM
end
section

end
