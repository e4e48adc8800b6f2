/- Part 30: lemmas for the last text. -/
import Derived.Test.YtfpndhocfmfgdaaGreatDoorK25
import Derived.Test.YtfpndhocfmfgdaaGreatDoorK26
import Derived.Test.YtfpndhocfmfgdaaGreatDoorK29
set_option linter.unusedVariables false
set_option linter.unusedSimpArgs false
section
set_option maxRecDepth 8000
namespace Go.AM
open Go
def aLf:List AV:=[[],[],[110,101,103],[43],[45],[42],[47],[94],[114,111,111,116],[61],[60]].map AV.str
def aMW:List AV:=[[100,111,116],[108,105,110,101],[97,114,101,97]].map AV.str
abbrev aD0(id id2 ic lc c1 c2:Nat)(body:ACode):ACode:=
 qS [⟨some c1,.bin .lss .no (.tmp ic) (.tmp lc),none,[]⟩] <|
 .seq (.cond (.tmp c1) .skip (.exit id)) <|
 .seq (.block id2 body) <|
 .region false [⟨some c2,.bin .add .no (.tmp ic) (.const (.int .i64 1)),none,[]⟩,⟨some ic,.mov (.tmp c2),none,[]⟩]
def aYf(P:List AObj->List Nat->Prop)(H:List AObj)(ty o v o2 v2 N:Nat)(e:AExit)(ρ:bH)(H1:List AObj)(wr:List Nat):Prop:=
 e=.normal/\∃L T',P L wr/\T'≠[]/\T'.length<=N/\H1=PSt (H++L) ty o v o2 v2 T'
theorem yZ{A:AProg}{N:Nat}{c:Ctx}{H L:List AObj}{ty o v o2 v2:Nat}{T:Str}{ρ:bH}{wr:List Nat}{Q:AExit->bH->List AObj->List Nat->Prop}(P:List AObj->List Nat->Prop)
  (id id2 ic lc c1 c2 n m:Nat) {body:ACode} {W:List Nat} {tg:Tg (A,N,c,aD0 id id2 ic lc c1 c2 body,Q)} (hW:vS (aD0 id id2 ic lc c1 c2 body)=W) (hok:cZ N c (aD0 id id2 ic lc c1 c2 body)=true)
  (hs:(W.contains lc || (vS body).contains ic || (ic==c1) || (lc==c1))=false) (hi:ρ ic=vi 0) (hl:ρ lc=vi n) (hn:n<=1000000) (hT:T≠[]) (hP:P L wr)
  (hbody:∀i ρ1 L1 T1 wr1,i<n->ρ1 ic=vi i->(∀t,W.contains t=false->ρ1 t=ρ t)->P L1 wr1->T1≠[]->T1.length<=T.length+i*m ->
   wc A N c body ρ1 (PSt (H++L1) ty o v o2 v2 T1) wr1 (aYf P H ty o v o2 v2 (T1.length+m)) ⟨⟩)
  (hQ:∀ρ' L' T' wr',P L' wr'->T'≠[]->T'.length<=T.length+n*m->(∀t,W.contains t=false->ρ' t=ρ t)->Q (.exit id) ρ' (PSt (H++L') ty o v o2 v2 T') wr'):
  wl A N c (aD0 id id2 ic lc c1 c2 body) ρ (PSt (H++L) ty o v o2 v2 T) wr Q tg:=by
 simp only[Bool.or_eq_false_iff,beq_eq_false_iff_ne]at hs;obtain⟨⟨⟨s1,s2⟩,s3⟩,s4⟩:=hs;refine bZ (id:=id) (W:=W) (fun i ρ1 H1 wr=>∃L1 T1,H1=PSt (H++L1) ty o v o2 v2 T1/\P L1 wr/\T1≠[]/\T1.length<=T.length+i*m/\ρ1 ic=vi i) n
  (fun ρ1 H1 wr=>∃L1 T1,H1=PSt (H++L1) ty o v o2 v2 T1/\P L1 wr/\T1≠[]/\T1.length<=T.length+n*m)
  hok hW ⟨L,T,rfl,hP,hT,by omega,hi⟩ ?_ ?_
 ·rintro i ρ1 H1 wr1 hil ⟨L1,T1,rfl,g0,g1,g2,e8⟩ hf;have e7:ρ1 lc=vi n:=by rw[hf lc s1];exact hl
  simp only[go_sem,↓aC,seval,e8,e7];refine aD (fun hb => ?_) (fun hb => ?_)
  ·have hlt:i<n:=by simp at hb;omega
   have hw1:IntKind.i64.wrap ((i:Int)+1)=((i+1:Nat):Int):=by rw[wrap_i64 (by omega) (by omega)];omega
   have hx:∀x,upd ρ1 c1 x ic=vi i:=fun x=>by rw[yP s3];exact e8
   have hfr:∀x t,W.contains t=false->upd ρ1 c1 x t=ρ t:=fun x t ht=>by
    rw[yP (fun e=>by
     subst e;rw[<- hW]at ht;simp[vS,jI]at ht),hf t ht]
   simp only[go_sem,seval];refine gR (fun e ρ' H' wr' hh hf' => ?_) (hbody i _ L1 T1 wr1 hlt (hx _) (hfr _) g0 g1 g2);obtain⟨rfl,L2,T2,k0,k1,k2,rfl⟩:=hh;have e9:ρ' ic=vi i:=by rw[hf' ic s2];exact hx _
   simp only[go_sem,↓aC,seval,e9,hw1];exact⟨hlt,L2,T2,rfl,k0,k1,by rw[Nat.succ_mul];omega⟩
  ·have hi:i=n:=by simp at hb;omega
   subst hi;simp only[go_sem,seval];exact⟨L1,T1,rfl,g0,g1,g2⟩
 ·rintro ρ' H' wr' ⟨L1,T1,rfl,g0,g1,g2⟩ hf;exact hQ ρ' L1 T1 wr' g0 g1 g2 hf
def aYg(H:List AObj)(ty o v o2 v2 k N:Nat)(e:AExit)(ρ:bH)(H1:List AObj)(wr:List Nat):Prop:=
 e=.normal/\∃L T',L.length=k/\T'≠[]/\T'.length<=N/\H1=PSt (H++L) ty o v o2 v2 T'/\Wr2 o o2 wr
theorem pT{A:AProg}{N:Nat}{c:Ctx}{H L:List AObj}{ty o v o2 v2:Nat}{T:Str}{ρ:bH}{wr:List Nat}{Q:AExit->bH->List AObj->List Nat->Prop}
  (id id2 ic lc c1 c2 n m:Nat) {body:ACode} {W:List Nat} {tg:Tg (A,N,c,aD0 id id2 ic lc c1 c2 body,Q)} (hW:vS (aD0 id id2 ic lc c1 c2 body)=W) (hok:cZ N c (aD0 id id2 ic lc c1 c2 body)=true)
  (hs:(W.contains lc || (vS body).contains ic || (ic==c1) || (lc==c1))=false) (hi:ρ ic=vi 0) (hl:ρ lc=vi n) (hn:n<=1000000) (hT:T≠[]) (hwr:Wr2 o o2 wr)
  (hbody:∀i ρ1 L1 T1 wr1,i<n->ρ1 ic=vi i->(∀t,W.contains t=false->ρ1 t=ρ t)->L1.length=L.length->T1≠[]->T1.length<=T.length+i*m->Wr2 o o2 wr1 ->
   wc A N c body ρ1 (PSt (H++L1) ty o v o2 v2 T1) wr1 (aYg H ty o v o2 v2 L.length (T1.length+m)) ⟨⟩)
  (hQ:∀ρ' L' T' wr',L'.length=L.length->T'≠[]->T'.length<=T.length+n*m->Wr2 o o2 wr'->(∀t,W.contains t=false->ρ' t=ρ t)->Q (.exit id) ρ' (PSt (H++L') ty o v o2 v2 T') wr'):
  wl A N c (aD0 id id2 ic lc c1 c2 body) ρ (PSt (H++L) ty o v o2 v2 T) wr Q tg:=by
 refine yZ (fun L1 wr1=>L1.length=L.length/\Wr2 o o2 wr1) id id2 ic lc c1 c2 n m hW hok hs hi hl hn hT ⟨rfl,hwr⟩ ?_ ?_
 ·rintro i ρ1 L1 T1 wr1 hlt h1 h2 ⟨h3,h6⟩ h4 h5;refine gR (fun e ρ' H' wr' hh hf' => ?_) (hbody i ρ1 L1 T1 wr1 hlt h1 h2 h3 h4 h5 h6);obtain⟨rfl,L2,T2,k0,k1,k2,rfl,k3⟩:=hh;exact⟨rfl,L2,T2,⟨k0,k3⟩,k1,k2,rfl⟩
 ·rintro ρ' L' T' wr' ⟨h1,h4⟩ h2 h3 hf;exact hQ ρ' L' T' wr' h1 h2 h3 h4 hf
abbrev wC(g:String->Nat):ACode:=qS [qb 29 .lss 28 27]<|.seq (qC 29 (.skip) (.exit 4))<|.seq (.block 5 (qS [qi 30 26 28 3,qla 31 3 30,qq 9 (.alloc [(.int .i64 0),(.int .i64 0),(.int .i64 0)]),qs 3 9 31]<|.region false [qm 32 0,qf 33 0 9,ql 34 1 33,qf 35 1 9,ql 36 1 35,qf 37 2 9,ql 38 1 37,qq 39 (.bsl 1 [(.int .i64 0)] 3 [(0,(.tmp 34)),(1,(.tmp 36)),(2,(.tmp 38))]),qc 40 (g "(*dactyl/syntax.printer).numbers") [u 32,u 39]]))<|.region false [qbi 41 .add 28 1,qm 28 41]
abbrev wD:List Nat:=[29,30,31,9,32,33,34,35,36,37,38,39,40,41,28]
abbrev wE(g:String->Nat):ACode:=qS [qb 21 .lss 20 19]<|.seq (qC 21 (.skip) (.exit 2))<|.seq (.block 3 (qS [qi 22 18 20 1,ql 23 1 22,qm 7 23]<|qS [qm 24 0,qc 25 (g "(*dactyl/syntax.printer).line") [u 24,uc (.str [98,97,114])]]<|qS [qm 26 7,qn 27 26,qmc 28 (.int .i64 0)]<|.block 4 (.loop (wC g))))<|.region false [qbi 42 .add 20 1,qm 20 42]
abbrev wF:List Nat:=[21,22,23,7,24,25,26,27,28,29,30,31,9,32,33,34,35,36,37,38,39,40,41,28,42,20]
abbrev wG(g:String->Nat):ACode:=qS [qb 13 .lss 12 11]<|.seq (qC 13 (.skip) (.exit 0))<|.seq (.block 1 (qS [qi 14 10 12 1,ql 15 1 14,qm 5 15]<|qS [qm 16 0,qc 17 (g "(*dactyl/syntax.printer).line") [u 16,uc (.str [104,97,110,100])]]<|qS [qm 18 5,qn 19 18,qmc 20 (.int .i64 0)]<|.block 2 (.loop (wE g))))<|.region false [qbi 43 .add 12 1,qm 12 43]
abbrev wH:List Nat:=[13,14,15,5,16,17,18,19,20,21,22,23,7,24,25,26,27,28,29,30,31,9,32,33,34,35,36,37,38,39,40,41,28,42,20,43,12]
def gL(g:String->Nat):AFn:=⟨44,[9],[],qS [qm 10 1,qn 11 10,qmc 12 (.int .i64 0)]<|.block 0 (.loop (wG g))⟩
def uW(g:String->Nat):ACode:=.block 0 (qS [qbi 9 .eql 7 0,qm 8 9]<|qC 8 (qS [qf 10 1 1,ql 11 1 10,qc 12 (g "strconv.Itoa") [u 11],qm 2 12]<|.ret) (qS [qbi 14 .eql 7 1,qm 13 14]<|qC 13 (qS [qf 15 1 1,ql 16 1 15,qq 17 (.bin .add .no (ui 97) (u 16)),qq 18 (.conv (.toInt .i32) (u 17)),qq 19 (.conv .i2s (u 18)),qm 2 19]<|.ret) (.skip)))
abbrev aCs(g:String->Nat):ACode:=qS [qb 29 .lss 28 27]<|.seq (qC 29 (.skip) (.exit 1))<|.seq (.block 2 (qS [qi 30 26 28 3,qla 31 3 30,qq 5 (.alloc [(.int .i64 0),(.int .i64 0),(.sl true [])]),qs 3 5 31]<|.region false [qm 32 3,qla 33 3 5,qc 34 (g "dactyl/syntax.formula") [u 33],qq 35 (.bin .add .no (uc (.str [32])) (u 34)),qb 36 .add 32 35,qm 3 36]))<|.region false [qbi 37 .add 28 1,qm 28 37]
abbrev aCt:List Nat:=[29,30,31,5,32,33,34,35,36,3,37,28]
def nW(g:String->Nat):AFn:=⟨40,[5],[.tmp 2],qS [qx 1 3 0,qmc 2 (.str [])]<|.seq (qS [qf 6 0 1,ql 7 1 6]<|uW g)<|qS [qf 20 0 1,ql 21 1 20,qq 22 (.iaA 11 1 (uc (.ep aLf 0)) (u 21)),ql 23 1 22,qq 24 (.bin .add .no (uc (.str [40])) (u 23)),qm 3 24]<|.seq (qS [qf 25 2 1,ql 26 1 25,qn 27 26,qmc 28 (.int .i64 0)]<|.block 1 (.loop (aCs g)))<|qS [qm 38 3,qq 39 (.bin .add .no (u 38) (uc (.str [41]))),qm 2 39]<|.ret⟩
section
variable {A:AProg}{g:String->Nat}{tB tP:Nat}
theorem aOY(F:TextFns A g tB tP)(h:Has A g "(*dactyl/syntax.printer).runs" (iE g))(l:List Run)(hl:l.length<=16)(hr:∀r∈l,r.text.length<=1000 /\ -1000000<r.lang/\r.lang<1000000):
  aLB A (g "(*dactyl/syntax.printer).runs") [.sl false (l.map cW)] (l.length*3000):=by
 refine h.prt rfl (by simp[iE]) (fun n=>by kernel_rfl) ?_
 intro H ty o v o2 v2 T c hT hb;have hlen:(l.map cW).length=l.length:=List.length_map ..;simp only[iE];simp only[go_sem,↓aC,seval,hlen];refine pT 0 1 8 7 9 23 l.length 3000 (W:=xV) (L:=[.gone 0]) (by rfl) (by kernel_rfl) (by rfl) rfl rfl (by omega) hT kW ?_ ?_
 ·rintro i ρ1 L1 T1 wr1 hlt e8 hf hL g1 g2 g3;obtain⟨x,rfl⟩:=List.length_eq_one_iff.1 hL;have e6:ρ1 6=.sl false (l.map cW):=by rw[hf 6 (by rfl)];rfl
  have e0:ρ1 0=.ptr o v 0:=by rw[hf 0 (by rfl)];rfl
  have hn0:(0:Int)<=(i:Int):=by omega
  have hn1:(i:Int)<(l.length:Int):=by omega
  have hto:((i:Int)).toNat=i:=by omega
  have hget:(l.map cW)[i]? = some (cW l[i]):=by rw[List.getElem?_map,List.getElem?_eq_getElem hlt];rfl
  obtain⟨q1,q2,q3⟩:=hr _ (List.getElem_mem hlt);generalize l[i]=r at *;have hb2:i*3000+3000<=l.length*3000:=by omega
  simp only[go_sem,↓aC,seval,e8,e6,e0,hn0,hto,hget,cW,aAQ c,aGS c,mS];have c':∀y:AObj,PCtx (H++[y]).length o o2:=fun y=>c.mono (by simp)
  have h91:=qW F.toOutFns [r.lang] false (by simp) (by simp;omega)
  refine cJ (jK F.toOutFns [114,117,110] (by decide)) (c' _) g1 (by show T1.length+4<=_;omega) ?_
  rintro T2 wr2 k1 k2 k3;simp only[go_sem,↓aC,seval,e0,aAQ c,List.drop_zero,List.take_succ_cons,List.take_zero];refine cJ h91 (c' _) k1 (by simp at k2 ⊢;omega) ?_
  rintro T3 wr3 m1 m2 m3;simp only[go_sem,↓aC,seval,e0,aAQ c,List.drop_succ_cons,List.drop_zero,List.take_succ_cons,List.take_zero];refine cJ (aDA F r.text q1) (c' _) m1 (by simp at k2 m2 ⊢;omega) ?_
  rintro T4 wr4 n1 n2 n3;simp only[go_sem,↓aC,seval];refine⟨rfl,_,T4, ?_,n1, ?_,rfl,cV (cV (cV g3 k3) m3) n3⟩
  ·rfl
  ·simp at k2 m2;omega
 ·rintro ρ' L' T' wr' k0 k1 k2 k3 hf;simp only[go_sem,seval];exact jB k1 k2 k3
theorem aMX(F:TextFns A g tB tP)(h:Has A g "(*dactyl/syntax.printer).hands" (gL g))(l:List (List (List Note)))(hl:l.length<=16)(hb:∀x∈l,x.length<=16/\∀b∈x,b.length<=16/\∀n∈b,aEo n=true):
  aLB A (g "(*dactyl/syntax.printer).hands") [.sl false (l.map cE)] (l.length*8100):=by
 refine h.prt rfl (by simp[gL]) (fun n=>by kernel_rfl) ?_
 intro H ty o v o2 v2 T c hT hbT;have hlen:(l.map cE).length=l.length:=List.length_map ..;have c':∀y:AObj,PCtx (H++[y]).length o o2:=fun y=>c.mono (by simp)
 simp only[gL];simp only[go_sem,↓aC,seval,hlen];refine pT 0 1 12 11 13 43 l.length 8100 (W:=wH) (L:=[.gone 0]) (by rfl) (by kernel_rfl) (by rfl) rfl rfl (by omega) hT kW ?_ ?_
 ·rintro i ρ1 L1 T1 wr1 hlt e8 hf hL g1 g2 g3;obtain⟨x,rfl⟩:=List.length_eq_one_iff.1 hL;have e10:ρ1 10=.sl false (l.map cE):=by rw[hf 10 (by rfl)];rfl
  have e0:ρ1 0=.ptr o v 0:=by rw[hf 0 (by rfl)];rfl
  have hn0:(0:Int)<=(i:Int):=by omega
  have hn1:(i:Int)<(l.length:Int):=by omega
  have hto:((i:Int)).toNat=i:=by omega
  have hget:(l.map cE)[i]? = some (cE l[i]):=by rw[List.getElem?_map,List.getElem?_eq_getElem hlt];rfl
  obtain⟨q1,q2⟩:=hb _ (List.getElem_mem hlt);generalize l[i]=hd at *;have hlen2:(hd.map gS).length=hd.length:=List.length_map ..;have hb2:i*8100+8100<=l.length*8100:=by omega
  simp only[go_sem,↓aC,seval,e8,e10,e0,hn0,hto,hget,cE];refine cJ (jK F.toOutFns [104,97,110,100] (by decide)) (c' _) g1 (by show T1.length+5<=_;omega) ?_
  rintro T2 wr2 k1 k2 k3;have k2:T2.length<=T1.length+5:=k2;simp only[go_sem,↓aC,seval,hlen2];refine pT 2 3 20 19 21 42 hd.length 500 (W:=wF) (L:=[x]) (by rfl) (by kernel_rfl) (by rfl) rfl rfl (by omega) k1 (cV g3 k3) ?_ ?_
  ·rintro j ρ2 L2 T3 wr3 jlt f20 hf2 hL2 m1 m2 m3;obtain⟨x2,rfl⟩:=List.length_eq_one_iff.1 hL2;have f18:ρ2 18=.sl false (hd.map gS):=by rw[hf2 18 (by rfl)];rfl
   have f0:ρ2 0=.ptr o v 0:=by rw[hf2 0 (by rfl)];exact e0
   have jn0:(0:Int)<=(j:Int):=by omega
   have jn1:(j:Int)<(hd.length:Int):=by omega
   have jto:((j:Int)).toNat=j:=by omega
   have jget:(hd.map gS)[j]? = some (gS hd[j]):=by rw[List.getElem?_map,List.getElem?_eq_getElem jlt];rfl
   obtain⟨r1,r2⟩:=q2 _ (List.getElem_mem jlt);generalize hd[j]=bar at *;have hlen3:(bar.map cK).length=bar.length:=List.length_map ..;have hb3:j*500+500<=hd.length*500:=by omega
   have hb4:hd.length*500<=8000:=by omega
   simp only[go_sem,↓aC,seval,f20,f18,f0,jn0,jto,jget,gS];refine cJ (jK F.toOutFns [98,97,114] (by decide)) (c' _) m1 (by show T3.length+4<=_;omega) ?_
   rintro T4 wr4 p1 p2 p3;have p2:T4.length<=T3.length+4:=p2;simp only[go_sem,↓aC,seval,hlen3];refine pT 4 5 28 27 29 41 bar.length 30 (W:=wD) (L:=[x2]) (by rfl) (by kernel_rfl) (by rfl) rfl rfl (by omega) p1 (cV m3 p3) ?_ ?_
   ·rintro k ρ3 L3 T5 wr5 klt u28 hf3 hL3 s1 s2 s3;obtain⟨x3,rfl⟩:=List.length_eq_one_iff.1 hL3;have u26:ρ3 26=.sl false (bar.map cK):=by rw[hf3 26 (by rfl)];rfl
    have u0:ρ3 0=.ptr o v 0:=by rw[hf3 0 (by rfl)];exact f0
    have kn0:(0:Int)<=(k:Int):=by omega
    have kn1:(k:Int)<(bar.length:Int):=by omega
    have kto:((k:Int)).toNat=k:=by omega
    have aHw:(bar.map cK)[k]? = some (cK bar[k]):=by rw[List.getElem?_map,List.getElem?_eq_getElem klt];rfl
    have t1:=r2 _ (List.getElem_mem klt);generalize bar[k]=n at *;have hb5:k*30+30<=bar.length*30:=by omega
    have hb6:bar.length*30<=480:=by omega
    have h91:=qW F.toOutFns [n.step,n.length,n.alter] false (by simp) (by
     unfold aEo wi at t1;simp at t1 ⊢;omega)
    simp only[go_sem,↓aC,seval,u28,u26,u0,kn0,kto,aHw,cK,aAQ c,aGS c,mS,List.drop_succ_cons,List.drop_zero,List.take_succ_cons,List.take_zero];refine cJ h91 (c' _) s1 (by simp;omega) ?_
    rintro T6 wr6 w1 w2 w3;have w2:T6.length<=T5.length+27:=w2;simp only[go_sem,↓aC,seval];exact⟨rfl,_,T6,rfl,w1,by omega,rfl,cV s3 w3⟩
   ·rintro ρ' L' T' wr' s0 s1 s2 s3 hf3;simp only[go_sem,seval];exact⟨rfl,L',T',s0,s1,by omega,rfl,s3⟩
  ·rintro ρ' L' T' wr' s0 s1 s2 s3 hf3;simp only[go_sem,seval];exact⟨rfl,L',T',s0,s1,by omega,rfl,s3⟩
 ·rintro ρ' L' T' wr' k0 k1 k2 k3 hf;simp only[go_sem,seval];exact jB k1 k2 k3
end
inductive ExG:Expr->Prop
 |mk (op n:Int) (ks:List Expr):0<=op->op<=10->0<=n->n<=yV op->ks.length<=2->(∀k∈ks,ExG k)->ExG (.mk op n ks)
theorem aMY:∀{l:List Expr} {d:Int} {s t:Nat},exL l d s=some t->∀k∈l,(exS k d).2=true
 | [],_,_,_,_,k,hk=>by cases hk
 |e::r,d,s,t,h,k,hk=>by
  unfold exL at h
  split at h
  ·rename_i m he;rcases List.mem_cons.1 hk with rfl | hk
   ·rw[he]
   ·exact aMY h k hk
  ·cases h
theorem aUq:∀(m:Nat) (e:Expr) (d:Int),SizeOf.sizeOf e<m->(exS e d).2=true->ExG e:=by
 intro m
 induction m with
 |zero=>intro e d h;omega
 |succ m ih=>
  intro e d hs he;obtain⟨op,n,ks⟩:=e;unfold exS at he
  split at he
  ·cases he
  rename_i hc;simp only[Bool.or_eq_true,not_or,Bool.not_eq_true,Bool.not_eq_false']at hc;obtain⟨⟨⟨c1,c2⟩,c3⟩,c4⟩:=hc;have hk2:=aK6 op;simp[wi]at c1 c2 c3 c4;refine .mk op n ks c2.1 c2.2 c3.1 c3.2 (by omega) fun k hk=>ih k (d+1) (by
   have:=List.sizeOf_lt_of_mem hk;simp only[Expr.mk.sizeOf_spec]at hs;omega) ?_
  split at he
  ·rename_i t ht;exact aMY ht k hk
  ·cases he
theorem aKi{op:Int}(h0:0<=op)(h1:op<=10):∃w:Str,w.length<=4/\(aLf.drop op.toNat).take 1=[.str w]/\op.toNat+1<=aLf.length:=by
 have:∀i<11,∃w:Str,w.length<=4/\(aLf.drop i).take 1=[.str w]/\i+1<=aLf.length:=by
  intro i hi;rcases i with _ | _ | _ | _ | _ | _ | _ | _ | _ | _ | _ | i
  all_goals first | exact⟨_,by decide,rfl,by decide⟩ | omega
 exact this op.toNat (by omega)
theorem aG3:∀{l:List Expr} {i:Nat} (h:i<l.length),iN l[i]+cP (l.drop (i+1))=cP (l.drop i)
 |e::r,0,h=>by simp[cP]
 |e::r,i+1,h=>by simpa using aG3 (l:=r) (by simpa using h)
theorem aED:∀(l:List Expr) (i:Nat),i<=l.length->cP (l.drop i)<=cP l
 |l,0,_=>Nat.le_refl _
 | [],i+1,h=>by simp
 |e::r,i+1,h=>by
  have:=aED r i (by simpa using h)
  simp only[List.drop_succ_cons,cP];omega
section
variable {A:AProg}{g:String->Nat}
theorem aIh(h:Has A g "dactyl/syntax.formula" (nW g))(hi:A.prim (g "strconv.Itoa")=some aBr){e:Expr}(he:ExG e):iN e<=1000->∀H,∃s:Str,s.length<=20*iN e/\aL A (g "dactyl/syntax.formula") [.agg (aF e)] H=some (.str s,H,[]):=by
 induction he with
 |mk op n ks o0 o1 n0 n1 hk hks ih=>
  intro hsz H;have hsz':cP ks+1<=1000:=hsz;obtain⟨v',H',wr',h1,rfl,s,rfl,rfl,h2⟩:=h.callEx (args:=[.agg (aF (.mk op n ks))]) (H:=H) (K:=fun v H' wr=>wr=[]/\∃s:Str,v=.str s/\H'=H/\s.length<=20*(cP ks+1)) (by simp[nW]) (by kernel_rfl) (by
   simp only[nW];simp only[go_sem,↓aC,seval,aF,aV];simp only[uW]
   by_cases e0:op=0
   ·subst e0;obtain⟨s,hs1,hs2⟩:=aMU hi (n:=n) (by omega) (by unfold yV at n1;rw[if_pos rfl]at n1;omega)
    simp only[go_sem,↓aC,seval,hs2];exact⟨s,rfl,by omega⟩
   have b0:(op==0)=false:=by simpa using e0
   by_cases e1:op=1
   ·subst e1;have hn:n<=25:=by unfold yV at n1;simpa using n1
    have hw:IntKind.i64.wrap (97+n)=97+n:=wrap_i64 (by omega) (by omega)
    have hc:∀H,pG H (.toInt .i32) (vi (97+n))=some (.int .i32 (97+n)):=fun H=>by
     show some (AV.int .i32 (IntKind.wrap .i32 (97+n)))=_
     congr 2;simp only[IntKind.wrap,IntKind.bits,IntKind.signed];simp;omega
    have hc2:∀H,pG H .i2s (.int .i32 (97+n))=some (.str [UInt8.ofNat (97+n).toNat]):=fun H=>by
     show (if 0<=97+n/\97+n<128 then some (AV.str [UInt8.ofNat (97+n).toNat])else none)=_
     rw[if_pos ⟨by omega,by omega⟩]
    simp only[go_sem,↓aC,seval,hw,hc,hc2];exact⟨_,rfl,by simp;omega⟩
   have b1:(op==1)=false:=by simpa using e1
   obtain⟨w,hw1,hw2,hw3⟩:=aKi o0 o1;have o2:op<11:=by omega
   have ha:kM .add .no (.str [40]) (.str w)=some (.str (40::w)):=jH (by simp;omega)
   simp only[go_sem,↓aC,seval,b0,b1,o0,o2,hw2,hw3,Nat.zero_add,Nat.mul_one,ha,List.length_map];have hE:∀i≤ks.length,cP (ks.drop i)<=cP ks:=aED ks;refine bZ (id:=1) (W:=aCt) (fun i ρ1 H1 wr=>wr=[]/\ρ1 28=vi (i:Nat)/\(∃x,H1=H++[x])/\∃s:Str,ρ1 3=.str s/\s.length+20*cP (ks.drop i)<=5+i+20*cP ks) ks.length
    (fun ρ1 H1 wr=>wr=[]/\(∃x,H1=H++[x])/\∃s:Str,ρ1 3=.str s/\s.length<=7+20*cP ks)
    (by kernel_rfl) (by rfl) ⟨rfl,rfl,⟨_,rfl⟩,40::w,rfl,by simp;omega⟩ ?_ ?_
   ·rintro i ρ1 H1 wr1 hil ⟨rfl,e28,⟨x,rfl⟩,s,e3,hs⟩ hf;have e26:ρ1 26=.sl false (ks.map aF):=by rw[hf 26 (by rfl)];rfl
    have e27:ρ1 27=vi (ks.length:Nat):=by rw[hf 27 (by rfl)];rfl
    simp only[go_sem,↓aC,seval,e28,e27];refine aD (fun hb => ?_) (fun hb => ?_)
    ·have hlt:i<ks.length:=by simp at hb;omega
     have hn0:(0:Int)<=(i:Int):=by omega
     have hn1:(i:Int)<(ks.length:Int):=by omega
     have hto:((i:Int)).toNat=i:=by omega
     have hw1:IntKind.i64.wrap ((i:Int)+1)=((i+1:Nat):Int):=by rw[wrap_i64 (by omega) (by omega)];omega
     have hget:(ks.map aF)[i]? = some (aF ks[i]):=by rw[List.getElem?_map,List.getElem?_eq_getElem hlt];rfl
     have hm:=aG3 hlt;have hE1:=hE i (by omega)
     obtain⟨t,ht1,ht2⟩:=ih ks[i] (List.getElem_mem hlt) (by omega) (H++[.box (x.ver+1) (aF ks[i])])
     have ha1:kM .add .no (.str [32]) (.str t)=some (.str (32::t)):=jH (by simp;omega)
     have ha2:kM .add .no (.str s) (.str (32::t))=some (.str (s++32::t)):=jH (by simp;omega)
     generalize ks[i]=k at *;obtain⟨ok,nk,kk⟩:=k;simp only[aF,aV]at hget ht2;simp only[go_sem,↓aC,seval,e28,e26,hn0,hto,hget,e3,ht2,ha1,ha2,hw1];exact⟨hlt,by simp;omega⟩
    ·have hi:i=ks.length:=by simp at hb;omega
     subst hi;simp only[go_sem,seval];refine⟨⟨x,rfl⟩,s,e3, ?_⟩;rw[List.drop_length]at hs;simp[cP]at hs;omega
   ·rintro ρ' H' wr' ⟨rfl,⟨x,rfl⟩,s,e3,hs⟩ hf;have ha3:kM .add .no (.str s) (.str [41])=some (.str (s++[41])):=jH (by simp;omega)
    simp only[go_sem,↓aC,seval,e3,ha3];exact⟨_,rfl,by simp;omega⟩)
  exact⟨s,h2,h1⟩
end
abbrev wI(g:String->Nat):ACode:=qS [qb 66 .lss 65 64]<|.seq (qC 66 (.skip) (.exit 3))<|.seq (.block 4 (qS [qi 67 63 65 1,ql 68 1 67,qm 7 68]<|.region false [qm 69 0,qm 70 7,qc 71 (g "(*dactyl/syntax.printer).text") [u 69,u 70]]))<|.region false [qbi 72 .add 65 1,qm 65 72]
abbrev wJ:List Nat:=[66,67,68,7,69,70,71,72,65]
abbrev iF(g:String->Nat):ACode:=qS [qb 58 .lss 57 56]<|.seq (qC 58 (.skip) (.exit 1))<|.seq (.block 2 (qS [qi 59 55 57 1,ql 60 1 59,qm 5 60]<|qS [qm 61 0,qc 62 (g "(*dactyl/syntax.printer).line") [u 61,uc (.str [114,111,119])]]<|qS [qm 63 5,qn 64 63,qmc 65 (.int .i64 0)]<|.block 3 (.loop (wI g))))<|.region false [qbi 73 .add 57 1,qm 57 73]
abbrev wK:List Nat:=[58,59,60,5,61,62,63,64,65,66,67,68,7,69,70,71,72,65,73,57]
abbrev wL(g:String->Nat):ACode:=qS [qb 107 .lss 106 105]<|.seq (qC 107 (.skip) (.exit 7))<|.seq (.block 8 (qS [qi 108 104 106 2,qla 109 2 108,qq 11 (.alloc [(.int .i64 0),(.int .i64 0)]),qs 2 11 109]<|.region false [qm 110 0,qf 111 0 11,ql 112 1 111,qf 113 1 11,ql 114 1 113,qq 115 (.bsl 1 [(.int .i64 0)] 2 [(0,(.tmp 112)),(1,(.tmp 114))]),qc 116 (g "(*dactyl/syntax.printer).numbers") [u 110,u 115]]))<|.region false [qbi 117 .add 106 1,qm 106 117]
abbrev wM:List Nat:=[107,108,109,11,110,111,112,113,114,115,116,117,106]
abbrev iG(g:String->Nat):ACode:=qS [qb 92 .lss 91 90]<|.seq (qC 92 (.skip) (.exit 5))<|.seq (.block 6 (qS [qi 93 89 91 2,qla 94 2 93,qq 9 (.alloc [(.int .i64 0),(.sl true [])]),qs 2 9 94]<|qS [qm 95 0,qc 96 (g "(*dactyl/syntax.printer).line") [u 95,uc (.str [115,104,97,112,101])]]<|qS [qm 97 0,qf 98 0 9,ql 99 1 98,qq 100 (.iaA 3 1 (uc (.ep aMW 0)) (u 99)),ql 101 1 100,qc 102 (g "(*dactyl/syntax.printer).word") [u 97,u 101]]<|qS [qf 103 1 9,ql 104 1 103,qn 105 104,qmc 106 (.int .i64 0)]<|.block 7 (.loop (wL g))))<|.region false [qbi 118 .add 91 1,qm 91 118]
abbrev wN:List Nat:=[92,93,94,9,95,96,97,98,99,100,101,102,103,104,105,106,107,108,109,11,110,111,112,113,114,115,116,117,106,118,91]
abbrev iH(g:String->Nat):ACode:=qS [qb 136 .lss 135 134]<|.seq (qC 136 (.skip) (.exit 9))<|.seq (.block 10 (qS [qi 137 133 135 1,ql 138 1 137,qm 13 138]<|qS [qm 139 0,qc 140 (g "(*dactyl/syntax.printer).line") [u 139,uc (.str [108,105,110,101])]]<|.region false [qm 141 0,qm 142 13,qc 143 (g "(*dactyl/syntax.printer).text") [u 141,u 142]]))<|.region false [qbi 144 .add 135 1,qm 135 144]
abbrev wO:List Nat:=[136,137,138,13,139,140,141,142,143,144,135]
def mT(g:String->Nat):ACode:=.block 0 (qS [qbi 17 .eql 15 0,qm 16 17]<|qC 16 (qS [qm 18 0,qc 19 (g "(*dactyl/syntax.printer).line") [u 18,uc (.str [116,101,120,116])]]<|.region false [qm 20 0,qf 21 1 3,ql 22 1 21,qc 23 (g "(*dactyl/syntax.printer).runs") [u 20,u 22]]) (qS [qbi 25 .eql 15 1,qm 24 25]<|qC 24 (qS [qm 26 0,qc 27 (g "(*dactyl/syntax.printer).line") [u 26,uc (.str [102,111,114,109,117,108,97])]]<|.region false [qm 28 0,qf 29 2 3,qla 30 3 29,qc 31 (g "dactyl/syntax.formula") [u 30],qc 32 (g "(*dactyl/syntax.printer).word") [u 28,u 31]]) (qS [qbi 34 .eql 15 2,qm 33 34]<|qC 33 (qS [qm 35 0,qc 36 (g "(*dactyl/syntax.printer).line") [u 35,uc (.str [99,111,108,117,109,110])]]<|qS [qm 37 0,qf 38 5 3,qf 39 0 38,ql 40 1 39,qq 41 (.iaA 11 1 (uc (.ep aLf 0)) (u 40)),ql 42 1 41,qc 43 (g "(*dactyl/syntax.printer).word") [u 37,u 42]]<|.region false [qm 44 0,qf 45 5 3,qf 46 1 45,ql 47 1 46,qc 48 (g "(*dactyl/syntax.printer).numbers") [u 44,u 47]]) (qS [qbi 50 .eql 15 3,qm 49 50]<|qC 49 (qS [qm 51 0,qc 52 (g "(*dactyl/syntax.printer).line") [u 51,uc (.str [101,110,116,114,105,101,115])]]<|qS [qf 53 7 3,qf 54 0 53,ql 55 1 54,qn 56 55,qmc 57 (.int .i64 0)]<|.block 1 (.loop (iF g))) (qS [qbi 75 .eql 15 4,qm 74 75]<|qC 74 (qS [qm 76 0,qc 77 (g "(*dactyl/syntax.printer).line") [u 76,uc (.str [100,114,97,119,105,110,103])]]<|qS [qm 78 0,qf 79 8 3,qf 80 0 79,ql 81 1 80,qf 82 8 3,qf 83 1 82,ql 84 1 83,qq 85 (.bsl 1 [(.int .i64 0)] 2 [(0,(.tmp 81)),(1,(.tmp 84))]),qc 86 (g "(*dactyl/syntax.printer).numbers") [u 78,u 85]]<|qS [qf 87 8 3,qf 88 2 87,ql 89 1 88,qn 90 89,qmc 91 (.int .i64 0)]<|.block 5 (.loop (iG g))) (qS [qbi 120 .eql 15 5,qm 119 120]<|qC 119 (qS [qm 121 0,qc 122 (g "(*dactyl/syntax.printer).line") [u 121,uc (.str [109,117,115,105,99])]]<|.region false [qm 123 0,qf 124 11 3,qf 125 0 124,ql 126 1 125,qc 127 (g "(*dactyl/syntax.printer).hands") [u 123,u 126]]) (qS [qbi 129 .eql 15 6,qm 128 129]<|qC 128 (qS [qm 130 0,qc 131 (g "(*dactyl/syntax.printer).line") [u 130,uc (.str [108,105,115,116,105,110,103])]]<|qS [qf 132 12 3,ql 133 1 132,qn 134 133,qmc 135 (.int .i64 0)]<|.block 9 (.loop (iH g))) (.skip))))))))
def lF(g:String->Nat):AFn:=⟨145,[9,11],[],qS [qx 3 13 1]<|qS [qf 14 0 3,ql 15 1 14]<|mT g⟩
theorem aMZ{α:Type}{l:List α}(h:l.length=2):∃a b,l=[a,b]:=by
 match l,h with
 | [a,b],_=>exact⟨a,b,rfl⟩
theorem iP{n a b:Int}:wi n a b=true↔a<=n/\n<=b:=by unfold wi;simp
theorem aOZ{k:Int}(h0:0<=k)(h1:k<=2):∃w:Str,w.length<=4/\(aMW.drop k.toNat).take 1=[.str w]/\k.toNat+1<=aMW.length:=by
 have:∀i<3,∃w:Str,w.length<=4/\(aMW.drop i).take 1=[.str w]/\i+1<=aMW.length:=by
  intro i hi;rcases i with _ | _ | _ | i
  all_goals first | exact⟨_,by decide,rfl,by decide⟩ | omega
 exact this k.toNat (by omega)
structure BlockPrt(A:AProg)(g:String->Nat)(tB tP:Nat) extends TextFns A g tB tP where
 runs:Has A g "(*dactyl/syntax.printer).runs" (iE g)
 hands:Has A g "(*dactyl/syntax.printer).hands" (gL g)
 formula:Has A g "dactyl/syntax.formula" (nW g)
 block:Has A g "(*dactyl/syntax.printer).block" (lF g)
section
variable {A:AProg}{g:String->Nat}{tB tP:Nat}
theorem aP0(F:TextFns A g tB tP){H:List AObj}{ty o v o2 v2:Nat}{T:Str}{ρ:bH}{wr:List Nat}{L:List AObj}{l:List (List Str)}{N:Nat}(c:PCtx H.length o o2)(hl:l.length<=16)(hb:∀r∈l,r.length<=16/\∀s∈r,s.length<=1000)
  (h0:ρ 0=.ptr o v 0) (h55:ρ 55=.sl false (l.map cA)) (h56:ρ 56=vi l.length) (h57:ρ 57=vi 0) (hT:T≠[]) (hbT:T.length+580000<=100000000) (hwr:Wr2 o o2 wr) {Q:AExit->bH->List AObj->List Nat->Prop}
  {tg:Tg (A,145,(⟨H.length,[9,11]⟩:Ctx),iF g,Q)}
  (hQ:∀ρ' L' T' wr',L'.length=L.length->T'≠[]->T'.length<=T.length+580000->Wr2 o o2 wr'->Q (.exit 1) ρ' (PSt (H++L') ty o v o2 v2 T') wr'):
  wl A 145 ⟨H.length,[9,11]⟩ (iF g) ρ (PSt (H++L) ty o v o2 v2 T) wr Q tg:=by
 have c':∀L:List AObj,PCtx (H++L).length o o2:=fun y=>c.mono (by simp)
 refine pT 1 2 57 56 58 73 l.length 35000 (W:=wK) (by rfl) (by kernel_rfl) (by rfl) h57 h56 (by omega) hT hwr ?_ ?_
 ·rintro i ρ1 L1 T1 wr1 hlt e8 hf hL g1 g2 g3;have e55:ρ1 55=.sl false (l.map cA):=by rw[hf 55 (by rfl)];exact h55
  have e0:ρ1 0=.ptr o v 0:=by rw[hf 0 (by rfl)];exact h0
  have hget:(l.map cA)[i]? = some (cA l[i]):=by rw[List.getElem?_map,List.getElem?_eq_getElem hlt];rfl
  obtain⟨q1,q2⟩:=hb _ (List.getElem_mem hlt);generalize l[i]=r at *;have hb2:i*35000+35000<=l.length*35000:=by omega
  simp only[go_sem,↓aC,seval,e8,e55,e0,Int.natCast_nonneg,Int.toNat_natCast,hget,cA];refine cJ (jK F.toOutFns [114,111,119] (by decide)) (c' _) g1 (by show T1.length+4<=_;omega) ?_
  rintro T2 wr2 k1 k2 k3;have k2:T2.length<=T1.length+4:=k2;simp only[go_sem,↓aC,seval,List.length_map];refine pT 3 4 65 64 66 72 r.length 2100 (W:=wJ) (by rfl) (by kernel_rfl) (by rfl) rfl rfl (by omega) k1 (cV g3 k3) ?_ ?_
  ·rintro j ρ2 L2 T3 wr3 jlt f65 hf2 hL2 m1 m2 m3;have f63:ρ2 63=.sl false (r.map aN):=by rw[hf2 63 (by rfl)];rfl
   have f0:ρ2 0=.ptr o v 0:=by rw[hf2 0 (by rfl)];exact e0
   have jget:(r.map aN)[j]? = some (aN r[j]):=by rw[List.getElem?_map,List.getElem?_eq_getElem jlt];rfl
   have r1:=q2 _ (List.getElem_mem jlt);generalize r[j]=s at *;have hb3:j*2100+2100<=r.length*2100:=by omega
   have hb4:r.length*2100<=33600:=by omega
   simp only[go_sem,↓aC,seval,f65,f63,f0,Int.natCast_nonneg,Int.toNat_natCast,jget,aN];refine cJ (aDA F s r1) (c' _) m1 (by omega) ?_
   rintro T4 wr4 p1 p2 p3;simp only[go_sem,↓aC,seval];exact⟨rfl,L2,T4,hL2,p1,by omega,rfl,cV m3 p3⟩
  ·rintro ρ' L' T' wr' s0 s1 s2 s3 hf3;simp only[go_sem,seval];exact⟨rfl,L',T',s0.trans hL,s1,by omega,rfl,s3⟩
 ·rintro ρ' L' T' wr' k0 k1 k2 k3 hf;exact hQ ρ' L' T' wr' k0 k1 (by omega) k3
theorem aN0(F:TextFns A g tB tP){H:List AObj}{ty o v o2 v2:Nat}{T:Str}{ρ:bH}{wr:List Nat}{x1 x2:AObj}{l:List Shape}{N:Nat}(c:PCtx H.length o o2)(hl:l.length<=16)(hb:∀s∈l,aCX s=true)
  (h0:ρ 0=.ptr o v 0) (h89:ρ 89=.sl false (l.map bB)) (h90:ρ 90=vi l.length) (h91:ρ 91=vi 0) (hT:T≠[]) (hbT:T.length+580000<=100000000) (hwr:Wr2 o o2 wr) {Q:AExit->bH->List AObj->List Nat->Prop}
  {tg:Tg (A,145,(⟨H.length,[9,11]⟩:Ctx),iG g,Q)}
  (hQ:∀ρ' L' T' wr',L'.length=2->T'≠[]->T'.length<=T.length+580000->Wr2 o o2 wr'->Q (.exit 5) ρ' (PSt (H++L') ty o v o2 v2 T') wr'):
  wl A 145 ⟨H.length,[9,11]⟩ (iG g) ρ (PSt (H++[x1,x2]) ty o v o2 v2 T) wr Q tg:=by
 have c':∀L:List AObj,PCtx (H++L).length o o2:=fun y=>c.mono (by simp)
 refine pT 5 6 91 90 92 118 l.length 1000 (L:=[x1,x2]) (W:=wN) (by rfl) (by kernel_rfl) (by rfl) h91 h90 (by omega) hT hwr ?_ ?_
 ·rintro i ρ1 L1 T1 wr1 hlt e8 hf hL g1 g2 g3;obtain⟨y1,y2,rfl⟩:=aMZ hL;have e55:ρ1 89=.sl false (l.map bB):=by rw[hf 89 (by rfl)];exact h89
  have e0:ρ1 0=.ptr o v 0:=by rw[hf 0 (by rfl)];exact h0
  have hget:(l.map bB)[i]? = some (bB l[i]):=by rw[List.getElem?_map,List.getElem?_eq_getElem hlt];rfl
  have q1:=hb _ (List.getElem_mem hlt);generalize l[i]=r at *;have hb2:i*1000+1000<=l.length*1000:=by omega
  unfold aCX at q1;simp only[Bool.and_eq_true,iP]at q1;obtain⟨⟨a1,a2⟩,⟨a3,a4⟩,a5⟩:=q1;rw[List.all_eq_true]at a5;obtain⟨w,hw1,hw2,hw3⟩:=aOZ a1 a2;have a2':r.kind<3:=by omega
  simp only[go_sem,↓aC,seval,e8,e55,e0,Int.natCast_nonneg,Int.toNat_natCast,hget,bB,aAQ c,aGS c,mS];refine cJ (jK F.toOutFns [115,104,97,112,101] (by decide)) (c' _) g1 (by show T1.length+6<=_;omega) ?_
  rintro T2 wr2 k1 k2 k3;have k2:T2.length<=T1.length+6:=k2;simp only[go_sem,↓aC,seval,e0,aAQ c,List.drop_zero,List.take_succ_cons,List.take_zero,a1,a2',hw2,hw3,Nat.zero_add,Nat.mul_one];refine cJ (zZ F.toOutFns w (by omega)) (c' _) k1 (by omega) ?_
  rintro T7 wr7 n1 n2 n3;simp only[go_sem,↓aC,seval,List.length_map,aAQ c,List.drop_succ_cons,List.drop_zero,List.take_succ_cons,List.take_zero];refine pT 7 8 106 105 107 117 r.points.length 20 (W:=wM) (by rfl) (by kernel_rfl) (by rfl) rfl rfl (by omega) n1 (cV (cV g3 k3) n3) ?_ ?_
  ·rintro j ρ2 L2 T3 wr3 jlt f65 hf2 hL2 m1 m2 m3;obtain⟨z1,z2,rfl⟩:=aMZ hL2;have f63:ρ2 104=.sl false (r.points.map bQ):=by rw[hf2 104 (by rfl)];rfl
   have f0:ρ2 0=.ptr o v 0:=by rw[hf2 0 (by rfl)];exact e0
   have jget:(r.points.map bQ)[j]? = some (bQ r.points[j]):=by rw[List.getElem?_map,List.getElem?_eq_getElem jlt];rfl
   have r1:=a5 _ (List.getElem_mem jlt);generalize r.points[j]=s at *;unfold aHZ at r1;simp only[Bool.and_eq_true,iP]at r1;have hb3:j*20+20<=r.points.length*20:=by omega
   have hb4:r.points.length*20<=240:=by omega
   have h91:=qW F.toOutFns [s.1,s.2] false (by simp) (by simp;omega)
   simp only[go_sem,↓aC,seval,f65,f63,f0,Int.natCast_nonneg,Int.toNat_natCast,jget,bQ,aPS (i:=1) c,aJl (i:=1) c,mS,List.drop_succ_cons,List.drop_zero,List.take_succ_cons,List.take_zero];refine cJ h91 (c' _) m1 (by show T3.length+18<=_;omega) ?_
   rintro T4 wr4 p1 p2 p3;have p2:T4.length<=T3.length+18:=p2;simp only[go_sem,↓aC,seval];exact⟨rfl,_,T4,rfl,p1,by omega,rfl,cV m3 p3⟩
  ·rintro ρ' L' T' wr' s0 s1 s2 s3 hf3;simp only[go_sem,seval];exact⟨rfl,L',T',s0,s1,by omega,rfl,s3⟩
 ·rintro ρ' L' T' wr' k0 k1 k2 k3 hf;exact hQ ρ' L' T' wr' k0 k1 (by omega) k3
theorem aP1(F:TextFns A g tB tP){H:List AObj}{ty o v o2 v2:Nat}{T:Str}{ρ:bH}{wr:List Nat}{L:List AObj}{l:List Str}{N:Nat}(c:PCtx H.length o o2)(hl:l.length<=16)(hb:∀s∈l,s.length<=1000)
  (h0:ρ 0=.ptr o v 0) (h55:ρ 133=.sl false (l.map aN)) (h56:ρ 134=vi l.length) (h57:ρ 135=vi 0) (hT:T≠[]) (hbT:T.length+580000<=100000000) (hwr:Wr2 o o2 wr) {Q:AExit->bH->List AObj->List Nat->Prop}
  {tg:Tg (A,145,(⟨H.length,[9,11]⟩:Ctx),iH g,Q)}
  (hQ:∀ρ' L' T' wr',L'.length=L.length->T'≠[]->T'.length<=T.length+580000->Wr2 o o2 wr'->Q (.exit 9) ρ' (PSt (H++L') ty o v o2 v2 T') wr'):
  wl A 145 ⟨H.length,[9,11]⟩ (iH g) ρ (PSt (H++L) ty o v o2 v2 T) wr Q tg:=by
 have c':∀L:List AObj,PCtx (H++L).length o o2:=fun y=>c.mono (by simp)
 refine pT 9 10 135 134 136 144 l.length 2100 (W:=wO) (by rfl) (by kernel_rfl) (by rfl) h57 h56 (by omega) hT hwr ?_ ?_
 ·rintro i ρ1 L1 T1 wr1 hlt e8 hf hL g1 g2 g3;have e55:ρ1 133=.sl false (l.map aN):=by rw[hf 133 (by rfl)];exact h55
  have e0:ρ1 0=.ptr o v 0:=by rw[hf 0 (by rfl)];exact h0
  have hget:(l.map aN)[i]? = some (aN l[i]):=by rw[List.getElem?_map,List.getElem?_eq_getElem hlt];rfl
  have q1:=hb _ (List.getElem_mem hlt);generalize l[i]=s at *;have hb2:i*2100+2100<=l.length*2100:=by omega
  simp only[go_sem,↓aC,seval,e8,e55,e0,Int.natCast_nonneg,Int.toNat_natCast,hget,aN];refine cJ (jK F.toOutFns [108,105,110,101] (by decide)) (c' _) g1 (by show T1.length+5<=_;omega) ?_
  rintro T2 wr2 k1 k2 k3;have k2:T2.length<=T1.length+5:=k2;simp only[go_sem,↓aC,seval,e0];refine cJ (aDA F s q1) (c' _) k1 (by omega) ?_
  rintro T4 wr4 p1 p2 p3;simp only[go_sem,↓aC,seval];exact⟨rfl,L1,T4,hL,p1,by omega,rfl,cV (cV g3 k3) p3⟩
 ·rintro ρ' L' T' wr' k0 k1 k2 k3 hf;exact hQ ρ' L' T' wr' k0 k1 (by omega) k3
set_option maxHeartbeats 3200000 in
theorem aN1(F:BlockPrt A g tB tP)(b:Block)(hk:aDf b=true)(hb:b.Ok):aLB A (g "(*dactyl/syntax.printer).block") [.agg (aE b)] 600000:=by
 refine F.block.prt rfl (by simp[lF]) (fun n=>by kernel_rfl) ?_
 intro H ty o v o2 v2 T c hT hbT;have c':∀L:List AObj,PCtx (H++L).length o o2:=fun y=>c.mono (by simp)
 obtain⟨op,n,ks,hex⟩:∃op n ks,b.expr=Expr.mk op n ks:=by cases b.expr;exact⟨_,_,_,rfl⟩
 have hee:aF b.expr=[vi op,vi n,.sl false (ks.map aF)]:=by rw[hex,aF,aV]
 have hcb:aE b=[vi b.kind,.sl false (b.runs.map cW),vi op,vi n,.sl false (ks.map aF),vi b.sumOp,.sl false (b.sumA.map bD),.sl false (b.grid.map cA),vi b.w,vi b.h,.sl false (b.shapes.map bB),.sl false (b.hands.map cE),.sl false (b.lines.map aN)]:=by
  unfold aE;rw[hee];rfl
 rw[hcb];simp only[lF];simp only[go_sem,↓aC,seval];simp only[mT];unfold aDf at hk
 by_cases k0:b.kind=0
 ·rw[if_pos k0]at hk;simp only[aI3,Bool.and_eq_true,iP]at hk;obtain⟨_,⟨_,hlr⟩,hra⟩:=hk;have hr:=aOY F.toTextFns F.runs b.runs hb.lenR (fun r hr=>by
   have h1:=List.all_eq_true.1 hra r hr;simp only[aSG,Bool.and_eq_true,iP]at h1;exact⟨(hb.runs r hr).text,by omega,by omega⟩)
  have hlR:=hb.lenR;simp only[go_sem,↓aC,seval,k0];refine cJ (jK F.toOutFns [116,101,120,116] (by decide)) (c' _) hT (by show T.length+5<=_;omega) ?_
  rintro T2 wr2 k1 k2 k3;have k2:T2.length<=T.length+5:=k2;simp only[go_sem,↓aC,seval,List.drop_succ_cons,List.drop_zero,List.take_succ_cons,List.take_zero];refine cJ hr (c' _) k1 (by omega) ?_
  rintro T3 wr3 m1 m2 m3;simp only[go_sem,↓aC,seval];exact jB m1 (by omega) (cV (cV kW k3) m3)
 rw[if_neg k0]at hk;have b0:(b.kind==0)=false:=by simpa using k0
 by_cases k1:b.kind=1
 ·rw[if_pos k1]at hk;have hx:=aUq _ b.expr 1 (Nat.lt_succ_self _) hk;have hsz:=hb.size;simp only[go_sem,↓aC,seval,k1];refine cJ (jK F.toOutFns [102,111,114,109,117,108,97] (by decide)) (c' _) hT (by show T.length+8<=_;omega) ?_
  rintro T2 wr2 j1 j2 j3;have j2:T2.length<=T.length+8:=j2;obtain⟨s,hs1,hs2⟩:=aIh F.formula F.itoa hx hsz (PSt (H++[.gone 0,.gone 0]) ty o v o2 v2 T2);rw[hee]at hs2;simp only[go_sem,↓aC,seval,List.drop_succ_cons,List.drop_zero,List.take_succ_cons,List.take_zero,hs2];refine cJ (zZ F.toOutFns s (by omega)) (c' _) j1 (by omega) ?_
  rintro T3 wr3 m1 m2 m3;simp only[go_sem,↓aC,seval];exact jB m1 (by omega) (cV (cV kW j3) m3)
 rw[if_neg k1]at hk;have b1:(b.kind==1)=false:=by simpa using k1
 by_cases k2:b.kind=2
 ·rw[if_pos k2]at hk;simp only[Bool.and_eq_true,iP]at hk;obtain⟨hop,⟨_,hlA⟩,hnA⟩:=hk;have hop':0<=b.sumOp/\b.sumOp<=10:=by simp at hop;omega
  have hop2:b.sumOp<11:=by omega
  obtain⟨w,hw1,hw2,hw3⟩:=aKi hop'.1 hop'.2;have hn:=qW F.toOutFns b.sumA false (by omega) (fun n hn=>by
   have h1:=List.all_eq_true.1 hnA n hn;simp only[aRx,iP]at h1;omega)
  simp only[go_sem,↓aC,seval,k2];refine cJ (jK F.toOutFns [99,111,108,117,109,110] (by decide)) (c' _) hT (by show T.length+7<=_;omega) ?_
  rintro T2 wr2 j1 j2 j3;have j2:T2.length<=T.length+7:=j2;simp only[go_sem,↓aC,seval,List.drop_succ_cons,List.drop_zero,List.take_succ_cons,List.take_zero,hop'.1,hop2,hw2,hw3,Nat.zero_add,Nat.mul_one];refine cJ (zZ F.toOutFns w (by omega)) (c' _) j1 (by omega) ?_
  rintro T3 wr3 m1 m2 m3;simp only[go_sem,↓aC,seval,List.drop_succ_cons,List.drop_zero,List.take_succ_cons,List.take_zero];refine cJ hn (c' _) m1 (by omega) ?_
  rintro T4 wr4 n1 n2 n3;simp only[go_sem,↓aC,seval];exact jB n1 (by omega) (cV (cV (cV kW j3) m3) n3)
 rw[if_neg k2]at hk;have b2:(b.kind==2)=false:=by simpa using k2
 by_cases k3:b.kind=3
 ·simp only[go_sem,↓aC,seval,k3];refine cJ (jK F.toOutFns [101,110,116,114,105,101,115] (by decide)) (c' _) hT (by show T.length+8<=_;omega) ?_
  rintro T2 wr2 j1 j2 j3;have j2:T2.length<=T.length+8:=j2;simp only[go_sem,↓aC,seval,List.drop_succ_cons,List.drop_zero,List.take_succ_cons,List.take_zero,List.length_map];refine aP0 (N:=0) F.toTextFns c hb.lenG hb.grid (by rfl) (by rfl) (by rfl) (by rfl) j1 (by omega) (cV kW j3) ?_
  rintro ρ' L' T' wr' n0 n1 n2 n3;simp only[go_sem,seval];exact jB n1 (by omega) n3
 rw[if_neg k3]at hk;have b3:(b.kind==3)=false:=by simpa using k3
 by_cases k4:b.kind=4
 ·rw[if_pos k4]at hk;simp only[Bool.and_eq_true,iP]at hk;obtain⟨⟨hw,hh⟩,⟨_,hlS⟩,hS⟩:=hk;have hn:=qW F.toOutFns [b.w,b.h] false (by simp) (by simp;omega)
  simp only[go_sem,↓aC,seval,k4];refine cJ (jK F.toOutFns [100,114,97,119,105,110,103] (by decide)) (c' _) hT (by show T.length+8<=_;omega) ?_
  rintro T2 wr2 j1 j2 j3;have j2:T2.length<=T.length+8:=j2;simp only[go_sem,↓aC,seval,List.drop_succ_cons,List.drop_zero,List.take_succ_cons,List.take_zero];refine cJ hn (c' _) j1 (by show T2.length+18<=_;omega) ?_
  rintro T3 wr3 m1 m2 m3;have m2:T3.length<=T2.length+18:=m2;simp only[go_sem,↓aC,seval,List.drop_succ_cons,List.drop_zero,List.take_succ_cons,List.take_zero,List.length_map];refine aN0 (N:=0) F.toTextFns c hb.lenS (List.all_eq_true.1 hS) (by rfl) (by rfl) (by rfl) (by rfl) m1 (by omega) (cV (cV kW j3) m3) ?_
  rintro ρ' L' T' wr' n0 n1 n2 n3;simp only[go_sem,seval];exact jB n1 (by omega) n3
 rw[if_neg k4]at hk;have b4:(b.kind==4)=false:=by simpa using k4
 by_cases k5:b.kind=5
 ·rw[if_pos k5]at hk;simp only[aSH,Bool.and_eq_true,iP]at hk;obtain⟨_,hH⟩:=hk;have hn:=aMX F.toTextFns F.hands b.hands hb.lenH (fun x hx=>⟨(hb.hands x hx).1,fun bar hbar=>⟨((hb.hands x hx).2 bar hbar).1,fun nt hnt=>by
   have h1:=List.all_eq_true.1 hH x hx;simp only[aJd,Bool.and_eq_true]at h1;have h2:=List.all_eq_true.1 h1.2.2 bar hbar;simp only[aRw,Bool.and_eq_true]at h2;exact List.all_eq_true.1 h2.2 nt hnt⟩⟩)
  have hlH:=hb.lenH;simp only[go_sem,↓aC,seval,k5];refine cJ (jK F.toOutFns [109,117,115,105,99] (by decide)) (c' _) hT (by show T.length+6<=_;omega) ?_
  rintro T2 wr2 j1 j2 j3;have j2:T2.length<=T.length+6:=j2;simp only[go_sem,↓aC,seval,List.drop_succ_cons,List.drop_zero,List.take_succ_cons,List.take_zero];refine cJ hn (c' _) j1 (by omega) ?_
  rintro T3 wr3 m1 m2 m3;simp only[go_sem,↓aC,seval];exact jB m1 (by omega) (cV (cV kW j3) m3)
 rw[if_neg k5]at hk;have b5:(b.kind==5)=false:=by simpa using k5
 by_cases k6:b.kind=6
 ·simp only[go_sem,↓aC,seval,k6];refine cJ (jK F.toOutFns [108,105,115,116,105,110,103] (by decide)) (c' _) hT (by show T.length+8<=_;omega) ?_
  rintro T2 wr2 j1 j2 j3;have j2:T2.length<=T.length+8:=j2;simp only[go_sem,↓aC,seval,List.drop_succ_cons,List.drop_zero,List.take_succ_cons,List.take_zero,List.length_map];refine aP1 (N:=0) F.toTextFns c hb.lenL hb.lines (by rfl) (by rfl) (by rfl) (by rfl) j1 (by omega) (cV kW j3) ?_
  rintro ρ' L' T' wr' n0 n1 n2 n3;simp only[go_sem,seval];exact jB n1 (by omega) n3
 rw[if_neg k6]at hk;cases hk
end
end Go.AM
end
