/- Part 31: lemmas for the last text. -/
import Derived.Test.YtfpndhocfmfgdaaGreatDoorK28
import Derived.Test.YtfpndhocfmfgdaaGreatDoorK30
set_option linter.unusedVariables false
set_option linter.unusedSimpArgs false
open Bool renaming not_true -> BT
section
set_option maxRecDepth 8000
namespace Go.AM
open Go
def aXb:List AV:=[[119,104,111,108,101],[101,110,116,114,121],[105,110,115,105,100,101],[108,101,102,116],[108,111,110,103,101,114],[98,97,114],[114,111,119]].map AV.str
abbrev aDj(g:String->Nat):ACode:=qS [qb 37 .lss 36 35]<|.seq (qC 37 (.skip) (.exit 2))<|.seq (.block 3 (qS [qi 38 34 36 13,qla 39 13 38,qq 7 (.alloc [(.int .i64 0),.nilSl,(.int .i64 0),(.int .i64 0),.nilSl,(.int .i64 0),.nilSl,.nilSl,(.int .i64 0),(.int .i64 0),.nilSl,.nilSl,.nilSl]),qs 13 7 39]<|.region false [qm 40 3,qla 41 13 7,qc 42 (g "(*dactyl/syntax.printer).block") [u 40,u 41]]))<|.region false [qbi 43 .add 36 1,qm 36 43]
abbrev aDk:List Nat:=[37,38,39,7,40,41,42,43,36]
abbrev aDl(g:String->Nat):ACode:=qS [qb 48 .lss 47 46]<|.seq (qC 48 (.skip) (.exit 4))<|.seq (.block 5 (qS [qi 49 45 47 4,qla 50 4 49,qq 9 (.alloc [(.int .i64 0),(.int .i64 0),(.int .i64 0),(.int .i64 0)]),qs 4 9 50]<|qS [qm 51 3,qc 52 (g "(*dactyl/syntax.printer).line") [u 51,uc (.str [102,97,99,116])]]<|qS [qm 53 3,qf 54 0 9,ql 55 1 54,qq 56 (.iaA 7 1 (uc (.ep aXb 0)) (u 55)),ql 57 1 56,qc 58 (g "(*dactyl/syntax.printer).word") [u 53,u 57]]<|.region false [qm 59 3,qf 60 1 9,ql 61 1 60,qf 62 2 9,ql 63 1 62,qf 64 3 9,ql 65 1 64,qq 66 (.bsl 1 [(.int .i64 0)] 3 [(0,(.tmp 61)),(1,(.tmp 63)),(2,(.tmp 65))]),qc 67 (g "(*dactyl/syntax.printer).numbers") [u 59,u 66]]))<|.region false [qbi 68 .add 47 1,qm 47 68]
abbrev aDm:List Nat:=[48,49,50,9,51,52,53,54,55,56,57,58,59,60,61,62,63,64,65,66,67,68,47]
abbrev aDn(g:String->Nat):ACode:=qS [qb 73 .lss 72 71]<|.seq (qC 73 (.skip) (.exit 6))<|.seq (.block 7 (qS [qi 74 70 72 7,qla 75 7 74,qq 11 (.alloc [(.int .i64 0),.nilSl,.nilSl,.nilSl,(.str []),(.int .i64 0),.nilSl]),qs 7 11 75]<|.region false [qm 76 3,qla 77 7 11,qc 78 (g "(*dactyl/syntax.printer).question") [u 76,u 77]]))<|.region false [qbi 79 .add 72 1,qm 72 79]
abbrev aDo:List Nat:=[73,74,75,11,76,77,78,79,72]
abbrev aDp(g:String->Nat):ACode:=qS [qb 24 .lss 23 22]<|.seq (qC 24 (.skip) (.exit 0))<|.seq (.block 1 (qS [qi 25 21 23 4,qla 26 4 25,qq 5 (.alloc [(.str []),.nilSl,.nilSl,.nilSl]),qs 4 5 26]<|qS [qm 27 3,qc 28 (g "(*dactyl/syntax.printer).line") [u 27,uc (.str [105,116,101,109])]]<|qS [qm 29 3,qf 30 0 5,ql 31 1 30,qc 32 (g "(*dactyl/syntax.printer).word") [u 29,u 31]]<|.seq (qS [qf 33 1 5,ql 34 1 33,qn 35 34,qmc 36 (.int .i64 0)]<|.block 2 (.loop (aDj g)))<|.seq (qS [qf 44 2 5,ql 45 1 44,qn 46 45,qmc 47 (.int .i64 0)]<|.block 4 (.loop (aDl g)))<|qS [qf 69 3 5,ql 70 1 69,qn 71 70,qmc 72 (.int .i64 0)]<|.block 6 (.loop (aDn g))))<|.region false [qbi 80 .add 23 1,qm 23 80]
abbrev aDq:List Nat:=[24,25,26,5,27,28,29,30,31,32,33,34,35,36,37,38,39,7,40,41,42,43,36,44,45,46,47,48,49,50,9,51,52,53,54,55,56,57,58,59,60,61,62,63,64,65,66,67,68,47,69,70,71,72,73,74,75,11,76,77,78,79,72,80,23]
def wP(g:String->Nat):AFn:=⟨89,[13,5,7,9,11],[.tmp 2],qS [qx 1 2 0,qmc 2 (.str [])]<|qS [qq 12 (.build [.nilPtr,.nilSl] []),qq 13 (.tbx 195 2 (u 12)),qm 3 13]<|qS [qm 14 3,qc 15 (g "(*dactyl/syntax.printer).line") [u 14,uc (.str [101,120,97,109])]]<|qS [qm 16 3,qf 17 0 1,ql 18 1 17,qc 19 (g "(*dactyl/syntax.printer).text") [u 16,u 18]]<|.seq (qS [qf 20 1 1,ql 21 1 20,qn 22 21,qmc 23 (.int .i64 0)]<|.block 0 (.loop (aDp g)))<|qS [qm 81 3,qq 82 (.nilck (u 81)),qf 83 0 82,qc 84 (g "(*strings.Builder).WriteByte") [u 83,uc (.int .u8 10)]]<|qS [qm 85 3,qq 86 (.nilck (u 85)),qf 87 0 86,qc 88 (g "(*strings.Builder).String") [u 87],qm 2 88]<|.ret⟩
@[go_sem] theorem aUr{call:Nat->List AV->List AObj->Out}{ρ:bH}{H:List AObj}{ty k:Nat}{x:AOpd}{id:Nat}:mJ call (some id) false ρ H (.tbx ty k x)=if id<H.length/\(x.at ρ).cells.length=k/\(x.at ρ).cells.all AV.cellOk then some (.ptr id (bG H id) 0,make H id (.tbox · ty (x.at ρ).cells),[id])else none:=(rfl)
section
variable {A:AProg}{g:String->Nat}{tB tP:Nat}
theorem aAS{f:Nat}{args:List AV}{H:List AObj}{r:AV×List (Nat×AObj)×List AObj}(h:(A.prim f).bind (· args H)=some r):aL A f args H=some (dA H r):=
 nR (n:=0) (by unfold cT qE;rw[h])
theorem aJm(h:Has A g "(*strings.Builder).WriteString" (bM g))(hp:A.prim (g "(*strings.Builder).copyCheck")=some (eP tB tP)){H:List AObj}{o v:Nat}{s:Str}
  (ho:H[o]? = some (.tbox v tP [.nilPtr,.nilSl])) (hs:s≠[]) (hl:s.length<=100000000):
  aL A (g "(*strings.Builder).WriteString") [.ptr o v 0,.str s] H=some (.tup [vi s.length,.nilIfc],H.set o (.tbox v tP [.ptr o v 0,.sr H.length 1 s.length])++[.tvec 1 5 1 (rb s)],[o]):=by
 refine h.call (by simp[bM]) (by kernel_rfl) ?_
 have hlo:=getElem?_lt ho;have go:∀L,(H++L)[o]? = some (.tbox v tP [.nilPtr,.nilSl]):=fun L=>by rw[List.getElem?_append_left hlo];exact ho
 have hcc:aL A (g "(*strings.Builder).copyCheck") [.ptr o v 0] (H++[.gone 0])=some (.tup [],H.set o (.tbox v tP [.ptr o v 0,.nilSl])++[.gone 0],[o]):=by
  rw[aAS (r:=(.tup [],[(o,.tbox v tP [.ptr o v 0,.nilSl])],[]))]
  ·simp[dA,fZ,List.set_append_left _ _ hlo]
  ·rw[hp]
   show eP tB tP [.ptr o v 0] _=_
   simp[eP,go]
 have g1:∀x L,(H.set o x++L)[o]? = some x:=fun x L=>by rw[List.getElem?_append_left (by simpa using hlo)];exact List.getElem?_set_self hlo
 have g2:∀x y L,(H.set o x++L).set o y=H.set o y++L:=fun x y L=>by rw[List.set_append_left _ _ (by simpa using hlo),List.set_set]
 have hne:(rb s).isEmpty=false:=by cases s with | nil=>exact absurd rfl hs | cons a r=>rfl
 have hta:tX (H.set o (.tbox v tP [.ptr o v 0,.nilSl])++[.gone 0]) (some H.length) 5 1 1 .nilSl (.str s)=some (.sr H.length 1 s.length,H.set o (.tbox v tP [.ptr o v 0,.nilSl])++[.tvec 1 5 1 (rb s)],[H.length]):=by
  unfold tX;have hhd:cH 1 (aG s)=true:=aCm s;have hr:bP s.length 1=true:=by unfold bP;simp;omega
  have hlen:(aG s).length=s.length:=jJ s;have hne':(aG s).isEmpty=false:=hne;simp only[cU,hhd,BT,Bool.false_eq_true,if_false,hne',hlen,hr,if_true];simp[bG,make,rb,aG];exact⟨rfl,fun a _=>rfl⟩
 simp only[bM];simp only[go_sem,↓aC,seval,hcc,g1,g2,hta];have hu:AObj.under H.length (.tbox v tP [.ptr o v 0,.sr H.length 1 s.length])=false:=by
  have:decide (H.length<H.length)=false:=by simp
  simp[AObj.under,dS,AV.under]
 rw[uL hlo,uK,mH (g1 _ _) hu];exact⟨rfl,rfl,rfl⟩
theorem aLg(F:OutFns A g tB tP){H:List AObj}{o v:Nat}{s:Str}(ho:H[o]? = some (.tbox v tP [.nilPtr,.nilSl]))(hs:s≠[])(hl:s.length<=100000000):
  aL A (g "(*dactyl/syntax.printer).line") [.ptr o v 0,.str s] H=some (.tup [],H.set o (.tbox v tP [.ptr o v 0,.sr H.length 1 s.length])++[.tvec 1 5 1 (rb s)],[o]):=by
 refine F.line.call (by simp[fN]) (by kernel_rfl) ?_
 have hlo:=getElem?_lt ho;have h1:aL A (g "(*strings.Builder).Len") [.ptr o v 0] H=some (vi 0,H,[]):=by
  refine F.len.call (by simp[eG]) (by kernel_rfl) ?_
  simp only[eG];simp only[go_sem,↓aC,seval,List.append_nil,ho]
 have h2:=aJm F.ws F.cc ho hs hl;have g1:∀x L,(H.set o x++L)[o]? = some x:=fun x L=>by rw[List.getElem?_append_left (by simpa using hlo)];exact List.getElem?_set_self hlo
 simp only[fN];simp only[go_sem,↓aC,seval,List.append_nil,h1,h2,Int.lt_irrefl,decide_false];have hu:AObj.under H.length (.tbox v tP [.ptr o v 0,.sr H.length 1 s.length])=false:=by
  have:decide (H.length<H.length)=false:=by simp
  simp[AObj.under,dS,AV.under]
 rw[uL hlo,uK,mH (g1 _ _) hu];exact⟨rfl,rfl,rfl⟩
def aJn(b:Block):Exam:=⟨[120],[⟨[97],[b],[],[]⟩]⟩
section
variable {H X:List AObj}{ty v v2 i:Nat}{T:Str}{x:AObj}
theorem aKj(h0:i≠0)(h5:i≠5):(PSt X ty H.length v (H.length+5) v2 T)[H.length+i]? = X[H.length+i]? := by
 unfold PSt;rw[List.getElem?_set_ne (by omega),List.getElem?_set_ne (by omega)]
theorem aJo(h0:i≠0)(h5:i≠5):(PSt X ty H.length v (H.length+5) v2 T).set (H.length+i) x=PSt (X.set (H.length+i) x) ty H.length v (H.length+5) v2 T:=by
 unfold PSt;rw[List.set_comm (i:=H.length+5) _ _ (by omega),List.set_comm (i:=H.length) _ _ (by omega)]
theorem aN2(h0:i≠0)(h5:i≠5):bG (PSt X ty H.length v (H.length+5) v2 T) (H.length+i)=bG X (H.length+i):=by
 unfold bG;rw[aKj h0 h5]
theorem aKk(h0:i≠0)(h5:i≠5){mk:Nat->AObj}:make (PSt X ty H.length v (H.length+5) v2 T) (H.length+i) mk=PSt (make X (H.length+i) mk) ty H.length v (H.length+5) v2 T:=by
 unfold make;rw[aKj h0 h5,aJo h0 h5]
theorem aP2{a b c d e f:AObj}:H++[.tbox v ty [.ptr H.length v 0,.sr (H.length+5) v2 T.length],b,c,d,e,.tvec v2 5 1 (rb T)]=PSt (H++[a,b,c,d,e,f]) ty H.length v (H.length+5) v2 T:=by
 unfold PSt;rw[aBu,nI];rfl
theorem aP3{L:List AObj}:(PSt (H++L) ty H.length v (H.length+5) v2 T).take H.length=H:=by
 unfold PSt;rw[aBu,nI,aBv]
end
theorem aGT{α:Type}{l:List α}(h:l.length=6):∃a b c d e f,l=[a,b,c,d,e,f]:=by
 match l,h with
 | [a,b,c,d,e,f],_=>exact⟨a,b,c,d,e,f,rfl⟩
structure SrcPrt(A:AProg)(g:String->Nat)(tB:Nat) extends BlockPrt A g tB 195 where
 source:Has A g "dactyl/syntax.source" (wP g)
 str:A.prim (g "(*strings.Builder).String")=some (yM 5)
theorem aG4:∀s:Str,aC8 (rb s)=true
 | []=>rfl
 |c::s=>by
  have:=UInt8.toNat_lt c
  show (decide (0<=((c.toNat:Nat):Int))&&decide (((c.toNat:Nat):Int)<256)&&aC8 (rb s))=true
  rw[aG4 s];simp;omega
theorem aEE(hp:A.prim (g "(*strings.Builder).String")=some (yM 5)){H:List AObj}{ty o v o2 v2:Nat}{T:Str}(c:PCtx H.length o o2)(hT:T≠[])(hl:T.length<=1000000000):
  aL A (g "(*strings.Builder).String") [.ptr o v 0] (PSt H ty o v o2 v2 T)=some (.str T,(PSt H ty o v o2 v2 T).set o2 (.gone v2),[o2]):=by
 rw[aAS (r:=(.str T,[(o2,.gone v2)],[]))]
 ·simp[dA,fZ]
 ·rw[hp]
  show yM 5 [.ptr o v 0] _=_
  have hp:=List.length_pos_iff.2 hT;simp[yM,sR c,aJg c,aG4,nV,Ne.symm c.ne,hl];exact hT
set_option maxHeartbeats 3200000 in
theorem aJp(F:SrcPrt A g tB)(b:Block)(hk:aDf b=true)(hb:b.Ok)(H:List AObj):∃s:Str,s.length<=1000000/\aL A (g "dactyl/syntax.source") [eL (aJn b)] H=some (.str s,H,[]):=by
 obtain⟨v',H',wr',h1,rfl,rfl,s,rfl,hs⟩:=F.source.callEx (args:=[eL (aJn b)]) (H:=H) (K:=fun v H' wr=>wr=[]/\H'=H/\∃s:Str,v=.str s/\s.length<=1000000) (by simp[wP]) (by kernel_rfl) (by
  have hf:=aLg F.toOutFns (H:=H++[.tbox 1 195 [.nilPtr,.nilSl],.gone 0,.gone 0,.gone 0,.gone 0]) (o:=H.length) (v:=1) (s:=[101,120,97,109]) (by simp) (by simp) (by decide)
  rw[show (H++[AObj.tbox 1 195 [.nilPtr,.nilSl],.gone 0,.gone 0,.gone 0,.gone 0]).length=H.length+5 by simp,aBu,List.set_cons_zero,List.append_assoc]at hf
  have c':∀{L:List AObj},L.length=6->PCtx (H++L).length H.length (H.length+5):=fun h=>⟨by simp;omega,by simp;omega,by omega⟩
  have hself:=fun(T:Str) (b c d e:AObj)=>aP2 (H:=H) (ty:=195) (v:=1) (v2:=1) (T:=T) (a:=.gone 0) (b:=b) (c:=c) (d:=d) (e:=e) (f:=.gone 0);rw[show [AObj.tbox 1 195 [.ptr H.length 1 0,.sr (H.length+5) 1 ([101,120,97,109]:Str).length],AObj.gone 0,.gone 0,.gone 0,.gone 0]++[.tvec 1 5 1 (rb [101,120,97,109])]=[.tbox 1 195 [.ptr H.length 1 0,.sr (H.length+5) 1 ([101,120,97,109]:Str).length],.gone 0,.gone 0,.gone 0,.gone 0,.tvec 1 5 1 (rb [101,120,97,109])] from rfl,hself]at hf
  have hw0:∀{w:List Nat},Wr2 H.length (H.length+5) w->bA H.length [] w=[]:=fun {w} h=>by
   induction w with
   |nil=>rfl
   |cons x r ih=>
    have hx:H.length<=x:=by rcases h x (by simp)with e | e<;>omega
    unfold bA;rw[if_neg (by intro hh;simp at hh;omega)]
    exact ih fun y hy=>h y (by simp[hy])
  simp only[wP];simp only[go_sem,↓aC,seval,eL,aJn,List.map_cons,List.map_nil,cG,hf];refine cJ (aDA F.toTextFns [120] (by decide)) (c' rfl) (by simp) (by decide) ?_
  rintro T1 wr1 a1 a2 a3;have a2:T1.length<=9:=a2;simp only[go_sem,↓aC,seval,hw0 a3,List.drop_succ_cons,List.drop_zero,List.take_succ_cons,List.take_zero];refine yZ (fun L wr=>L.length=6/\wr=[]) 0 1 23 22 24 80 1 700000 (W:=aDq) (by rfl) (by kernel_rfl) (by rfl) (by rfl) (by rfl) (by omega) a1 ⟨rfl,rfl⟩ ?_ ?_
  ·rintro i ρ1 L1 T2 wr2 hlt e23 hf2 ⟨hL,rfl⟩ g1 g2;obtain⟨x0,x1,x2,x3,x4,x5,rfl⟩:=aGT hL;have hi:i=0:=by omega
   subst hi;have e3:ρ1 3=.ptr H.length 1 0:=by rw[hf2 3 (by rfl)];rfl
   have e21:ρ1 21=.sl false [[.str [97],.sl false [aE b],.sl false [],.sl false []]]:=by rw[hf2 21 (by rfl)];rfl
   have n1:∀{X:List AObj} {T:Str},(PSt X 195 H.length 1 (H.length+5) 1 T)[H.length+1]? = X[H.length+1]? := aKj (by decide) (by decide)
   have n2:∀{X:List AObj} {T:Str} {x:AObj},(PSt X 195 H.length 1 (H.length+5) 1 T).set (H.length+1) x=PSt (X.set (H.length+1) x) 195 H.length 1 (H.length+5) 1 T:=aJo (by decide) (by decide)
   have n3:∀{X:List AObj} {T:Str},bG (PSt X 195 H.length 1 (H.length+5) 1 T) (H.length+1)=bG X (H.length+1):=aN2 (by decide) (by decide)
   have n4:∀{X:List AObj} {T:Str} {mk:Nat->AObj},make (PSt X 195 H.length 1 (H.length+5) 1 T) (H.length+1) mk=PSt (make X (H.length+1) mk) 195 H.length 1 (H.length+5) 1 T:=aKk (by decide) (by decide)
   simp only[go_sem,↓aC,seval,e23,e21,e3,mS,n1,n2,Int.le_refl,Int.toNat_zero];refine cJ (jK F.toOutFns [105,116,101,109] (by decide)) (c' rfl) g1 (by show T2.length+5<=_;omega) ?_
   rintro T3 wr3 b1 b2 b3;have b2:T3.length<=T2.length+5:=b2;simp only[go_sem,↓aC,seval,hw0 b3,e3,n1,List.drop_zero,List.take_succ_cons,List.take_zero];refine cJ (zZ F.toOutFns [97] (by decide)) (c' rfl) b1 (by show T3.length+2<=_;omega) ?_
   rintro T4 wr4 d1 d2 d3;have d2:T4.length<=T3.length+2:=d2;simp only[go_sem,↓aC,seval,hw0 d3,n1,List.drop_succ_cons,List.drop_zero,List.take_succ_cons,List.take_zero];refine yZ (fun L wr=>L.length=6/\wr=[]/\L[1]? = some (.box (x1.ver+1) [.str [97],.sl false [aE b],.sl false [],.sl false []])) 2 3 36 35 37 43 1 600000 (W:=aDk) (by rfl) (by kernel_rfl) (by rfl) (by rfl) (by rfl) (by omega) d1 ⟨rfl,rfl,rfl⟩ ?_ ?_
   ·rintro j ρ2 L2 T5 wr5 jlt f36 hf3 ⟨hL2,rfl,hL3⟩ p1 p2;obtain⟨y0,y1,y2,y3,y4,y5,rfl⟩:=aGT hL2;have hj:j=0:=by omega
    subst hj;have f3:ρ2 3=.ptr H.length 1 0:=by rw[hf3 3 (by rfl)];exact e3
    have f34:ρ2 34=.sl false [aE b]:=by rw[hf3 34 (by rfl)];rfl
    have m1:∀{X:List AObj} {T:Str},(PSt X 195 H.length 1 (H.length+5) 1 T)[H.length+2]? = X[H.length+2]? := aKj (by decide) (by decide)
    have m2:∀{X:List AObj} {T:Str} {x:AObj},(PSt X 195 H.length 1 (H.length+5) 1 T).set (H.length+2) x=PSt (X.set (H.length+2) x) 195 H.length 1 (H.length+5) 1 T:=aJo (by decide) (by decide)
    have m3:∀{X:List AObj} {T:Str},bG (PSt X 195 H.length 1 (H.length+5) 1 T) (H.length+2)=bG X (H.length+2):=aN2 (by decide) (by decide)
    have m4:∀{X:List AObj} {T:Str} {mk:Nat->AObj},make (PSt X 195 H.length 1 (H.length+5) 1 T) (H.length+2) mk=PSt (make X (H.length+2) mk) 195 H.length 1 (H.length+5) 1 T:=aKk (by decide) (by decide)
    have hcellok:(aE b).all AV.cellOk=true:=bY (bO b);simp only[go_sem,↓aC,seval,f36,f34,f3,mS,m1,m2,Int.le_refl,Int.toNat_zero,cQ,gC.take,aY (bO b),aM (bO b),hcellok,List.drop_zero,List.length_cons,List.length_nil];refine cJ (aN1 F.toBlockPrt b hk hb) (c' rfl) p1 (by omega) ?_
    rintro T6 wr6 q1 q2 q3;simp only[go_sem,↓aC,seval,hw0 q3];exact⟨rfl,[y0,y1,.box (y2.ver+1) (aE b),y3,y4,y5],T6,⟨rfl,rfl,hL3⟩,q1,q2,rfl⟩
   ·rintro ρ' L' T' wr' ⟨k0,rfl,k3⟩ k1 k2 hf4;obtain⟨y0,y1,y2,y3,y4,y5,rfl⟩:=aGT k0;have h5:ρ' 5=.ptr (H.length+1) (x1.ver+1) 0:=by rw[hf4 5 (by rfl)];rfl
    simp only[List.getElem?_cons_succ,List.getElem?_cons_zero,Option.some.injEq]at k3;subst k3;simp only[go_sem,↓aC,seval,h5,n1,List.drop_succ_cons,List.drop_zero,List.take_succ_cons,List.take_zero];refine yZ (n:=0) (m:=0) (fun L wr=>L.length=6/\wr=[]/\L[1]? = some (.box (x1.ver+1) [.str [97],.sl false [aE b],.sl false [],.sl false []])) 4 5 47 46 48 68 (W:=aDm) (by rfl) (by kernel_rfl) (by rfl) (by rfl) (by rfl) (by omega) k1 ⟨rfl,rfl,rfl⟩ (fun i _ _ _ _ h=>absurd h (by omega)) ?_
    rintro ρ'' L'' T'' wr'' ⟨q0,rfl,q3⟩ q1 q2 hf5;obtain⟨z0,z1,z2,z3,z4,z5,rfl⟩:=aGT q0;have h5':ρ'' 5=.ptr (H.length+1) (x1.ver+1) 0:=by rw[hf5 5 (by rfl)];exact h5
    simp only[List.getElem?_cons_succ,List.getElem?_cons_zero,Option.some.injEq]at q3;subst q3;simp only[go_sem,↓aC,seval,h5',n1,List.drop_succ_cons,List.drop_zero,List.take_succ_cons,List.take_zero];refine yZ (n:=0) (m:=0) (fun L wr=>L.length=6/\wr=[]) 6 7 72 71 73 79 (W:=aDo) (by rfl) (by kernel_rfl) (by rfl) (by rfl) (by rfl) (by omega) q1 ⟨rfl,rfl⟩ (fun i _ _ _ _ h=>absurd h (by omega)) ?_
    rintro ρ3 L3 T3' wr3' ⟨r0,rfl⟩ r1 r2 hf6;simp only[go_sem,seval];exact⟨rfl,L3,T3',⟨r0,rfl⟩,r1,by omega,rfl⟩
  ·rintro ρ' L' T' wr' ⟨k0,rfl⟩ k1 k2 hf;have h3:ρ' 3=.ptr H.length 1 0:=by rw[hf 3 (by rfl)];rfl
   obtain⟨wr8,w1,w2⟩:=aAs F.wb F.cc (ty:=195) (v:=1) (v2:=1) (T:=T') (b:=10) (c' k0) (by omega)
   have w1:aL A (g "(*strings.Builder).WriteByte") [.ptr H.length 1 0,.int .u8 10] (PSt (H++L') 195 H.length 1 (H.length+5) 1 T')=some (.nilIfc,PSt (H++L') 195 H.length 1 (H.length+5) 1 (T'++[10]),wr8):=w1;have hst:=aEE F.str (ty:=195) (v:=1) (v2:=1) (T:=T'++[10]) (c' k0) (by simp) (by simp;omega)
   have htk:((PSt (H++L') 195 H.length 1 (H.length+5) 1 (T'++[10])).set (H.length+5) (.gone 1)).take H.length=H:=by
    rw[List.take_set_of_le (by omega),aP3]
   simp only[go_sem,↓aC,seval,h3,w1,hst,hw0 w2,aAI,htk];exact⟨T'++[10],rfl,by simp;omega⟩)
 exact⟨s,hs,h1⟩
end
def wQ(g:String->Nat):AFn:=⟨21,[],[.tmp 2],qS [qx 1 4 0,qmc 2 (.bool false)]<|qS [qf 3 0 1,ql 4 1 3,qc 5 (g "dactyl/syntax.isName") [u 4],qm 6 5,qT 7 6 (of 1 1),qT 8 6 (ol 1 7),qT 9 6 (oc (g "dactyl/syntax.all[dactyl/api.Block]") [u 8,ui 0,ui 8,uf (g "dactyl/syntax.isBlock")]),qp 10 6 9,qm 11 10,qT 12 11 (of 2 1),qT 13 11 (ol 1 12),qT 14 11 (oc (g "dactyl/syntax.all[dactyl/api.Fact]") [u 13,ui 0,ui 8,uf (g "dactyl/syntax.isFact")]),qp 15 11 14,qm 16 15,qT 17 16 (of 3 1),qT 18 16 (ol 1 17),qT 19 16 (oc (g "dactyl/syntax.all[dactyl/api.Question]") [u 18,ui 0,ui 4,uf (g "dactyl/syntax.isQuestion")]),qp 20 16 19,qm 2 20]<|.ret⟩
def oF(g:String->Nat):AFn:=⟨17,[],[.tmp 2],qS [qx 1 2 0,qmc 2 (.int .i64 0)]<|.seq (qS [qf 3 0 1,ql 4 1 3,qc 5 (g "dactyl/syntax.isText") [u 4,ui 0,ui 100],qq 6 (.un .not (u 5)),qm 7 6,qF 8 7 (of 1 1),qF 9 7 (ol 1 8),qF 10 7 (oc (g "dactyl/syntax.all[dactyl/api.Item]") [u 9,ui 0,ui 12,uf (g "dactyl/syntax.isItem")]),qF 11 7 (.un .not (u 10)),qq 12 (.pick (u 7) uT (u 11))]<|qC 12 (qS [qmc 2 (.int .i64 1)]<|.ret) (.skip))<|.seq (qS [qla 13 2 1,qc 14 (g "dactyl/syntax.source") [u 13],qq 15 (.lenS (u 14)),qbi 16 .gtr 15 8192]<|qC 16 (qS [qmc 2 (.int .i64 4)]<|.ret) (.skip))<|qS [qmc 2 (.int .i64 0)]<|.ret⟩
structure HasValid(A:AProg)(g:String->Nat)(tB:Nat):Prop where
 blk:HasBlock A g
 src:SrcPrt A g tB
 valid:Has A g "dactyl/syntax.Valid" (oF g)
 item:Has A g "dactyl/syntax.isItem" (wQ g)
 name:Has A g "dactyl/syntax.isName" (pN g)
 name1:Has A g "dactyl/syntax.isName$1" (gV g)
 name2:Has A g "dactyl/syntax.isName$2" (jW g)
 allX:HasAll A g 13 true (g "dactyl/syntax.all[dactyl/api.Block]")
 allFc:HasAll A g 4 true (g "dactyl/syntax.all[dactyl/api.Fact]")
 allQ:HasAll A g 7 true (g "dactyl/syntax.all[dactyl/api.Question]")
 allI:HasAll A g 4 true (g "dactyl/syntax.all[dactyl/api.Item]")
section
variable {A:AProg}{g:String->Nat}{tB tP:Nat}
theorem aJq(h:HasValid A g tB)(b:Block)(hb:b.Ok)(H:List AObj):aL A (g "dactyl/syntax.isItem") [.agg (cG ⟨[97],[b],[],[]⟩)] H=some (.bool (kT b),H,[]):=by
 refine h.item.call (by simp[wQ]) (by kernel_rfl) ?_
 have hw:=qM h.blk.within;have h0:=aJ7 h.name h.name1 h.name2 h.blk.allB hw [97] H (by decide)
 have e0:aOJ [97]=true:=by decide
 rw[e0]at h0;have h1:=h.allX.spec hw gC fA (l:=[b]) (H:=H) (f1:=g "dactyl/syntax.isBlock") (q:=kT) (lo:=0) (hi:=8) (by show ([b]:List Block).length<_;simp) fun _ x hx=>by
  rw[List.mem_singleton.1 hx];exact aIb h.blk b hb H
 have h2:=h.allFc.spec hw aOH fA (l:=[]) (H:=H) (f1:=g "dactyl/syntax.isFact") (q:=fun _=>true) (lo:=0) (hi:=8) (by decide) fun _ x hx=>by cases hx
 have h3:=h.allQ.spec hw aX8 fA (l:=[]) (H:=H) (f1:=g "dactyl/syntax.isQuestion") (q:=fun _=>true) (lo:=0) (hi:=4) (by decide) fun _ x hx=>by cases hx
 have w1:(wi (([b]:List Block).length:Nat) 0 8&&[b].all kT)=kT b:=by simp[wi]
 have w2:(wi (([]:List Fact).length:Nat) 0 8&&([]:List Fact).all (fun _=>true))=true:=by decide
 have w3:(wi (([]:List Question).length:Nat) 0 4&&([]:List Question).all (fun _=>true))=true:=by decide
 rw[w1]at h1;rw[w2]at h2;rw[w3]at h3;simp only[List.map_cons,List.map_nil]at h1 h2 h3;simp only[wQ];cases e:kT b with
 |false=>
  rw[e]at h1;simp only[go_sem,↓aC,seval,cG,List.map_cons,List.map_nil,h0,h1,List.drop_succ_cons,List.drop_zero,List.take_succ_cons,List.take_zero,beq_self_eq_true,Bool.false_beq,List.append_nil]
 |true=>
  rw[e]at h1;simp only[go_sem,↓aC,seval,cG,List.map_cons,List.map_nil,h0,h1,h2,h3,List.drop_succ_cons,List.drop_zero,List.take_succ_cons,List.take_zero,beq_self_eq_true,List.append_nil]
theorem aLh(h:HasValid A g tB)(b:Block)(hb:b.Ok)(H:List AObj):∃e:Int,aL A (g "dactyl/syntax.Valid") [eL (aJn b)] H=some (vi e,H,[])/\(e=0->kT b=true):=by
 have hw:=qM h.blk.within;have h0:=aAN h.blk.text h.blk.text1 h.blk.allB hw [120] 0 100 H (by decide)
 have e0:aGG 0 100 [120]=true:=by decide
 rw[e0]at h0;have h1:=h.allI.spec hw aOI fA (l:=[⟨[97],[b],[],[]⟩]) (H:=H) (f1:=g "dactyl/syntax.isItem") (q:=fun _=>kT b) (lo:=0) (hi:=12) (by show ([⟨[97],[b],[],[]⟩]:List Item).length<_;simp) fun _ x hx=>by
  rw[List.mem_singleton.1 hx];exact aJq h b hb H
 have w1:(wi (([⟨[97],[b],[],[]⟩]:List Item).length:Nat) 0 12&&([⟨[97],[b],[],[]⟩]:List Item).all (fun _=>kT b))=kT b:=by simp[wi]
 rw[w1]at h1;simp only[List.map_cons,List.map_nil]at h1;cases e:kT b with
 |false=>
  rw[e]at h1;refine⟨1, ?_,fun h=>by cases h⟩
  refine h.valid.call (by simp[oF]) (by kernel_rfl) ?_
  simp only[oF];simp only[go_sem,↓aC,seval,eL,aJn,List.map_cons,List.map_nil,h0,h1,List.drop_succ_cons,List.drop_zero,List.take_succ_cons,List.take_zero,beq_self_eq_true,List.append_nil]
 |true=>
  rw[e]at h1;have hk:aDf b=true:=by unfold kT at e;simp only[Bool.and_eq_true]at e;exact e.2
  obtain⟨s,hs1,hs2⟩:=aJp h.src b hk hb H;refine⟨if decide ((s.length:Int)>8192)then 4 else 0, ?_,fun _=>rfl⟩
  refine h.valid.call (by simp[oF]) (by kernel_rfl) ?_
  simp only[oF];simp only[eL,aJn,List.map_cons,List.map_nil]at hs2 ⊢;simp only[go_sem,↓aC,seval,h0,h1,hs2,List.drop_succ_cons,List.drop_zero,List.take_succ_cons,List.take_zero,beq_self_eq_true,List.append_nil];refine aD (fun hb2 => ?_) (fun hb2 => ?_)
  ·simp only[go_sem,↓aC,seval,hb2]
  ·rw[hb2];simp only[go_sem,↓aC,seval]
end
section
variable {A:AProg}{g:String->Nat}
structure NoYF(A:AProg):Prop where
 fn:A.fn YF=none
 prim:A.prim YF=none
theorem aIi{N:Nat}{c:Ctx}{x:AOpd}{ps:List Nat}{body:ACode}{ρ:bH}{H:List AObj}{wr:List Nat}{Q:AExit->bH->List AObj->List Nat->Prop}{tg:Tg (A,N,c,ACode.rangeF x ps body,Q)}{id f:Nat}{first caps:List AV}
  (hx:x.at ρ=.fn f first caps) (hs:c.site ps.head? = some id) (hid:id<H.length) (ht:∀H,iZ c H=true) {v:Nat} {X:List AV->List AObj} (hv:bG H id=v) (hm:∀l,(make H id fun v=>.rnd v c.base c.sites ps body l false none)=X l)
  (h:∀l:List AV,l.length=N->fenv l=ρ->∃r H2 wr2 b' s' p' cc' r' pend,aL A f (first++.yld id v::caps) (X l)=some (r,H2,wr2) /\
   H2[id]? = some (.rnd v b' s' p' cc' r' false pend)/\Q (pend.getD .normal) ρ (H2.set id (.gone v)) (bA c.base wr (id::wr2))):
  wc A N c (.rangeF x ps body) ρ H wr Q tg:=by
 subst hv;unfold wc;rw[wpc];intro l hl he;obtain⟨r,H2,wr2,b',s',p',cc',r',pend,h1,h2,h3⟩:=h l hl he;rw[<- hm l]at h1;obtain⟨n,hn⟩:=vL h1;refine⟨n+1,pend.getD .normal,⟨l,H2.set id (.gone (bG H id)),bA c.base wr (id::wr2)⟩, ?_,hl,by rw[he];exact h3⟩
 rw[kO,AOpd.ev_eq];dsimp only;rw[he,hx,hs];dsimp only;rw[if_pos ⟨hid,ht _⟩,hn];dsimp only;rw[h2];dsimp only;rw[if_pos ⟨rfl,ht _⟩]
theorem aD1:∀(ps:List Nat) (xs l:List AV),(dQ l ps xs).length=l.length
 | [],_,_=>by unfold dQ;rfl
 |p::ps,[],_=>by unfold dQ;rfl
 |p::ps,x::xs,l=>by rw[dQ,aD1 ps xs];simp
theorem aEF(hY:NoYF A){N:Nat}{H:List AObj}{o v base:Nat}{sites ps:List Nat}{asg body:ACode}{l xs:List AV}{K:AExit->List AObj->List Nat->Prop}
  (ho:H[o]? = some (.rnd v base sites ps (.seq asg body) l false none)) (hx:xs.length=ps.length)
  (hok:cZ N ⟨base,sites++[YF+o,YF+v]⟩ asg=true) (hok2:cZ N ⟨base,sites++[YF+o,YF+v]⟩ body=true) (hl:l.length=N)
  (h:wc A N ⟨base,sites++[YF+o,YF+v]⟩ asg (fenv (dQ l ps xs)) H [] (fun e ρ1 H1 wr1=>e=.normal/\∃b1 t1 p1 c1 r1,H1[o]? = some (.rnd v b1 t1 p1 c1 r1 false none) /\
   wc A N ⟨base,sites++[YF+o,YF+v]⟩ body ρ1 (H1.set o (.rnd v b1 t1 p1 c1 r1 true none)) wr1 (fun e ρ2 H2 wr2=>∃b' s' p' c' r',H2[o]? = some (.rnd v b' s' p' c' r' true none) /\
    K e (H2.set o (.rnd v b' s' p' c' r' false (if e=.normal then none else some e))) (List.range' base (H.length - base)++(o::wr2))) ⟨⟩) ⟨⟩):
  ∃e H' wr',aL A YF (.own 0 []::.yld o v::xs) H=some (.bool (decide (e=.normal)),H',wr')/\K e H' wr':=by
 obtain⟨n,e,s0,h1,h2,rfl,b1,t1,p1,c1,r1,h3,h4⟩:=jT h hok _ (by rw[aD1];exact hl) rfl
 obtain⟨m,e2,s,g1,g2,b',s',p',c',r',g3,g4⟩:=jT h4 hok2 s0.ρ h2 rfl;refine⟨e2,_,_,nR (n:=max n m) ?_,g4⟩;unfold cT qE;rw[hY.prim,hY.fn]
 show rX _ H (.own 0 []::.yld o v::xs)=_
 rw[yJ,ho];dsimp only;rw[if_pos ⟨rfl,hx⟩,dU (Nat.le_max_left n m) _ _ _ _ h1];dsimp only;rw[h3];dsimp only;rw[if_pos rfl,dU (Nat.le_max_right n m) _ _ _ _ g1];dsimp only;rw[g3];dsimp only;rw[if_pos rfl]
theorem aJr{call:Nat->List AV->List AObj->Out}{H:List AObj}{site:Option Nat}{o v:Nat}{args:List AV}:cY call H site (.yld o v) args=match jP H args with
  |none=>none
  |some (args',lent)=>match call YF (.own 0 []::.yld o v::args'.map AV.strip) (dL H lent)with
   |none=>none
   |some (b,H',wr)=>if lent.isEmpty&&b.atomic then some (b,H',wr)else none:=rfl
theorem wR{base:Nat}{v:AV}{H:List AObj}{wr:List Nat}(h:H.length<=base):cD base (v,H,wr)=(v,H,wr):=by
 unfold cD;dsimp only
 split
 ·rw[List.take_of_length_le h]
 ·rfl
end
abbrev aAT(g:String->Nat):List AOper:=[qm 28 0,qf 29 1 1,⟨some 30,ol 1 29,none,[1]⟩,qm 31 4,⟨some 32,oi 30 31 2,none,[2,1,3]⟩,⟨some 33,ola 2 32,none,[4,2,1,3]⟩,qf 34 1 1,⟨some 35,ol 1 34,none,[6]⟩,qm 36 4,⟨some 37,obi .add 36 1,none,[8]⟩,qm 38 3,⟨some 39,ob .rem 37 38,none,[9,8,10]⟩,⟨some 40,oi 35 39 2,none,[7,6,11,9,8,10]⟩,⟨some 41,ola 2 40,none,[12,7,6,11,9,8,10]⟩,⟨some 42,.build [(.int .i64 0),(.int .i64 0),(.int .i64 0),(.int .i64 0)] [(0,2,(.tmp 33)),(2,2,(.tmp 41))],none,[5,4,2,1,3,13,12,7,6,11,9,8,10]⟩,⟨some 43,.callv (u 28) [(.tmp 42)],none,[0,14,5,4,2,1,3,13,12,7,6,11,9,8,10]⟩,⟨some 44,.un .not (u 43),none,[15,0,14,5,4,2,1,3,13,12,7,6,11,9,8,10]⟩]
abbrev iI:List Nat:=[]
abbrev aAU(g:String->Nat):ACode:=qS [qb 17 .lss 16 15]<|.seq (qC 17 (.skip) (.exit 0))<|.seq (.block 1 (qS [qm 18 16,qm 4 18]<|.seq (qS [qm 19 4,qm 20 3,qbi 21 .sub 20 1,qb 22 .eql 19 21,qm 23 22,qT 24 23 (of 0 1),qT 25 23 (ol 1 24),qT 26 23 (obi .neq 25 2),qp 27 23 26]<|qC 27 (.ret) (.skip))<|.seq (.region true (aAT g))<|qC 44 (.ret) (.skip)))<|.region false [qbi 45 .add 16 1,qm 16 45]
abbrev aAV:List Nat:=[17,18,4,19,20,21,22,23,24,25,26,27,28,29,30,31,32,33,34,35,36,37,38,39,40,41,42,43,44,45,16]
def fY(g:String->Nat):AFn:=⟨46,[],[],qS [qf 5 1 1,ql 6 1 5,qn 7 6,qm 3 7]<|.seq (qS [qf 8 0 1,ql 9 1 8,qbi 10 .eql 9 0,qm 11 10,qF 12 11 (om 3),qF 13 11 (obi .lss 12 2),qq 14 (.pick (u 11) uT (u 13))]<|qC 14 (.ret) (.skip))<|qS [qm 15 3,qmc 16 (.int .i64 0)]<|.block 0 (.loop (aAU g))⟩
def nX(g:String->Nat):AFn:=⟨4,[],[.tmp 2],qS [qx 1 2 0,qmc 2 .nilFn]<|qS [qq 3 (.mkf (g "dactyl/plane.segments$1") [] [(.tmp 1)]),qm 2 3]<|.ret⟩
section
variable {A:AProg}{g:String->Nat}
def aGU(A:AProg)(o v base n:Nat)(I:Nat->List AObj->Prop)(J:List AObj->Prop):Prop:=(∀i H,I i H->H.length=n)/\(∀H,J H->H.length=n) /\
 ∀i H (a b c d:Int),i<1000->I i H->∃(e:AExit) (H':List AObj) (wr:List Nat),aL A YF [.own 0 [],.yld o v,.agg [vi a,vi b,vi c,vi d]] H=some (.bool (decide (e=.normal)),H',wr)/\(if e=.normal then I (i+1) H' else J H')/\∀x∈wr,base<=x
theorem aA0{b:Nat}:∀{l wr:List Nat},(∀x∈l,b<=x)->bA b wr l=wr
 | [],wr,_=>rfl
 |y::r,wr,h=>by
  have hy:=h y List.mem_cons_self;unfold bA;rw[if_neg (by intro hh;simp at hh;omega)]
  exact aA0 fun z hz=>h z (List.mem_cons_of_mem _ hz)
theorem aBE{b n:Nat}:∀{l wr:List Nat},(∀x∈wr,b<=x)->(∀x∈l,b<=x)->∀x∈bA n wr l,b<=x
 | [],wr,h,_=>h
 |y::r,wr,h,hl=>by
  unfold bA
  split
  ·exact aBE (fun z hz=>by
    rcases List.mem_cons.1 hz with rfl | hz
    ·exact hl _ List.mem_cons_self
    ·exact h z hz) fun z hz=>hl z (List.mem_cons_of_mem _ hz)
  ·exact aBE h fun z hz=>hl z (List.mem_cons_of_mem _ hz)
theorem aIj{o v base n i:Nat}{I:Nat->List AObj->Prop}{J:List AObj->Prop}(hR:aGU A o v base n I J){H:List AObj}(hi:i<1000)(hI:I i H){site:Option Nat}{a b c d:Int}{k:AV×List AObj×List Nat×Option (List Nat)->Prop}{tg}
  (hk:∀e H' wr,(if e=AExit.normal then I (i+1) H' else J H')->(∀x∈wr,base<=x)->H'.length=H.length->bnd (nH H (some (.bool (decide (e=.normal)),H',wr))) k):
  aCe (nH H (cY (aL A) H site (.yld o v) [.agg [vi a,vi b,vi c,vi d]])) k tg:=by
 obtain⟨r1,r2,r3⟩:=hR;obtain⟨e,H',wr,h1,h2,h3⟩:=r3 i H a b c d hi hI;have hl:H'.length=H.length:=by
  rw[r1 i H hI]
  split at h2
  ·exact r1 _ _ h2
  ·exact r2 _ h2
 have he:cY (aL A) H site (.yld o v) [.agg [vi a,vi b,vi c,vi d]]=some (.bool (decide (e=.normal)),H',wr):=by
  rw[aJr];have:jP H [.agg [vi a,vi b,vi c,vi d]]=some ([.agg [vi a,vi b,vi c,vi d]],[]):=rfl;rw[this];dsimp only;have e2:([AV.agg [vi a,vi b,vi c,vi d]]).map AV.strip=[.agg [vi a,vi b,vi c,vi d]]:=rfl;rw[e2,show dL H []=H from rfl,h1]
  rfl
 rw[he];exact hk e H' wr h2 h3 hl
theorem aIk(h:Has A g "dactyl/plane.segments$1" (fY g)){o v base n:Nat}{I:Nat->List AObj->Prop}{J:List AObj->Prop}(hR:aGU A o v base n I J)(kind:Int)(pts:List (Int×Int))(hp:pts.length<=1000)(H:List AObj)(hI:I 0 H):
  ∃H' wr,aL A (g "dactyl/plane.segments$1") [.yld o v,.ep [vi kind,.sl false (pts.map bQ)] 0] H=some (.tup [],H',wr)/\((∃i,i<=1000/\I i H')∨J H')/\∀x∈wr,base<=x:=by
 obtain⟨r1,r2,r3⟩:=hR;have hlen:H.length=n:=r1 0 H hI;obtain⟨v',H',wr',h1,rfl,h2,h3⟩:=h.callEx (args:=[.yld o v,.ep [vi kind,.sl false (pts.map bQ)] 0]) (H:=H) (K:=fun v H' wr=>v=.tup []/\((∃i,i<=1000/\I i H')∨J H')/\∀x∈wr,base<=x) (by simp[fY]) (by kernel_rfl) (by
  simp only[fY];have K0:∀{H' wr},((∃i,i<=1000/\I i H')∨J H')->(∀x∈wr,base<=x)->H'.length<=H.length->(cD H.length (.tup [],H',wr)).1=.tup []/\((∃i,i<=1000/\I i (cD H.length (.tup [],H',wr)).2.1)∨J (cD H.length (.tup [],H',wr)).2.1)/\∀x∈(cD H.length (.tup [],H',wr)).2.2,base<=x:=fun {H' wr} a b c=>by
   rw[wR c];exact⟨rfl,a,b⟩
  cases e1:(kind==0)with
  |true=>
   simp only[go_sem,↓aC,seval,e1,Bool.true_beq,List.append_nil,List.length_map,List.drop_succ_cons,List.drop_zero,List.take_succ_cons,List.take_zero];exact⟨.inl ⟨0,by omega,hI⟩,fun x hx=>by cases hx⟩
  |false=>
   simp only[go_sem,↓aC,seval,e1,beq_self_eq_true,List.append_nil,List.length_map,List.drop_succ_cons,List.drop_zero,List.take_succ_cons,List.take_zero];refine aD (fun e2 => ?_) (fun e2 => ?_)
   ·simp only[go_sem,↓aC,seval];exact⟨.inl ⟨0,by omega,hI⟩,fun x hx=>by cases hx⟩
   ·have hn2:2<=pts.length:=by simp at e2;omega
    simp only[go_sem,↓aC,seval];refine bZ (id:=0) (W:=aAV) (fun i ρ1 H1 wr=>ρ1 16=vi (i:Nat)/\I i H1/\∀x∈wr,base<=x) pts.length (fun ρ1 H1 wr=>(∃i,i<=1000/\I i H1)/\∀x∈wr,base<=x)
     (by kernel_rfl) (by rfl) ⟨rfl,hI,fun x hx=>by cases hx⟩ ?_ ?_
    ·rintro i ρ1 H1 wr1 hil ⟨e16,hI1,hw1⟩ hf;have f15:ρ1 15=vi (pts.length:Nat):=by rw[hf 15 (by rfl)];rfl
     have f3:ρ1 3=vi (pts.length:Nat):=by rw[hf 3 (by rfl)];rfl
     have f0:ρ1 0=.yld o v:=by rw[hf 0 (by rfl)];rfl
     have f1:ρ1 1=.ep [vi kind,.sl false (pts.map bQ)] 0:=by rw[hf 1 (by rfl)];rfl
     have hl1:=r1 _ H1 hI1;simp only[go_sem,↓aC,seval,e16,f15];refine aD (fun hb => ?_) (fun hb => ?_)
     ·have hlt:i<pts.length:=by simp at hb;omega
      have hwi:IntKind.i64.wrap ((i:Int)+1)=((i+1:Nat):Int):=by rw[wrap_i64 (by omega) (by omega)];omega
      have hwn:IntKind.i64.wrap ((pts.length:Int) - 1)=((pts.length - 1:Nat):Int):=by rw[wrap_i64 (by omega) (by omega)];omega
      have hpz:(((i:Nat):Int)==((pts.length - 1:Nat):Int))=(i==pts.length - 1):=by
       rw[Bool.eq_iff_iff,beq_iff_eq,beq_iff_eq];omega
      have hget:(pts.map bQ)[i]? = some (bQ pts[i]):=by rw[List.getElem?_map,List.getElem?_eq_getElem hlt];rfl
      have hm:(i+1) % pts.length<pts.length:=Nat.mod_lt _ (by omega)
      have hget2:(pts.map bQ)[(i+1) % pts.length]? = some (bQ pts[(i+1) % pts.length]):=by rw[List.getElem?_map,List.getElem?_eq_getElem hm];rfl
      have hrem:∀ek,kM .rem ek (vi ((i+1:Nat):Int)) (vi (pts.length:Nat))=some (vi (((i+1) % pts.length:Nat):Int)):=fun ek=>by
       rw[sN (by omega)]
       congr 2
      generalize pts[i]=p at *;generalize pts[(i+1) % pts.length]=q at *;cases e3:(i==pts.length - 1)with
      |false=>
       simp only[go_sem,↓aC,seval,e16,f3,hwn,hpz,e3,Bool.false_beq];refine bN (keep:=iI) (H0:=_) (by simp only[go_sem,seval,cI];rfl) (by rfl) ?_
       simp only[go_sem,↓aC,seval,iI,f3,f1,f0,hwi,Int.natCast_nonneg,Int.toNat_natCast,hlt,hget,hget2,hrem,bQ,List.drop_zero,List.drop_succ_cons,List.take_succ_cons,List.take_zero];refine aIj ⟨r1,r2,r3⟩ (by omega) hI1 ?_
       intro e H2 wr2 hIJ hw2 hl2;have hwa:∀x∈bA H.length wr1 wr2,base<=x:=aBE hw1 hw2;cases hd:decide (e=.normal)with
       |true=>
        have he:e=.normal:=of_decide_eq_true hd;rw[if_pos he]at hIJ;simp only[go_sem,↓aC,seval,hl2,e16,hwi];exact⟨hlt,hIJ,hwa⟩
       |false=>
        have he:¬e=.normal:=of_decide_eq_false hd;rw[if_neg he]at hIJ;simp only[go_sem,↓aC,seval,hl2];exact K0 (.inr hIJ) hwa (by omega)
      |true=>
       cases e4:(kind != 2)with
       |true=>
        simp only[go_sem,↓aC,seval,e16,f3,f1,hwn,hpz,e3,e4,beq_self_eq_true,List.drop_zero,List.take_succ_cons,List.take_zero];exact K0 (.inl ⟨i,by omega,hI1⟩) hw1 (by omega)
       |false=>
       simp only[go_sem,↓aC,seval,e16,f3,f1,hwn,hpz,e3,e4,beq_self_eq_true,List.drop_zero,List.take_succ_cons,List.take_zero];refine bN (keep:=iI) (H0:=_) (by simp only[go_sem,seval,cI];rfl) (by rfl) ?_
       simp only[go_sem,↓aC,seval,iI,f3,f1,f0,hwi,Int.natCast_nonneg,Int.toNat_natCast,hlt,hget,hget2,hrem,bQ,List.drop_zero,List.drop_succ_cons,List.take_succ_cons,List.take_zero];refine aIj ⟨r1,r2,r3⟩ (by omega) hI1 ?_
       intro e H2 wr2 hIJ hw2 hl2;have hwa:∀x∈bA H.length wr1 wr2,base<=x:=aBE hw1 hw2;cases hd:decide (e=.normal)with
       |true=>
        have he:e=.normal:=of_decide_eq_true hd;rw[if_pos he]at hIJ;simp only[go_sem,↓aC,seval,hl2,e16,hwi];exact⟨hlt,hIJ,hwa⟩
       |false=>
        have he:¬e=.normal:=of_decide_eq_false hd;rw[if_neg he]at hIJ;simp only[go_sem,↓aC,seval,hl2];exact K0 (.inr hIJ) hwa (by omega)
     ·simp only[go_sem,seval];exact⟨⟨i,by omega,hI1⟩,hw1⟩
    ·rintro ρ' H' wr' ⟨⟨j,hj,hI1⟩,hw1⟩ hf;have hl1:=r1 j H' hI1;simp only[go_sem,↓aC,seval];rw[wR (by omega)]
     exact⟨rfl,.inl ⟨j,hj,hI1⟩,hw1⟩)
 exact⟨H',wr',h1,h2,h3⟩
end
def dD(g:String->Nat):ACode:=.block 0 (.rangeF (.tmp 6) [7] (qS [qq 5 (.alloc [(.int .i64 0),(.int .i64 0),(.int .i64 0),(.int .i64 0)]),qs 4 5 7]<|.block 1 (qR [ql 8 1 2,qla 9 4 5,qq 10 (.bsl 4 [(.int .i64 0),(.int .i64 0),(.int .i64 0),(.int .i64 0)] 1 [(0,(.tmp 9))]),qa 11 4 32 8 10,qs 1 2 11])))
def bC(g:String->Nat):AFn:=⟨13,[2,7,5,11],[.tmp 4],qS [qx 2 1 0,qmc 4 .nilSl]<|.seq (qS [qm 6 1]<|dD g)<|qS [ql 12 1 2,qm 4 12]<|.ret⟩
def cC(g:String->Nat):AFn:=⟨5,[],[.tmp 2],qS [qmc 2 .nilSl]<|qS [qm 3 0,qc 4 (g "slices.AppendSeq[[]dactyl/plane.segment,dactyl/plane.segment]") [uc .nilSl,u 3],qm 2 4]<|.ret⟩
section
variable {A:AProg}{g:String->Nat}
theorem aBF(h:Has A g "dactyl/plane.segments" (nX g))(s:Shape)(H:List AObj):aL A (g "dactyl/plane.segments") [.agg (bB s)] H=some (.fn (g "dactyl/plane.segments$1") [] [.ep [vi s.kind,.sl false (s.points.map bQ)] 0],H,[]):=by
 refine h.call (by simp[nX]) (by kernel_rfl) ?_
 simp only[nX];simp only[go_sem,↓aC,seval,bB,List.append_nil];rw[wR (Nat.le_refl _)];exact⟨rfl,rfl,rfl⟩
def aCu(rows:List (List AV)):Prop:=∀r∈rows,∃a b c d:Int,r=[vi a,vi b,vi c,vi d]
abbrev aJs:ACode:=qS [qq 5 (.alloc [(.int .i64 0),(.int .i64 0),(.int .i64 0),(.int .i64 0)]),qs 4 5 7]<|.block 1 (qR [ql 8 1 2,qla 9 4 5,qq 10 (.bsl 4 [(.int .i64 0),(.int .i64 0),(.int .i64 0),(.int .i64 0)] 1 [(0,(.tmp 9))]),qa 11 4 32 8 10,qs 1 2 11])
def aXc(H:List AObj)(i:Nat)(X:List AObj):Prop:=∃w x2 x3 l,X=H++[.box 1 [w],.rnd 1 H.length [2,7,5,11] [7] aJs l false none,x2,x3]/\l.length=13/\fenv l 2=.ptr H.length 1 0 /\
 (w=.nilSl∨∃ver rows,w=.sr (H.length+3) ver rows.length/\x3=.vec ver 4 rows/\rows≠[]/\rows.length<=i/\aCu rows)
theorem aLi{b a1 a2 a3 a4 o v t:Nat}(h:([a1,a2,a3,a4].contains t)=false)(ht:t<YF):(⟨b,[a1,a2,a3,a4,YF+o,YF+v]⟩:Ctx).site (some t)=none:=by
 unfold Ctx.site;dsimp only;rw[List.idxOf?_eq_none_iff.2]
 ·rfl
 ·rw[<- Bool.not_eq_true,List.contains_iff_mem]at h;simp only[List.mem_cons,List.not_mem_nil,or_false,not_or]at h ⊢;exact⟨h.1,h.2.1,h.2.2.1,h.2.2.2,by omega,by omega⟩
theorem aP4(hY:NoYF A)(H:List AObj):aGU A (H.length+1) 1 H.length (H.length+4) (aXc H) (fun _=>False):=by
 refine⟨fun i X hX => ?_,fun X hX=>hX.elim,fun i X a b c d hi hX => ?_⟩
 ·obtain⟨w,x2,x3,l,rfl,_⟩:=hX;simp
 obtain⟨w,x2,x3,l,rfl,hl,h2,hw⟩:=hX;refine aEF hY (K:=fun e H' wr=>(if e=.normal then aXc H (i+1) H' else False)/\∀x∈wr,H.length<=x) (N:=13) (l:=l) (by rw[gP];rfl) rfl (by kernel_rfl) (by kernel_rfl) hl ?_
 have hs:fenv (dQ l [7] [.agg [vi a,vi b,vi c,vi d]])=upd (fenv l) 7 (.agg [vi a,vi b,vi c,vi d]):=aBm (by omega)
 rw[hs];generalize hρ:fenv l=ρ at *;simp only[List.cons_append,List.nil_append];simp only[go_sem,↓aC,seval];have h10:(⟨H.length,[2,7,5,11,YF+(H.length+1),YF+1]⟩:Ctx).site (some 10)=none:=aLi (by rfl) (by decide)
 have hrange:∀{w2:List Nat} {n:Nat},(∀x∈w2,H.length<=x)->∀x∈List.range' H.length n++(H.length+1)::w2,H.length<=x:=fun {w2 n} h x hx=>by
  rcases List.mem_append.1 hx with hx | hx
  ·rw[List.mem_range'_1]at hx;exact hx.1
  ·rcases List.mem_cons.1 hx with rfl | hx
   ·omega
   ·exact h x hx
 refine⟨_,_,_,_,_,rfl, ?_⟩;rcases hw with rfl | ⟨ver,rows,rfl,rfl,hne,hlen,hrows⟩
 ·have hr:bP 1 32=true:=by decide
  simp only[go_sem,↓aC,seval,h2,h10,List.drop_zero,List.take_succ_cons,List.take_zero,fH,cU,eH,hr,List.length_cons,List.length_nil];exact⟨_,_,_,_,_,rfl,⟨_,_,_,l,rfl,hl,by rw[hρ];exact h2,.inr ⟨_,_,rfl,rfl,by simp,by simp,fun r hr=>by rw[List.mem_singleton.1 hr];exact⟨a,b,c,d,rfl⟩⟩⟩,hrange (by simp)⟩
 ·have hr:bP (rows.length+1) 32=true:=by unfold bP;simp;omega
  simp only[go_sem,↓aC,seval,h2,h10,List.drop_zero,List.take_succ_cons,List.take_zero,fH,cU,eH,hr,List.length_cons,List.length_nil];refine⟨_,_,_,_,_,rfl,⟨_,_,_,l,rfl,hl,by rw[hρ];exact h2,.inr ⟨ver,rows++[[vi a,vi b,vi c,vi d]], ?_,rfl,by simp,by simp;omega,fun r hr => ?_⟩⟩,hrange (by simp)⟩
  ·rw[List.length_append];rfl
  ·rcases List.mem_append.1 hr with hr | hr
   ·exact hrows r hr
   ·rw[List.mem_singleton.1 hr];exact⟨a,b,c,d,rfl⟩
theorem aGV:∀{rows:List (List AV)},aCu rows->oC rows=true
 | [],_=>rfl
 |r::rs,h=>by
  obtain⟨a,b,c,d,e⟩:=h r List.mem_cons_self;subst e;have:=aGV (rows:=rs) fun x hx=>h x (List.mem_cons_of_mem _ hx);rw[oC,this];rfl
theorem aG5{base:Nat}{H:List AObj}:aD6 base H .nilSl=some (.nilSl,H,[]):=rfl
theorem aFb(hY:NoYF A)(h:Has A g "slices.AppendSeq[[]dactyl/plane.segment,dactyl/plane.segment]" (bC g))(h1:Has A g "dactyl/plane.segments$1" (fY g))(s:Shape)(hs:s.points.length<=1000)(H:List AObj):
  ∃r,(r=.nilSl∨∃rows,r=.own 4 rows/\rows≠[]/\rows.length<=100000/\aCu rows)/\aL A (g "slices.AppendSeq[[]dactyl/plane.segment,dactyl/plane.segment]") [.nilSl,.fn (g "dactyl/plane.segments$1") [] [.ep [vi s.kind,.sl false (s.points.map bQ)] 0]] H=some (r,H,[]):=by
 obtain⟨r,H',wr',e1,rfl,rfl,e2⟩:=h.callEx (args:=[.nilSl,.fn (g "dactyl/plane.segments$1") [] [.ep [vi s.kind,.sl false (s.points.map bQ)] 0]]) (H:=H) (K:=fun r H' wr=>wr=[]/\H'=H/\(r=.nilSl∨∃rows,r=.own 4 rows/\rows≠[]/\rows.length<=100000/\aCu rows)) (by simp[bC]) (by kernel_rfl) (by
  simp only[bC];simp only[go_sem,↓aC,seval];simp only[dD];simp only[go_sem,seval];refine aIi (id:=H.length+1) (v:=1) (X:=fun l=>H++[.box 1 [.nilSl],.rnd 1 H.length [2,7,5,11] [7] aJs l false none,.gone 0,.gone 0]) (by rfl) (by rfl) (by simp) (fun _=>by rfl) (by unfold bG;rw[gP];rfl) (fun l=>by rw[aK0];rfl) ?_
  intro l hl he;have hI0:aXc H 0 (H++[.box 1 [.nilSl],.rnd 1 H.length [2,7,5,11] [7] aJs l false none,.gone 0,.gone 0]):=⟨_,_,_,l,rfl,hl,by rw[he];rfl,.inl rfl⟩
  obtain⟨H2,wr2,k1,k2,k3⟩:=aIk h1 (aP4 hY H) s.kind s.points hs _ hI0;rcases k2 with⟨i,hi,w,x2,x3,l2,rfl,hl2,_,hw⟩ | k2
  ·refine⟨_,_,_,_,_,_,_,_,none,k1,by rw[gP];rfl, ?_⟩
   rw[aA0 (fun x hx=>by rcases List.mem_cons.1 hx with rfl | hx;exact Nat.le_add_right _ _;exact k3 x hx),nI]
   show aCV 0 _ _ .normal _ _ _
   rcases hw with rfl | ⟨ver,rows,rfl,rfl,w1,w2,w3⟩
   ·simp only[go_sem,↓aC,seval,List.drop_zero,List.take_succ_cons,List.take_zero,aG5];exact .inl trivial
   ·have hd:=aGV w3;simp only[go_sem,↓aC,seval,List.drop_zero,List.take_succ_cons,List.take_zero,aO hd,aA hd];exact .inr ⟨rows,rfl,w1,by omega,w3⟩
  ·exact k2.elim)
 exact⟨r,e2,e1⟩
theorem aIl(hY:NoYF A)(hc:Has A g "slices.Collect[dactyl/plane.segment]" (cC g))(h:Has A g "slices.AppendSeq[[]dactyl/plane.segment,dactyl/plane.segment]" (bC g))(h1:Has A g "dactyl/plane.segments$1" (fY g))(s:Shape)(hs:s.points.length<=1000)(H:List AObj):
  ∃r,(r=.nilSl∨∃rows,r=.sl false rows/\rows.length<=100000/\aCu rows)/\aL A (g "slices.Collect[dactyl/plane.segment]") [.fn (g "dactyl/plane.segments$1") [] [.ep [vi s.kind,.sl false (s.points.map bQ)] 0]] H=some (r,H,[]):=by
 obtain⟨r,hr,hc1⟩:=aFb hY h h1 s hs H;rcases hr with rfl | ⟨rows,rfl,w1,w2,w3⟩
 ·refine⟨.nilSl,.inl rfl,hc.call (by simp[cC]) (by kernel_rfl) ?_⟩
  simp only[cC];simp only[go_sem,↓aC,seval,hc1,aG5,List.append_nil]
 ·refine⟨.sl false rows,.inr ⟨rows,rfl,w2,w3⟩,hc.call (by simp[cC]) (by kernel_rfl) ?_⟩
  have hd:=aGV w3;simp only[cC];simp only[go_sem,↓aC,seval,hc1,List.append_nil];rw[wR (Nat.le_refl _)];exact⟨rfl,rfl,rfl⟩
end
end Go.AM
end
