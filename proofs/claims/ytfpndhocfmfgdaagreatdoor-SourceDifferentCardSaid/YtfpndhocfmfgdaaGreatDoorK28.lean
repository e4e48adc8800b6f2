/- Part 28: lemmas for the last text. -/
import Derived.Test.YtfpndhocfmfgdaaGreatDoorK14
import Derived.Test.YtfpndhocfmfgdaaGreatDoorK15
import Derived.Test.YtfpndhocfmfgdaaGreatDoorK23
import Derived.Test.YtfpndhocfmfgdaaGreatDoorK27
set_option linter.unusedVariables false
set_option linter.unusedSimpArgs false
open Bool renaming not_true -> BT
section
set_option maxRecDepth 8000
namespace Go.AM
open Go
def bM(g:String->Nat):AFn:=⟨19,[14],[.tmp 4,.tmp 5],qS [qmc 4 (.int .i64 0),qmc 5 .nilIfc]<|qS [qm 6 0,qc 7 (g "(*strings.Builder).copyCheck") [u 6]]<|qS [qm 8 0,qm 9 0,qq 10 (.nilck (u 9)),qf 11 1 10,ql 12 1 11,qm 13 1,qq 14 (.tapp 5 1 1 (u 12) (u 13)),qq 15 (.nilck (u 8)),qf 16 1 15,qs 1 16 14]<|qS [qm 17 1,qq 18 (.lenS (u 17)),qm 4 18,qmc 5 .nilIfc]<|.ret⟩
def eJ(g:String->Nat):AFn:=⟨17,[14],[.tmp 4],qS [qmc 4 .nilIfc]<|qS [qm 5 0,qc 6 (g "(*strings.Builder).copyCheck") [u 5]]<|qS [qm 7 0,qm 8 0,qq 9 (.nilck (u 8)),qf 10 1 9,ql 11 1 10,qm 12 1,qq 13 (.bsl 1 [(.int .u8 0)] 1 [(0,(.tmp 12))]),qq 14 (.tapp 5 1 1 (u 11) (u 13)),qq 15 (.nilck (u 7)),qf 16 1 15,qs 1 16 14]<|qS [qmc 4 .nilIfc]<|.ret⟩
def eG(g:String->Nat):AFn:=⟨8,[],[.tmp 2],qS [qmc 2 (.int .i64 0)]<|qS [qm 3 0,qq 4 (.nilck (u 3)),qf 5 1 4,ql 6 1 5,qn 7 6,qm 2 7]<|.ret⟩
@[go_sem] theorem aPR{base:Nat}{ρ:bH}{H:List AObj}{wr:List Nat}:jD base [] ρ H wr=some (.tup [],H,wr):=(rfl)
@[go_sem] theorem aRD{n:Nat}:AV.under n .nilSl=true:=(rfl)
@[go_sem] theorem aRE{base:Nat}{H:List AObj}:aD6 base H .nilIfc=some (.nilIfc,H,[]):=(rfl)
theorem aAr{tB tP o v ty:Nat}{x:AV}{H:List AObj}(h:H[o]? = some (.tbox v ty [.ptr o v 0,x])):eP tB tP [.ptr o v 0] H=some (.tup [],[],[]):=by simp[eP,h]
def PSt(H:List AObj)(ty o v o2 v2:Nat)(T:Str):List AObj:=(H.set o (.tbox v ty [.ptr o v 0,.sr o2 v2 T.length])).set o2 (.tvec v2 5 1 (rb T))
structure PCtx(n o o2:Nat):Prop where
 lo:o<n
 lo2:o2<n
 ne:o≠o2
section
variable {H L:List AObj}{ty o v o2 v2:Nat}{T S:Str}
theorem mS:(PSt H ty o v o2 v2 T).length=H.length:=by unfold PSt;simp
theorem sR(c:PCtx H.length o o2):(PSt H ty o v o2 v2 T)[o]? = some (.tbox v ty [.ptr o v 0,.sr o2 v2 T.length]):=by
 unfold PSt;rw[List.getElem?_set_ne (Ne.symm c.ne),List.getElem?_set_self c.lo]
theorem aJg(c:PCtx H.length o o2):(PSt H ty o v o2 v2 T)[o2]? = some (.tvec v2 5 1 (rb T)):=by
 unfold PSt;rw[List.getElem?_set_self (by have:=c.lo2;simpa using this)]
theorem aCn(c:PCtx H.length o o2):PSt H ty o v o2 v2 T++L=PSt (H++L) ty o v o2 v2 T:=by
 unfold PSt;rw[<- List.set_append_left _ _ (by have:=c.lo2;simpa using this),<- List.set_append_left _ _ c.lo]
theorem aJh(c:PCtx H.length o o2){x:AObj}(hx:x=.tvec v2 5 1 (rb S)):((PSt H ty o v o2 v2 T).set o2 x).set o (.tbox v ty [.ptr o v 0,.sr o2 v2 S.length])=PSt H ty o v o2 v2 S:=by
 subst hx;unfold PSt;rw[List.set_set,List.set_comm _ _ (Ne.symm c.ne),List.set_set]
theorem aIc(c:PCtx H.length o o2):(PSt H ty o v o2 v2 T).set o (.tbox v ty [.ptr o v 0,.sr o2 v2 T.length])=PSt H ty o v o2 v2 T:=aDy (sR c)
theorem PCtx.mono{n m:Nat}(c:PCtx n o o2)(h:n<=m):PCtx m o o2:=⟨by have:=c.lo;omega,by have:=c.lo2;omega,c.ne⟩
theorem aOT(c:PCtx H.length o o2):(PSt (H++L) ty o v o2 v2 T).take H.length=PSt H ty o v o2 v2 T:=by
 rw[<- aCn c,<- mS (H:=H) (ty:=ty) (o:=o) (v:=v) (o2:=o2) (v2:=v2) (T:=T)];exact List.take_left' rfl
end
abbrev Wr2(o o2:Nat)(wr:List Nat):Prop:=∀x∈wr,x=o∨x=o2
theorem cV{o o2 b:Nat}:∀{l wr:List Nat},Wr2 o o2 wr->Wr2 o o2 l->Wr2 o o2 (bA b wr l)
 | [],wr,h,_=>h
 |x::r,wr,h,hl=>by
  unfold bA
  split
  ·refine cV (fun y hy => ?_) fun y hy=>hl y (List.mem_cons_of_mem _ hy);rcases List.mem_cons.1 hy with rfl | hy
   ·exact hl _ List.mem_cons_self
   ·exact h y hy
  ·exact cV h fun y hy=>hl y (List.mem_cons_of_mem _ hy)
theorem kW{o o2:Nat}:Wr2 o o2 []:=fun x h=>by cases h
theorem aJi{H L:List AObj}{ty o v o2 v2:Nat}{T:Str}{res:AV}{wr:List Nat}(c:PCtx H.length o o2)(hres:res.under H.length=true)(hwr:Wr2 o o2 wr):cD H.length (res,PSt (H++L) ty o v o2 v2 T,wr)=(res,PSt H ty o v o2 v2 T,wr):=by
 have c':=c.mono (m:=(H++L).length) (by simp)
 rw[aCf hres,aOT c];rw[List.all_eq_true];intro x hx;rcases hwr x hx with rfl | rfl
 ·rw[sR c'];have:=c.lo;have:=c.lo2;simp[AObj.under,dS,AV.under, *]
 ·rw[aJg c']
  show eF H.length (rb T)=true
  exact aA (aGN T)
section
variable {A:AProg}{g:String->Nat}
theorem aOU(h:Has A g "(*strings.Builder).Len" (eG g)){H:List AObj}{ty o v o2 v2:Nat}{T:Str}(c:PCtx H.length o o2):aL A (g "(*strings.Builder).Len") [.ptr o v 0] (PSt H ty o v o2 v2 T)=some (vi T.length,PSt H ty o v o2 v2 T,[]):=by
 refine h.call (by simp[eG]) (by kernel_rfl) ?_
 have hb:=sR (ty:=ty) (v:=v) (v2:=v2) (T:=T) c;have hl:=mS (H:=H) (ty:=ty) (o:=o) (v:=v) (o2:=o2) (v2:=v2) (T:=T);simp only[eG];simp only[go_sem,↓aC,seval,List.append_nil,hb]
theorem aKd{H:List AObj}{ty o v o2 v2:Nat}{T s:Str}{site:Option Nat}(c:PCtx H.length o o2)(hl:T.length+s.length<=100000000):
  ∃Z w,tX (PSt H ty o v o2 v2 T) site 5 1 1 (.sr o2 v2 T.length) (.str s)=some (.sr o2 v2 (T++s).length,Z,w)/\Wr2 o o2 w/\Z.set o (.tbox v ty [.ptr o v 0,.sr o2 v2 (T++s).length])=PSt H ty o v o2 v2 (T++s)/\Z[o]? = some (.tbox v ty [.ptr o v 0,.sr o2 v2 T.length])/\Z.length=H.length:=by
 have h1:=aJg (ty:=ty) (v:=v) (v2:=v2) (T:=T) c;have hr:bP (T.length+s.length) 1=true:=by unfold bP;simp;omega
 have hhd:cH 1 (aG s)=true:=aCm s;have hlen:(aG s).length=s.length:=jJ s;cases s with
 |nil=>
  refine⟨PSt H ty o v o2 v2 T,[], ?_,kW,by rw[List.append_nil];exact aIc c,sR c,mS⟩
  unfold tX;simp only[cU,hhd,BT,Bool.false_eq_true,if_false,h1,jJ,hlen,hr,and_self,if_true];simp[aG]
 |cons a r=>
  have hne:(aG (a::r)).isEmpty=false:=rfl;refine⟨(PSt H ty o v o2 v2 T).set o2 (.tvec v2 5 1 (rb T++aG (a::r))),[o2], ?_,fun x hx=>by simp at hx;exact .inr hx,aJh c (by rw[uS];rfl),by rw[List.getElem?_set_ne (Ne.symm c.ne)];exact sR c,by rw[List.length_set];exact mS⟩
  unfold tX;simp only[cU,hhd,BT,Bool.false_eq_true,if_false,h1,jJ,hlen,hr,and_self,if_true,hne,List.length_append]
theorem uU(h:Has A g "(*strings.Builder).WriteString" (bM g)){tB tP:Nat}(hp:A.prim (g "(*strings.Builder).copyCheck")=some (eP tB tP)){H:List AObj}{ty o v o2 v2:Nat}{T s:Str}(c:PCtx H.length o o2)(hl:T.length+s.length<=100000000):
  ∃wr,aL A (g "(*strings.Builder).WriteString") [.ptr o v 0,.str s] (PSt H ty o v o2 v2 T)=some (.tup [vi s.length,.nilIfc],PSt H ty o v o2 v2 (T++s),wr)/\Wr2 o o2 wr:=by
 have c1:=c.mono (m:=(H++[AObj.gone 0]).length) (by simp)
 obtain⟨v1,H1,wr1,h1,h2,h3,h4⟩:=h.callEx (args:=[.ptr o v 0,.str s]) (H:=PSt H ty o v o2 v2 T) (K:=fun v' H'' wr'=>v'=.tup [vi s.length,.nilIfc]/\H''=PSt H ty o v o2 v2 (T++s)/\Wr2 o o2 wr') (by simp[bM]) (by kernel_rfl) (by
  have hcc:aL A (g "(*strings.Builder).copyCheck") [.ptr o v 0] (PSt (H++[.gone 0]) ty o v o2 v2 T)=some (.tup [],PSt (H++[.gone 0]) ty o v o2 v2 T,[]):=by
   refine gU ?_;rw[hp]
   show eP tB tP [.ptr o v 0] _=_
   exact aAr (sR c1)
  have hb:=sR (ty:=ty) (v:=v) (v2:=v2) (T:=T) c1;have hpl:=mS (H:=H) (ty:=ty) (o:=o) (v:=v) (o2:=o2) (v2:=v2) (T:=T);obtain⟨Z,w,e1,e2,e3,e4,e5⟩:=aKd (site:=some H.length) (ty:=ty) (v:=v) (v2:=v2) (s:=s) c1 hl;simp only[bM];simp only[go_sem,↓aC,seval,hpl,aCn c,hcc,hb,e1,e4];rw[List.length_append]at e3;have hw:Wr2 o o2 (bA H.length (bA H.length [] w) [o]):=cV (cV kW e2) fun x hx=>by simp at hx;exact .inl hx
  rw[e3,aJi c rfl hw];exact⟨rfl,rfl,hw⟩)
 subst h2 h3;exact⟨wr1,h1,h4⟩
theorem aAs(h:Has A g "(*strings.Builder).WriteByte" (eJ g)){tB tP:Nat}(hp:A.prim (g "(*strings.Builder).copyCheck")=some (eP tB tP)){H:List AObj}{ty o v o2 v2:Nat}{T:Str}{b:UInt8}(c:PCtx H.length o o2)(hl:T.length+1<=100000000):
  ∃wr,aL A (g "(*strings.Builder).WriteByte") [.ptr o v 0,.int .u8 b.toNat] (PSt H ty o v o2 v2 T)=some (.nilIfc,PSt H ty o v o2 v2 (T++[b]),wr)/\Wr2 o o2 wr:=by
 have c1:=c.mono (m:=(H++[AObj.gone 0]).length) (by simp)
 obtain⟨v1,H1,wr1,h1,h2,h3,h4⟩:=h.callEx (args:=[.ptr o v 0,.int .u8 b.toNat]) (H:=PSt H ty o v o2 v2 T) (K:=fun v' H'' wr'=>v'=.nilIfc/\H''=PSt H ty o v o2 v2 (T++[b])/\Wr2 o o2 wr') (by simp[eJ]) (by kernel_rfl) (by
  have hcc:aL A (g "(*strings.Builder).copyCheck") [.ptr o v 0] (PSt (H++[.gone 0]) ty o v o2 v2 T)=some (.tup [],PSt (H++[.gone 0]) ty o v o2 v2 T,[]):=by
   refine gU ?_;rw[hp]
   show eP tB tP [.ptr o v 0] _=_
   exact aAr (sR c1)
  have hb:=sR (ty:=ty) (v:=v) (v2:=v2) (T:=T) c1;have hpl:=mS (H:=H) (ty:=ty) (o:=o) (v:=v) (o2:=o2) (v2:=v2) (T:=T);obtain⟨Z,w,e1,e2,e3,e4,e5⟩:=aKd (site:=some H.length) (ty:=ty) (v:=v) (v2:=v2) (s:=[b]) c1 hl;have e1:tX (PSt (H++[.gone 0]) ty o v o2 v2 T) (some H.length) 5 1 1 (.sr o2 v2 T.length) (.sl true [[.int .u8 b.toNat]])=some (.sr o2 v2 (T++[b]).length,Z,w):=e1;simp only[eJ];simp only[go_sem,↓aC,seval,hpl,aCn c,hcc,hb,e1,e4];rw[List.length_append]at e3;have hw:Wr2 o o2 (bA H.length (bA H.length [] w) [o]):=cV (cV kW e2) fun x hx=>by simp at hx;exact .inl hx
  simp only[List.length_cons,List.length_nil,Nat.zero_add]at e3;rw[e3,aJi c rfl hw];exact⟨rfl,rfl,hw⟩)
 subst h2 h3;exact⟨wr1,h1,h4⟩
end
@[go_sem] theorem aVN{base o v f:Nat}{H:List AObj}:aD6 base H (.ptr o v f)=some (.ptr o v f,H,[]):=(rfl)
@[go_sem] theorem aUl{o v f:Nat}:AV.inIfc (.ptr o v f)=true:=(rfl)
@[go_sem] theorem aVO{base t:Nat}{H:List AObj}{x:AV}:aD6 base H (.ifc t x)=some (.ifc t x,H,[]):=(rfl)
@[go_sem] theorem aRF{base i v f:Nat}{H:List AObj}{wr:List Nat}:cD base (.ptr (base+i) v f,H,wr)=(.ptr (base+i) v f,H,wr):=by
 unfold cD;dsimp only;rw[if_neg];have:decide (base+i<base)=false:=by simp
 simp[AV.under,this]
@[go_sem] theorem aRG{base i v f t:Nat}{H:List AObj}{wr:List Nat}:cD base (.ifc t (.ptr (base+i) v f),H,wr)=(.ifc t (.ptr (base+i) v f),H,wr):=by
 unfold cD;dsimp only;rw[if_neg];have:decide (base+i<base)=false:=by simp
 simp[AV.under,this]
def aAt:List AV:=List.replicate 257 .nilSl
def aMQ:List AV:=List.replicate 256 (.int .u8 0)
def aCo(f:UInt8->Option Str)(i:Nat):AV:=match f (UInt8.ofNat i)with
 |some l=>.sl false (aG l)
 |none=>.nilSl
def bsr(f:UInt8->Option Str)(x:AV):List AV:=(List.range 256).map (aCo f)++[x]
theorem oX{f:UInt8->Option Str}{x:AV}:(bsr f x).length=257:=by simp[bsr]
theorem aRH{f:UInt8->Option Str}{x:AV}{i:Nat}(h:i<256):(bsr f x)[i]? = some (aCo f i):=by
 unfold bsr;rw[List.getElem?_append_left (by simpa using h),List.getElem?_map,List.getElem?_range h]
 rfl
theorem aKe{α:Type}{L:List α}{i:Nat}{a:α}(h:L[i]? = some a):(L.drop i).take 1=[a]:=by
 have hi:=getElem?_lt h;rw[List.getElem?_eq_getElem hi]at h;rw[List.drop_eq_getElem_cons hi];simp only[List.take_succ_cons,List.take_zero];simpa using h
theorem aEw{f:UInt8->Option Str}{x:AV}(c:UInt8):((bsr f x).drop c.toNat).take 1=[aCo f c.toNat]:=aKe (aRH (UInt8.toNat_lt c))
theorem aGO{f:UInt8->Option Str}{x:AV}:((bsr f x).drop 256).take 1=[x]:=aKe (by unfold bsr;rw[List.getElem?_append_right (by simp)];simp)
theorem aGP{L:List AV}{i:Nat}{v:AV}(h:i<L.length):L.take i++[v]++L.drop (i+1)=L.set i v:=by
 rw[List.set_eq_take_append_cons_drop,if_pos h,List.append_assoc];rfl
theorem aRI{f:UInt8->Option Str}{x:AV}(c:UInt8)(s:Str):(bsr f x).take c.toNat++[.sl false (aG s)]++(bsr f x).drop (c.toNat+1)=bsr (fun d=>if d=c then some s else f d) x:=by
 have hc:=UInt8.toNat_lt c;rw[aGP (by rw[oX];omega)]
 unfold bsr;rw[List.set_append_left _ _ (by simpa using hc)]
 congr 1;apply List.ext_getElem?;intro j
 by_cases hj:j<256
 ·by_cases e:c.toNat=j
  ·subst e;rw[List.getElem?_set_self (by simpa using hc),List.getElem?_map,List.getElem?_range hj]
   simp[aCo]
  ·rw[List.getElem?_set_ne e,List.getElem?_map,List.getElem?_map,List.getElem?_range hj];have:¬(UInt8.ofNat j=c):=fun h=>e (by rw[<- h];simp;omega)
   simp[aCo,this]
 ·rw[List.getElem?_eq_none (by simp;omega),List.getElem?_eq_none (by simp;omega)]
theorem aJj{f:UInt8->Option Str}{x y:AV}:(bsr f x).take 256++[y]++(bsr f x).drop 257=bsr f y:=by
 rw[aGP (by rw[oX];omega)]
 unfold bsr;rw[List.set_append_right _ _ (by simp)]
 simp
theorem aFZ:aAt.length=257:=List.length_replicate
theorem aEx:aAt.drop 257=[]:=List.drop_eq_nil_of_le (by rw[aFZ];exact Nat.le_refl _)
theorem aOV{x:AV}:aAt.take 256++[x]=bsr (fun _=>none) x:=by
 rw[show aAt.take 256++[x]=aAt.take 256++[x]++aAt.drop (256+1)by rw[aEx,List.append_nil],aGP (by simp[aAt])]
 unfold bsr aAt;apply List.ext_getElem?;intro j
 by_cases hj:j<256
 ·rw[List.getElem?_set_ne (by omega),List.getElem?_append_left (by simpa using hj),List.getElem?_map,List.getElem?_range hj,List.getElem?_replicate,if_pos (by omega)]
  rfl
 ·by_cases e:256=j
  ·subst e;rw[List.getElem?_set_self (by simp),List.getElem?_append_right (by simp)]
   simp
  ·rw[List.getElem?_eq_none (by simp;omega),List.getElem?_eq_none (by simp;omega)]
theorem aUm{f:UInt8->Option Str}{x:AV}(hx:x.cellOk=true):(bsr f x).all AV.cellOk=true:=by
 rw[List.all_eq_true];intro a ha;unfold bsr at ha;rw[List.mem_append,List.mem_map]at ha;rcases ha with⟨i,_,rfl⟩ | ha
 ·unfold aCo;split<;>rfl
 ·rw[List.mem_singleton]at ha;rw[ha];exact hx
def fB(ps:List (UInt8×Str)):List (List AV):=ps.flatMap fun p=>[[.str [p.1]],[.str p.2]]
def fW:List (UInt8×Str)->UInt8->Option Str
 | [],_=>none
 |p::r,c=>if c=p.1 then some p.2 else fW r c
theorem aEy:∀ps:List (UInt8×Str),(fB ps).length=2*ps.length
 | []=>rfl
 |p::r=>by
  have:=aEy r;unfold fB at this ⊢;simp only[List.flatMap_cons,List.length_append,this,List.length_cons,List.length_nil];omega
theorem aEz:∀(ps:List (UInt8×Str)) (j:Nat) (h:j<ps.length),(fB ps)[2*j]? = some [.str [ps[j].1]]/\(fB ps)[2*j+1]? = some [.str ps[j].2]
 |p::r,0,h=>⟨rfl,rfl⟩
 |p::r,j+1,h=>by
  have:=aEz r j (by simpa using h)
  exact this
theorem aEA:∀{ps:List (UInt8×Str)} {c:UInt8},c∉ps.map Prod.fst->fW ps c=none
 | [],_,_=>rfl
 |p::r,c,h=>by
  simp only[List.map_cons,List.mem_cons,not_or]at h;unfold fW;rw[if_neg h.1,aEA h.2]
def fM(g:String->Nat):AFn:=⟨12,[9,11],[.tmp 2],qS [qmc 2 .nilPtr]<|.seq (qS [qm 3 0,qn 4 3,qbi 5 .rem 4 2,qbi 6 .eql 5 1]<|qC 6 (qR [qq 7 (.mkifc 9 (uc (.str [115,116,114,105,110,103,115,46,78,101,119,82,101,112,108,97,99,101,114,58,32,111,100,100,32,97,114,103,117,109,101,110,116,32,99,111,117,110,116]))),qz (.bad)]) (.skip))<|qS [qm 8 0,qq 9 (.app 1 16 (uc .nilSl) (u 8)),qq 10 (.build [(.int .u32 0),(.int .i32 0),(.int .u32 0),.nilIfc,.nilSl] [(4,1,(.tmp 9))]),qx 11 5 10,qm 2 11]<|.ret⟩
abbrev sS(g:String->Nat):List AOper:=[qm 29 3,⟨some 30,.iaV (u 29) (ui 0) 1,none,[0]⟩,⟨some 31,ol 1 30,none,[1,0]⟩,qm 32 3,⟨some 33,.iaV (u 32) (ui 1) 1,none,[3]⟩,⟨some 34,ol 1 33,none,[4,3]⟩,⟨some 35,oc (g "strings.makeSingleStringReplacer") [u 31,u 34],none,[2,1,0,5,4,3]⟩,⟨some 36,.mkifc 339 (u 35),none,[6,2,1,0,5,4,3]⟩,⟨some 2,om 36,none,[7,6,2,1,0,5,4,3]⟩]
abbrev sT(g:String->Nat):ACode:=.seq (qS [qm 37 5,qm 38 3,qn 39 38,qb 40 .lss 37 39]<|qC 40 (.skip) (.exit 0))<|.seq (.block 1 (.seq (qS [qm 43 3,qm 44 5,qi 45 43 44 1,ql 46 1 45,qq 47 (.lenS (u 46)),qbi 48 .neq 47 1]<|qC 48 (qS [qm 49 3,qc 50 (g "strings.makeGenericReplacer") [u 49],qq 51 (.mkifc 341 (u 50)),qm 2 51]<|.ret) (.skip))<|qS [qm 52 3,qm 53 5,qbi 54 .add 53 1,qi 55 52 54 1,ql 56 1 55,qq 57 (.lenS (u 56)),qbi 58 .neq 57 1]<|qC 58 (qR [qmc 4 (.bool false)]) (.skip)))<|.region false [qm 41 5,qbi 42 .add 41 2,qm 5 42]
abbrev sU:List Nat:=[37,38,39,40,43,44,45,46,47,48,49,50,51,2,52,53,54,55,56,57,58,4,41,42,5]
abbrev sV(g:String->Nat):ACode:=qS [qbi 62 .lss 61 256]<|.seq (qC 62 (.skip) (.exit 2))<|.seq (.block 3 (qS [qm 63 61,qm 7 63]<|.region false [qm 64 7,qm 65 7,qq 66 (.conv (.toInt .u8) (u 65)),qq 67 (.iaA 256 1 (u 6) (u 64)),qs 1 67 66]))<|.region false [qbi 68 .add 61 1,qm 61 68]
abbrev sW(g:String->Nat):ACode:=.seq (qS [qm 72 8,qbi 73 .geq 72 0]<|qC 73 (.skip) (.exit 4))<|.seq (.block 5 (qS [qm 76 3,qm 77 8,qi 78 76 77 1,ql 79 1 78,qq 80 (.ixS (u 79) (ui 0)),qm 9 80]<|qS [qm 81 3,qm 82 8,qbi 83 .add 82 1,qi 84 81 83 1,ql 85 1 84,qq 86 (.ixS (u 85) (ui 0)),qm 10 86]<|.region false [qm 87 9,qm 88 10,qq 89 (.iaA 256 1 (u 6) (u 87)),qs 1 89 88]))<|.region false [qm 74 8,qbi 75 .sub 74 2,qm 8 75]
abbrev sX(g:String->Nat):ACode:=.seq (qS [qm 99 12,qbi 100 .geq 99 0]<|qC 100 (.skip) (.exit 6))<|.seq (.block 7 (qS [qm 103 3,qm 104 12,qi 105 103 104 1,ql 106 1 105,qq 107 (.ixS (u 106) (ui 0)),qm 13 107]<|qS [qm 108 3,qm 109 12,qbi 110 .add 109 1,qi 111 108 110 1,ql 112 1 111,qm 14 112]<|.seq (qS [qm 113 13,qf 114 0 11,qq 115 (.iaA 256 1 (u 114) (u 113)),ql 116 1 115,qq 117 (.isnil false (u 116))]<|qC 117 (qR [qf 118 256 11,ql 119 1 118,qm 120 13,qq 121 (.bsl 1 [(.int .u8 0)] 1 [(0,(.tmp 120))]),qq 122 (.conv .b2s (u 121)),qq 123 (.bsl 1 [(.str [])] 1 [(0,(.tmp 122))]),qa 124 1 16 119 123,qf 125 256 11,qs 1 125 124]) (.skip))<|.region false [qm 126 13,qm 127 14,qq 128 (.conv .s2b (u 127)),qf 129 0 11,qq 130 (.iaA 256 1 (u 129) (u 126)),qs 1 130 128]))<|.region false [qm 101 12,qbi 102 .sub 101 2,qm 12 102]
abbrev sY:List Nat:=[99,100,103,104,105,106,107,13,108,109,110,111,112,14,113,114,115,116,117,118,119,120,121,122,123,124,125,126,127,128,129,130,101,102,12]
def eE(g:String->Nat):AFn:=⟨132,[94,11],[.tmp 2],qS [qmc 2 .nilIfc]<|qS [qm 15 0,qq 16 (.nilck (u 15)),qf 17 4 16,ql 18 1 17,qm 3 18]<|.seq (qS [qm 19 3,qn 20 19,qbi 21 .eql 20 2,qm 22 21,qT 23 22 (om 3),qT 24 22 (.iaV (u 23) (ui 0) 1),qT 25 22 (ol 1 24),qT 26 22 (.lenS (u 25)),qT 27 22 (obi .gtr 26 1),qp 28 22 27]<|qC 28 (.seq (.region true (sS g))<|.ret) (.skip))<|qS [qmc 4 (.bool true)]<|.seq (qS [qmc 5 (.int .i64 0)]<|.block 0 (.loop (sT g)))<|.seq (qS [qm 59 4]<|qC 59 (qS [qq 60 (.build aMQ []),qq 6 (.alloc aMQ),qs 256 6 60]<|.seq (qS [qmc 61 (.int .i64 0)]<|.block 2 (.loop (sV g)))<|.seq (qS [qm 69 3,qn 70 69,qbi 71 .sub 70 2,qm 8 71]<|.block 4 (.loop (sW g)))<|qS [qq 90 (.mkifc 345 (u 6)),qm 2 90]<|.ret) (.skip))<|qS [qm 91 3,qn 92 91,qbi 93 .quo 92 2,qq 94 (.mks 1 16 [(.str [])] (ui 0) (u 93)),qq 95 (.build aAt [(256,1,(.tmp 94))]),qq 11 (.alloc aAt),qs 257 11 95]<|.seq (qS [qm 96 3,qn 97 96,qbi 98 .sub 97 2,qm 12 98]<|.block 6 (.loop (sX g)))<|qS [qq 131 (.mkifc 349 (u 11)),qm 2 131]<|.ret⟩
def dY(g:String->Nat):AFn:=⟨10,[],[],qS [qm 2 0,qm 3 0,qc 4 (g "(*strings.Replacer).build") [u 3],qq 5 (.nilck (u 2)),qf 6 3 5,qs 1 6 4]<|.region false [qm 7 0,qq 8 (.nilck (u 7)),qf 9 4 8,qz (.store 1 (u 9) (uc (.sl true [])))]⟩
section
variable {A:AProg}{g:String->Nat}
theorem xR(h:Has A g "strings.NewReplacer" (fM g))(ps:List (UInt8×Str))(h0:ps≠[])(h1:ps.length<=1000)(H:List AObj):aL A (g "strings.NewReplacer") [.sl false (fB ps)] H =
  some (.ptr (H.length+1) 1 0,H++[.vec 1 1 (fB ps),.box 1 [.int .u32 0,.int .i32 0,.int .u32 0,.nilIfc,.sr H.length 1 (fB ps).length]],[]):=by
 refine h.call (by simp[fM]) (by kernel_rfl) ?_
 have hl:=aEy ps;obtain⟨p,r,rfl⟩:=List.exists_cons_of_ne_nil h0;have hne:(fB (p::r)).isEmpty=false:=rfl;have hhd:cH 1 (fB (p::r))=true:=rfl;have hr:bP (fB (p::r)).length 16=true:=by unfold bP;rw[hl];simp at h1 ⊢;omega
 have hrem:∀ek,kM .rem ek (vi ((fB (p::r)).length:Nat)) (vi 2)=some (vi 0):=fun ek=>by
  rw[sN (by decide),hl]
  congr 2;have:(((2*(p::r).length:Nat):Int)).tmod 2=0:=by
   rw[Int.natCast_mul];exact Int.mul_tmod_right ..
  exact this
 generalize fB (p::r)=rows at *;simp only[fM];simp only[go_sem,↓aC,seval,hrem,fH,cU,eH,hne,hhd,hr,BT,Bool.false_eq_true]
theorem aLc(h:Has A g "(*strings.Replacer).build" (eE g))(ps:List (UInt8×Str))(h0:2<=ps.length)(h1:ps.length<=1000)(hd:(ps.map Prod.fst).Nodup)(hp:∀p∈ps,p.2.length≠1/\p.2.length<=1000){H:List AObj}{o v o1 v1:Nat}{a b c d:AV}
  (ho:H[o]? = some (.box v [a,b,c,d,.sr o1 v1 (fB ps).length])) (ho1:H[o1]? = some (.vec v1 1 (fB ps))):
  aL A (g "(*strings.Replacer).build") [.ptr o v 0] H=some (.ifc 349 (.ptr (H.length+1) 1 0),H++[.vec 1 1 (ps.reverse.map fun p=>[.str [p.1]]),.box 1 (bsr (fW ps) (.sr H.length 1 ps.length))],[]):=by
 refine h.call (by simp[eE]) (by kernel_rfl) ?_
 have hlo:=getElem?_lt ho;have hlo1:=getElem?_lt ho1;have go:∀L,(H++L)[o]? = some (.box v [a,b,c,d,.sr o1 v1 (fB ps).length]):=fun L=>by rw[List.getElem?_append_left hlo];exact ho
 have go1:∀L,(H++L)[o1]? = some (.vec v1 1 (fB ps)):=fun L=>by rw[List.getElem?_append_left hlo1];exact ho1
 have hl:=aEy ps;have hne2:(((fB ps).length:Int)==2)=false:=by rw[hl];simp;omega
 simp only[eE];simp only[go_sem,↓aC,seval,go,hne2,Bool.false_beq];refine bZ (id:=0) (W:=sU) (fun i ρ1 H1 wr=>wr=[]/\H1=H++[.gone 0,.gone 0]/\ρ1 5=vi ((2*i:Nat):Int)/\ρ1 4=.bool (i==0)) ps.length
  (fun ρ1 H1 wr=>wr=[]/\H1=H++[.gone 0,.gone 0]/\ρ1 4=.bool false)
  (by kernel_rfl) (by rfl) ⟨rfl,rfl,rfl,rfl⟩ ?_ ?_
 ·rintro i ρ1 H1 wr1 hil ⟨rfl,rfl,e5,e4⟩ hf;have e3:ρ1 3=.sr o1 v1 (fB ps).length:=by rw[hf 3 (by rfl)];rfl
  simp only[go_sem,↓aC,seval,e5,e3];refine aD (fun hb => ?_) (fun hb => ?_)
  ·have hlt:i<ps.length:=by simp at hb;omega
   obtain⟨hg0,hg1⟩:=aEz ps i hlt;obtain⟨q1,q2⟩:=hp _ (List.getElem_mem hlt);have hn0:(0:Int)<=((2*i:Nat):Int):=by omega
   have hlt2:((2*i:Nat):Int)<(((fB ps).length:Nat):Int):=by rw[hl];omega
   have hto:(((2*i:Nat):Int)).toNat=2*i:=by omega
   have hw1:IntKind.i64.wrap (((2*i:Nat):Int)+1)=((2*i+1:Nat):Int):=by rw[wrap_i64 (by omega) (by omega)];omega
   have hn1:(0:Int)<=((2*i+1:Nat):Int):=by omega
   have hlt3:((2*i+1:Nat):Int)<(((fB ps).length:Nat):Int):=by rw[hl];omega
   have hto1:(((2*i+1:Nat):Int)).toNat=2*i+1:=by omega
   have hw2:IntKind.i64.wrap (((2*i:Nat):Int)+2)=((2*(i+1):Nat):Int):=by rw[wrap_i64 (by omega) (by omega)];omega
   have hne1:((((ps[i].2).length:Nat):Int) != 1)=true:=by simp;omega
   simp only[go_sem,↓aC,seval,e5,e3,hn0,hlt2,hto,hw1,hn1,hlt3,hto1,go1,hg0,hg1,hne1,hw2,List.length_cons,List.length_nil];exact hlt
  ·have hi:i=ps.length:=by simp at hb;omega
   subst hi;simp only[go_sem,seval];rw[e4,show (ps.length==0)=false from by rw[beq_eq_false_iff_ne];omega]
 ·rintro ρ' H' wr' ⟨rfl,rfl,e4⟩ hf;have e3:ρ' 3=.sr o1 v1 (fB ps).length:=by rw[hf 3 (by rfl)];rfl
  have hq:∀ek,kM .quo ek (.int .i64 (((fB ps).length:Nat):Int)) (.int .i64 2)=some (vi (ps.length:Nat)):=fun ek=>by
   rw[yQ (by decide),hl]
   have:(((2*ps.length:Nat):Int)).tdiv 2=(ps.length:Int):=by rw[Int.natCast_mul];exact Int.mul_tdiv_cancel_left _ (by decide)
   rw[this,wrap_i64 (by omega) (by omega)]
  have hm0:¬((0:Int)=(ps.length:Int)):=by omega
  have hm1:(0:Int)<(ps.length:Int):=by omega
  have hrm:bP ps.length 16=true:=by unfold bP;simp;omega
  have hw2:IntKind.i64.wrap ((((fB ps).length:Nat):Int) - 2)=2*((ps.length:Int) - 1 - (0:Nat)):=by rw[hl,wrap_i64 (by omega) (by omega)];omega
  simp only[go_sem,↓aC,seval,e4,e3,hq,hm0,hm1,hrm,oX,aOV,aFZ,aEx,aUm,List.append_nil,hw2];refine bZ (id:=6) (W:=sY) (fun i ρ1 H1 wr=>wr=[]/\ρ1 12=vi (2*((ps.length:Int) - 1 - (i:Nat)))/\H1=H++[.vec 1 1 ((ps.drop (ps.length - i)).reverse.map fun p=>[.str [p.1]]),.box 1 (bsr (fW (ps.drop (ps.length - i))) (.sr H.length 1 i))]) ps.length
   (fun ρ1 H1 wr=>wr=[]/\H1=H++[.vec 1 1 (ps.reverse.map fun p=>[.str [p.1]]),.box 1 (bsr (fW ps) (.sr H.length 1 ps.length))])
   (by kernel_rfl) (by rfl) ⟨rfl,rfl,by rw[Nat.sub_zero,List.drop_eq_nil_of_le (Nat.le_refl _)];rfl⟩ ?_ ?_
  ·rintro i ρ1 H1 wr1 hil ⟨rfl,e12,rfl⟩ hf2;have f3:ρ1 3=.sr o1 v1 (fB ps).length:=by rw[hf2 3 (by rfl)];exact e3
   have f11:ρ1 11=.ptr (H.length+1) 1 0:=by rw[hf2 11 (by rfl)];rfl
   simp only[go_sem,↓aC,seval,e12];refine aD (fun hb => ?_) (fun hb => ?_)
   ·obtain⟨k,hk⟩:∃k,ps.length=i+1+k:=⟨ps.length - 1 - i,by simp at hb;omega⟩
    have hlt:k<ps.length:=by omega
    have ek:2*((ps.length:Int) - 1 - (i:Nat))=((2*k:Nat):Int):=by omega
    rw[ek]at e12;rw[show ps.length - i=k+1 by omega]
    obtain⟨hg0,hg1⟩:=aEz ps k hlt;obtain⟨q1,q2⟩:=hp _ (List.getElem_mem hlt);have hn0:(0:Int)<=((2*k:Nat):Int):=by omega
    have hlt2:((2*k:Nat):Int)<(((fB ps).length:Nat):Int):=by rw[hl];omega
    have hto:(((2*k:Nat):Int)).toNat=2*k:=by omega
    have hw1:IntKind.i64.wrap (((2*k:Nat):Int)+1)=((2*k+1:Nat):Int):=by rw[wrap_i64 (by omega) (by omega)];omega
    have hn1:(0:Int)<=((2*k+1:Nat):Int):=by omega
    have hlt3:((2*k+1:Nat):Int)<(((fB ps).length:Nat):Int):=by rw[hl];omega
    have hto1:(((2*k+1:Nat):Int)).toNat=2*k+1:=by omega
    have hw3:IntKind.i64.wrap (((2*k:Nat):Int) - 2)=2*((ps.length:Int) - 1 - ((i+1:Nat):Int)):=by rw[wrap_i64 (by omega) (by omega)];omega
    have hdk:ps.drop k=ps[k]::ps.drop (k+1):=List.drop_eq_getElem_cons hlt;generalize hpk:ps[k]=p at *;obtain⟨c,s⟩:=p;have hcn:c∉(ps.drop (k+1)).map Prod.fst:=by
     have h1:((ps.drop k).map Prod.fst).Nodup:=by rw[List.map_drop];exact hd.sublist (List.drop_sublist _ _)
     rw[hdk,List.map_cons,List.nodup_cons]at h1;exact h1.1
    have hcell:aCo (fW (ps.drop (k+1))) c.toNat=.nilSl:=by
     unfold aCo;rw[show UInt8.ofNat c.toNat=c by simp,aEA hcn]
    have hc0:(0:Int)<=((c.toNat:Nat):Int):=by omega
    have hc1:((c.toNat:Nat):Int)<256:=by have:=UInt8.toNat_lt c;omega
    have hct:(((c.toNat:Nat):Int)).toNat=c.toNat:=by omega
    have hc2:c.toNat+1<=257:=by have:=UInt8.toNat_lt c;omega
    have hlen:((ps.drop (k+1)).reverse.map fun p=>[AV.str [p.1]]).length=i:=by simp;omega
    have hrm:bP (i+1) 16=true:=by unfold bP;simp;omega
    have hby:∀H:List AObj,pG H .b2s (.sl true [[.int .u8 ((c.toNat:Nat):Int)]])=some (.str [c]):=fun H=>by
     simp[pG,eH,cF]
    have hs2:s.length<=1099511627776:=by have:s.length<=1000:=q2;omega
    simp only[go_sem,↓aC,seval,e12,f3,f11,go1,hn0,hlt2,hto,hw1,hn1,hlt3,hto1,hg0,hg1,List.getElem?_cons_zero,hc0,hc1,hct,hc2,Nat.zero_add,Nat.mul_one,oX,aEw,aGO,hcell,hby,fH,cU,eH,hlen,hrm,aJj,aRI,hs2,hw3];refine⟨by omega, ?_⟩
    rw[show ps.length - (i+1)=k by omega,hdk,List.reverse_cons,List.map_append]
    rfl
   ·have hi:i=ps.length:=by simp at hb;omega
    subst hi;simp only[go_sem,seval];rw[Nat.sub_self,List.drop_zero]
  ·rintro ρ2 H2 wr2 ⟨rfl,rfl⟩ hf2;have f11:ρ2 11=.ptr (H.length+1) 1 0:=by rw[hf2 11 (by rfl)];rfl
   simp only[go_sem,↓aC,seval,f11]
theorem mH{base o:Nat}{v:AV}{H:List AObj}{x:AObj}(h1:H[o]? = some x)(h2:x.under base=false):cD base (v,H,[o])=(v,H,[o]):=by
 unfold cD;dsimp only;rw[if_neg];rw[Bool.and_eq_true,List.all_cons,List.all_nil,Bool.and_true,h1];intro h;simp[h2]at h
theorem aCp{n k:Nat}{a b c d:AV}:dS n [a,b,c,.ifc 349 (.ptr (n+k) 1 0),d]=false:=by
 have:decide (n+k<n)=false:=by simp
 simp[dS,AV.under,this]
theorem aFa(h:Has A g "(*strings.Replacer).buildOnce" (dY g))(hb:Has A g "(*strings.Replacer).build" (eE g))(ps:List (UInt8×Str))(h0:2<=ps.length)(h1:ps.length<=1000)(hd:(ps.map Prod.fst).Nodup)(hp:∀p∈ps,p.2.length≠1/\p.2.length<=1000){H:List AObj}{o v o1 v1:Nat}{a b c d:AV}
  (ho:H[o]? = some (.box v [a,b,c,d,.sr o1 v1 (fB ps).length])) (ho1:H[o1]? = some (.vec v1 1 (fB ps))):
  aL A (g "(*strings.Replacer).buildOnce") [.ptr o v 0] H=some (.tup [],H.set o (.box v [a,b,c,.ifc 349 (.ptr (H.length+1) 1 0),.sl true []])++[.vec 1 1 (ps.reverse.map fun p=>[.str [p.1]]),.box 1 (bsr (fW ps) (.sr H.length 1 ps.length))],[o]):=by
 refine h.call (by simp[dY]) (by kernel_rfl) ?_
 have hlo:=getElem?_lt ho;have go:∀L,(H++L)[o]? = some (.box v [a,b,c,d,.sr o1 v1 (fB ps).length]):=fun L=>by rw[List.getElem?_append_left hlo];exact ho
 have go2:∀L x,((H++L).set o x)[o]? = some x:=fun L x=>List.getElem?_set_self (by simp;omega)
 have hbs:=aLc hb ps h0 h1 hd hp ho ho1;simp only[dY];simp only[go_sem,↓aC,seval,List.append_nil,hbs,go,go2];rw[uL hlo,uK,mH (go2 _ _) (by rw[zV];exact aCp),List.set_append_left _ _ hlo]
 exact⟨rfl,rfl,rfl⟩
end
section
variable {A:AProg}{g:String->Nat}
theorem aMR(h:Has A g "(*sync.Once).doSlow" lV){F:Nat}{H H':List AObj}{o v:Nat}{d e d' e':AV}
  (ho:H[o]? = some (.box v [.int .u32 0,.int .i32 0,.int .u32 0,d,e]))
  (hc:aL A F [.ptr o v 0] (H.set o (.box v [.int .u32 0,.int .i32 1,.int .u32 0,d,e]))=some (.tup [],H',[o]))
  (ho':H'[o]? = some (.box v [.int .u32 0,.int .i32 1,.int .u32 0,d',e']))
  (hu:dS H.length [d',e']=false) (hlen:H.length<=H'.length):
  aL A (g "(*sync.Once).doSlow") [.ptr o v 0,.fn F [.ptr o v 0] []] H=some (.tup [],H'.set o (.box v [.int .u32 1,.int .i32 0,.int .u32 0,d',e']),[o]):=by
 have hlo:=getElem?_lt ho;have hlo':=getElem?_lt ho';refine h.call (by simp[lV]) (by kernel_rfl) ?_
 simp only[lV,aOe,aTh,aTi,aQw];have g1:∀x,(H.set o x)[o]? = some x:=fun x=>List.getElem?_set_self hlo;have g2:∀x,(H'.set o x)[o]? = some x:=fun x=>List.getElem?_set_self hlo';simp only[go_sem,↓aC,seval,List.append_nil,ho,hc,ho',g2,List.set_set,uL hlo,uK,aMo];have hu2:AObj.under H.length (.box v [.int .u32 1,.int .i32 0,.int .u32 0,d',e'])=false:=by
  rw[zV];simpa only[aJ0,aMp,Bool.true_and,aKY]using hu
 rw[mH (g2 _) hu2];exact⟨rfl,rfl,rfl⟩
def oE(g:String->Nat):AFn:=⟨12,[],[],qS [qm 4 0,qq 5 (.nilck (u 4)),qf 6 0 5,qc 7 (g "(*sync/atomic.Bool).Load") [u 6],qq 8 (.un .not (u 7))]<|qC 8 (qR [qm 9 0,qm 10 1,qc 11 (g "(*sync.Once).doSlow") [u 9,u 10]]) (.skip)⟩
def dO(g:String->Nat):AFn:=⟨17,[],[.tmp 4],qS [qmc 4 (.str [])]<|qS [qm 5 0,qq 6 (.nilck (u 5)),qf 7 0 6,qm 8 0,qq 9 (.mkf (g "(*strings.Replacer).buildOnce") [(.tmp 8)] []),qc 10 (g "(*sync.Once).Do") [u 7,u 9]]<|qS [qm 11 0,qq 12 (.nilck (u 11)),qf 13 3 12,ql 14 1 13,qm 15 1,qq 16 (.invk [(167,111),(339,346),(341,349),(345,353),(349,355)] (u 14) [(.tmp 15)]),qm 4 16]<|.ret⟩
structure RepFns(A:AProg)(g:String->Nat):Prop where
 build:Has A g "(*strings.Replacer).build" (eE g)
 buildOnce:Has A g "(*strings.Replacer).buildOnce" (dY g)
 slow:Has A g "(*sync.Once).doSlow" lV
 load:A.prim (g "(*sync/atomic.Bool).Load")=some yN
 once:Has A g "(*sync.Once).Do" (oE g)
 repl:Has A g "(*strings.Replacer).Replace" (dO g)
def aG0(v o1 v1 n:Nat):AObj:=.box v [.int .u32 0,.int .i32 0,.int .u32 0,.nilIfc,.sr o1 v1 n]
def qU(v b:Nat):AObj:=.box v [.int .u32 1,.int .i32 0,.int .u32 0,.ifc 349 (.ptr b 1 0),.sl true []]
def sZ(ps:List (UInt8×Str))(k:Nat):List AObj:=[.vec 1 1 (ps.reverse.map fun p=>[.str [p.1]]),.box 1 (bsr (fW ps) (.sr k 1 ps.length))]
theorem aId(F:RepFns A g){H:List AObj}{o v:Nat}{n:Int}{r:List AV}(ho:H[o]? = some (.box v (.int .u32 n::r))):
  aL A (g "(*sync/atomic.Bool).Load") [.ptr o v 0] H=some (.bool (n != 0),H,[]):=by
 refine gU ?_;rw[F.load];simp only[Option.bind_some,yN];have:aX H 1 (.ptr o v 0)=some [.int .u32 n]:=by
  unfold aX;simp[ho]
 rw[this]
theorem aLd(F:RepFns A g){H:List AObj}{o v b:Nat}{f:AV}(ho:H[o]? = some (qU v b)):
  aL A (g "(*sync.Once).Do") [.ptr o v 0,f] H=some (.tup [],H,[]):=by
 refine F.once.call (by simp[oE]) (by kernel_rfl) ?_
 have hl:=aId F ho;rw[show ((1:Int) != 0)=true from rfl]at hl
 simp only[oE];simp only[go_sem,↓aC,seval,List.append_nil,hl]
theorem aLe(F:RepFns A g)(ps:List (UInt8×Str))(h0:2<=ps.length)(h1:ps.length<=1000)(hd:(ps.map Prod.fst).Nodup)(hp:∀p∈ps,p.2.length≠1/\p.2.length<=1000){H:List AObj}{o v o1 v1:Nat}
  (ho:H[o]? = some (aG0 v o1 v1 (fB ps).length)) (ho1:H[o1]? = some (.vec v1 1 (fB ps))):
  aL A (g "(*sync.Once).Do") [.ptr o v 0,.fn (g "(*strings.Replacer).buildOnce") [.ptr o v 0] []] H=some (.tup [],H.set o (qU v (H.length+1))++sZ ps H.length,[o]):=by
 have hlo:=getElem?_lt ho;have hne:o≠o1:=fun e=>by subst e;rw[ho]at ho1;cases ho1
 refine F.once.call (by simp[oE]) (by kernel_rfl) ?_
 have hl:=aId F ho;rw[show ((0:Int) != 0)=false from rfl]at hl
 have g1:∀x,(H.set o x)[o]? = some x:=fun x=>List.getElem?_set_self hlo;have hb:=aFa F.buildOnce F.build ps h0 h1 hd hp (a:=.int .u32 0) (b:=.int .i32 1) (c:=.int .u32 0) (d:=.nilIfc) (v:=v) (o:=o) (g1 _) (by rw[List.getElem?_set_ne hne];exact ho1)
 have hs:=aMR F.slow ho hb (by rw[List.getElem?_append_left (by simpa using hlo),List.set_set,g1]) (by
  have:decide (H.length+1<H.length)=false:=by simp
  simp[dS,AV.under,this]) (by simp)
 rw[List.set_append_left _ _ (by simpa using hlo),List.set_set,List.set_set,List.length_set]at hs
 simp only[oE];simp only[go_sem,↓aC,seval,List.append_nil,hl,hs];rw[uL hlo,uK,mH (x:=qU v (H.length+1)) (by rw[List.getElem?_append_left (by simpa using hlo),g1];rfl) (by unfold qU;rw[zV];exact aCp)]
 exact⟨rfl,rfl,rfl⟩
def mZ(f:UInt8->Option Str)(s:Str):Str:=s.flatMap fun c=>match f c with
 |some t=>t
 |none=>[c]
def aJk(A:AProg)(n:Nat)(ps:List (UInt8×Str)):Prop:=∀(H:List AObj) (b k:Nat) (s:Str),H[b]? = some (.box 1 (bsr (fW ps) (.sr k 1 ps.length)))->H[k]? = some (.vec 1 1 (ps.reverse.map fun p=>[.str [p.1]]))->s.length<=1000 ->
 aL A n [.ptr b 1 0,.str s] H=some (.str (mZ (fW ps) s),H,[])
theorem aUn:List.lookup (349:Nat) [((167:Nat),(111:Nat)),(339,346),(341,349),(345,353),(349,355)]=some 355:=rfl
theorem aGQ(F:RepFns A g){ps:List (UInt8×Str)}(hB:aJk A 355 ps){H:List AObj}{o v b k:Nat}{s:Str}(hs:s.length<=1000)(ho:H[o]? = some (qU v b))(hb:H[b]? = some (.box 1 (bsr (fW ps) (.sr k 1 ps.length))))(hk:H[k]? = some (.vec 1 1 (ps.reverse.map fun p=>[.str [p.1]]))):
  aL A (g "(*strings.Replacer).Replace") [.ptr o v 0,.str s] H=some (.str (mZ (fW ps) s),H,[]):=by
 refine F.repl.call (by simp[dO]) (by kernel_rfl) ?_
 have h1:∀f,aL A (g "(*sync.Once).Do") [.ptr o v 0,f] H=some (.tup [],H,[]):=fun f=>aLd F ho;have h2:=hB H b k s hb hk hs;unfold qU at ho;simp only[dO];simp only[go_sem,↓aC,seval,List.append_nil,h1,h2,ho,aUn]
theorem aBz(F:RepFns A g){ps:List (UInt8×Str)}(hB:aJk A 355 ps)(h0:2<=ps.length)(h1:ps.length<=1000)(hd:(ps.map Prod.fst).Nodup)(hp:∀p∈ps,p.2.length≠1/\p.2.length<=1000){H:List AObj}{o v o1 v1:Nat}
  {s:Str} (hs:s.length<=1000) (ho:H[o]? = some (aG0 v o1 v1 (fB ps).length)) (ho1:H[o1]? = some (.vec v1 1 (fB ps))):
  aL A (g "(*strings.Replacer).Replace") [.ptr o v 0,.str s] H=some (.str (mZ (fW ps) s),H.set o (qU v (H.length+1))++sZ ps H.length,[o]):=by
 have hlo:=getElem?_lt ho;refine F.repl.call (by simp[dO]) (by kernel_rfl) ?_
 have hO:=aLe F ps h0 h1 hd hp ho ho1;have g1:(H.set o (qU v (H.length+1))++sZ ps H.length)[o]? = some (qU v (H.length+1)):=by
  rw[List.getElem?_append_left (by simpa using hlo)];exact List.getElem?_set_self hlo
 have g2:(H.set o (qU v (H.length+1))++sZ ps H.length)[H.length+1]? = some (.box 1 (bsr (fW ps) (.sr H.length 1 ps.length))):=by
  rw[List.getElem?_append_right (by simp),List.length_set];simp[sZ]
 have g3:(H.set o (qU v (H.length+1))++sZ ps H.length)[H.length]? = some (.vec 1 1 (ps.reverse.map fun p=>[.str [p.1]])):=by
  rw[List.getElem?_append_right (by simp),List.length_set];simp[sZ]
 have h2:=hB _ _ _ s g2 g3 hs;generalize hH':(H.set o (qU v (H.length+1))++sZ ps H.length)=H' at *;have g1':H'[o]? = some (.box v [.int .u32 1,.int .i32 0,.int .u32 0,.ifc 349 (.ptr (H.length+1) 1 0),.sl true []]):=g1;simp only[dO];simp only[go_sem,↓aC,seval,List.append_nil,hO,h2,g1',aUn];rw[uL hlo,uK,mH g1 (by unfold qU;rw[zV];exact aCp)]
 exact⟨rfl,rfl,rfl⟩
end
theorem aAP{A:AProg}{N:Nat}{c:Ctx}{b:Bool}{x1 x2 rest:ACode}{ρ:bH}{H:List AObj}{wr:List Nat}{Q:AExit->bH->List AObj->List Nat->Prop}{t1 t2 t3 tg}{W:List Nat}(P:bH->List AObj->List Nat->Prop)
  (hW:vS x1++vS x2=W) (h1:b=true->wc A N c x1 ρ H wr (aVI P ⟨⟩) ⟨⟩) (h2:b=false->wc A N c x2 ρ H wr (aVI P ⟨⟩) ⟨⟩)
  (hr:∀ρ' H' wr',P ρ' H' wr'->(∀t,W.contains t=false->ρ' t=ρ t)->wc A N c rest ρ' H' wr' Q ⟨⟩):
  xO b (wc A N c x1 ρ H wr (aKX A N c rest Q t1) t2) (wc A N c x2 ρ H wr (aKX A N c rest Q t1) t3) tg:=by
 have sub:∀(V:List Nat) (ρ':bH),(∀t∈V,t∈W)->(∀t,V.contains t=false->ρ' t=ρ t)->∀t,W.contains t=false->ρ' t=ρ t:=fun V ρ' hs h t ht=>h t (by
  rw[<- Bool.not_eq_true,List.contains_iff_mem]at ht ⊢;exact fun hm=>ht (hs t hm))
 refine aD (fun hb => ?_) (fun hb => ?_)
 ·exact aMr (W:=vS x1) P rfl (h1 hb) fun ρ' H' wr' hP hf=>hr ρ' H' wr' hP (sub _ ρ' (fun t ht=>by rw[<- hW];exact List.mem_append_left _ ht) hf)
 ·exact aMr (W:=vS x2) P rfl (h2 hb) fun ρ' H' wr' hP hf=>hr ρ' H' wr' hP (sub _ ρ' (fun t ht=>by rw[<- hW];exact List.mem_append_right _ ht) hf)
theorem aBA:∀(e:Expr) (r:Bool),aAl r e=true->Rt r e
 |.mk op n ks,r,h=>by
  unfold aAl at h;simp only[Bool.and_eq_true,Bool.not_eq_true',Bool.or_eq_false_iff,decide_eq_false_iff_not,bne_eq_false_iff_eq,Bool.and_eq_false_iff,beq_eq_false_iff_ne]at h;obtain⟨⟨h1,h2⟩,⟨⟨⟨h3,h4⟩,h5⟩,h6⟩,h7⟩:=h;have h3:ks.length=aAO op:=by omega
  have:op=0∨op=1∨op=2∨op=3∨op=4∨op=5∨op=6∨op=7∨op=8∨op=9∨op=10:=by omega
  have two:aAO op=2->(op=9∨op=10->r=true)->(op≠9/\op≠10->3<=op/\op<=7)->yV op=0->Rt r (.mk op n ks):=fun hk hr ho hm=>by
   rw[hk]at h3
   match ks,h3 with
   | [a,b],_=>
    simp only[aCZ,Bool.and_eq_true]at h7;have ra:=aBA a false h7.1;have rb:=aBA b false h7.2.1;have hn:n=0:=by omega
    subst hn
    by_cases hc:op=9∨op=10
    ·have:=hr hc;subst this;exact .cmp op a b hc ra rb
    ·have:=ho ⟨fun h=>hc (.inl h),fun h=>hc (.inr h)⟩;exact .bin r op a b this.1 this.2 ra rb
  have one:aAO op=1->(op=2∨op=8)->yV op=0->Rt r (.mk op n ks):=fun hk ho hm=>by
   rw[hk]at h3
   match ks,h3 with
   | [a],_=>
    simp only[aCZ,Bool.and_eq_true]at h7;have ra:=aBA a false h7.1;have hn:n=0:=by omega
    subst hn;exact .un r op a ho ra
  have nil:aAO op=0->ks=[]:=fun hk=>by rw[hk]at h3;exact List.eq_nil_of_length_eq_zero h3
  have root:((lev op:Nat):Int)=0->r=true:=fun hl=>by
   rcases h6 with h6 | h6
   ·exact absurd hl h6
   ·simpa using h6
  rcases this with rfl | rfl | rfl | rfl | rfl | rfl | rfl | rfl | rfl | rfl | rfl
  ·rw[nil rfl];exact .num r n (by omega) (by have:yV 0=999999:=rfl;omega)
  ·rw[nil rfl];exact .var r n (by omega) (by have:yV 1=25:=rfl;omega)
  ·exact one rfl (.inl rfl) rfl
  ·exact two rfl (by omega) (by omega) rfl
  ·exact two rfl (by omega) (by omega) rfl
  ·exact two rfl (by omega) (by omega) rfl
  ·exact two rfl (by omega) (by omega) rfl
  ·exact two rfl (by omega) (by omega) rfl
  ·exact one rfl (.inr rfl) rfl
  ·exact two rfl (fun _=>root rfl) (by omega) rfl
  ·exact two rfl (fun _=>root rfl) (by omega) rfl
theorem tA{e:Expr}{L:Nat}{s:Str}:(par e L s).length<=s.length+2:=by unfold par;split<;>simp
theorem aG1:∀{e:Expr} {r:Bool},Rt r e->(wX e).length<=10*iN e
 |_,_,.num _ n h0 h9=>by
  have h1:wX (.mk 0 n [])=dec n.toNat:=by unfold wX;rfl
  have h2:=aEj 5 n.toNat (by omega)
  rw[h1];simp only[iN,cP];omega
 |_,_,.var _ n h0 h1=>by
  have h1:wX (.mk 1 n [])=[UInt8.ofNat (97+n.toNat)]:=by unfold wX;rfl
  rw[h1];simp only[iN,cP,List.length_cons,List.length_nil];omega
 |_,_,.un _ op a ho ha=>by
  have ih:=aG1 ha;have h3:=tA (e:=a) (L:=3) (s:=wX a);have h1:=tA (e:=a) (L:=1) (s:=wX a);rw[aMP];simp only[iN,cP]
  split<;>simp only[List.length_cons,List.length_append,List.length_nil]<;>omega
 |_,_,.bin _ op a b h1 h2 ha hb=>by
  have ia:=aG1 ha;have ib:=aG1 hb;have k1:=tA (e:=a) (L:=4) (s:=wX a);have k2:=tA (e:=a) (L:=max 1 (lev op)) (s:=wX a);have k3:=tA (e:=b) (L:=3) (s:=wX b);have k4:=tA (e:=b) (L:=lev op+1) (s:=wX b);rw[aKc];simp only[iN,cP]
  split<;>simp only[List.length_cons,List.length_append]<;>omega
 |_,_,.cmp op a b ho ha hb=>by
  have ia:=aG1 ha;have ib:=aG1 hb;have k1:=tA (e:=a) (L:=4) (s:=wX a);have k2:=tA (e:=a) (L:=max 1 (lev op)) (s:=wX a);have k3:=tA (e:=b) (L:=3) (s:=wX b);have k4:=tA (e:=b) (L:=lev op+1) (s:=wX b);rw[aKc];simp only[iN,cP]
  split<;>simp only[List.length_cons,List.length_append]<;>omega
section
variable {A:AProg}{g:String->Nat}
theorem aMS(h:Has A g "dactyl/formula.put" (bS g)){op n:Int}{ks:List Expr}(o0:0<=op)(o1:op<11)(h0:fL A (g "dactyl/formula.put") [.agg (aF (.mk op n ks)),vi 0] (wX (.mk op n ks))){L:Nat}(hL:lev op<L):
  fL A (g "dactyl/formula.put") [.agg (aF (.mk op n ks)),vi L] (40::(wX (.mk op n ks)++[41])):=by
 intro H t v hb ht;obtain⟨v1,H1,wr1,h1,h2⟩:=h.callEx (args:=[v,.agg (aF (.mk op n ks)),vi L]) (H:=H) (K:=fun v' H'' wr'=>some (v',H'',wr')=oD H t (40::(wX (.mk op n ks)++[41])) v) (by simp[bS]) (by kernel_rfl) (by
  have hlev:decide (lev op<L)=true:=by simpa using hL
  have hl:t.length+(2+(wX (.mk op n ks)).length)<=1000000:=by simp at ht;omega
  obtain⟨o,ver,hat,happ⟩:=hb.app (L:=aDi op) (i:=1) (by omega) (by show 1<8;decide) [40] (by simp) (by simp)
  have happ:fH (H++aDi op) (some (H.length+1)) 1 1 v (.sl true [[.int .u8 40]])=_:=happ true;have hcall:aL A (g "dactyl/formula.put") [.sr o ver (t++[40]).length,.agg (aF (.mk op n ks)),vi 0] _=_:=aEu (t:=t++[40]) (ver:=ver) hat.lt (by simp;omega) h0
  have happ2:∀site,fH _ site 1 1 _ (.sl true [[.int .u8 41]])=_:=fun site=>aKb (Z:=H++aDi op) (ver:=ver) (t:=t++[40]++wX (.mk op n ks)) (new:=[41]) (f:=true) (site:=site) hat.lt (by simp) (by simp;omega)
  simp only[List.length_append,List.length_cons,List.length_nil,Nat.zero_add,aF,aV]at happ hcall happ2;have hd:=hat.done (L':=aDi op) rfl (40::(wX (.mk op n ks)++[41]));rw[show t++40::(wX (.mk op n ks)++[41])=t++[40]++wX (.mk op n ks)++[41] by simp,show t.length+(40::(wX (.mk op n ks)++[41])).length=t.length+1+(wX (.mk op n ks)).length+1 by simp;omega]at hd
  simp only[bS];simp only[go_sem,↓aC,seval,aF,aV,o0,o1,Nat.zero_add,(gK o0 o1).1,(gK o0 o1).2,jZ,nM,List.append_nil,kA,hlev];refine bN (keep:=aAm) (by rfl) (by rfl) ?_
  simp only[go_sem,↓aC,seval,aAm,fG,eB,aR,happ,hcall,happ2,List.map_cons,List.map_nil,List.length_set];exact hd)
 rw[h1,h2]
abbrev zY(A:AProg)(g:String->Nat):Prop:=∀n:Int,0<=n->n<=999999->fL A (g "strconv.AppendInt") [vi n,vi 10] (dec n.toNat)
theorem aOW(h:Has A g "dactyl/formula.put" (bS g))(hi:zY A g):∀{e:Expr} {r:Bool},Rt r e->∀L:Nat,L<=4->fL A (g "dactyl/formula.put") [.agg (aF e),vi L] (par e L (wX e)):=by
 have fin:∀{op n:Int} {ks:List Expr},0<=op->op<11->(∀L:Nat,L<=lev op->fL A (g "dactyl/formula.put") [.agg (aF (.mk op n ks)),vi L] (wX (.mk op n ks))) ->
   ∀L:Nat,L<=4->fL A (g "dactyl/formula.put") [.agg (aF (.mk op n ks)),vi L] (par (.mk op n ks) L (wX (.mk op n ks))):=fun {op n ks} o0 o1 hh L hL=>by
  by_cases hl:lev op<L
  ·rw[aK8 (e:=.mk op n ks) hl];exact aMS h o0 o1 (hh 0 (Nat.zero_le _)) hl
  ·rw[qP (e:=.mk op n ks) (Nat.le_of_not_lt hl)];exact hh L (Nat.le_of_not_lt hl)
 intro e r hr
 induction hr with
 |num _ n h0 h9=>exact fin (by decide) (by decide) fun L hL=>aRz h hi h0 h9 rfl hL
 |var _ n h0 h1=>exact fin (by decide) (by decide) fun L hL=>aRA h h0 h1 rfl hL
 |un _ op a ho ha ih=>
  rcases ho with rfl | rfl
  ·exact fin (by decide) (by decide) fun L hL=>aRB h ih rfl hL
  ·exact fin (by decide) (by decide) fun L hL=>aOS h ih rfl hL
 |bin _ op a b h1 h2 ha hb ia ib=>
  refine fin (by omega) (by omega) fun L hL => ?_
  rcases aGJ h1 h2 with h3 | h3 | h3 | h3 | h3
  ·exact aEv h (by omega) ia ib hL
  ·exact aEv h (by omega) ia ib hL
  ·exact aEv h (by omega) ia ib hL
  ·exact aEv h (by omega) ia ib hL
  ·exact aRC h ia ib h3 hL
 |cmp op a b ho ha hb ia ib=>exact fin (by omega) (by omega) fun L hL=>aEv h (by omega) ia ib hL
def aBB(e:Expr):Int:=if decide ((iN e:Int)>256) || decide ((aAk e:Int)>16)then 4 else if aAl true e then 0 else 1
structure HasForm(A:AProg)(g:String->Nat):Prop where
 valid:Has A g "dactyl/formula.Valid" (vZ g)
 size:Has A g "dactyl/formula.Size" (sF g)
 depth:Has A g "dactyl/formula.Depth" (pS g)
 right:Has A g "dactyl/formula.right" (pR g)
 right1:Has A g "dactyl/formula.right$1" (mR g)
 con:∃fi,(A.fn (g "slices.ContainsFunc[[]dactyl/api.Expr,dactyl/api.Expr]")=some (aJ5 fi)/\A.prim (g "slices.ContainsFunc[[]dactyl/api.Expr,dactyl/api.Expr]")=none)/\(A.fn fi=some (aJ4 3 true)/\A.prim fi=none)
 put:Has A g "dactyl/formula.put" (bS g)
 text:Has A g "dactyl/formula.Text" (yX g)
theorem aEB(h:HasForm A g)(e:Expr)(he:e.Ok)(hs:iN e<=1000)(H:List AObj):aL A (g "dactyl/formula.Valid") [.agg (aF e)] H=some (vi (aBB e),H,[]):=by
 refine h.valid.call (by simp[vZ]) (by kernel_rfl) ?_
 have h1:=fun H=>aMN h.size _ e H (Nat.lt_succ_self _) hs;have h2:=fun H=>aL9 h.depth _ e H (Nat.lt_succ_self _) hs;obtain⟨fi,c1,c2⟩:=h.con;have h3:=fun H=>aLa h.right h.right1 c1 c2 _ e true H (Nat.lt_succ_self _) he;simp only[vZ,xQ];unfold aBB;cases e1:decide ((iN e:Int)>256)with
 |true=>simp only[go_sem,↓aC,seval,dC,dJ.take,dJ.still,dJ.strips,aY (aQ e),h1,e1,Bool.true_beq,Bool.true_or]
 |false=>cases e2:decide ((aAk e:Int)>16)with
  |true=>simp only[go_sem,↓aC,seval,dC,dJ.take,dJ.still,dJ.strips,aY (aQ e),h1,h2,e1,e2,beq_self_eq_true,Bool.or_true]
  |false=>cases e3:aAl true e with
   |true=>simp only[go_sem,↓aC,seval,dC,dJ.take,dJ.still,dJ.strips,aY (aQ e),h1,h2,h3,e1,e2,e3,beq_self_eq_true,Bool.or_self,Bool.false_eq_true]
   |false=>simp only[go_sem,↓aC,seval,dC,dJ.take,dJ.still,dJ.strips,aY (aQ e),h1,h2,h3,e1,e2,e3,beq_self_eq_true,Bool.or_self,Bool.false_eq_true]
theorem aIe{e:Expr}(h:aBB e=0):Rt true e:=by
 unfold aBB at h
 split at h
 ·cases h
 ·split at h
  ·rename_i hr;exact aBA e true hr
  ·cases h
theorem nV:∀s:Str,cF (rb s)=some s
 | []=>rfl
 |c::r=>by
  show (cF (rb r)).map (UInt8.ofNat ((c.toNat:Int).toNat) :: ·)=_
  rw[nV r];simp
theorem aGR(h:HasForm A g)(hi:zY A g)(e:Expr)(he:e.Ok)(hs:iN e<=1000)(hv:aBB e=0)(H:List AObj):aL A (g "dactyl/formula.Text") [.agg (aF e)] H=some (.str (wX e),H,[]):=by
 refine h.text.call (by simp[yX]) (by kernel_rfl) ?_
 have h1:=aEB h e he hs;rw[hv]at h1;have hr:=aIe hv;have hl:=aG1 hr;have h2:=aOW h.put hi hr 0 (by decide)
 rw[qP (Nat.zero_le _)]at h2;have h3:∀H,aL A (g "dactyl/formula.put") [.sl true [],.agg (aF e),vi 0] H=some (.own 1 (rb (wX e)),H,[]):=fun H=>h2 H [] (.sl true []) .nil (by simp;omega)
 simp only[yX];simp only[go_sem,↓aC,seval,dC,dJ.take,dJ.still,dJ.strips,aY (aQ e),h1,h3,pG,nV]
end
end Go.AM
end
