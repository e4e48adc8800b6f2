/- Part 29: lemmas for the last text. -/
import Derived.Test.YtfpndhocfmfgdaaGreatDoorK28
set_option linter.unusedVariables false
set_option linter.unusedSimpArgs false
section
set_option maxRecDepth 8000
namespace Go.AM
open Go
section
variable {call:Nat->List AV->List AObj->Out}{c:Ctx}{keep:List Nat}{n0:Nat}{ρ:bH}{H:List AObj}{wr:List Nat}{L:bH->List AObj->List Nat->Log->Prop}{p:List Nat}{r:List AOper}
@[go_sem] theorem aY1{k:Nat}{x v:AOpd}{d:Option Nat}{t:Tg (call,c,keep,⟨d,.cpy k x v,none,p⟩::r,L)}:wd call c keep n0 (⟨d,.cpy k x v,none,p⟩::r) ρ H wr L t=bnd (nG call (c.site d) ρ H (.cpy k x v)) fun t=>
  aQL (keep.contains n0) (wd call c keep (n0+1) r (xT ρ d t.1) t.2.1 (bA c.base wr (t.2.2.2.getD [])) (aS4 n0 t.2.2.1 t.2.2.2 L ⟨⟩) ⟨⟩)
   (wd call c keep (n0+1) r (xT ρ d t.1) t.2.1 (bA c.base wr (t.2.2.2.getD [])) L ⟨⟩) ⟨⟩:=aOl
@[go_sem] theorem aUo{k:Nat}{x v:AOpd}{s:Option Nat}:nG call s ρ H (.cpy k x v)=nH H (aBj call H ρ s (.cpy k x v)):=(rfl)
end
theorem aOX{f:UInt8->Option Str}:mZ f []=[]:=rfl
theorem wA{f:UInt8->Option Str}(a b:Str):mZ f (a++b)=mZ f a++mZ f b:=List.flatMap_append
theorem aDz{f:UInt8->Option Str}{c:UInt8}{t:Str}(h:f c=some t):mZ f [c]=t:=by simp[mZ,h]
theorem aCq{f:UInt8->Option Str}{c:UInt8}(h:f c=none):mZ f [c]=[c]:=by simp[mZ,h]
theorem yY{f:UInt8->Option Str}(c:UInt8)(s:Str):mZ f (c::s)=mZ f [c]++mZ f s:=wA [c] s
theorem aEC{f:UInt8->Option Str}:∀{s:Str},(∀c∈s,f c=none)->mZ f s=s
 | [],_=>rfl
 |c::s,h=>by rw[yY,aCq (h c (by simp)),aEC fun d hd=>h d (by simp[hd])];rfl
theorem aBC{f:UInt8->Option Str}{M:Nat}(h:∀c t,f c=some t->t.length<=M)(hM:1<=M):∀s:Str,(mZ f s).length<=M*s.length
 | []=>by simp[mZ]
 |c::s=>by
  rw[yY,List.length_append,List.length_cons,Nat.mul_succ];have:=aBC h hM s;cases e:f c with
  |none=>rw[aCq e];simp;omega
  |some t=>rw[aDz e];have:=h c t e;omega
theorem uV{p:UInt8×Str}{c:UInt8}:∀{l:List (UInt8×Str)},p.1∉l.map Prod.fst->fW (l++[p]) c=if c=p.1 then some p.2 else fW l c
 | [],_=>rfl
 |q::l,h=>by
  simp only[List.map_cons,List.mem_cons,not_or]at h;have:=uV (c:=c) h.2
  show (if c=q.1 then some q.2 else fW (l++[p]) c)=_
  rw[this]
  by_cases e:c=q.1
  ·subst e;rw[if_pos rfl,if_neg (fun e=>h.1 e.symm)]
   show _=(if q.1=q.1 then _ else _)
   rw[if_pos rfl]
  ·rw[if_neg e]
   by_cases e2:c=p.1
   ·rw[if_pos e2,if_pos e2]
   ·rw[if_neg e2,if_neg e2]
    show _=(if c=q.1 then _ else _)
    rw[if_neg e]
theorem aKf{c:UInt8}:∀{l:List (UInt8×Str)},(l.map Prod.fst).Nodup->fW l.reverse c=fW l c
 | [],_=>rfl
 |p::l,h=>by
  rw[List.map_cons,List.nodup_cons]at h;rw[List.reverse_cons,uV (by rw[List.map_reverse,List.mem_reverse];exact h.1),aKf h.2]
  rfl
theorem aBD{c:UInt8}{t:Str}:∀{l:List (UInt8×Str)},fW l c=some t->(c,t)∈l
 | [],h=>by cases h
 |p::l,h=>by
  unfold fW at h
  split at h
  ·rename_i e;cases h;subst e;exact List.mem_cons_self ..
  ·exact List.mem_cons_of_mem _ (aBD h)
theorem aIf{c:UInt8}{t:Str}{r:List (UInt8×Str)}:∀{l:List (UInt8×Str)},fW l c=some t->fW (l++r) c=some t
 | [],h=>by cases h
 |p::l,h=>by
  show (if c=p.1 then some p.2 else fW (l++r) c)=some t
  unfold fW at h
  split at h
  ·rename_i e;rw[if_pos e];exact h
  ·rename_i e;rw[if_neg e];exact aIf h
theorem aIg{l:List (UInt8×Str)}{p:UInt8×Str}(h:p.1∉l.map Prod.fst):∀s:Str,
  ((mZ (fW (l++[p])) s).length:Int)=(mZ (fW l) s).length+(s.count p.1:Nat)*((p.2.length:Int) - 1)
 | []=>by simp[mZ]
 |c::s=>by
  have ih:=aIg h s;rw[yY c s,yY c s,List.length_append,List.length_append,Int.natCast_add,Int.natCast_add,ih,List.count_cons]
  by_cases e:c=p.1
  ·subst e;rw[aDz (by rw[uV h,if_pos rfl]),aCq (aEA h),if_pos (by simp)]
   simp only[List.length_cons,List.length_nil,Int.natCast_add,Int.add_mul];omega
  ·have e2:(c==p.1)=false:=by simpa using e
   have:mZ (fW (l++[p])) [c]=mZ (fW l) [c]:=by
    unfold mZ;simp[uV h,e]
   rw[this,e2];simp only[Bool.false_eq_true,if_false,Nat.add_zero];omega
theorem aKg{l:List (UInt8×Str)}{p:UInt8×Str}(h:p.1∉l.map Prod.fst):∀s:Str,
  (s.any fun c=>(fW (l++[p]) c).isSome)=((s.any fun c=>(fW l c).isSome) || (s.count p.1 != 0))
 | []=>by simp
 |c::s=>by
  rw[List.any_cons,aKg h s,List.any_cons,List.count_cons,uV h]
  by_cases e:c=p.1
  ·subst e;simp
  ·have e2:(c==p.1)=false:=by simpa using e
   rw[if_neg e,e2];simp only[Bool.false_eq_true,if_false,Nat.add_zero,Bool.or_assoc]
theorem jA{α:Type}{l:List α}{i:Nat}(h:i<l.length):l.take (i+1)=l.take i++[l[i]]:=by
 rw[List.take_add_one,List.getElem?_eq_getElem h];rfl
abbrev kX(g:String->Nat):List AOper:=[qm 41 5,qm 42 9,qm 43 0,qm 44 8,⟨some 45,.ixS (u 44) (ui 0),none,[3]⟩,⟨some 46,.nilck (u 43),none,[2]⟩,⟨some 47,of 0 46,none,[5,2]⟩,⟨some 48,.iaA 256 1 (u 47) (u 45),none,[6,5,2,4,3]⟩,⟨some 49,ol 1 48,none,[7,6,5,2,4,3]⟩,⟨some 50,on 49,none,[8,7,6,5,2,4,3]⟩,⟨some 51,obi .sub 50 1,none,[9,8,7,6,5,2,4,3]⟩,⟨some 52,ob .mul 42 51,none,[1,10,9,8,7,6,5,2,4,3]⟩,⟨some 53,ob .add 41 52,none,[0,11,1,10,9,8,7,6,5,2,4,3]⟩,⟨some 5,om 53,none,[12,0,11,1,10,9,8,7,6,5,2,4,3]⟩]
abbrev eY:List Nat:=[]
abbrev kY(g:String->Nat):ACode:=qS [qb 33 .lss 32 31]<|.seq (qC 33 (.skip) (.exit 0))<|.seq (.block 1 (qS [qi 34 30 32 1,ql 35 1 34,qm 8 35]<|qS [qm 36 1,qm 37 8,qc 38 (g "strings.Count") [u 36,u 37],qm 9 38]<|qS [qm 39 9,qbi 40 .neq 39 0]<|qC 40 (.seq (.region true (kX g))<|.region false [qmc 6 (.bool true)]) (.skip)))<|.region false [qbi 54 .add 32 1,qm 32 54]
abbrev kZ:List Nat:=[33,34,35,8,36,37,38,9,39,40,41,42,43,44,45,46,47,48,49,50,51,52,53,5,6,54,32]
abbrev lA(g:String->Nat):ACode:=.seq (qS [qm 55 10,qm 56 1,qq 57 (.lenS (u 56)),qb 58 .lss 55 57]<|qC 58 (.skip) (.exit 2))<|.seq (.block 3 (qS [qm 61 1,qm 62 10,qq 63 (.ixS (u 61) (u 62)),qm 11 63]<|qS [qm 64 0,qm 65 11,qq 66 (.nilck (u 64)),qf 67 0 66,qq 68 (.iaA 256 1 (u 67) (u 65)),ql 69 1 68,qq 70 (.isnil true (u 69))]<|qC 70 (qS [qm 71 5,qm 72 0,qm 73 11,qq 74 (.nilck (u 72)),qf 75 0 74,qq 76 (.iaA 256 1 (u 75) (u 73)),ql 77 1 76,qn 78 77,qbi 79 .sub 78 1,qb 80 .add 71 79,qm 5 80]<|.region false [qmc 6 (.bool true)]) (.skip)))<|.region false [qm 59 10,qbi 60 .add 59 1,qm 10 60]
abbrev lB:List Nat:=[55,56,57,58,61,62,63,11,64,65,66,67,68,69,70,71,72,73,74,75,76,77,78,79,80,5,6,59,60,10]
abbrev lC(g:String->Nat):List AOper:=[qm 102 13,qm 103 12,qm 104 13,⟨some 105,.view 1 (u 103) (some (.tmp 104)),none,[1,2]⟩,qm 106 0,qm 107 15,⟨some 108,.nilck (u 106),none,[4]⟩,⟨some 109,of 0 108,none,[6,4]⟩,⟨some 110,.iaA 256 1 (u 109) (u 107),none,[7,6,4,5]⟩,⟨some 111,ol 1 110,none,[8,7,6,4,5]⟩,⟨some 112,.cpy 1 (u 105) (u 111),none,[3,1,2,9,8,7,6,4,5]⟩,⟨some 113,ob .add 102 112,none,[0,10,3,1,2,9,8,7,6,4,5]⟩,⟨some 13,om 113,none,[11,0,10,3,1,2,9,8,7,6,4,5]⟩]
abbrev eZ:List Nat:=[]
abbrev lD(g:String->Nat):ACode:=.seq (qS [qm 86 14,qm 87 1,qq 88 (.lenS (u 87)),qb 89 .lss 86 88]<|qC 89 (.skip) (.exit 4))<|.seq (.block 5 (qS [qm 92 1,qm 93 14,qq 94 (.ixS (u 92) (u 93)),qm 15 94]<|qS [qm 95 0,qm 96 15,qq 97 (.nilck (u 95)),qf 98 0 97,qq 99 (.iaA 256 1 (u 98) (u 96)),ql 100 1 99,qq 101 (.isnil true (u 100))]<|qC 101 (.region true (lC g)) (qS [qm 114 12,qm 115 13,qm 116 15,qi 117 114 115 1,qs 1 117 116]<|.region false [qm 118 13,qbi 119 .add 118 1,qm 13 119])))<|.region false [qm 90 14,qbi 91 .add 90 1,qm 14 91]
abbrev lE:List Nat:=[86,87,88,89,92,93,94,15,95,96,97,98,99,100,101,102,103,104,105,106,107,108,109,110,111,112,113,13,114,115,116,117,118,119,13,90,91,14]
def bX(g:String->Nat):AFn:=⟨122,[85],[.tmp 4],qS [qmc 4 (.str [])]<|qS [qm 16 1,qq 17 (.lenS (u 16)),qm 5 17]<|qS [qmc 6 (.bool false)]<|.seq (qS [qm 18 0,qq 19 (.nilck (u 18)),qf 20 256 19,ql 21 1 20,qn 22 21,qbi 23 .mul 22 8,qm 24 1,qq 25 (.lenS (u 24)),qb 26 .leq 23 25]<|qC 26 (qS [qm 27 0,qq 28 (.nilck (u 27)),qf 29 256 28,ql 30 1 29,qn 31 30,qmc 32 (.int .i64 0)]<|.block 0 (.loop (kY g))) (qS [qmc 10 (.int .i64 0)]<|.block 2 (.loop (lA g))))<|.seq (qS [qm 81 6,qq 82 (.un .not (u 81))]<|qC 82 (qS [qm 83 1,qm 4 83]<|.ret) (.skip))<|qS [qm 84 5,qq 85 (.mks 1 1 [(.int .u8 0)] (u 84) (u 84)),qm 12 85]<|qS [qmc 13 (.int .i64 0)]<|.seq (qS [qmc 14 (.int .i64 0)]<|.block 4 (.loop (lD g)))<|qS [qm 120 12,qq 121 (.conv .b2s (u 120)),qm 4 121]<|.ret⟩
theorem aCr{f:UInt8->Option Str}{c:UInt8}{t:Str}(h:f c=some t):aCo f c.toNat=.sl false (aG t):=by
 unfold aCo;rw[show UInt8.ofNat c.toNat=c by simp,h]
theorem aG2{f:UInt8->Option Str}{c:UInt8}(h:f c=none):aCo f c.toNat=.nilSl:=by
 unfold aCo;rw[show UInt8.ofNat c.toNat=c by simp,h]
theorem qV(t:Str):(aG t).length=t.length:=List.length_map ..
theorem xS(c:UInt8)(t:Str):aG (c::t)=[.int .u8 ((c.toNat:Nat):Int)]::aG t:=rfl
section
variable {A:AProg}{g:String->Nat}
set_option maxHeartbeats 1600000 in
theorem aKh(h:Has A g "(*strings.byteStringReplacer).Replace" (bX g))(hg:g "(*strings.byteStringReplacer).Replace" = 355)(hc:A.prim (g "strings.Count")=some aC9)
  (ps:List (UInt8×Str)) (h0:2<=ps.length) (h1:ps.length<=1000) (hd:(ps.map Prod.fst).Nodup) (hp:∀p∈ps,2<=p.2.length/\p.2.length<=1000):aJk A 355 ps:=by
 intro H b k s hb hk hs;rw[<- hg];have hlb:=getElem?_lt hb;have hlk:=getElem?_lt hk;have gb:∀L,(H++L)[b]? = some (.box 1 (bsr (fW ps) (.sr k 1 ps.length))):=fun L=>by rw[List.getElem?_append_left hlb];exact hb
 have gk:∀L,(H++L)[k]? = some (.vec 1 1 (ps.reverse.map fun p=>[.str [p.1]])):=fun L=>by rw[List.getElem?_append_left hlk];exact hk
 have hcount:∀(c:UInt8) (H:List AObj),aL A (g "strings.Count") [.str s,.str [c]] H=some (vi (s.count c:Nat),H,[]):=fun c H=>gU (by rw[hc];rfl)
 have htM:∀c t,fW ps c=some t->2<=t.length/\t.length<=1000:=fun c t e=>hp _ (aBD e);have hEL:∀u:Str,(mZ (fW ps) u).length<=1000*u.length:=aBC (fun c t e=>(htM c t e).2) (by omega)
 have hrevlen:((ps.reverse.map fun p=>[AV.str [p.1]])).length=ps.length:=by simp
 have hw8:IntKind.i64.wrap ((ps.length:Int)*8)=(ps.length:Int)*8:=wrap_i64 (by omega) (by omega)
 refine h.call (by simp[bX]) (by kernel_rfl) ?_
 simp only[bX];simp only[go_sem,↓aC,seval,gb,oX,aGO,hw8];refine aAP (W:=[27,28,29,30,31,32,33,34,35,8,36,37,38,9,39,40,41,42,43,44,45,46,47,48,49,50,51,52,53,5,6,54,32,10,55,56,57,58,61,62,63,11,64,65,66,67,68,69,70,71,72,73,74,75,76,77,78,79,80,5,6,59,60,10])
  (fun ρ' H' wr'=>wr'=[]/\H'=H++[.gone 0]/\ρ' 5=vi ((mZ (fW ps) s).length:Nat)/\ρ' 6=.bool (s.any fun c=>(fW ps c).isSome)) (by rfl) (fun hb1 => ?_) (fun hb1 => ?_) ?_
 ·let qs:=ps.reverse
  have hqn:(qs.map Prod.fst).Nodup:=by
   show (ps.reverse.map Prod.fst).Nodup
   rw[List.map_reverse];exact (List.reverse_perm _).nodup_iff.2 hd
  have hql:qs.length=ps.length:=List.length_reverse;have hqk:∀i (hi:i<ps.length),qs[i]'(by omega)∈ps:=fun i hi=>List.mem_reverse.1 (List.getElem_mem (by omega:i<qs.length))
  have hqt:∀c,fW qs c=fW ps c:=fun c=>aKf hd;have hqM:∀i u,(mZ (fW (qs.take i)) u).length<=1000*u.length:=fun i u=>aBC (fun c t e=>(hp _ (List.mem_reverse.1 (List.mem_of_mem_take (aBD e)))).2) (by omega) u
  simp only[go_sem,↓aC,seval,gb,oX,aGO];refine bZ (id:=0) (W:=kZ) (fun i ρ1 H1 wr=>wr=[]/\H1=H++[.gone 0]/\ρ1 32=vi ((i:Nat):Int)/\ρ1 5=vi ((mZ (fW (qs.take i)) s).length:Nat)/\ρ1 6=.bool (s.any fun c=>(fW (qs.take i) c).isSome)) ps.length
   (fun ρ1 H1 wr=>wr=[]/\H1=H++[.gone 0]/\ρ1 5=vi ((mZ (fW ps) s).length:Nat)/\ρ1 6=.bool (s.any fun c=>(fW ps c).isSome))
   (by kernel_rfl) (by rfl) ⟨rfl,rfl,rfl,by rw[List.take_zero,aEC (f:=fW []) fun c _=>rfl];rfl,by
    rw[List.take_zero,show (s.any fun c=>(fW [] c).isSome)=false from by rw[List.any_eq_false];intro c _;simp[fW]];rfl⟩ ?_ ?_
  ·rintro i ρ1 H1 wr1 hil ⟨rfl,rfl,e32,e5,e6⟩ hf;have e30:ρ1 30=.sr k 1 ps.length:=by rw[hf 30 (by rfl)];rfl
   have e31:ρ1 31=vi (ps.length:Nat):=by rw[hf 31 (by rfl)];rfl
   have e1:ρ1 1=.str s:=by rw[hf 1 (by rfl)];rfl
   have e0:ρ1 0=.ptr b 1 0:=by rw[hf 0 (by rfl)];rfl
   simp only[go_sem,↓aC,seval,e32,e31];refine aD (fun hb => ?_) (fun hb => ?_)
   ·have hlt:i<ps.length:=by simp at hb;omega
    have hlq:i<qs.length:=by omega
    obtain⟨m1,m2⟩:=hp _ (hqk i hlt);have hni:qs[i].1∉(qs.take i).map Prod.fst:=by
     have:=hqn;rw[<- List.take_append_drop (i+1) qs,jA hlq,List.map_append,List.map_append]at this;have h2:=(List.nodup_append.1 (List.nodup_append.1 this).1).2.2;intro hm;exact h2 _ hm _ (by simp) rfl
    have hrow:((ps.reverse.map fun p=>[AV.str [p.1]]))[i]? = some [.str [qs[i].1]]:=by
     rw[List.getElem?_map,List.getElem?_eq_getElem (by simpa using hlt)];rfl
    have hn0:(0:Int)<=(i:Int):=by omega
    have hn1:(i:Int)<(ps.length:Int):=by omega
    have hto:((i:Int)).toNat=i:=by omega
    have hw1:IntKind.i64.wrap ((i:Int)+1)=((i+1:Nat):Int):=by rw[wrap_i64 (by omega) (by omega)];omega
    have hesc:=aIg hni s;have hany:=aKg hni s;rw[<- jA hlq]at hesc hany;have hM1:=hqM (i+1) s;have hM0:=hqM i s;have hcn:s.count qs[i].1<=s.length:=List.count_le_length;have hcell:aCo (fW ps) qs[i].1.toNat=.sl false (aG qs[i].2):=aCr (by
     rw[<- hqt];have:fW (qs.take (i+1)) qs[i].1=some qs[i].2:=by rw[jA hlq,uV hni,if_pos rfl]
     have:=aIf (r:=qs.drop (i+1)) this
     rwa [List.take_append_drop]at this)
    generalize qs[i]=q at *;obtain⟨c,t⟩:=q;dsimp only at hesc hany hcn m1 m2 hni hrow hcell;have hc0:(0:Int)<=((c.toNat:Nat):Int):=by omega
    have hc1:((c.toNat:Nat):Int)<256:=by have:=UInt8.toNat_lt c;omega
    have hct:(((c.toNat:Nat):Int)).toNat=c.toNat:=by omega
    have hc2:c.toNat+1<=257:=by have:=UInt8.toNat_lt c;omega
    simp only[go_sem,↓aC,seval,e32,e30,e1,hn0,hn1,hto,gk,hrevlen,hrow,hcount];refine aD (fun hb2 => ?_) (fun hb2 => ?_)
    ·have hne:s.count c≠0:=by simpa using hb2
     have hcc:(s.count c:Int)*((t.length:Int) - 1)<=1000000:=by
      have a1:(s.count c:Int)*((t.length:Int) - 1)=((mZ (fW (qs.take (i+1))) s).length:Int) - (mZ (fW (qs.take i)) s).length:=by
       rw[hesc];omega
      rw[a1];omega
     have hcc0:0<=(s.count c:Int)*((t.length:Int) - 1):=Int.mul_nonneg (by omega) (by omega)
     have hw2:IntKind.i64.wrap ((t.length:Int) - 1)=(t.length:Int) - 1:=wrap_i64 (by omega) (by omega)
     have hw3:IntKind.i64.wrap ((s.count c:Int)*((t.length:Int) - 1))=(s.count c:Int)*((t.length:Int) - 1):=wrap_i64 (by omega) (by omega)
     have hw4:IntKind.i64.wrap (((mZ (fW (qs.take i)) s).length:Int)+(s.count c:Int)*((t.length:Int) - 1))=((mZ (fW (qs.take (i+1))) s).length:Int):=by
      rw[<- hesc];exact wrap_i64 (by omega) (by omega)
     simp only[go_sem,seval];refine bN (keep:=eY) (H0:=_) (by simp only[go_sem,seval,cI];rfl) (by rfl) ?_
     simp only[go_sem,↓aC,seval,eY,e32,e5,e0,gb,oX,aEw,hc0,hc1,hct,hc2,hcell,qV,hw1,hw2,hw3,hw4,List.getElem?_cons_zero,Nat.zero_add,Nat.mul_one];exact⟨hlt,by rw[hany];simp[hne]⟩
    ·have hne:s.count c=0:=by simpa using hb2
     rw[hne]at hesc hany;simp only[go_sem,↓aC,seval,e32,e5,e6,hw1];refine⟨hlt, ?_,by rw[hany];simp⟩
     rw[hesc];simp
   ·have hi:i=ps.length:=by simp at hb;omega
    subst hi;simp only[go_sem,seval];rw[e5,e6,show qs.take ps.length=qs from List.take_of_length_le (by omega),show fW qs=fW ps from funext hqt]
    exact⟨rfl,rfl⟩
  ·rintro ρ' H' wr' ⟨rfl,rfl,e5,e6⟩ hf;simp only[go_sem,seval,e5,e6]
 ·simp only[go_sem,↓aC,seval];refine bZ (id:=2) (W:=lB) (fun i ρ1 H1 wr=>wr=[]/\H1=H++[.gone 0]/\ρ1 10=vi ((i:Nat):Int)/\ρ1 5=vi (((s.length:Nat):Int)+((mZ (fW ps) (s.take i)).length:Nat) - (i:Nat))/\ρ1 6=.bool ((s.take i).any fun c=>(fW ps c).isSome)) s.length
   (fun ρ1 H1 wr=>wr=[]/\H1=H++[.gone 0]/\ρ1 5=vi ((mZ (fW ps) s).length:Nat)/\ρ1 6=.bool (s.any fun c=>(fW ps c).isSome))
   (by kernel_rfl) (by rfl) ⟨rfl,rfl,rfl,by
    rw[List.take_zero,aOX]
    show vi ((s.length:Nat):Int)=_
    congr 1,rfl⟩ ?_ ?_
  ·rintro i ρ1 H1 wr1 hil ⟨rfl,rfl,e10,e5,e6⟩ hf;have e1:ρ1 1=.str s:=by rw[hf 1 (by rfl)];rfl
   have e0:ρ1 0=.ptr b 1 0:=by rw[hf 0 (by rfl)];rfl
   simp only[go_sem,↓aC,seval,e10,e1];refine aD (fun hb => ?_) (fun hb => ?_)
   ·have hlt:i<s.length:=by simp at hb;omega
    have hn0:(0:Int)<=(i:Int):=by omega
    have hn1:(i:Int)<(s.length:Int):=by omega
    have hto:((i:Int)).toNat=i:=by omega
    have hw1:IntKind.i64.wrap ((i:Int)+1)=((i+1:Nat):Int):=by rw[wrap_i64 (by omega) (by omega)];omega
    have hget:s[i]? = some s[i]:=List.getElem?_eq_getElem hlt;have hL:=hEL (s.take i);rw[List.length_take]at hL;have hesc:mZ (fW ps) (s.take (i+1))=mZ (fW ps) (s.take i)++mZ (fW ps) [s[i]]:=by rw[jA hlt,wA]
    have hany:((s.take (i+1)).any fun c=>(fW ps c).isSome)=(((s.take i).any fun c=>(fW ps c).isSome) || (fW ps s[i]).isSome):=by
     rw[jA hlt,List.any_append];simp
    generalize s[i]=c at *;have hc0:(0:Int)<=((c.toNat:Nat):Int):=by omega
    have hc1:((c.toNat:Nat):Int)<256:=by have:=UInt8.toNat_lt c;omega
    have hct:(((c.toNat:Nat):Int)).toNat=c.toNat:=by omega
    have hc2:c.toNat+1<=257:=by have:=UInt8.toNat_lt c;omega
    cases e:fW ps c with
    |none=>
     rw[e]at hany;rw[aCq e]at hesc;have hcell:=aG2 e;simp only[go_sem,↓aC,seval,e10,e1,e0,hn0,hto,hget,gb,oX,aEw,hc0,hc1,hct,hc2,hcell,Nat.zero_add,Nat.mul_one,hw1,e5,e6];refine⟨hlt, ?_,by rw[hany];simp⟩
     rw[hesc,List.length_append];congr 1;simp;omega
    |some t=>
     rw[e]at hany;rw[aDz e]at hesc;have hcell:=aCr e;obtain⟨m1,m2⟩:=htM c t e;obtain⟨x,r,rfl⟩:=List.exists_cons_of_ne_nil (show t≠[] from fun e=>by rw[e]at m1;simp at m1)
     rw[xS]at hcell;have hw2:IntKind.i64.wrap ((((r.length+1:Nat)):Int) - 1)=(r.length:Int):=by
      simp at m2;rw[wrap_i64 (by omega) (by omega)];omega
     have hw3:IntKind.i64.wrap (((s.length:Nat):Int)+((mZ (fW ps) (s.take i)).length:Nat) - (i:Nat)+(r.length:Int))=((s.length:Nat):Int)+((mZ (fW ps) (s.take (i+1))).length:Nat) - ((i+1:Nat):Nat):=by
      rw[hesc,List.length_append,List.length_cons];simp at m2;rw[wrap_i64 (by omega) (by omega)];omega
     simp only[go_sem,↓aC,seval,e10,e1,e0,hn0,hto,hget,gb,oX,aEw,hc0,hc1,hct,hc2,hcell,Nat.zero_add,Nat.mul_one,hw1,e5,List.length_cons,qV,hw2,hw3];exact⟨hlt,by rw[hany];simp⟩
   ·have hi:i=s.length:=by simp at hb;omega
    subst hi;simp only[go_sem,seval];rw[e5,e6,List.take_length];refine⟨?_,rfl⟩;congr 1;omega
  ·rintro ρ' H' wr' ⟨rfl,rfl,e5,e6⟩ hf;simp only[go_sem,seval,e5,e6]
 ·rintro ρ' H' wr' ⟨rfl,rfl,e5,e6⟩ hf;have e1:ρ' 1=.str s:=by rw[hf 1 (by rfl)];rfl
  have e0:ρ' 0=.ptr b 1 0:=by rw[hf 0 (by rfl)];rfl
  cases ea:s.any fun c=>(fW ps c).isSome with
  |false=>
   have hs:mZ (fW ps) s=s:=aEC fun c hm=>by
    rw[List.any_eq_false]at ea;simpa using ea c hm
   rw[ea]at e6;simp only[go_sem,↓aC,seval,e6,e1,hs]
  |true=>
   rw[ea]at e6;generalize hN:(mZ (fW ps) s).length=N at *;have hNb:N<=1000000:=by have:=hEL s;omega
   have hrm:bP N 1=true:=by unfold bP;simp;omega
   have hN0:(0:Int)<=(N:Int):=by omega
   have hNt:((N:Nat):Int).toNat=N:=by omega
   simp only[go_sem,↓aC,seval,e6,e5,hN0,hNt,hrm];refine bZ (id:=4) (W:=lE) (fun i ρ1 H1 wr=>wr=[]/\H1=H++[.vec 1 1 (rb (mZ (fW ps) (s.take i))++List.replicate (N - (mZ (fW ps) (s.take i)).length) [.int .u8 0])]/\ρ1 14=vi ((i:Nat):Int)/\ρ1 13=vi ((mZ (fW ps) (s.take i)).length:Nat)) s.length
    (fun ρ1 H1 wr=>wr=[]/\H1=H++[.vec 1 1 (rb (mZ (fW ps) s))])
    (by kernel_rfl) (by rfl) ⟨rfl,rfl,rfl,rfl⟩ ?_ ?_
   ·rintro i ρ1 H1 wr1 hil ⟨rfl,rfl,e14,e13⟩ hf2;have f1:ρ1 1=.str s:=by rw[hf2 1 (by rfl)];exact e1
    have f0:ρ1 0=.ptr b 1 0:=by rw[hf2 0 (by rfl)];exact e0
    have f12:ρ1 12=.sr H.length 1 N:=by rw[hf2 12 (by rfl)];rfl
    simp only[go_sem,↓aC,seval,e14,f1];refine aD (fun hb => ?_) (fun hb => ?_)
    ·have hlt:i<s.length:=by simp at hb;omega
     have hn0:(0:Int)<=(i:Int):=by omega
     have hn1:(i:Int)<(s.length:Int):=by omega
     have hto:((i:Int)).toNat=i:=by omega
     have hw1:IntKind.i64.wrap ((i:Int)+1)=((i+1:Nat):Int):=by rw[wrap_i64 (by omega) (by omega)];omega
     have hget:s[i]? = some s[i]:=List.getElem?_eq_getElem hlt;have hesc:mZ (fW ps) (s.take (i+1))=mZ (fW ps) (s.take i)++mZ (fW ps) [s[i]]:=by rw[jA hlt,wA]
     have htot:(mZ (fW ps) (s.take (i+1))).length<=N:=by
      rw[<- hN];have:=congrArg List.length (wA (f:=fW ps) (s.take (i+1)) (s.drop (i+1)));rw[List.take_append_drop,List.length_append]at this;omega
     generalize s[i]=c at *;have hc0:(0:Int)<=((c.toNat:Nat):Int):=by omega
     have hc1:((c.toNat:Nat):Int)<256:=by have:=UInt8.toNat_lt c;omega
     have hct:(((c.toNat:Nat):Int)).toNat=c.toNat:=by omega
     have hc2:c.toNat+1<=257:=by have:=UInt8.toNat_lt c;omega
     generalize hu:mZ (fW ps) (s.take i)=u at *;have hmk:∀L:List AObj,(H++.vec 1 1 (rb u++List.replicate (N - u.length) [.int .u8 0])::L)[H.length]? = some (.vec 1 1 (rb u++List.replicate (N - u.length) [.int .u8 0])):=fun L=>by
      rw[List.getElem?_append_right (Nat.le_refl _),Nat.sub_self];rfl
     have hlenR:u.length<=N->u.length+(List.replicate (N - u.length) [AV.int .u8 0]).length=N:=fun h=>by rw[List.length_replicate];omega
     have hbd:u.length<=N->kS 0 N (some (vi u.length))=some u.length:=fun h=>by
      unfold kS vi;dsimp only;rw[if_pos ⟨by omega,by omega⟩];rfl
     cases e:fW ps c with
     |none=>
      rw[aCq e]at hesc;have hcell:=aG2 e;rw[hesc,List.length_append,List.length_cons,List.length_nil]at htot;have hu0:(0:Int)<=(u.length:Int):=by omega
      have htot':u.length<=N:=by omega
      have hgz:(rb u++List.replicate (N - u.length) [AV.int .u8 0])[u.length]? = some [.int .u8 0]:=by
       rw[List.getElem?_append_right (by rw[jJ];exact Nat.le_refl _),jJ,Nat.sub_self,List.getElem?_replicate,if_pos (by omega)]
      have hset:(rb u++List.replicate (N - u.length) [AV.int .u8 0]).set u.length [AV.int .u8 (c.toNat:Nat)]=rb (u++[c])++List.replicate (N - (u.length+1)) [.int .u8 0]:=by
       rw[List.set_append_right _ _ (by rw[jJ];exact Nat.le_refl _),jJ,Nat.sub_self,uS,List.append_assoc]
       rw[show N - u.length=(N - (u.length+1))+1 by omega]
       rfl
      have hw5:IntKind.i64.wrap ((u.length:Int)+1)=((u.length+1:Nat):Int):=by rw[wrap_i64 (by omega) (by omega)];omega
      have hu1:(u.length:Int)<(N:Int):=by omega
      have hut:((u.length:Int)).toNat=u.length:=by omega
      simp only[go_sem,↓aC,seval,e14,f1,f0,hn0,hto,hget,gb,oX,aEw,hc0,hc1,hct,hc2,hcell,Nat.zero_add,Nat.mul_one,hw1,f12,e13,hu0,hu1,hut,hw5,hlenR htot',hgz,List.length_cons,List.length_nil];refine⟨hlt, ?_⟩;rw[hesc,List.length_append,hset];exact⟨rfl,rfl⟩
     |some t=>
      rw[aDz e]at hesc;have hcell:=aCr e;obtain⟨m1,m2⟩:=htM c t e;rw[hesc,List.length_append]at htot;have htot':u.length<=N:=by omega
      obtain⟨x,r,rfl⟩:=List.exists_cons_of_ne_nil (show t≠[] from fun e=>by rw[e]at m1;simp at m1)
      rw[xS]at hcell;rw[List.length_cons]at htot m2;have hle:u.length+(r.length+1)<=N:=htot;have hlenH:∀a b:AObj,(H++[a]).length=(H++[b]).length:=fun a b=>by simp
      have hw5:IntKind.i64.wrap ((u.length:Int)+((r.length+1:Nat):Int))=((u.length+(r.length+1):Nat):Int):=by rw[wrap_i64 (by omega) (by omega)];omega
      have hcpy:List.take u.length (rb u++List.replicate (N - u.length) [AV.int .u8 0])++[AV.int .u8 (x.toNat:Nat)]::aG r++List.drop (u.length+(r.length+1)) (rb u++List.replicate (N - u.length) [AV.int .u8 0])=rb (u++x::r)++List.replicate (N - (u.length+(r.length+1))) [.int .u8 0]:=by
       rw[List.take_append_of_le_length (by rw[jJ];exact Nat.le_refl _),List.take_of_length_le (by rw[jJ];exact Nat.le_refl _),List.drop_append,jJ,List.drop_eq_nil_of_le (by rw[jJ];omega),List.nil_append,List.drop_replicate,uS]
       rw[show N - u.length - (u.length+(r.length+1) - u.length)=N - (u.length+(r.length+1))by omega]
       rfl
      simp only[go_sem,↓aC,seval,e14,f1,f0,hn0,hto,hget,gb,oX,aEw,hc0,hc1,hct,hc2,hcell,Nat.zero_add,Nat.mul_one];refine bN (keep:=eZ) (H0:=_) (by simp only[go_sem,seval,cI];rfl) (by rfl) ?_
      simp only[go_sem,↓aC,seval,eZ,e14,f0,gb,oX,aEw,hc0,hc1,hct,hc2,hcell,Nat.zero_add,Nat.mul_one,f12,e13,hlenR htot',hbd htot',qV,hle,hw5,hw1];refine⟨hlt, ?_⟩;rw[hesc,List.length_append,List.length_cons,hcpy];exact⟨rfl,rfl⟩
    ·have hi:i=s.length:=by simp at hb;omega
     subst hi;simp only[go_sem,seval];rw[hN,Nat.sub_self];simp
   ·rintro ρ2 H2 wr2 ⟨rfl,rfl⟩ hf2;have f12:ρ2 12=.sr H.length 1 N:=by rw[hf2 12 (by rfl)];rfl
    have hconv:pG (H++[.vec 1 1 (rb (mZ (fW ps) s))]) .b2s (.sr H.length 1 N)=some (.str (mZ (fW ps) s)):=by
     unfold pG eH;dsimp only;rw[List.getElem?_append_right (Nat.le_refl _),Nat.sub_self]
     show (match (if 1=1/\(rb (mZ (fW ps) s)).length=N then some (rb (mZ (fW ps) s))else none)with
      |some rows=>(cF rows).map AV.str
      |none=>none)=_
     rw[if_pos ⟨rfl,by rw[jJ,hN]⟩]
     show (cF (rb _)).map AV.str=_
     rw[nV];rfl
    simp only[go_sem,↓aC,seval,f12,hconv]
end
section
variable {H X:List AObj}{ty o v o2 v2 i:Nat}{T:Str}{x:AObj}
theorem aPS(c:PCtx H.length o o2):(PSt X ty o v o2 v2 T)[H.length+i]? = X[H.length+i]? := by
 unfold PSt;rw[List.getElem?_set_ne (by have:=c.lo2;omega),List.getElem?_set_ne (by have:=c.lo;omega)]
theorem aAQ(c:PCtx H.length o o2):(PSt X ty o v o2 v2 T)[H.length]? = X[H.length]? := aPS (i:=0) c
theorem aJl(c:PCtx H.length o o2):(PSt X ty o v o2 v2 T).set (H.length+i) x=PSt (X.set (H.length+i) x) ty o v o2 v2 T:=by
 unfold PSt;have h1:=c.lo;have h2:=c.lo2;rw[List.set_comm (i:=o2) _ _ (by omega),List.set_comm (i:=o) _ _ (by omega)]
theorem aGS(c:PCtx H.length o o2):(PSt X ty o v o2 v2 T).set H.length x=PSt (X.set H.length x) ty o v o2 v2 T:=aJl (i:=0) c
end
def aLB(A:AProg)(f:Nat)(args:List AV)(M:Nat):Prop:=∀(H:List AObj) (ty o v o2 v2:Nat) (T:Str),PCtx H.length o o2->T≠[]->T.length+M<=100000000 ->
 ∃T' wr,T'≠[]/\T'.length<=T.length+M/\aL A f (.ptr o v 0::args) (PSt H ty o v o2 v2 T)=some (.tup [],PSt H ty o v o2 v2 T',wr)/\Wr2 o o2 wr
theorem aLB.mono{A:AProg}{f:Nat}{args:List AV}{M M':Nat}(h:aLB A f args M)(hm:M<=M'):aLB A f args M':=by
 intro H ty o v o2 v2 T c hT hb;obtain⟨T',wr,h1,h2,h3⟩:=h H ty o v o2 v2 T c hT (by omega)
 exact⟨T',wr,h1,by omega,h3⟩
def aXa(H:List AObj)(ty o v o2 v2 N:Nat)(e:AExit)(ρ:bH)(H1:List AObj)(wr:List Nat):Prop:=
 e=.normal/\∃L T',T'≠[]/\T'.length<=N/\H1=PSt (H++L) ty o v o2 v2 T'/\Wr2 o o2 wr
theorem Has.prt{A:AProg}{g:String->Nat}{name:String}{fn:AFn}(h:Has A g name fn){args:List AV}{M:Nat}(hres:fn.results=[])(hN:args.length+1<=fn.ntmps)(hok:∀n,cZ fn.ntmps ⟨n,fn.sites⟩ fn.body=true)
  (hw:∀(H:List AObj) (ty o v o2 v2:Nat) (T:Str),PCtx H.length o o2->T≠[]->T.length+M<=100000000 ->
   wc A fn.ntmps ⟨H.length,fn.sites⟩ fn.body (pE (.ptr o v 0::args)) (PSt (H++List.replicate fn.sites.length (.gone 0)) ty o v o2 v2 T) [] (aXa H ty o v o2 v2 (T.length+M)) ⟨⟩):aLB A (g name) args M:=by
 intro H ty o v o2 v2 T c hT hb;have hl:=mS (H:=H) (ty:=ty) (o:=o) (v:=v) (o2:=o2) (v2:=v2) (T:=T);obtain⟨r,H',wr,h1,h2,T',h3,h4,h5,h6⟩:=h.callEx (args:=.ptr o v 0::args) (H:=PSt H ty o v o2 v2 T) (K:=fun r H' wr=>r=.tup []/\∃T',T'≠[]/\T'.length<=T.length+M/\H'=PSt H ty o v o2 v2 T'/\Wr2 o o2 wr) (by simpa using hN) (hok _) (by
  rw[aCn c,hl,hres];refine gR (fun e ρ H1 wr hh hf => ?_) (hw H ty o v o2 v2 T c hT hb);obtain⟨rfl,L,T',h1,h2,rfl,h3⟩:=hh;simp only[go_sem,↓aC,seval];rw[aJi c rfl h3];exact⟨rfl,T',h1,h2,rfl,h3⟩)
 subst h2 h5;exact⟨T',wr,h3,h4,h1,h6⟩
theorem cJ{A:AProg}{f:Nat}{args:List AV}{M:Nat}(hp:aLB A f args M){X:List AObj}{ty o v o2 v2:Nat}{T:Str}{H2:List AObj}{site:Option Nat}{q:Bool}{k:AV×List AObj×List Nat->Prop}{tg}
  (c:PCtx X.length o o2) (hT:T≠[]) (hb:T.length+M<=100000000)
  (hk:∀T' wr,T'≠[]->T'.length<=T.length+M->Wr2 o o2 wr->bnd (eD site q H2 (some (.tup [],PSt X ty o v o2 v2 T',wr))) k):
  aCe (eD site q H2 (aL A f (.ptr o v 0::args) (PSt X ty o v o2 v2 T))) k tg:=by
 obtain⟨T',wr,h1,h2,h3,h4⟩:=hp X ty o v o2 v2 T c hT hb;rw[h3];exact hk T' wr h1 h2 h4
section
variable {A:AProg}{g:String->Nat}
def fN(g:String->Nat):AFn:=⟨18,[],[],.seq (qS [qm 4 0,qq 5 (.nilck (u 4)),qf 6 0 5,qc 7 (g "(*strings.Builder).Len") [u 6],qbi 8 .gtr 7 0]<|qC 8 (qR [qm 9 0,qq 10 (.nilck (u 9)),qf 11 0 10,qc 12 (g "(*strings.Builder).WriteByte") [u 11,uc (.int .u8 10)]]) (.skip))<|.region false [qm 13 0,qq 14 (.nilck (u 13)),qf 15 0 14,qm 16 1,qc 17 (g "(*strings.Builder).WriteString") [u 15,u 16]]⟩
def mA(g:String->Nat):AFn:=⟨10,[],[],.region false [qm 4 0,qq 5 (.nilck (u 4)),qf 6 0 5,qm 7 1,qq 8 (.bin .add .no (uc (.str [32])) (u 7)),qc 9 (g "(*strings.Builder).WriteString") [u 6,u 8]]⟩
abbrev tC(g:String->Nat):ACode:=qS [qb 9 .lss 8 7]<|.seq (qC 9 (.skip) (.exit 0))<|.seq (.block 1 (qS [qi 10 6 8 1,ql 11 1 10,qm 5 11]<|.region false [qm 12 0,qm 13 5,qc 14 (g "strconv.Itoa") [u 13],qc 15 (g "(*dactyl/syntax.printer).word") [u 12,u 14]]))<|.region false [qbi 16 .add 8 1,qm 8 16]
abbrev tD:List Nat:=[9,10,11,5,12,13,14,15,16,8]
def jF(g:String->Nat):AFn:=⟨17,[],[],qS [qm 6 1,qn 7 6,qmc 8 (.int .i64 0)]<|.block 0 (.loop (tC g))⟩
def mB(g:String->Nat):AFn:=⟨12,[],[],.region false [qm 4 0,qq 5 (.bsl 1 [(.str [])] 4 [(0,(.const (.str [92]))),(1,(.const (.str [92,92]))),(2,(.const (.str [34]))),(3,(.const (.str [92,34])))]),qc 6 (g "strings.NewReplacer") [u 5],qm 7 1,qc 8 (g "(*strings.Replacer).Replace") [u 6,u 7],qq 9 (.bin .add .no (uc (.str [34])) (u 8)),qq 10 (.bin .add .no (u 9) (uc (.str [34]))),qc 11 (g "(*dactyl/syntax.printer).word") [u 4,u 10]]⟩
abbrev xU(g:String->Nat):ACode:=qS [qb 9 .lss 8 7]<|.seq (qC 9 (.skip) (.exit 0))<|.seq (.block 1 (qS [qi 10 6 8 2,qla 11 2 10,qq 5 (.alloc [(.int .i64 0),(.str [])]),qs 2 5 11]<|qS [qm 12 0,qc 13 (g "(*dactyl/syntax.printer).line") [u 12,uc (.str [114,117,110])]]<|qS [qm 14 0,qf 15 0 5,ql 16 1 15,qq 17 (.bsl 1 [(.int .i64 0)] 1 [(0,(.tmp 16))]),qc 18 (g "(*dactyl/syntax.printer).numbers") [u 14,u 17]]<|.region false [qm 19 0,qf 20 1 5,ql 21 1 20,qc 22 (g "(*dactyl/syntax.printer).text") [u 19,u 21]]))<|.region false [qbi 23 .add 8 1,qm 8 23]
abbrev xV:List Nat:=[9,10,11,5,12,13,14,15,16,17,18,19,20,21,22,23,8]
def iE(g:String->Nat):AFn:=⟨24,[5],[],qS [qm 6 1,qn 7 6,qmc 8 (.int .i64 0)]<|.block 0 (.loop (xU g))⟩
structure OutFns(A:AProg)(g:String->Nat)(tB tP:Nat):Prop where
 ws:Has A g "(*strings.Builder).WriteString" (bM g)
 wb:Has A g "(*strings.Builder).WriteByte" (eJ g)
 len:Has A g "(*strings.Builder).Len" (eG g)
 cc:A.prim (g "(*strings.Builder).copyCheck")=some (eP tB tP)
 itoa:A.prim (g "strconv.Itoa")=some aBr
 line:Has A g "(*dactyl/syntax.printer).line" (fN g)
 word:Has A g "(*dactyl/syntax.printer).word" (mA g)
 numbers:Has A g "(*dactyl/syntax.printer).numbers" (jF g)
 text:Has A g "(*dactyl/syntax.printer).text" (mB g)
variable {tB tP:Nat}
theorem jB{H L:List AObj}{ty o v o2 v2 N:Nat}{T':Str}{wr:List Nat}{ρ:bH}(h1:T'≠[])(h2:T'.length<=N)(h3:Wr2 o o2 wr):aXa H ty o v o2 v2 N .normal ρ (PSt (H++L) ty o v o2 v2 T') wr:=⟨rfl,L,T',h1,h2,rfl,h3⟩
theorem aAR{H:List AObj}{ty o v o2 v2 N:Nat}{T':Str}{wr:List Nat}{ρ:bH}(h1:T'≠[])(h2:T'.length<=N)(h3:Wr2 o o2 wr):aXa H ty o v o2 v2 N .normal ρ (PSt H ty o v o2 v2 T') wr:=⟨rfl,[],T',h1,h2,by rw[List.append_nil],h3⟩
theorem aMT{T s:Str}(h:T≠[]):T++s≠[]:=fun e=>h (List.append_eq_nil_iff.1 e).1
theorem zZ(F:OutFns A g tB tP)(s:Str)(hs:s.length<=1000000):aLB A (g "(*dactyl/syntax.printer).word") [.str s] (s.length+1):=by
 refine F.word.prt rfl (by simp[mA]) (fun n=>by kernel_rfl) ?_
 intro H ty o v o2 v2 T c hT hb;simp only[mA];obtain⟨wr,h1,h2⟩:=uU F.ws F.cc (ty:=ty) (v:=v) (v2:=v2) (T:=T) (s:=32::s) c (by simp;omega)
 have ha:kM .add .no (.str [32]) (.str s)=some (.str (32::s)):=jH (by simp;omega)
 simp only[go_sem,↓aC,seval,List.append_nil,ha,h1];exact aAR (aMT hT) (by simp) (cV kW h2)
theorem jK(F:OutFns A g tB tP)(s:Str)(hs:s.length<=10000):aLB A (g "(*dactyl/syntax.printer).line") [.str s] (s.length+1):=by
 refine F.line.prt rfl (by simp[fN]) (fun n=>by kernel_rfl) ?_
 intro H ty o v o2 v2 T c hT hb;have hl:=aOU F.len (ty:=ty) (v:=v) (v2:=v2) (T:=T) c;obtain⟨wr,h1,h2⟩:=aAs F.wb F.cc (ty:=ty) (v:=v) (v2:=v2) (T:=T) (b:=10) c (by omega)
 obtain⟨wr',h3,h4⟩:=uU F.ws F.cc (ty:=ty) (v:=v) (v2:=v2) (T:=T++[10]) (s:=s) c (by simp;omega)
 have hp:0<T.length:=List.length_pos_iff.2 hT;have h1:aL A (g "(*strings.Builder).WriteByte") [.ptr o v 0,.int .u8 10] (PSt H ty o v o2 v2 T)=some (.nilIfc,PSt H ty o v o2 v2 (T++[10]),wr):=h1;have hd:decide ((0:Int)<(T.length:Int))=true:=by simp;omega
 simp only[fN];simp only[go_sem,↓aC,seval,List.append_nil,hl,hd,h1,h3];exact aAR (aMT (aMT hT)) (by simp) (cV (cV kW h2) h4)
theorem aMU(h:A.prim (g "strconv.Itoa")=some aBr){n:Int}(h0 : -1000000<n)(h1:n<1000000):∃s:Str,s.length<=8/\∀H,aL A (g "strconv.Itoa") [vi n] H=some (.str s,H,[]):=by
 have nl:∀k m,(oT k m).length<=k:=by
  intro k
  induction k with
  |zero=>intro m;exact Nat.le_refl _
  |succ k ih=>
   intro m;unfold oT
   split
   ·simp
   ·have:=ih (m / 10);simp;omega
 by_cases hn:0<=n
 ·refine⟨oT 7 n.toNat,by have:=nl 7 n.toNat;omega,fun H=>gU ?_⟩
  rw[h]
  show aBr [.int .i64 n] H=_
  simp only[aBr];rw[if_pos ⟨hn,h1⟩]
 ·refine⟨45::oT 7 (-n).toNat,by have:=nl 7 (-n).toNat;simp;omega,fun H=>gU ?_⟩
  rw[h]
  show aBr [.int .i64 n] H=_
  simp only[aBr];rw[if_neg (fun hh=>hn hh.1),if_pos ⟨by omega,h0⟩]
theorem qW(F:OutFns A g tB tP)(l:List Int)(b:Bool)(hl:l.length<=10000)(hs:∀n∈l,-1000000<n/\n<1000000):aLB A (g "(*dactyl/syntax.printer).numbers") [.sl b (l.map fun n=>[vi n])] (l.length*9):=by
 refine F.numbers.prt rfl (by simp[jF]) (fun n=>by kernel_rfl) ?_
 intro H ty o v o2 v2 T c hT hb;have hlen:(l.map fun n=>[vi n]).length=l.length:=List.length_map ..;simp only[jF];simp only[go_sem,↓aC,seval,List.append_nil,hlen];refine bZ (id:=0) (W:=tD) (fun i ρ1 H1 wr=>∃T',H1=PSt H ty o v o2 v2 T'/\T'≠[]/\T'.length<=T.length+i*9/\Wr2 o o2 wr/\ρ1 8=vi ((i:Nat):Int)) l.length
  (fun ρ1 H1 wr=>∃T',H1=PSt H ty o v o2 v2 T'/\T'≠[]/\T'.length<=T.length+l.length*9/\Wr2 o o2 wr)
  (by kernel_rfl) (by rfl) ⟨T,rfl,hT,by omega,kW,rfl⟩ ?_ ?_
 ·rintro i ρ1 H1 wr1 hil ⟨T1,rfl,g1,g2,g3,e8⟩ hf;have e6:ρ1 6=.sl b (l.map fun n=>[vi n]):=by rw[hf 6 (by rfl)];rfl
  have e7:ρ1 7=vi (l.length:Nat):=by rw[hf 7 (by rfl)];rfl
  have e0:ρ1 0=.ptr o v 0:=by rw[hf 0 (by rfl)];rfl
  simp only[go_sem,↓aC,seval,e8,e7];refine aD (fun hb => ?_) (fun hb => ?_)
  ·have hlt:i<l.length:=by simp at hb;omega
   have hn0:(0:Int)<=(i:Int):=by omega
   have hn1:(i:Int)<(l.length:Int):=by omega
   have hto:((i:Int)).toNat=i:=by omega
   have hw1:IntKind.i64.wrap ((i:Int)+1)=((i+1:Nat):Int):=by rw[wrap_i64 (by omega) (by omega)];omega
   have hget:(l.map fun n=>[vi n])[i]? = some [vi l[i]]:=by rw[List.getElem?_map,List.getElem?_eq_getElem hlt];rfl
   obtain⟨q1,q2⟩:=hs _ (List.getElem_mem hlt);obtain⟨s,hs1,hs2⟩:=aMU F.itoa q1 q2;simp only[go_sem,↓aC,seval,e8,e6,e0,hn0,hto,hget,hs2];refine cJ ((zZ F s (by omega)).mono (M':=9) (by omega)) c g1 (by omega) ?_
   rintro T2 wr2 k1 k2 k3;simp only[go_sem,↓aC,seval,e8,hw1];exact⟨hlt,T2,rfl,k1,by omega,cV g3 k3⟩
  ·have hi:i=l.length:=by simp at hb;omega
   subst hi;simp only[go_sem,seval];exact⟨T1,rfl,g1,g2,g3⟩
 ·rintro ρ' H' wr' ⟨T1,rfl,g1,g2,g3⟩ hf;simp only[go_sem,seval];exact aAR g1 g2 g3
def mQ:List (UInt8×Str):=[(92,[92,92]),(34,[92,34])]
structure TextFns(A:AProg)(g:String->Nat)(tB tP:Nat) extends OutFns A g tB tP where
 newR:Has A g "strings.NewReplacer" (fM g)
 rep:RepFns A g
 bsr:Has A g "(*strings.byteStringReplacer).Replace" (bX g)
 num:g "(*strings.byteStringReplacer).Replace" = 355
 cnt:A.prim (g "strings.Count")=some aC9
theorem aMV:∀p∈mQ,2<=p.2.length/\p.2.length<=1000:=by decide
theorem aUp(s:Str):(mZ (fW mQ) s).length<=2*s.length:=aBC (fun c t e=>by
 have:=aBD e;have h2:∀p∈mQ,p.2.length<=2:=by decide
 exact h2 _ this) (by omega) s
theorem aDA(F:TextFns A g tB tP)(s:Str)(hs:s.length<=1000):aLB A (g "(*dactyl/syntax.printer).text") [.str s] (2*s.length+3):=by
 refine F.text.prt rfl (by simp[mB]) (fun n=>by kernel_rfl) ?_
 intro H ty o v o2 v2 T c hT hb;have hX:=mS (H:=H) (ty:=ty) (o:=o) (v:=v) (o2:=o2) (v2:=v2) (T:=T);have h1:=xR F.newR mQ (by decide) (by decide) (PSt H ty o v o2 v2 T)
 have hB:=aKh F.bsr F.num F.cnt mQ (by decide) (by decide) (by decide) aMV
 have ho:(PSt H ty o v o2 v2 T++[.vec 1 1 (fB mQ),.box 1 [.int .u32 0,.int .i32 0,.int .u32 0,.nilIfc,.sr (PSt H ty o v o2 v2 T).length 1 (fB mQ).length]])[H.length+1]? = some (aG0 1 (PSt H ty o v o2 v2 T).length 1 (fB mQ).length):=by
  rw[<- hX,List.getElem?_append_right (by omega),show (PSt H ty o v o2 v2 T).length+1 - (PSt H ty o v o2 v2 T).length=1 by omega];rfl
 have ho1:(PSt H ty o v o2 v2 T++[.vec 1 1 (fB mQ),.box 1 [.int .u32 0,.int .i32 0,.int .u32 0,.nilIfc,.sr (PSt H ty o v o2 v2 T).length 1 (fB mQ).length]])[(PSt H ty o v o2 v2 T).length]? = some (.vec 1 1 (fB mQ)):=by
  rw[List.getElem?_append_right (by omega),Nat.sub_self];rfl
 have h2:=aBz F.rep hB (by decide) (by decide) (by decide) (fun p hp=>⟨by have:=(aMV p hp).1;omega,(aMV p hp).2⟩) hs ho ho1
 rw[hX]at h1 h2;rw[aCn c]at h1 h2;have hrow:[[AV.str [92]],[AV.str [92,92]],[AV.str [34]],[AV.str [92,34]]]=fB mQ:=rfl;rw[aJl c,aCn (c.mono (by simp)),nI,List.append_assoc]at h2
 generalize hL1:[AObj.vec 1 1 (fB mQ),AObj.box 1 [.int .u32 0,.int .i32 0,.int .u32 0,.nilIfc,.sr H.length 1 (fB mQ).length]]=L1 at h1 h2;generalize hL2:(L1.set 1 _++sZ mQ _)=L2 at h2;clear ho ho1;generalize hu:mZ (fW mQ) s=u at *;have hul:u.length<=2*s.length:=by rw[<- hu];exact aUp s
 have ha:kM .add .no (.str [34]) (.str u)=some (.str (34::u)):=jH (by simp;omega)
 have hb2:kM .add .no (.str (34::u)) (.str [34])=some (.str (34::u++[34])):=jH (by simp;omega)
 simp only[mB];simp only[go_sem,↓aC,seval,List.append_nil,hrow,h1,h2,ha,hb2];refine cJ (zZ F.toOutFns (34::(u++[34])) (by simp;omega)) (c.mono (by simp)) hT (by simp;omega) ?_
 rintro T2 wr2 k1 k2 k3;simp only[List.length_cons,List.length_append,List.length_nil]at k2;have hw0:bA H.length [] [H.length+1]=[]:=aHR (i:=1);simp only[go_sem,↓aC,seval];exact jB k1 (by omega) (cV kW k3)
end
end Go.AM
end
