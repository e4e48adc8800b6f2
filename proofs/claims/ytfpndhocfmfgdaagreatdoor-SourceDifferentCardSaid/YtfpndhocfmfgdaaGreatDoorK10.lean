/- Part 10: lemmas for the last text. -/
import Derived.Test.YtfpndhocfmfgdaaGreatDoorK09
set_option linter.unusedVariables false
set_option linter.unusedSimpArgs false
section
namespace Go.AM
open Go
section
variable {P:Program}{glob:Glob}
theorem aJM(all:List Oper):∀(l:List Oper) (pres:List (List Nat)) (i:Nat) o,l[i]? = some o ->
  ∃ao,(aBS P glob all l pres)[i]? = some ao/\ao.pre=aH6 (pres++((aBS P glob all l pres).take i).map AOper.pre) o
 | [],pres,i,o,h=>by simp at h
 |o1::l,pres,i,o,h=>by
  cases i with
  |zero=>simp at h;subst h;exact⟨_,rfl,by simp[aBS]⟩
  |succ i=>
   obtain⟨ao,h1,h2⟩:=aJM all l (pres++[aH6 pres o1]) i o (by simpa using h)
   refine⟨ao,by simpa [aBS]using h1, ?_⟩
   rw[h2];simp[aBS]
structure PreOk(ops:Array Oper)(al:List AOper):Prop where
 len:al.length=ops.size
 back:∀(k:Nat) ao,al[k]? = some ao->∀x∈ao.pre,x<k
 of:∀(k:Nat) o ao,ops[k]? = some o->al[k]? = some ao->∀e∈o.after,Region.binds .any e=true->e.on∈ao.pre
 to:∀(k:Nat) o ao,ops[k]? = some o->al[k]? = some ao->∀x∈ao.pre,∃e∈o.after,Region.binds .any e=true/\(x=e.on∨∃ao',al[e.on]? = some ao'/\x∈ao'.pre)
 ord:∀(i j:Nat) o p,i≠j->al[i]? = some o->al[j]? = some p->∀t,p.dst=some t->t∈o.names->(if i<j then i∈p.pre else j∈o.pre)
theorem aNV{ops:Array Oper}(hd:aLC (aBS P glob ops.toList ops.toList [])=true):PreOk ops (aBS P glob ops.toList ops.toList []):=by
 have hlen:(aBS P glob ops.toList ops.toList []).length=ops.size:=by rw[(aBd ops ops.toList []).1];simp
 have hall:∀(k:Nat) ao,(aBS P glob ops.toList ops.toList [])[k]? = some ao->ao.pre.all (fun x=>decide (x<k))=true /\
   ((aBS P glob ops.toList ops.toList []).zipIdx.all fun(p,j)=>k==j || aIJ k ao j p)=true:=fun k ao h=>by
  have hm:(ao,k)∈(aBS P glob ops.toList ops.toList []).zipIdx:=by
   rw[List.mem_iff_getElem?];exact⟨k,by simp[List.getElem?_zipIdx,h]⟩
  have:=List.all_eq_true.1 hd _ hm;simpa only[Bool.and_eq_true]using this
 have hpre:∀(k:Nat) o ao,ops[k]? = some o->(aBS P glob ops.toList ops.toList [])[k]? = some ao->ao.pre=aH6 (((aBS P glob ops.toList ops.toList []).take k).map AOper.pre) o:=fun k o ao h1 h2=>by
  obtain⟨ao',h3,h4⟩:=aJM (P:=P) (glob:=glob) ops.toList ops.toList [] k o (by simpa using h1)
  rw[h2]at h3;cases h3;simpa using h4
 refine⟨hlen,fun k ao h x hx => ?_,fun k o ao h1 h2 e he hb => ?_,fun k o ao h1 h2 x hx => ?_,fun i j o p hne h1 h2 t ht hn => ?_⟩
 ·simpa using List.all_eq_true.1 (hall k ao h).1 x hx
 ·rw[hpre k o ao h1 h2];unfold aH6;rw[aGi,List.mem_flatMap];exact⟨e,by simpa using he,by simp[hb]⟩
 ·rw[hpre k o ao h1 h2]at hx;unfold aH6 at hx;rw[aGi,List.mem_flatMap]at hx;obtain⟨e,he,hx⟩:=hx
  split at hx
  ·rename_i hb;refine⟨e,by simpa using he,hb, ?_⟩
   rcases List.mem_cons.1 hx with rfl | hx
   ·exact .inl rfl
   ·refine .inr ?_;rw[List.getElem?_map,List.getElem?_take]at hx
    split at hx
    ·cases hq:(aBS P glob ops.toList ops.toList [])[e.on]? with
     |none=>rw[hq]at hx;simp at hx
     |some ao'=>rw[hq]at hx;exact⟨ao',rfl,by simpa using hx⟩
    ·simp at hx
  ·simp at hx
 ·have hm:(p,j)∈(aBS P glob ops.toList ops.toList []).zipIdx:=by
   rw[List.mem_iff_getElem?];exact⟨j,by simp[List.getElem?_zipIdx,h2]⟩
  have:=List.all_eq_true.1 (hall i o h1).2 _ hm;simp only[aIJ,ht,Bool.or_eq_true,beq_iff_eq,hne,false_or,Bool.not_eq_true']at this;rcases this with h | h
  ·have:¬(t∈o.names):=by simpa using h
   exact absurd hn this
  ·split
   ·rename_i hlt;rw[if_pos hlt]at h;simpa using h
   ·rename_i hlt;rw[if_neg hlt]at h;simpa using h
def cnt:Nat->(Nat->Bool)->Nat
 |0,_=>0
 |k+1,p=>cnt k p+(if p k then 0 else 1)
theorem aHp{p q:Nat->Bool}:∀(n:Nat),(∀k,k<n->p k=q k)->cnt n p=cnt n q
 |0,_=>rfl
 |n+1,h=>by simp only[cnt];rw[aHp n fun k hk=>h k (by omega),h n (by omega)]
theorem aLQ{p q:Nat->Bool}{i:Nat}:∀(n:Nat),i<n->p i=false->q i=true->(∀k,k≠i->q k=p k)->cnt n q+1=cnt n p
 |0,h,_,_,_=>by omega
 |n+1,h,hp,hq,hr=>by
  simp only[cnt]
  by_cases e:i=n
  ·subst e;rw[aHp (p:=q) (q:=p) i fun k hk=>hr k (by omega)]
   simp[hp,hq]
  ·have:=aLQ n (by omega) hp hq hr
   rw[hr n (Ne.symm e)];omega
theorem aJN{p:Nat->Bool}:∀(n:Nat),cnt n p=0->∀k,k<n->p k=true
 |0,_,k,hk=>by omega
 |n+1,h,k,hk=>by
  simp only[cnt]at h
  by_cases e:k=n
  ·subst e;cases hp:p k with
   |true=>rfl
   |false=>simp[hp]at h
  ·exact aJN n (by omega) k (by omega)
theorem aPq{p:Nat->Bool}:∀(n:Nat),cnt n p<=n
 |0=>Nat.le_refl _
 |n+1=>by simp only[cnt];have:=aPq (p:=p) n;split<;>omega
end
section
variable {P:Program}{glob:Glob}{ops:Array Oper}{call:Nat->List AV->List AObj->Out}{c:Ctx}{tr:List (AOper×Rec)}{ρ0:List AV}{H0:List AObj}{wr':List Nat}
structure Env(P:Program)(glob:Glob)(ops:Array Oper)(call:Nat->List AV->List AObj->Out)(c:Ctx)(tr:List (AOper×Rec))(ρ0:List AV)(H0:List AObj)(wr':List Nat):Prop where
 hcall:nY P glob call
 fr:rZ call
 pre:PreOk ops (tr.map (·.1))
 comp:∀(i:Nat) o ao r,ops[i]? = some o->tr[i]? = some (ao,r)->Compd P glob ops o ao
 ok:∀(k:Nat) o r,tr[k]? = some (o,r)->RecOk call c (tV (fun j=>decide (j<k)) 0 tr ρ0) (cN H0 tr k) o r
 next:∀(k:Nat) o r,tr[k]? = some (o,r)->cN H0 tr (k+1)=r.H2
 wrs:∀(k:Nat) o r,tr[k]? = some (o,r)->∀x∈r.wr.getD [],x<c.base->x∈wr'
 pair:∀(i j:Nat) o r o' r',i<j->tr[i]? = some (o,r)->tr[j]? = some (o',r')->r.want=true->r'.want=true->aXq o'.pre i r r'
 halloc:∀(k:Nat) o r zs id,tr[k]? = some (o,r)->o.op=.alloc zs->c.site o.dst=some id->o.guard=none/\o.pre=[]/\id<H0.length/\∃v,H0[id]? = some (.box v zs)
theorem xM{k:Nat}{o:AOper}{r:Rec}(h:tr[k]? = some (o,r)):(tr.map (·.1))[k]? = some o:=by simp[h]
theorem Env.quiet(E:Env P glob ops call c tr ρ0 H0 wr'){k:Nat}{o:AOper}{r:Rec}(h:tr[k]? = some (o,r))(hn:r.wr=none):r.H2=cN H0 tr k:=by
 have hr:=E.ok k o r h;cases hw:r.want with
 |false=>exact (hr.no hw).2.1
 |true=>exact (aGo E.fr (hr.yes hw)).2.1 hn
theorem Env.wants(E:Env P glob ops call c tr ρ0 H0 wr'){k:Nat}{o:AOper}{r:Rec}(h:tr[k]? = some (o,r))(hn:r.wr≠none):r.want=true:=by
 have hr:=E.ok k o r h;cases hw:r.want with
 |false=>exact absurd (hr.no hw).2.2.2 hn
 |true=>rfl
theorem Env.step(E:Env P glob ops call c tr ρ0 H0 wr'){k:Nat}{o:AOper}{r:Rec}(h:tr[k]? = some (o,r)):r.H2.length=(cN H0 tr k).length/\∀x,x∉r.wr.getD []->r.H2[x]? = (cN H0 tr k)[x]? := by
 have hr:=E.ok k o r h;cases hw:r.want with
 |false=>rw[(hr.no hw).2.1];exact⟨rfl,fun _ _=>rfl⟩
 |true=>
  obtain⟨h1,_,h3⟩:=aGo E.fr (hr.yes hw);refine⟨h3,fun x hx => ?_⟩
  by_cases hlt:x<(cN H0 tr k).length
  ·exact h1.2 x hlt hx
  ·rw[List.getElem?_eq_none (by omega),List.getElem?_eq_none (by omega)]
theorem Env.len(E:Env P glob ops call c tr ρ0 H0 wr'):∀m,m<=tr.length->(cN H0 tr m).length=H0.length
 |0,_=>by cases tr<;>rfl
 |m+1,h=>by
  have hk:tr[m]? = some (tr[m].1,tr[m].2):=List.getElem?_eq_getElem (by omega)
  rw[E.next m _ _ hk,(E.step hk).1]
  exact E.len m (by omega)
theorem Env.read(E:Env P glob ops call c tr ρ0 H0 wr'){x m m':Nat}(hm:m<=tr.length)(hm':m'<=tr.length)
  (h:∀(k:Nat) o r,tr[k]? = some (o,r)->r.wr≠none->(k<m↔k<m')∨x∉r.wr.getD []):(cN H0 tr m)[x]? = (cN H0 tr m')[x]? := by
 have walk:∀(d a:Nat),a+d<=tr.length->(∀(k:Nat) o r,tr[k]? = some (o,r)->r.wr≠none->a<=k->k<a+d->x∉r.wr.getD [])->(cN H0 tr (a+d))[x]? = (cN H0 tr a)[x]? := by
  intro d
  induction d with
  |zero=>intro a _ _;rfl
  |succ d ih=>
   intro a hd hn;have hk:tr[a+d]? = some (tr[a+d].1,tr[a+d].2):=List.getElem?_eq_getElem (by omega)
   rw[show a+(d+1)=a+d+1 by omega,E.next (a+d) _ _ hk]
   have:x∉tr[a+d].2.wr.getD []:=by
    cases hq:tr[a+d].2.wr with
    |none=>simp
    |some w=>have:=hn (a+d) _ _ hk (by rw[hq];simp) (by omega) (by omega);rwa [hq]at this
   rw[(E.step hk).2 x this];exact ih a (by omega) fun k o r h1 h2 h3 h4=>hn k o r h1 h2 h3 (by omega)
 rcases Nat.le_total m m' with hle | hle
 ·obtain⟨d,rfl⟩:=Nat.exists_eq_add_of_le hle;exact (walk d m hm' fun k o r h1 h2 h3 h4=>(h k o r h1 h2).elim (fun h5=>by omega) id).symm
 ·obtain⟨d,rfl⟩:=Nat.exists_eq_add_of_le hle;exact walk d m' hm fun k o r h1 h2 h3 h4=>(h k o r h1 h2).elim (fun h5=>by omega) id
structure Inv(P:Program)(glob:Glob)(c:Ctx)(tr:List (AOper×Rec))(ρ0:List AV)(H0:List AObj)(wr':List Nat)(g0:G)(w0:World)(d:List Deferred)(L:Nat->Bool)(g:G)(a:Act)(w:World):Prop where
 closed:∀(k:Nat) o r,tr[k]? = some (o,r)->L k=true->∀x∈o.pre,L x=true
 pos:∃m,m<=tr.length/\(∀(k:Nat) o r,tr[k]? = some (o,r)->r.wr≠none->(L k=true↔k<m))/\∃W,Step g0 H0 w0 g (cN H0 tr m) w W/\∀o∈W,o<c.base->o∈wr'
 slots:aT g (tV L 0 tr ρ0) a.tmps
 defers:a.defers=d
 glob:bI P glob g
 unb:∀(k:Nat) o r zs id,tr[k]? = some (o,r)->o.op=.alloc zs->c.site o.dst=some id->L k=false->∀l,g.obj id=some l->l.st<(H0[id]?).elim 0 AObj.ver
variable {g0:G}{w0:World}{d:List Deferred}{L:Nat->Bool}{g:G}{a:Act}{w:World}
theorem Inv.names(E:Env P glob ops call c tr ρ0 H0 wr')(I:Inv P glob c tr ρ0 H0 wr' g0 w0 d L g a w){i:Nat}{o:AOper}{r:Rec}(hi:tr[i]? = some (o,r))(hL:L i=false)(hp:∀x∈o.pre,L x=true):
  ∀t∈o.names,(tV L 0 tr ρ0)[t]? = (tV (fun j=>decide (j<i)) 0 tr ρ0)[t]? := by
 intro t ht;refine aBh _ _ t tr 0 ρ0 ρ0 rfl rfl fun k ok rk hk hd => ?_;simp only[Nat.zero_add]
 by_cases e:k=i
 ·subst e;rw[hL];simp
 ·have:=E.pre.ord i k o ok (Ne.symm e) (xM hi) (xM hk) t hd ht
  split at this
  ·rename_i hlt;have h1:L k=false:=by
    cases hq:L k with
    |false=>rfl
    |true=>have:=I.closed k ok rk hk hq i this;rw[hL]at this;cases this
   rw[h1];simp;omega
  ·rename_i hlt;rw[hp k this];simp;omega
theorem Inv.put(E:Env P glob ops call c tr ρ0 H0 wr')(I:Inv P glob c tr ρ0 H0 wr' g0 w0 d L g a w){i:Nat}{o:AOper}{r:Rec}(hi:tr[i]? = some (o,r))(hL:L i=false){g':G}(hle:g.le g'){x:Value}(hv:VRel g' r.v x):
  aT g' (tV (fun j=>L j || j==i) 0 tr ρ0) (a.put o.dst x).tmps:=by
 have h1:=(I.slots.mono hle).putSlot hv o.dst;refine⟨by rw[aDt];have:=h1.1;rw[eW,aDt]at this;exact this,fun t => ?_⟩
 have:=aNU L i tr 0 ρ0 ρ0 o r hi rfl (by simpa using hL) (fun k o' r' hk hlt t h2 h3=>by
  simp only[Nat.zero_add];have:=E.pre.ord i k o o' (by omega) (xM hi) (xM hk) t h3 (by simp[AOper.names,h2])
  rw[if_pos hlt]at this;cases hq:L k with
  |false=>rfl
  |true=>have:=I.closed k o' r' hk hq i this;rw[hL]at this;cases this) t rfl
 simp only[Nat.zero_add]at this;rw[this];exact h1.2 t
theorem Inv.writers(E:Env P glob ops call c tr ρ0 H0 wr')(I:Inv P glob c tr ρ0 H0 wr' g0 w0 d L g a w){i:Nat}{o:AOper}{r:Rec}(hi:tr[i]? = some (o,r))(hL:L i=false)(hp:∀x∈o.pre,L x=true)(hw:r.wr≠none):
  ∀(k:Nat) ok rk,tr[k]? = some (ok,rk)->rk.wr≠none->(L k=true↔k<i):=by
 intro k ok rk hk hwk;rcases Nat.lt_trichotomy k i with h | h | h
 ·have:=E.pair k i ok rk o r h hk hi (E.wants hk hwk) (E.wants hi hw);rcases this with this | this
  ·simp[hp k this,h]
  ·cases hq:rk.wr with
   |none=>exact absurd hq hwk
   |some a=>cases hq':r.wr with
    |none=>exact absurd hq' hw
    |some b=>rw[hq,hq']at this;exact this.elim
 ·subst h;rw[hL];simp
 ·have:=E.pair i k o r ok rk h hi hk (E.wants hi hw) (E.wants hk hwk);rcases this with this | this
  ·have h1:L k=false:=by
    cases hq:L k with
    |false=>rfl
    |true=>have:=I.closed k ok rk hk hq i this;rw[hL]at this;cases this
   rw[h1];simp;omega
  ·cases hq:r.wr with
   |none=>exact absurd hq hw
   |some a=>cases hq':rk.wr with
    |none=>exact absurd hq' hwk
    |some b=>rw[hq,hq']at this;exact this.elim
theorem Inv.reads(E:Env P glob ops call c tr ρ0 H0 wr')(I:Inv P glob c tr ρ0 H0 wr' g0 w0 d L g a w){i m:Nat}{o:AOper}{r:Rec}(hi:tr[i]? = some (o,r))(hL:L i=false)(hp:∀x∈o.pre,L x=true)(hw:r.wr=none)(hwant:r.want=true)
  (hm:m<=tr.length) (hpos:∀(k:Nat) o r,tr[k]? = some (o,r)->r.wr≠none->(L k=true↔k<m)):∀x∈r.rd,(cN H0 tr m)[x]? = (cN H0 tr i)[x]? := by
 intro x hx;have hlt:i<tr.length:=(List.getElem?_eq_some_iff.1 hi).1;refine E.read hm (by omega) fun k ok rk hk hwk => ?_
 have hposk:=hpos k ok rk hk hwk;obtain⟨ws,hws⟩:=Option.ne_none_iff_exists'.1 hwk;rcases Nat.lt_trichotomy k i with h | h | h
 ·cases hq:L k with
  |true=>rw[hq]at hposk;left;simp at hposk;omega
  |false=>
   have:=E.pair k i ok rk o r h hk hi (E.wants hk hwk) hwant;rcases this with this | this
   ·rw[hp k this]at hq;cases hq
   ·rw[hws,hw]at this;right;rw[hws];exact this x hx
 ·subst h;rw[hi]at hk;cases hk;exact absurd hw hwk
 ·cases hq:L k with
  |false=>rw[hq]at hposk;left;simp at hposk;omega
  |true=>
   have:=E.pair i k o r ok rk h hi hk hwant (E.wants hk hwk);rcases this with this | this
   ·have:=I.closed k ok rk hk hq i this;rw[hL]at this;cases this
   ·rw[hw,hws]at this;right;rw[hws];exact this x hx
end
section
variable {P:Program}{glob:Glob}{ops:Array Oper}{call:Nat->List AV->List AObj->Out}{c:Ctx}{tr:List (AOper×Rec)}{ρ0:List AV}{H0:List AObj}{wr':List Nat}
variable {g0:G}{w0:World}{d:List Deferred}{L:Nat->Bool}{g:G}{a:Act}{w:World}
theorem yD.mono{o:Oper}{R R':Value->World->Prop}(h:yD P o a w R)(hr:∀v w',R v w'->R' v w'):yD P o a w R':=by
 rcases h with⟨v,w',h1,h2⟩ | ⟨w',h1,h2⟩ | ⟨f,args,w1,h1,h2⟩ | ⟨l,f,t,b,c,w1,h1,h2⟩
 ·exact .inl ⟨v,w',h1,hr _ _ h2⟩
 ·exact .inr (.inl ⟨w',h1,hr _ _ h2⟩)
 ·exact .inr (.inr (.inl ⟨f,args,w1,h1,h2.mono fun e w' he=>by cases e<;>first | exact hr _ _ he | exact he⟩))
 ·exact .inr (.inr (.inr ⟨l,f,t,b,c,w1,h1,h2.mono fun e w' he=>by cases e<;>first | exact hr _ _ he | exact he⟩))
theorem aJO{c:Ctx}{d1 d2:Option Nat}{id:Nat}(h1:c.site d1=some id)(h2:c.site d2=some id):d1=d2/\∃t,d1=some t:=by
 unfold Ctx.site at h1 h2;cases d1 with
 |none=>simp at h1
 |some t1=>
  cases d2 with
  |none=>simp at h2
  |some t2=>
   simp only at h1 h2;obtain⟨i1,e1,f1⟩:=map_some h1;obtain⟨i2,e2,f2⟩:=map_some h2;have:i1=i2:=by omega
   subst this;obtain⟨x1,y1,_⟩:=List.findIdx?_eq_some_iff_getElem.1 e1;obtain⟨x2,y2,_⟩:=List.findIdx?_eq_some_iff_getElem.1 e2;have z1:c.sites[i1]=t1:=by simpa using y1
   have z2:c.sites[i1]=t2:=by simpa using y2
   exact⟨by rw[<- z1,<- z2],t1,rfl⟩
theorem Env.alloc_rec(E:Env P glob ops call c tr ρ0 H0 wr'){k:Nat}{o:AOper}{r:Rec}{zs:List AV}{id:Nat}(hk:tr[k]? = some (o,r))(ho:o.op=.alloc zs)(hs:c.site o.dst=some id):
  r.want=true/\r.rd=[id]/\r.wr=none/\r.v=.ptr id (((cN H0 tr k)[id]?).elim 0 AObj.ver) 0:=by
 obtain⟨h1,h2,h3,h4⟩:=E.halloc k o r zs id hk ho hs;have hr:=E.ok k o r hk;have hw:r.want=true:=by rw[hr.want];unfold wanted;rw[h1]
 have:=hr.yes hw;unfold aDE at this;rw[ho,hs]at this;simp only[Option.some.injEq,Prod.mk.injEq]at this;obtain⟨e1,_,e3,e4⟩:=this;exact⟨hw,e3.symm,e4.symm,e1.symm⟩
theorem aBi{α:Type}{f:α->AOp}{x:Option α}{y:AOp}(h:x.map f=some y)(hf:∀z,f z≠y):False:=by
 obtain⟨z,_,hz⟩:=map_some h;exact hf z hz
theorem aLR{dst op type pos after guard zs}(hcop:cOp P glob ⟨dst,op,type,pos,after,guard⟩=some (.alloc zs)):∃t,op=.alloc t/\zeroCells? P glob t=some zs:=by
 unfold cOp at hcop;dsimp only at hcop
 split at hcop
 case h_4=>
  split at hcop
  ·exact (aBi hcop fun z hz=>by cases hz).elim
  ·obtain⟨x,hx,hxx⟩:=map_some hcop;cases hxx;exact⟨_,rfl,hx⟩
 all_goals exfalso
 all_goals repeat' split at hcop
 all_goals first
  | (exact aBi hcop (fun z hz=>by cases hz))
  | (simp at hcop;done)
  |skip
theorem Inv.apart(E:Env P glob ops call c tr ρ0 H0 wr')(I:Inv P glob c tr ρ0 H0 wr' g0 w0 d L g a w){k:Nat}{o:AOper}{r:Rec}{zs:List AV}{id:Nat}(hk:tr[k]? = some (o,r))(ho:o.op=.alloc zs)(hs:c.site o.dst=some id)(hL:L k=false)
  {i:Nat} {oi:AOper} {ri:Rec} (hi:tr[i]? = some (oi,ri)) (hLi:L i=true∨∀x∈oi.pre,L x=true) (hw:ri.wr≠none):id∉ri.wr.getD []:=by
 obtain⟨h1,h2,h3,h4⟩:=E.alloc_rec hk ho hs;obtain⟨ws,hws⟩:=Option.ne_none_iff_exists'.1 hw;have hpre:∀x∈oi.pre,L x=true:=by
  rcases hLi with h | h
  ·exact I.closed i oi ri hi h
  ·exact h
 rcases Nat.lt_trichotomy k i with h | h | h
 ·have:=E.pair k i o r oi ri h hk hi h1 (E.wants hi hw);rcases this with this | this
  ·rw[hpre k this]at hL;cases hL
  ·rw[h3,hws]at this;rw[hws];exact this id (by rw[h2];simp)
 ·subst h;rw[hk]at hi;cases hi;exact absurd h3 hw
 ·have:=E.pair i k oi ri o r h hi hk (E.wants hi hw) h1;rcases this with this | this
  ·rw[(E.halloc k o r zs id hk ho hs).2.1]at this;simp at this
  ·rw[h3,hws]at this;rw[hws];exact this id (by rw[h2];simp)
theorem Inv.go(E:Env P glob ops call c tr ρ0 H0 wr')(I:Inv P glob c tr ρ0 H0 wr' g0 w0 d L g a w){i:Nat}{o:AOper}{r:Rec}(hi:tr[i]? = some (o,r))(hL:L i=false)(hp:∀x∈o.pre,L x=true)
  {oo:Oper} {x:Value} {g':G} {w':World} (hoo:o.dst=oo.dst) (hle:g.le g') (hv:VRel g' r.v x)
  (hpos:∃m,m<=tr.length/\(∀(k:Nat) ok rk,tr[k]? = some (ok,rk)->rk.wr≠none->((L k || k==i)=true↔k<m))/\∃W,Step g0 H0 w0 g' (cN H0 tr m) w' W/\∀o∈W,o<c.base->o∈wr')
  (hunb:∀(k:Nat) ok rk zs id,tr[k]? = some (ok,rk)->ok.op=.alloc zs->c.site ok.dst=some id->k≠i->L k=false->g'.obj id=g.obj id):
  Inv P glob c tr ρ0 H0 wr' g0 w0 d (fun j=>L j || j==i) g' (a.put oo.dst x) w':=by
 refine⟨fun k ok rk hk hLk y hy => ?_,hpos, ?_,by rw[aBY,I.defers],I.glob.mono hle,fun k ok rk zs id hk ho hs hLk l hl => ?_⟩
 ·simp only[Bool.or_eq_true,beq_iff_eq]at hLk ⊢;rcases hLk with h | h
  ·exact .inl (I.closed k ok rk hk h y hy)
  ·subst h;rw[hi]at hk;cases hk;exact .inl (hp y hy)
 ·rw[<- hoo];exact I.put E hi hL hle hv
 ·simp only[Bool.or_eq_false_iff,beq_eq_false_iff_ne]at hLk;rw[hunb k ok rk zs id hk ho hs hLk.2 hLk.1]at hl;exact I.unb k ok rk zs id hk ho hs hLk.1 l hl
theorem Inv.no(E:Env P glob ops call c tr ρ0 H0 wr')(I:Inv P glob c tr ρ0 H0 wr' g0 w0 d L g a w){i:Nat}{o:AOper}{r:Rec}(hi:tr[i]? = some (o,r))(hL:L i=false)(hp:∀x∈o.pre,L x=true)
  {oo:Oper} (hoo:o.dst=oo.dst) (hw:r.want=false):Inv P glob c tr ρ0 H0 wr' g0 w0 d (fun j=>L j || j==i) g (a.put oo.dst Go.undef) w:=by
 obtain⟨h1,h2,h3,h4⟩:=(E.ok i o r hi).no hw;refine I.go E hi hL hp hoo (G.le.refl g) (by rw[h1];exact .skip _) ?_ fun _ _ _ _ _ _ _ _ _ _=>rfl
 obtain⟨m,hm,hpos,W,hs,hb⟩:=I.pos;refine⟨m,hm,fun k ok rk hk hwk => ?_,W,hs,hb⟩;have:k≠i:=fun e=>by subst e;rw[hi]at hk;cases hk;exact hwk h4
 simp only[Bool.or_eq_true,beq_iff_eq,this,or_false];exact hpos k ok rk hk hwk
theorem Inv.yes(E:Env P glob ops call c tr ρ0 H0 wr')(I:Inv P glob c tr ρ0 H0 wr' g0 w0 d L g a w){i:Nat}{o:AOper}{r:Rec}(hi:tr[i]? = some (o,r))(hL:L i=false)(hp:∀x∈o.pre,L x=true)
  {oo:Oper} (hops:ops[i]? = some oo) (hw:r.want=true):yD P oo a w fun x w'=>∃g',Inv P glob c tr ρ0 H0 wr' g0 w0 d (fun j=>L j || j==i) g' (a.put oo.dst x) w':=by
 have hcomp:=E.comp i oo o r hops hi;have hrec:=E.ok i o r hi;have hev:=hrec.yes hw;have hnames:=I.names E hi hL hp;have hlt:i<tr.length:=(List.getElem?_eq_some_iff.1 hi).1;obtain⟨m,hm,hpos,W,hs,hb⟩:=I.pos;have hslots:∀t∈o.op.slots,(tV L 0 tr ρ0)[t]? = (tV (fun j=>decide (j<i)) 0 tr ρ0)[t]? := fun t ht=>hnames t (by simp[AOper.names,ht])
 have hop:∀op,o.op=op->op≠.bad->cOp P glob oo=some op:=fun op e hbad=>by
  rw[hcomp.op]at e;cases hq:cOp P glob oo with
  |none=>rw[hq]at e;exact absurd e.symm hbad
  |some op'=>rw[hq]at e;simp at e;rw[e]
 unfold aDE at hev
 split at hev
 ·
  rename_i zs id hzs hsite;simp only[Option.some.injEq,Prod.mk.injEq]at hev;obtain⟨hrv,hH2,hrd,hwr⟩:=hev;obtain⟨_,hpre0,hid,v,hbox⟩:=E.halloc i o r zs id hi hzs hsite;have hHm:(cN H0 tr m)[id]? = some (.box v zs):=by
   have h0:cN H0 tr 0=H0:=by cases tr<;>rfl
   have hrd:(cN H0 tr m)[id]? = (cN H0 tr 0)[id]? := ?_
   ·rw[hrd,h0,hbox]
   refine E.read hm (Nat.zero_le _) fun k ok rk hk hwk => ?_;cases hq:L k with
   |false=>left;have:=hpos k ok rk hk hwk;rw[hq]at this;simp at this;omega
   |true=>right;exact I.apart E hi hzs hsite hL hk (.inl hq) hwk
  have hHi:(cN H0 tr i)[id]? = some (.box v zs):=by
   rw[<- I.reads E hi hL hp hwr.symm hw hm hpos id (by rw[<- hrd];simp)];exact hHm
  have hidm:id<(cN H0 tr m).length:=by rw[E.len m hm];exact hid
  have hcop:=hop _ hzs (by simp)
  obtain⟨dst,op,type,pos,after,guard⟩:=oo;have hunb:=I.unb i o r zs id hi hzs hsite hL;rw[hbox]at hunb;have hset:(cN H0 tr m).set id (.box v zs)=cN H0 tr m:=by
   apply List.ext_getElem?;intro j
   by_cases e:j=id
   ·subst e;simp[hidm];have:=hHm;simp[hidm]at this;exact this.symm
   ·rw[getElem?_set_ne' _ _ (Ne.symm e)]
  have hal:=aLR hcop;obtain⟨t,rfl,hz⟩:=hal;obtain⟨it,z,hinfo,hzz,hzr⟩:=zeroCells?_spec hz;have hstep:Step g (cN H0 tr m) w (g.setObj id ⟨w.heap.size,v,0,0,0⟩) ((cN H0 tr m).set id (.box v zs)) (w.alloc (.cells z.cells t)) [id]:=by
   refine Step.update hs.wf id (.box v zs) ⟨w.heap.size,v,0,0,0⟩ hidm (by simp) (fun b hb' _=>cB (o:=.cells z.cells t) rfl hb') (by simp) (.inl (Nat.le_refl _)) rfl rfl (fun l hl => ?_) fun hle=>⟨rfl,vD (t:=t) rfl,fun j c hj => ?_⟩
   ·have:=hunb l hl;simp only[Option.elim_some,AObj.ver]at this;exact⟨Nat.le_of_lt this,fun e=>by have e':v=l.st:=e;omega⟩
   ·have hl:=hzr g;have hj':j<zs.length:=(List.getElem?_eq_some_iff.1 hj).1;have hlen:=hl.1;simp at hlen;rw[jG (t:=t) rfl];exact⟨z.cells[j]'(by omega),by simp,(hl.2 j c _ hj (by simp)).mono hle⟩
  rw[hset]at hstep;refine .inl ⟨.pointer (some ⟨w.heap.size,0,none⟩),w.alloc (.cells z.cells t),by simp[execOp,Instr.alloc,zeroValue,typeInfo,hinfo,hzz,newVar,newRow],_,I.go E hi hL hp hcomp.dst hstep.le ?_ ?_ ?_⟩
  ·rw[<- hrv,hHi];exact .ptr id v 0 _ _ (by simp[G.setObj];rfl) (Nat.le_refl _) fun _ _=>rfl
  ·refine⟨m,hm,fun k ok rk hk hwk => ?_,W++[id],hs.trans hstep,fun o' ho hb' => ?_⟩
   ·have:k≠i:=fun e=>by subst e;rw[hi]at hk;cases hk;exact hwk hwr.symm
    simp only[Bool.or_eq_true,beq_iff_eq,this,or_false];exact hpos k ok rk hk hwk
   ·rcases List.mem_append.1 ho with ho | ho
    ·exact hb o' ho hb'
    ·simp only[List.mem_singleton]at ho;subst ho;have:=aIM hsite;omega
  ·intro k ok rk zs' id' hk ho' hs' hne hLk;have:id'≠id:=fun e=>by
    subst e;obtain⟨e1,t1,e2⟩:=aJO hs' hsite;have:=E.pre.ord i k o ok (Ne.symm hne) (xM hi) (xM hk) t1 e2 (by simp[AOper.names,show o.dst=some t1 from e1 ▸ e2])
    split at this
    ·rw[(E.halloc k ok rk zs' id' hk ho' hs').2.1]at this;simp at this
    ·rw[hpre0]at this;simp at this
   simp[G.setObj,this]
 ·rename_i op site hnot;have hne:o.op≠.bad:=fun e=>by
   rw[e]at hev;simp[isW,evR]at hev
  have hcop:=hop _ rfl hne
  split at hev
  ·
   split at hev
   ·rename_i v H' wr hevw
    split at hev
    ·simp only[Option.some.injEq,Prod.mk.injEq]at hev;obtain⟨rfl,rfl,hrd,hwr⟩:=hev;have hwn:r.wr≠none:=by rw[<- hwr];simp
     have hwrs:=I.writers E hi hL hp hwn;have hHeq:cN H0 tr m=cN H0 tr i:=aHo tr H0 m i hm (by omega) (fun k ok rk hk hn=>E.quiet hk hn) fun k ok rk hk hwk=>by rw[<- hpos k ok rk hk hwk];exact hwrs k ok rk hk hwk
     rw[<- hHeq,<- aLM hslots]at hevw;have hdo:=aHi hcop E.hcall hevw hs.wf I.glob I.slots;have hnext:cN H0 tr (i+1)=r.H2:=E.next i o r hi
     refine yD.mono hdo fun x w' ⟨g',hst,hv⟩=>⟨g',I.go E hi hL hp hcomp.dst hst.le hv ⟨i+1,by omega,fun k ok rk hk hwk => ?_,W++wr,by rw[hnext];exact hs.trans hst,fun o' ho hb' => ?_⟩ fun k ok rk zs id hk ho' hs' hne hLk => ?_⟩
     ·by_cases e:k=i
      ·subst e;simp
      ·simp only[Bool.or_eq_true,beq_iff_eq,e,or_false];rw[hwrs k ok rk hk hwk];omega
     ·rcases List.mem_append.1 ho with ho | ho
      ·exact hb o' ho hb'
      ·exact E.wrs i o r hi o' (by rw[<- hwr];exact ho) hb'
     ·have:=I.apart E hk ho' hs' hLk hi (.inr hp) hwn;rw[<- hwr]at this;exact hst.keep id (by rw[E.len m hm];exact (E.halloc k ok rk zs id hk ho' hs').2.2.1) this
    ·cases hev
   ·cases hev
  ·
   split at hev
   ·rename_i v hevr;simp only[Option.some.injEq,Prod.mk.injEq]at hev;obtain⟨rfl,hH2,hrd,hwr⟩:=hev;have hreads:=I.reads E hi hL hp hwr.symm hw hm hpos;rw[<- hrd,<- aKI hslots]at hreads;rw[<- aLL hslots,<- aNS hreads]at hevr;have hdo:=(aHg hcop hevr hs.wf I.glob I.slots).does;refine yD.mono hdo fun x w' ⟨g',hst,hv⟩=>⟨g',I.go E hi hL hp hcomp.dst hst.le hv ⟨m,hm,fun k ok rk hk hwk => ?_,W++[],hs.trans hst,fun o' ho hb'=>hb o' (by simpa using ho) hb'⟩ fun k ok rk zs id hk ho' hs' hne hLk => ?_⟩
    ·have:k≠i:=fun e=>by subst e;rw[hi]at hk;cases hk;exact hwk hwr.symm
     simp only[Bool.or_eq_true,beq_iff_eq,this,or_false];exact hpos k ok rk hk hwk
    ·exact hst.keep id (by rw[E.len m hm];exact (E.halloc k ok rk zs id hk ho' hs').2.2.1) (by simp)
   ·cases hev
end
section
variable {P:Program}{glob:Glob}{g:G}{H:List AObj}{w:World}{a:Act}
theorem Step.laid(hw:WF g H w){id:Nat}(f:Nat->AObj)(hf:∀n,(f n).ver=n)(hid:id<H.length):Step g H w g (make H id f) w [id]:=by
 have hnot:∀l x,Backed g (make H id f) id l x->False:=fun l x hb=>by
  have h1:=hb.at_;simp only[make,List.getElem?_set,if_true,hid]at h1;injection h1 with h1;have h2:=hw.st id _ l (List.getElem?_eq_getElem hid) hb.loc;have h3:=hb.st;rw[<- h1,hf]at h3;simp only[List.getElem?_eq_getElem hid,Option.elim_some]at h3;omega
 have hold:∀o l x,Backed g (make H id f) o l x->o≠id/\Backed g H o l x:=fun o l x hb=>by
  have hne:o≠id:=fun e=>by subst e;exact hnot l x hb
  exact⟨hne,⟨by have:=hb.at_;rwa [make,getElem?_set_ne' _ _ (Ne.symm hne)]at this,hb.alive,hb.loc,hb.st⟩⟩
 refine⟨G.le.refl g,⟨hw.perm,fun o l hl=>by simpa [make]using hw.lt o l hl,hw.blk,fun o x l hx hl => ?_,fun o l x hb=>hw.obj o l x (hold o l x hb).2,fun o l x hb=>hw.priv o l x (hold o l x hb).2,
  fun o o' l l' x x' h1 h2=>hw.inj o o' l l' x x' (hold _ _ _ h1).2 (hold _ _ _ h2).2,hw.whole.keep rfl rfl ⟨rfl,rfl⟩ (fun _ _ _=>rfl) fun o l y hl=>.inr ⟨o,l,y,(hold _ _ _ hl).2,rfl⟩⟩,aBV.refl g _ w,fun o _ ho => ?_,by simp[make],fun _ l' hl=>.inr ⟨l',hl,rfl⟩,fun _ _ _=>rfl⟩
 ·by_cases e:o=id
  ·subst e;simp only[make,List.getElem?_set,if_true,hid]at hx;injection hx with hx;rw[<- hx,hf];have:=hw.st o _ l (List.getElem?_eq_getElem hid) hl;simp only[List.getElem?_eq_getElem hid,Option.elim_some];omega
  ·rw[make,getElem?_set_ne' _ _ (Ne.symm e)]at hx;exact hw.st o x l hx hl
 ·rw[make,getElem?_set_ne' _ _ (fun e=>ho (by simp[e]))]
theorem vF{c:Ctx}:∀(l:List AOper) (H H':List AObj),WF g H w->cI c H l=some H'->∃W,Step g H w g H' w W/\∀o∈W,c.base<=o
 | [],H,H',hw,h=>by simp only[cI,Option.some.injEq]at h;subst h;exact⟨[],.refl hw,fun _ h=>by simp at h⟩
 |o::l,H,H',hw,h=>by
  unfold cI at h
  split at h
  ·rename_i zs id hzs hid
   split at h
   ·rename_i hc;have h1:=Step.laid hw (AObj.box · zs) (fun _=>rfl) hc.1;obtain⟨W,h2,h3⟩:=vF l _ H' h1.wf h;refine⟨_,h1.trans h2,fun o' ho => ?_⟩;rcases List.mem_append.1 ho with ho | ho
    ·simp only[List.mem_singleton]at ho;subst ho;exact aIM hid
    ·exact h3 o' ho
   ·cases h
  ·exact vF l H H' hw h
theorem yG{c:Ctx}{id:Nat}:∀(l:List AOper) (H H':List AObj),cI c H l=some H'->(∀(k:Nat) o zs,l[k]? = some o->o.op=.alloc zs->c.site o.dst≠some id)->H'[id]? = H[id]?
 | [],H,H',h,_=>by simp only[cI,Option.some.injEq]at h;subst h;rfl
 |o::l,H,H',h,hn=>by
  unfold cI at h;have hn':∀(k:Nat) o zs,l[k]? = some o->o.op=.alloc zs->c.site o.dst≠some id:=fun k o' zs h1=>hn (k+1) o' zs (by simpa using h1)
  split at h
  ·rename_i zs id' hzs hid
   split at h
   ·rw[yG l _ H' h hn',make,getElem?_set_ne' _ _ (fun e=>by subst e;exact hn 0 o zs rfl hzs hid)]
   ·cases h
  ·exact yG l H H' h hn'
theorem yH{c:Ctx}:∀(l:List AOper) (H H':List AObj),cI c H l=some H'->∀(k:Nat) o zs id,l[k]? = some o->o.op=.alloc zs->c.site o.dst=some id->o.pre=[]
 | [],H,H',h=>fun k o zs id hk=>by simp at hk
 |o::l,H,H',h=>fun k o' zs id hk ho hs=>by
  unfold cI at h
  split at h
  ·split at h
   ·rename_i hc;cases k with
    |zero=>simp only[List.getElem?_cons_zero,Option.some.injEq]at hk;subst hk;simpa using hc.2.2
    |succ k=>exact yH l _ H' h k o' zs id (by simpa using hk) ho hs
   ·cases h
  ·rename_i hnot;cases k with
   |zero=>simp only[List.getElem?_cons_zero,Option.some.injEq]at hk;subst hk;exact absurd hs (fun hs=>hnot _ _ ho hs)
   |succ k=>exact yH l H H' h k o' zs id (by simpa using hk) ho hs
theorem vG{c:Ctx}:∀(l:List AOper) (H H':List AObj),WF g H w->cI c H l=some H' ->
  (∀(i j:Nat) o p zs zs' id,i<j->l[i]? = some o->l[j]? = some p->o.op=.alloc zs->p.op=.alloc zs'->c.site o.dst=some id->c.site p.dst≠some id) ->
  ∀(k:Nat) o zs id,l[k]? = some o->o.op=.alloc zs->c.site o.dst=some id->o.guard=none/\o.pre=[]/\id<H'.length/\∃v,H'[id]? = some (.box v zs)/\∀lc,g.obj id=some lc->lc.st<v
 | [],H,H',hw,h,_=>fun k o zs id hk=>by simp at hk
 |o::l,H,H',hw,h,hd=>fun k o' zs id hk ho hs=>by
  unfold cI at h;have hd':∀(i j:Nat) o p zs zs' id,i<j->l[i]? = some o->l[j]? = some p->o.op=.alloc zs->p.op=.alloc zs'->c.site o.dst=some id->c.site p.dst≠some id:=
   fun i j o p zs zs' id h1 h2 h3=>hd (i+1) (j+1) o p zs zs' id (by omega) (by simpa using h2) (by simpa using h3)
  split at h
  ·rename_i zs1 id1 hzs1 hid1
   split at h
   ·rename_i hc;have h1:=Step.laid hw (AObj.box · zs1) (fun _=>rfl) hc.1;cases k with
    |zero=>
     simp only[List.getElem?_cons_zero,Option.some.injEq]at hk;subst hk;rw[hzs1]at ho;cases ho;rw[hid1]at hs;injection hs with hs;subst hs;have hg:=yG (id:=id1) l _ H' h fun k p zs' hk' hp=>hd 0 (k+1) o p zs zs' id1 (by omega) rfl (by simpa using hk') hzs1 hp hid1
     have hl:=(vE _ _ _ h).1;refine⟨by simpa using hc.2.1,by simpa using hc.2.2,by rw[<- hl];simp[make];exact hc.1,bG H id1,by rw[hg];simp[make,hc.1,bG],fun lc hlc => ?_⟩
     have:=hw.st id1 _ lc (List.getElem?_eq_getElem hc.1) hlc;simp only[bG,List.getElem?_eq_getElem hc.1,Option.elim_some];omega
    |succ k=>exact vG l _ H' h1.wf h hd' k o' zs id (by simpa using hk) ho hs
   ·cases h
  ·rename_i hnot;cases k with
   |zero=>
    simp only[List.getElem?_cons_zero,Option.some.injEq]at hk;subst hk;exact absurd hs (fun hs=>hnot _ _ ho hs)
   |succ k=>exact vG l _ H' hw h hd' k o' zs id (by simpa using hk) ho hs
def yI(listed:Array Bool)(i:Nat):Bool:=listed.getD i false
theorem aDW{listed:Array Bool}{i:Nat}(hi:i<listed.size):(fun j=>yI listed j || j==i)=yI (listed.setIfInBounds i true):=by
 funext j;unfold yI;simp only[Array.getD_eq_getD_getElem?,Array.getElem?_setIfInBounds]
 by_cases e:i=j
 ·subst e;simp[hi]
 ·have:¬(j=i):=fun h=>e h.symm;simp[e,this]
section
variable {ops:Array Oper}{call:Nat->List AV->List AObj->Out}{c:Ctx}{tr:List (AOper×Rec)}{ρ0:List AV}{H0:List AObj}{wr':List Nat}{g0:G}{w0:World}{d:List Deferred}
theorem aDX{listed:Array Bool}(hs:listed.size=ops.size){i:Nat}:i∈Region.ready .any ops listed↔i<ops.size/\yI listed i=false/\∀o,ops[i]? = some o->∀e∈o.after,Region.binds .any e=true->yI listed e.on=true:=by
 unfold Region.ready yI;simp only[List.mem_filter,List.mem_range,Bool.and_eq_true,Bool.not_eq_true'];constructor
 ·rintro⟨h1,h2,h3⟩;refine⟨h1, ?_,fun o ho e he hb => ?_⟩
  ·rw[Array.getD_eq_getD_getElem?,Array.getElem?_eq_getElem (by omega)]at h2 ⊢
   simpa using h2
  ·rw[ho]at h3;simp only[Option.map_some,Option.getD_some,Array.all_eq_true_iff_forall_mem]at h3;have:=h3 e he;simpa [hb]using this
 ·rintro⟨h1,h2,h3⟩;refine⟨h1, ?_, ?_⟩
  ·rw[Array.getD_eq_getD_getElem?,Array.getElem?_eq_getElem (by omega)]at h2 ⊢
   simpa using h2
  ·rw[Array.getElem?_eq_getElem h1];simp only[Option.map_some,Option.getD_some,Array.all_eq_true_iff_forall_mem];intro e he;cases hb:Region.binds .any e with
   |false=>simp
   |true=>simpa using h3 _ (Array.getElem?_eq_getElem h1) e he hb
theorem aLS(E:Env P glob ops call c tr ρ0 H0 wr'){listed:Array Bool}(hs:listed.size=ops.size)(h:Region.ready .any ops listed=[]):∀i,i<ops.size->yI listed i=true:=by
 intro i
 induction i using Nat.strongRecOn with
 |_ i ih=>
  intro hi;cases hq:yI listed i with
  |true=>rfl
  |false=>
   have:i∈Region.ready .any ops listed:=by
    rw[aDX hs];refine⟨hi,hq,fun o ho e he hb => ?_⟩;have hlen:=E.pre.len;have hk:(tr.map (·.1))[i]? = some ((tr.map (·.1))[i]'(by omega)):=List.getElem?_eq_getElem (by omega)
    have h1:=E.pre.of i o _ ho hk e he hb;have h2:=E.pre.back i _ hk _ h1;exact ih _ h2 (by omega)
   rw[h]at this;simp at this
theorem aHq(E:Env P glob ops call c tr ρ0 H0 wr'){Q:Exit->Act->World->Prop}{r:Option Nat}
  (hQ:∀g a w L,Inv P glob c tr ρ0 H0 wr' g0 w0 d L g a w->(∀i,i<ops.size->L i=true)->Q .normal a w):
  ∀(fuel:Nat) (listed:Array Bool) (g:G) (a:Act) (w:World),listed.size=ops.size->cnt ops.size (yI listed)<=fuel->Inv P glob c tr ρ0 H0 wr' g0 w0 d (yI listed) g a w ->
   wpAnyIn (fr r) 0 P .any ops Q fuel listed a w
 |0,listed,g,a,w,hs,hc,I=>by
  have hall:=aJN ops.size (Nat.le_zero.1 hc);refine⟨?_,hQ g a w _ I hall⟩;cases hr:Region.ready .any ops listed with
  |nil=>rfl
  |cons i l=>
   have:i∈Region.ready .any ops listed:=by rw[hr];simp
   rw[aDX hs]at this;rw[hall i this.1]at this;simp at this
 |fuel+1,listed,g,a,w,hs,hc,I=>by
  refine⟨fun h=>hQ g a w _ I (aLS E hs h),fun i hi => ?_⟩;rw[aDX hs]at hi;obtain⟨hlt,hL,hafter⟩:=hi;have hlen:tr.length=ops.size:=by have:=E.pre.len;simpa using this
  have ho:ops[i]? = some ops[i]:=Array.getElem?_eq_getElem hlt;have hi:tr[i]? = some (tr[i].1,tr[i].2):=List.getElem?_eq_getElem (by omega)
  have hp:∀x∈tr[i].1.pre,yI listed x=true:=fun x hx=>by
   obtain⟨e,he,hb,h⟩:=E.pre.to i _ _ ho (xM hi) x hx;have h1:=hafter _ ho e he hb;rcases h with rfl | ⟨ao',h2,h3⟩
   ·exact h1
   ·have hlt':e.on<tr.length:=by have:=(List.getElem?_eq_some_iff.1 h2).1;simpa using this
    have h4:tr[e.on]? = some (tr[e.on].1,tr[e.on].2):=List.getElem?_eq_getElem hlt';have h5:=xM h4;rw[h2]at h5;injection h5 with h5;exact I.closed e.on _ _ h4 h1 x (h5 ▸ h3)
  have hcomp:=E.comp i _ _ _ ho hi;have hrec:=E.ok i _ _ hi;have hnames:=I.names E hi hL hp;have next:∀g' a' w',Inv P glob c tr ρ0 H0 wr' g0 w0 d (fun j=>yI listed j || j==i) g' a' w'->wpAnyIn (fr r) 0 P .any ops Q fuel (listed.setIfInBounds i true) a' w':=fun g' a' w' I'=>by
   rw[aDW (by omega)]at I'
   refine aHq E hQ fuel _ g' a' w' (by simpa using hs) ?_ I'
   have:=aLQ (p:=yI listed) (q:=yI (listed.setIfInBounds i true)) ops.size hlt hL (by rw[<- aDW (by omega)];simp) fun k hk=>by rw[<- aDW (by omega)];simp[hk]
   omega
  have hwd:Region.wanted ops[i] (yielded ops a.tmps)=tr[i].2.want:=by
   have hcg:=aHl (o:=tr[i].1) (ρ:=tV (yI listed) 0 tr ρ0) (ρ':=tV (fun j=>decide (j<i)) 0 tr ρ0) fun t ht=>hnames t ht;rw[hrec.want,<- hcg.1];exact aHj hcomp.guard I.slots (by rw[hcg.2];exact hrec.guard)
  unfold wpOpIn;rw[ho];simp only;rw[hwd];cases hw:tr[i].2.want with
  |false=>
   simp only[Bool.false_eq_true,if_false];exact⟨fun _ _=>trivial,next g _ w (I.no E hi hL hp hcomp.dst hw)⟩
  |true=>
   simp only[if_true];refine (I.yes E hi hL hp ho hw).wp fun v w' hR => ?_;obtain⟨g',I'⟩:=hR;exact next g' _ w' I'
end
theorem aKL{id:Nat}{ops:Array Oper}(hm:P.follows .mixedOrders=true){call:Nat->List AV->List AObj->Out}(hcall:nY P glob call)(hfr:rZ call){c:Ctx}{s s':ASt}
  (h:hG call c true (aBS P glob ops.toList ops.toList []) s=some s') {Q:Exit->Act->World->Prop} (hw:WF g s.H w) (hg:bI P glob g) (hs:aT g s.ρ a.tmps)
  (hQ:∀a' w',yE P glob c.base g s.H w a.defers s' a' w'->Q .normal a' w') {r:Option Nat}:(Code.region id ops true).wpIn (fr r) 0 P Q a w:=by
 unfold hG at h
 split at h
 ·rename_i hd;simp only[Bool.true_and]at hd
  split at h
  ·rename_i H0 hpre
   split at h
   ·rename_i s1 log hev
    split at h
    ·rename_i hlog;simp only[Option.some.injEq]at h;subst h;have PO:=aNV (P:=P) (glob:=glob) hd;obtain⟨tr,h1,h2,h3,h4,h5,h6⟩:=aCJ _ _ _ _ _ hev;have hsite:∀(i j:Nat) o p zs zs' id,i<j->(aBS P glob ops.toList ops.toList [])[i]? = some o->(aBS P glob ops.toList ops.toList [])[j]? = some p->o.op=.alloc zs->p.op=.alloc zs'->c.site o.dst=some id->c.site p.dst≠some id:=by
      intro i j o p zs zs' id hij hi hj ho hp hso hsp;obtain⟨e1,t,e2⟩:=aJO hso hsp;have:=PO.ord i j o p (by omega) hi hj t (e1 ▸ e2) (by simp[AOper.names,e2])
      rw[if_pos hij,yH _ _ _ hpre j p zs' id hj hp hsp]at this;simp at this
     obtain⟨W,hstep,hW⟩:=vF _ _ _ hw hpre;have hspec:=vG _ _ _ hw hpre hsite;have E:Env P glob ops call c tr s.ρ H0 s1.wr:=by
      refine⟨hcall,hfr,h1 ▸ PO,fun i o ao r ho hi => ?_,fun k o r hk=>(h5 k o r hk).1,fun k o r hk=>(h5 k o r hk).2.1,fun k o r hk=>(h5 k o r hk).2.2,fun i j o r o' r' hij hi hj hwi hwj => ?_,fun k o r zs id hk ho hs => ?_⟩
      ·exact (aBd ops ops.toList []).2 i o ao (by simpa using ho) (by rw[<- h1];exact xM hi)
      ·rw[h2]at hlog;have:=aFv _ tr 0 hlog i j o r o' r' hij hi hj hwi hwj;simp only[Nat.zero_add]at this;have e:(aBS P glob ops.toList ops.toList [])[j]? = some o':=by rw[<- h1];exact xM hj
       rw[e]at this;exact this
      ·obtain⟨a1,a2,a3,v,a4,a5⟩:=hspec k o zs id (by rw[<- h1];exact xM hk) ho hs
       exact⟨a1,a2,a3,v,a4⟩
     have hL0:yI (Array.replicate ops.size false)=fun _=>false:=by
      funext i;simp[yI,Array.getD_eq_getD_getElem?,Array.getElem?_replicate]
      split<;>rfl
     have hnone:∀(l:List (AOper×Rec)) (n:Nat) (ρ:List AV),tV (fun _=>false) n l ρ=ρ:=by
      intro l
      induction l with
      |nil=>intro n ρ;rfl
      |cons x l ih=>intro n ρ;obtain⟨a,b⟩:=x;simp only[tV,Bool.false_eq_true,if_false];exact ih _ _
     have h00:cN H0 tr 0=H0:=by cases tr<;>rfl
     have hlen:tr.length=ops.size:=by have:=E.pre.len;simpa using this
     refine wpIn_region_any hm (aHq (g0:=g) (w0:=w) (d:=a.defers) E (fun g' a' w' L I hall=>hQ a' w' ?_) ops.size _ g a _ (by simp) (aPq _) ?_)
     ·obtain⟨m,hm',hpos,W',hst,hb⟩:=I.pos;have e1:cN H0 tr m=s1.H:=by
       rw[h4];refine aHo tr H0 m _ hm' (Nat.le_refl _) (fun k o r hk hn=>E.quiet hk hn) fun k o r hk hn => ?_;have hk':=(List.getElem?_eq_some_iff.1 hk).1;have:=hpos k o r hk hn;rw[hall k (by omega)]at this
       simp at this;omega
      have e2:tV L 0 tr s.ρ=s1.ρ:=by
       rw[h3];exact aJL _ _ _ _ _ fun k _ hk=>hall k (by omega)
      rw[e1]at hst;refine⟨g',W++W',hstep.trans hst,fun o ho hb' => ?_,e2 ▸ I.slots,I.defers,I.glob⟩;rcases List.mem_append.1 ho with ho | ho
      ·have:=hW o ho;omega
      ·exact hb o ho hb'
     ·rw[hL0];refine⟨fun k o r _ h=>(by cases h),⟨0,Nat.zero_le _,fun k o r _ _=>by simp,[],by rw[h00];exact Step.of_heap hstep.wf rfl,fun o ho=>by simp at ho⟩,by rw[hnone];exact hs,rfl,hg,fun k o r zs id hk ho hs' _ l hl => ?_⟩
      obtain⟨a1,a2,a3,v,a4,a5⟩:=hspec k o zs id (by rw[<- h1];exact xM hk) ho hs'
      rw[a4];exact a5 l hl
    ·cases h
   ·cases h
  ·cases h
 ·simp at h
end
end Go.AM
end
