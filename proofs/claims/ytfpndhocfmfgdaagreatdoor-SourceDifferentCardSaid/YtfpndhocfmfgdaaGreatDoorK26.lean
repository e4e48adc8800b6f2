/- Part 26: lemmas for the last text. -/
import Derived.Test.YtfpndhocfmfgdaaGreatDoorK25
import Derived.KernelRfl
set_option linter.unusedVariables false
set_option linter.unusedSimpArgs false
open Int renaming reduceEq -> IE
section
namespace Go.AM
open Go
def UD{α:Type}(E:α->Str)(P:α->Prop)(T:Str->Prop):Prop:=∀a b r q,P a->P b->T r->T q->E a++r=E b++q->a=b/\r=q
def sb(sep:Str):List Str->Str
 | []=>[]
 | [s]=>s
 |s::t::r=>s++sep++sb sep (t::r)
theorem UD.list{α:Type}{E:α->Str}{P:α->Prop}{T T':Str->Prop}{sep:Str}(h:UD E P T')(h1:∀q,T' (sep++q))(h2:∀r,T r->T' r)(h3:∀q,¬T (sep++q)):
  ∀l m r q,(l≠[]/\∀a∈l,P a)->(m≠[]/\∀a∈m,P a)->T r->T q->sb sep (l.map E)++r=sb sep (m.map E)++q->l=m/\r=q
 | [],_,_,_,hl,_,_,_,_=>absurd rfl hl.1
 |_::_,[],_,_,_,hm,_,_,_=>absurd rfl hm.1
 | [a],[b],r,q,hl,hm,hr,hq,e=>by
  obtain⟨rfl,rfl⟩:=h a b r q (hl.2 a (by simp)) (hm.2 b (by simp)) (h2 r hr) (h2 q hq) e
  exact⟨rfl,rfl⟩
 | [a],b::d::m,r,q,hl,hm,hr,hq,e=>by
  have e:E a++r=(E b++sep++sb sep ((d::m).map E))++q:=e;rw[List.append_assoc,List.append_assoc]at e;obtain⟨_,e2⟩:=h a b r _ (hl.2 a (by simp)) (hm.2 b (by simp)) (h2 r hr) (h1 _) e
  exact absurd (e2 ▸ hr) (h3 _)
 |a::c::l,[b],r,q,hl,hm,hr,hq,e=>by
  have e:(E a++sep++sb sep ((c::l).map E))++r=E b++q:=e;rw[List.append_assoc,List.append_assoc]at e;obtain⟨_,e2⟩:=h a b _ q (hl.2 a (by simp)) (hm.2 b (by simp)) (h1 _) (h2 q hq) e
  exact absurd (e2 ▸ hq) (h3 _)
 |a::c::l,b::d::m,r,q,hl,hm,hr,hq,e=>by
  have e:(E a++sep++sb sep ((c::l).map E))++r=(E b++sep++sb sep ((d::m).map E))++q:=e;rw[List.append_assoc,List.append_assoc,List.append_assoc,List.append_assoc]at e;obtain⟨rfl,e2⟩:=h a b _ _ (hl.2 a (by simp)) (hm.2 b (by simp)) (h1 _) (h1 _) e
  obtain⟨e3,e4⟩:=UD.list h h1 h2 h3 (c::l) (d::m) r q ⟨by simp,fun x hx=>hl.2 x (List.mem_cons_of_mem _ hx)⟩ ⟨by simp,fun x hx=>hm.2 x (List.mem_cons_of_mem _ hx)⟩ hr hq (List.append_cancel_left e2)
  exact⟨by rw[e3],e4⟩
def TS(S:List UInt8)(r:Str):Prop:=r=[]∨∃c q,r=c::q/\c∈S
theorem UD.list1{α:Type}{E:α->Str}{P:α->Prop}{c:UInt8}{S:List UInt8}(hc:c∉S)(h:UD E P (TS (c::S))):UD (fun l=>sb [c] (l.map E)) (fun l=>l≠[]/\∀a∈l,P a) (TS S):=
 UD.list h (fun q=>.inr ⟨c,q,rfl,by simp⟩) (fun r hr=>hr.elim .inl fun⟨d,q,e,hd⟩=>.inr ⟨d,q,e,List.mem_cons_of_mem _ hd⟩)
  fun q hq=>hq.elim (fun e=>by cases e) fun⟨d,t,e,hd⟩=>by cases e;exact hc hd
def esc(M:UInt8->Bool)(s:Str):Str:=s.flatMap fun c=>if M c then [126,c] else [c]
theorem sE(M:UInt8->Bool)(c:UInt8)(s:Str):esc M (c::s)=(if M c then [126,c] else [c])++esc M s:=rfl
theorem aPO{M:UInt8->Bool}{T:Str->Prop}(hM:M 126=true)(hT:∀r,T r->r=[]∨(∃c q,r=c::q/\M c=true/\c≠126)∨∃c q,r=126::c::q/\M c=false):
  ∀s t r q,True->True->T r->T q->esc M s++r=esc M t++q->s=t/\r=q:=by
 have none:∀c (t:Str) r q,T r->r=esc M (c::t)++q->False:=fun c t r q hr e=>by
  rw[sE]at e;cases hc:M c with
  |true=>
   rw[hc,if_pos rfl]at e;rcases hT r hr with rfl | ⟨d,u,rfl,h1,h2⟩ | ⟨d,u,rfl,h1⟩
   ·cases e
   ·simp only[List.cons_append,List.cons.injEq]at e;exact h2 e.1
   ·simp only[List.cons_append,List.nil_append,List.cons.injEq]at e;rw[e.2.1,hc]at h1;cases h1
  |false=>
   rw[hc,if_neg Bool.false_ne_true]at e;rcases hT r hr with rfl | ⟨d,u,rfl,h1,h2⟩ | ⟨d,u,rfl,h1⟩
   ·cases e
   ·simp only[List.cons_append,List.cons.injEq]at e;rw[e.1,hc]at h1;cases h1
   ·simp only[List.cons_append,List.nil_append,List.cons.injEq]at e;rw[<- e.1,hM]at hc;cases hc
 intro s
 induction s with
 |nil=>
  intro t r q _ _ hr hq e;cases t with
  |nil=>exact⟨rfl,e⟩
  |cons c t=>exact (none c t r q hr e).elim
 |cons c s ih=>
  intro t r q _ _ hr hq e;cases t with
  |nil=>exact (none c s q r hq e.symm).elim
  |cons d t=>
   rw[sE,sE,List.append_assoc,List.append_assoc]at e;cases hc:M c with
   |true=>cases hd:M d with
    |true=>
     rw[hc,hd,if_pos rfl,if_pos rfl]at e;simp only[List.cons_append,List.nil_append,List.cons.injEq]at e;obtain⟨e1,e2⟩:=ih t r q trivial trivial hr hq e.2.2;exact⟨by rw[e.2.1,e1],e2⟩
    |false=>
     rw[hc,hd,if_pos rfl,if_neg Bool.false_ne_true]at e;simp only[List.cons_append,List.nil_append,List.cons.injEq]at e;rw[<- e.1,hM]at hd;cases hd
   |false=>cases hd:M d with
    |true=>
     rw[hc,hd,if_pos rfl,if_neg Bool.false_ne_true]at e;simp only[List.cons_append,List.nil_append,List.cons.injEq]at e;rw[e.1,hM]at hc;cases hc
    |false=>
     rw[hc,hd,if_neg Bool.false_ne_true,if_neg Bool.false_ne_true]at e;simp only[List.cons_append,List.nil_append,List.cons.injEq]at e;obtain⟨e1,e2⟩:=ih t r q trivial trivial hr hq e.2;exact⟨by rw[e.1,e1],e2⟩
def mL(c:UInt8):Bool:=c==126
def TL(r:Str):Prop:=r=[]∨∃q,r=126::124::q
theorem aGK:UD (esc mL) (fun _=>True) TL:=aPO (by rfl) fun r hr=>hr.elim .inl fun⟨q,e⟩=>.inr (.inr ⟨124,q,e,by rfl⟩)
def aI6(l:List Str):Str:=sb [126,124] (l.map (esc mL))
theorem aL5{l m:List Str}(hl:l≠[])(hm:m≠[])(h:aI6 l=aI6 m):l=m:=by
 refine (UD.list (T:=TS []) (sep:=[126,124]) aGK (fun q=>.inr ⟨q,rfl⟩) (fun r hr=>hr.elim .inl fun⟨c,q,_,h⟩=>by cases h) (fun q hq=>hq.elim (fun e=>by cases e) fun⟨c,q,_,h⟩=>by cases h) l m [] [] ⟨hl,fun _ _=>trivial⟩ ⟨hm,fun _ _=>trivial⟩ (.inl rfl) (.inl rfl) ?_).1
 rw[List.append_nil,List.append_nil];exact h
def mG(c:UInt8):Bool:=c==126 || c==124 || c==59
theorem aRs:UD (esc mG) (fun _=>True) (TS [124,59]):=aPO (by rfl) fun r hr=>hr.elim .inl fun⟨c,q,e,h⟩=>.inr (.inl ⟨c,q,e,by
 simp only[List.mem_cons,List.not_mem_nil,or_false]at h;rcases h with rfl | rfl<;>decide⟩)
def aL6(l:List (List Str)):Str:=sb [59] (l.map fun r=>sb [124] (r.map (esc mG)))
theorem aMH{l m:List (List Str)}(hl:l≠[]/\∀r∈l,r≠[])(hm:m≠[]/\∀r∈m,r≠[])(h:aL6 l=aL6 m):l=m:=by
 have k:=UD.list1 (c:=59) (S:=[]) (by simp) (UD.list1 (c:=124) (S:=[59]) (by decide) aRs)
 refine (k l m [] [] ⟨hl.1,fun a ha=>⟨hl.2 a ha,fun _ _=>trivial⟩⟩ ⟨hm.1,fun a ha=>⟨hm.2 a ha,fun _ _=>trivial⟩⟩ (.inl rfl) (.inl rfl) ?_).1;rw[List.append_nil,List.append_nil];exact h
def aJb:List Int->Str
 | []=>[]
 |n::r=>32::dec n.toNat++aJb r
def aRt(op:Int)(l:List Int):Str:=sg op::aJb l
theorem aK9:∀l:List Int,hd isD (aJb l)=false
 | []=>rfl
 |n::r=>rfl
theorem aUh{m n:Nat}{r q:Str}(hr:hd isD r=false)(hq:hd isD q=false)(h:dec m++r=dec n++q):m=n/\r=q:=by
 obtain⟨e1,e2⟩:=zX (a:=dec m) (r:=r) uM hr;obtain⟨e3,e4⟩:=zX (a:=dec n) (r:=q) uM hq;rw[h]at e1 e2;exact⟨aRr (e1.symm.trans e3),e2.symm.trans e4⟩
theorem aI7:∀{l m:List Int},(∀n∈l,0<=n)->(∀n∈m,0<=n)->aJb l=aJb m->l=m
 | [],[],_,_,_=>rfl
 | [],_::_,_,_,h=>by cases h
 |_::_,[],_,_,h=>by cases h
 |a::l,b::m,hl,hm,h=>by
  simp only[aJb,List.cons_append,List.cons.injEq,true_and]at h;obtain⟨e1,e2⟩:=aUh (aK9 l) (aK9 m) h;have h1:=hl a (by simp)
  have h2:=hm b (by simp)
  rw[aI7 (fun n hn=>hl n (by simp[hn])) (fun n hn=>hm n (by simp[hn])) e2,show a=b by omega]
theorem aUi{a b:Int}(ha:3<=a/\a<=6)(hb:3<=b/\b<=6)(h:sg a=sg b):a=b:=by
 have h1:a=3∨a=4∨a=5∨a=6:=by omega
 have h2:b=3∨b=4∨b=5∨b=6:=by omega
 rcases h1 with rfl | rfl | rfl | rfl<;>rcases h2 with rfl | rfl | rfl | rfl<;>first | rfl | (revert h;decide)
def aMI(k:Nat):UInt8:=([99,100,101,102,103,97,98]:List UInt8).getD k 0
def sP(n:Note):Str:=(if n.step<0 then [114] else [aMI (n.step % 7).toNat])++((if n.alter=1 then [35] else if n.alter = -1 then [95] else [])++((if 0<=n.step then [UInt8.ofNat (48+(n.step / 7).toNat)] else [])++[UInt8.ofNat (48+n.length.toNat)]))
structure NoteG(n:Note):Prop where
 s0 : -1<=n.step
 s1:n.step<=48
 l0:0<=n.length
 l1:n.length<=4
 a0 : -1<=n.alter
 a1:n.alter<=1
def aON(c:UInt8):Int:=match ([99,100,101,102,103,97,98]:List UInt8).idxOf? c with
 |some i=>i
 |none=>0
def aMJ(c:UInt8)(alt:Int)(r:Str):Note:=match r with
 | [l]=>⟨-1,l.toNat - 48,alt⟩
 | [o,l]=>⟨7*(o.toNat - 48)+aON c,l.toNat - 48,alt⟩
 |_=>⟨0,0,0⟩
def aPP(s:Str):Note:=match s with
 |c::d::r=>if d=35 then aMJ c 1 r else if d=95 then aMJ c (-1) r else aMJ c 0 (d::r)
 |_=>⟨0,0,0⟩
def aRu(c:UInt8):Bool := !(c==32 || c==124 || c==47)
def aPQ(n:Note):Bool:=decide (aPP (sP n)=n)&&(sP n).all aRu
theorem aOO:((List.range 50).all fun i=>(List.range 5).all fun j=>(List.range 3).all fun k=>aPQ ⟨(i:Int) - 1,j,(k:Int) - 1⟩)=true:=by kernel_rfl
theorem aMK{n:Note}(h:NoteG n):aPP (sP n)=n/\∀c∈sP n,aRu c=true:=by
 obtain⟨s,l,a⟩:=n;obtain⟨h1,h2,h3,h4,h5,h6⟩:=h;simp only at h1 h2 h3 h4 h5 h6;have k:=aOO;rw[List.all_eq_true]at k;have k:=k (s+1).toNat (by simp;omega)
 rw[List.all_eq_true]at k;have k:=k l.toNat (by simp;omega)
 rw[List.all_eq_true]at k;have k:=k (a+1).toNat (by simp;omega)
 rw[show (((s+1).toNat:Nat):Int) - 1=s by omega,show ((l.toNat:Nat):Int)=l by omega,show (((a+1).toNat:Nat):Int) - 1=a by omega]at k
 unfold aPQ at k;rw[Bool.and_eq_true,decide_eq_true_eq,List.all_eq_true]at k;exact k
theorem aKa{r:Str}(h:TS [32,124,47] r):hd aRu r=false:=by
 rcases h with rfl | ⟨c,q,rfl,hc⟩
 ·rfl
 ·simp only[List.mem_cons,List.not_mem_nil,or_false]at hc;rcases hc with rfl | rfl | rfl<;>rfl
theorem aRv:UD sP NoteG (TS [32,124,47]):=fun a b r q ha hb hr hq h=>by
 obtain⟨a1,a2⟩:=aMK ha;obtain⟨b1,b2⟩:=aMK hb;obtain⟨e1,e2⟩:=zX a2 (aKa hr);obtain⟨e3,e4⟩:=zX b2 (aKa hq);rw[h]at e1 e2;have e:=e1.symm.trans e3;exact⟨by rw[<- a1,e,b1],e2.symm.trans e4⟩
def aL7(l:List Note):Str:=sb [32] (l.map sP)
def aCh(l:List (List (List Note))):Str:=sb [47] (l.map fun h=>sb [124] (h.map aL7))
def aX9(l:List (List (List Note))):Prop:=l≠[]/\∀h∈l,h≠[]/\∀b∈h,b≠[]/\∀n∈b,NoteG n
theorem aJc{l m:List (List (List Note))}(hl:aX9 l)(hm:aX9 m)(h:aCh l=aCh m):l=m:=by
 have k:=UD.list1 (c:=47) (S:=[]) (by simp) (UD.list1 (c:=124) (S:=[47]) (by decide) (UD.list1 (c:=32) (S:=[124,47]) (by decide) aRv))
 refine (k l m [] [] hl hm (.inl rfl) (.inl rfl) ?_).1;rw[List.append_nil,List.append_nil];exact h
def qQ:Int->List Run->Str
 |_,[]=>[]
 |p,r::l=>(if r.lang=p then [] else [126,124])++(esc mL r.text++qQ r.lang l)
def Alt:Int->List Run->Prop
 |_,[]=>True
 |p,r::l=>r.lang≠p/\(r.lang=0∨r.lang=1)/\Alt r.lang l
theorem aFV:∀{p:Int} {l:List Run},Alt p l->TL (qQ p l)
 |_,[],_=>.inl rfl
 |p,r::l,h=>.inr ⟨esc mL r.text++qQ r.lang l,by rw[qQ,if_neg h.1];rfl⟩
theorem aEp:∀{p:Int} {l m:List Run},(p=0∨p=1)->Alt p l->Alt p m->qQ p l=qQ p m->l=m
 |_,[],[],_,_,_,_=>rfl
 |p,[],b::m,_,_,hm,h=>by rw[qQ,qQ,if_neg hm.1]at h;cases h
 |p,a::l,[],_,hl,_,h=>by rw[qQ,qQ,if_neg hl.1]at h;cases h
 |p,⟨la,ta⟩::l,⟨lb,tb⟩::m,hp,hl,hm,h=>by
  obtain⟨l1,l2,l3⟩:=hl;obtain⟨m1,m2,m3⟩:=hm;simp only at l1 l2 l3 m1 m2 m3;have e:la=lb:=by omega
  subst e;simp only[qQ,if_neg l1]at h;obtain⟨e1,e2⟩:=aGK _ _ _ _ trivial trivial (aFV l3) (aFV m3) (List.append_cancel_left h);rw[e1,aEp l2 l3 m3 e2]
structure RunsG(l:List Run):Prop where
 ne:l≠[]
 one:∀r∈l,(r.lang=0∨r.lang=1)/\r.text≠[]
 alt:∀r m,l=r::m->Alt r.lang m
theorem aI8{c:UInt8}{t v w:Str}:esc mL (c::t)++v≠126::124::w:=by
 rw[sE];intro h;cases hc:mL c with
 |true=>
  rw[hc,if_pos rfl]at h;simp only[List.cons_append,List.nil_append,List.cons.injEq,true_and]at h;rw[h.1]at hc;cases hc
 |false=>
  rw[hc,if_neg Bool.false_ne_true]at h;simp only[List.cons_append,List.nil_append,List.cons.injEq]at h;rw[h.1]at hc;cases hc
theorem aML{l m:List Run}(hl:RunsG l)(hm:RunsG m)(h:qQ 0 l=qQ 0 m):l=m:=by
 cases l with
 |nil=>exact absurd rfl hl.ne
 |cons a l=>cases m with
  |nil=>exact absurd rfl hm.ne
  |cons b m=>
   obtain⟨la,ta⟩:=a;obtain⟨lb,tb⟩:=b;obtain⟨l1,l2⟩:=hl.one _ List.mem_cons_self;obtain⟨m1,m2⟩:=hm.one _ List.mem_cons_self;have l3:=hl.alt _ _ rfl;have m3:=hm.alt _ _ rfl;simp only at l1 l2 l3 m1 m2 m3;obtain⟨c,ta',rfl⟩:∃c t,ta=c::t:=by cases ta with | nil=>exact absurd rfl l2 | cons c t=>exact⟨c,t,rfl⟩
   obtain⟨d,tb',rfl⟩:∃c t,tb=c::t:=by cases tb with | nil=>exact absurd rfl m2 | cons c t=>exact⟨c,t,rfl⟩
   simp only[qQ]at h;rcases l1 with rfl | rfl<;>rcases m1 with rfl | rfl
   ·simp only[if_true,List.nil_append]at h;obtain⟨e1,e2⟩:=aGK _ _ _ _ trivial trivial (aFV l3) (aFV m3) h;rw[e1,aEp (.inl rfl) l3 m3 e2]
   ·simp only[if_true,List.nil_append,IE,if_false]at h;exact (aI8 h).elim
   ·simp only[if_true,List.nil_append,IE,if_false]at h;exact (aI8 h.symm).elim
   ·obtain⟨e1,e2⟩:=aGK _ _ _ _ trivial trivial (aFV l3) (aFV m3) (List.append_cancel_left h);rw[e1,aEp (.inr rfl) l3 m3 e2]
def aGL(b:Block):Block:=⟨b.kind,if b.kind=0 then b.runs else [],if b.kind=1 then b.expr else .mk 0 0 [],if b.kind=2 then b.sumOp else 0,if b.kind=2 then b.sumA else [],if b.kind=3 then b.grid else [],
 if b.kind=4 then b.w else 0,if b.kind=4 then b.h else 0,if b.kind=4 then b.shapes else [],if b.kind=5 then b.hands else [],if b.kind=6 then b.lines else []⟩
def wB(b:Block):Str:=if b.kind=0 then qQ 0 b.runs else if b.kind=1 then wX b.expr else if b.kind=2 then aRt b.sumOp b.sumA else if b.kind=3 then aL6 b.grid else if b.kind=5 then aCh b.hands else aI6 b.lines
structure GoodB(b:Block):Prop where
 only:b=aGL b
 kind:b.kind=0∨b.kind=1∨b.kind=2∨b.kind=3∨b.kind=5∨b.kind=6
 runs:b.kind=0->RunsG b.runs
 expr:b.kind=1->Rt true b.expr
 sum:b.kind=2->(3<=b.sumOp/\b.sumOp<=6)/\∀n∈b.sumA,0<=n
 grid:b.kind=3->b.grid≠[]/\∀r∈b.grid,r≠[]
 music:b.kind=5->aX9 b.hands
 lines:b.kind=6->b.lines≠[]
theorem aUj{a b:Block}(ha:GoodB a)(hb:GoodB b)(hk:a.kind=b.kind):wB a=wB b↔a=b:=by
 refine⟨fun h => ?_,fun h=>by rw[h]⟩
 have ha1:=ha.only;have hb1:=hb.only;have hkb:=hk ▸ ha.kind;unfold wB at h;rw[hk]at h;rw[ha1,hb1];unfold aGL;rw[hk];rcases hkb with e | e | e | e | e | e
 all_goals simp only[e,if_true,if_false,IE]at h ⊢
 ·rw[aML (ha.runs (hk.trans e)) (hb.runs e) h]
 ·rw[aUg (ha.expr (hk.trans e)) (hb.expr e) h]
 ·obtain⟨a1,a2⟩:=ha.sum (hk.trans e);obtain⟨b1,b2⟩:=hb.sum e;unfold aRt at h;rw[List.cons.injEq]at h;rw[aUi a1 b1 h.1,aI7 a2 b2 h.2]
 ·rw[aMH (ha.grid (hk.trans e)) (hb.grid e) h]
 ·rw[aJc (ha.music (hk.trans e)) (hb.music e) h]
 ·rw[aL5 (ha.lines (hk.trans e)) (hb.lines e) h]
set_option maxRecDepth 8000
def eR(g:String->Nat):AFn:=⟨9,[],[.tmp 4],qS [qmc 4 (.bool false)]<|qS [qm 5 0,qm 6 1,qc 7 (g "slices.Index[[]int,int]") [u 5,u 6],qbi 8 .geq 7 0,qm 4 8]<|.ret⟩
abbrev uN(g:String->Nat):ACode:=qS [qb 9 .lss 8 7]<|.seq (qC 9 (.skip) (.exit 0))<|.seq (.block 1 (qS [qm 10 8,qm 5 10]<|qS [qm 11 1,qm 12 0,qm 13 5,qi 14 12 13 1,ql 15 1 14,qb 16 .eql 11 15]<|qC 16 (qS [qm 17 5,qm 4 17]<|.ret) (.skip)))<|.region false [qbi 18 .add 8 1,qm 8 18]
abbrev uO:List Nat:=[9,10,5,11,12,13,14,15,16,17,4,18,8]
def eM(g:String->Nat):AFn:=⟨19,[],[.tmp 4],qS [qmc 4 (.int .i64 0)]<|.seq (qS [qm 6 0,qn 7 6,qmc 8 (.int .i64 0)]<|.block 0 (.loop (uN g)))<|qS [qmc 4 (.int .i64 (-1))]<|.ret⟩
def aAj(g:String->Nat):ACode:=.block 0 (qS [qbi 10 .eql 8 0,qm 9 10]<|qC 9 (qR [qf 11 1 1,ql 12 1 11,qf 13 1 3,qs 1 13 12]) (qS [qbi 15 .eql 8 1,qm 14 15]<|qC 14 (qR [qf 16 2 1,qla 17 3 16,qf 18 2 3,qs 3 18 17]) (qS [qbi 20 .eql 8 2,qm 19 20]<|qC 19 (qR [qf 21 5 1,qla 22 2 21,qf 23 5 3,qs 2 23 22]) (qS [qbi 25 .eql 8 3,qm 24 25]<|qC 24 (qR [qf 26 7 1,qla 27 1 26,qf 28 7 3,qs 1 28 27]) (qS [qbi 30 .eql 8 4,qm 29 30]<|qC 29 (qR [qf 31 8 1,qla 32 3 31,qf 33 8 3,qs 3 33 32]) (qS [qbi 35 .eql 8 5,qm 34 35]<|qC 34 (qR [qf 36 11 1,qla 37 1 36,qf 38 11 3,qs 1 38 37]) (qS [qbi 40 .eql 8 6,qm 39 40]<|qC 39 (qR [qf 41 12 1,ql 42 1 41,qf 43 12 3,qs 1 43 42]) (.skip))))))))
def vY(g:String->Nat):AFn:=⟨45,[2,3],[.cell 2 13 true],qS [qx 1 13 0,qq 2 (.alloc [(.int .i64 0),(.sl true []),(.int .i64 0),(.int .i64 0),(.sl true []),(.int .i64 0),(.sl true []),(.sl true []),(.int .i64 0),(.int .i64 0),(.sl true []),(.sl true []),(.sl true [])])]<|qS [qf 4 0 1,ql 5 1 4,qq 6 (.build [(.int .i64 0),(.sl true []),(.int .i64 0),(.int .i64 0),(.sl true []),(.int .i64 0),(.sl true []),(.sl true []),(.int .i64 0),(.int .i64 0),(.sl true []),(.sl true []),(.sl true [])] [(0,1,(.tmp 5))]),qq 3 (.alloc [(.int .i64 0),(.sl true []),(.int .i64 0),(.int .i64 0),(.sl true []),(.int .i64 0),(.sl true []),(.sl true []),(.int .i64 0),(.int .i64 0),(.sl true []),(.sl true []),(.sl true [])]),qs 13 3 6]<|.seq (qS [qf 7 0 1,ql 8 1 7]<|aAj g)<|qS [qla 44 13 3,qs 13 2 44]<|.ret⟩
section
variable {A:AProg}{g:String->Nat}
def aRw(l:List Note):Bool:=wi l.length 1 16&&l.all aEo
def aJd(n:Nat)(l:List (List Note)):Bool:=((l.length:Int)==(n:Int))&&(wi l.length 1 32&&l.all aRw)
def aSH(l:List (List (List Note))):Bool:=wi l.length 1 2&&l.all (aJd (l.headD []).length)
structure HasMel(A:AProg)(g:String->Nat):Prop where
 mel:Has A g "dactyl/syntax.isMelody" (qO g)
 mel1:Has A g "dactyl/syntax.isMelody$1" (nJ g)
 mel2:Has A g "dactyl/syntax.isMelody$1$1" (lY g)
 note:Has A g "dactyl/syntax.isNote" (pO g)
 allH:HasAll A g 1 false (g "dactyl/syntax.all[[][]dactyl/api.Note]")
 allB:HasAll A g 1 false (g "dactyl/syntax.all[[]dactyl/api.Note]")
 allN:HasAll A g 3 true (g "dactyl/syntax.all[dactyl/api.Note]")
theorem aL8(h:HasMel A g)(hw:eQ A g)(l:List Note)(hl:l.length<=16)(H:List AObj):aL A (g "dactyl/syntax.isMelody$1$1") [.sl false (l.map cK)] H=some (.bool (aRw l),H,[]):=by
 refine h.mel2.call (by simp[lY]) (by kernel_rfl) ?_
 have hc:=h.allN.spec hw aOG fA (l:=l) (H:=H) (f1:=g "dactyl/syntax.isNote") (q:=aEo) (lo:=1) (hi:=16) (by show l.length<_;omega) fun _ n _=>aJ8 h.note hw n H
 simp only[lY];simp only[go_sem,↓aC,seval,hc,aRw]
theorem aJe(h:HasMel A g)(hw:eQ A g){l0:List (List Note)}{ls:List (List (List Note))}(l:List (List Note))(hl:l.length<=16)(hb:∀b∈l,b.length<=16)(H:List AObj):
  aL A (g "dactyl/syntax.isMelody$1") [.sl false (l.map gS),.ep [.sl false ((l0::ls).map cE)] 0] H=some (.bool (aJd l0.length l),H,[]):=by
 refine h.mel1.call (by simp[nJ]) (by kernel_rfl) ?_
 have hc:=h.allB.spec hw aRn fA (l:=l) (H:=H) (f1:=g "dactyl/syntax.isMelody$1$1") (q:=aRw) (lo:=1) (hi:=32) (by show l.length<_;omega) fun _ b hm=>aL8 h hw b (hb b hm) H
 simp only[nJ,aJd];cases e:((l.length:Int)==(l0.length:Int))with
 |false=>simp only[go_sem,↓aC,seval,List.length_map,List.map_cons,List.getElem?_cons_zero,cE,e,Bool.false_and,Bool.false_beq]
 |true=>simp only[go_sem,↓aC,seval,List.length_map,List.map_cons,List.getElem?_cons_zero,cE,e,Bool.true_and,beq_self_eq_true,hc]
theorem aGM(h:HasMel A g)(hw:eQ A g)(l:List (List (List Note)))(hl:l.length<=16)(hb:∀x∈l,x.length<=16/\∀b∈x,b.length<=16)(H:List AObj):
  aL A (g "dactyl/syntax.isMelody") [.agg [.sl false (l.map cE)]] H=some (.bool (aSH l),H,[]):=by
 refine h.mel.call (by simp[qO]) (by kernel_rfl) ?_
 have hc:=h.allH.spec hw aOF (fA.ep [.sl false (l.map cE)] 0) (l:=l) (H:=H) (f1:=g "dactyl/syntax.isMelody$1") (q:=aJd (l.headD []).length) (lo:=1) (hi:=2) (by show l.length<_;omega) fun _ x hm=>by
  cases l with
  |nil=>cases hm
  |cons l0 ls=>exact aJe h hw x (hb x hm).1 (hb x hm).2 H
 simp only[qO];simp only[go_sem,↓aC,seval,hc,aSH]
theorem aJf(h:Has A g "slices.Index[[]int,int]" (eM g))(l:List Int)(s:Int)(hl:l.length<=1000000000)(H:List AObj):
  aL A (g "slices.Index[[]int,int]") [.sl false (l.map bD),vi s] H=some (vi (aNM (fun x=>s==x) l),H,[]):=by
 refine h.call (by simp[eM]) (by kernel_rfl) ?_
 simp only[eM];simp only[go_sem,↓aC,seval,List.length_map];refine bZ (id:=0) (W:=uO) (fun i ρ1 H1 wr=>wr=[]/\H1=H/\ρ1 8=vi i/\∀j (hj:j<i) (hl:j<l.length),(s==l[j])=false) l.length
  (fun ρ1 H1 wr=>wr=[]/\H1=H/\∀j (hl:j<l.length),(s==l[j])=false)
  (by kernel_rfl) (by rfl) ⟨rfl,by simp,rfl,fun j hj=>by omega⟩ ?_ ?_
 ·rintro i ρ1 H1 wr1 hil ⟨rfl,rfl,e8,hn⟩ hf;have e0:ρ1 0=.sl false (l.map bD):=by rw[hf 0 (by rfl)];rfl
  have e1:ρ1 1=vi s:=by rw[hf 1 (by rfl)];rfl
  have e7:ρ1 7=vi l.length:=by rw[hf 7 (by rfl)];rfl
  simp only[go_sem,↓aC,seval,e8,e7];refine aD (fun hb => ?_) (fun hb => ?_)
  ·have hlt:i<l.length:=by simpa using hb
   have hg:(l.map bD)[i]? = some [vi l[i]]:=getElem?_map_of hlt;have hn0:(0:Int)<=(i:Int):=by omega
   have hto:((i:Int)).toNat=i:=by omega
   have hw9:IntKind.i64.wrap ((i:Int)+1)=((i+1:Nat):Int):=by rw[wrap_i64 (by omega) (by omega)];omega
   cases hc:(s==l[i])with
   |true=>
    simp only[go_sem,↓aC,seval,e0,e1,e8,hg,hn0,hto,hc];exact (aMy (p:=fun x=>s==x) hlt hc fun j hj=>hn j hj (by omega)).symm ▸ rfl
   |false=>
    simp only[go_sem,↓aC,seval,e0,e1,e8,hg,hn0,hto,hc,hw9];refine⟨hlt,fun j hj hjl => ?_⟩
    by_cases e:j=i
    ·subst e;exact hc
    ·exact hn j (by omega) hjl
  ·have hi:i=l.length:=by simp at hb;omega
   subst hi;simp only[go_sem,seval];exact fun j hj=>hn j hj hj
 ·rintro ρ' H' wr' ⟨rfl,rfl,hn⟩ hf;simp only[go_sem,↓aC,seval,aHV (p:=fun x=>s==x) hn]
theorem aF4(h:Has A g "slices.Contains[[]int,int]" (eR g))(hi:Has A g "slices.Index[[]int,int]" (eM g))(l:List Int)(s:Int)(hl:l.length<=1000000000)(H:List AObj):
  aL A (g "slices.Contains[[]int,int]") [.sl false (l.map bD),vi s] H=some (.bool (l.any fun x=>s==x),H,[]):=by
 refine h.call (by simp[eR]) (by kernel_rfl) ?_
 simp only[eR];simp only[go_sem,↓aC,seval,aJf hi l s hl,aMz]
theorem aI9(h:Has A g "dactyl/syntax.only" (vY g))(b:Block)(H:List AObj):aL A (g "dactyl/syntax.only") [.agg (aE b)] H=some (.agg (aE (aGL b)),H,[]):=by
 refine h.call (by simp[vY]) (by kernel_rfl) ?_
 obtain⟨kind,runs,⟨op,n,ks⟩,sumOp,sumA,grid,w,hh,shapes,hands,lines⟩:=b;simp only[vY,aAj,aE,aF,aV,aGL,List.cons_append,List.nil_append];have ur:∀n,eF n (runs.map cW)=true:=fun _=>aA (aB bT runs);have ue:∀n,eF n (ks.map aF)=true:=fun _=>aA (aB aQ ks);have ua:∀n,eF n (sumA.map bD)=true:=fun _=>aA (aB aP sumA);have ug:∀n,eF n (grid.map cA)=true:=fun _=>aA (aB cR grid);have us:∀n,eF n (shapes.map bB)=true:=fun _=>aA (aB bR shapes);have uh:∀n,eF n (hands.map cE)=true:=fun _=>aA (aB cL hands);have ul:∀n,eF n (lines.map aN)=true:=fun _=>aA (aB bL lines)
 by_cases e0:kind=0
 ·subst e0;simp only[go_sem,↓aC,seval,List.map_nil,aF,aV,ur]
 have n0:(kind==0)=false:=by simpa using e0
 by_cases e1:kind=1
 ·subst e1;simp only[go_sem,↓aC,seval,List.map_nil,aF,aV,ue]
 have n1:(kind==1)=false:=by simpa using e1
 by_cases e2:kind=2
 ·subst e2;simp only[go_sem,↓aC,seval,List.map_nil,aF,aV,ua]
 have n2:(kind==2)=false:=by simpa using e2
 by_cases e3:kind=3
 ·subst e3;simp only[go_sem,↓aC,seval,List.map_nil,aF,aV,ug]
 have n3:(kind==3)=false:=by simpa using e3
 by_cases e4:kind=4
 ·subst e4;simp only[go_sem,↓aC,seval,List.map_nil,aF,aV,us]
 have n4:(kind==4)=false:=by simpa using e4
 by_cases e5:kind=5
 ·subst e5;simp only[go_sem,↓aC,seval,List.map_nil,aF,aV,uh]
 have n5:(kind==5)=false:=by simpa using e5
 by_cases e6:kind=6
 ·subst e6;simp only[go_sem,↓aC,seval,List.map_nil,aF,aV,ul]
 have n6:(kind==6)=false:=by simpa using e6
 simp only[go_sem,↓aC,seval,List.map_nil,aF,aV,e0,e1,e2,e3,e4,e5,e6,n0,n1,n2,n3,n4,n5,n6]
end
abbrev aCi(g:String->Nat):List AOper:=[qla 5 13 1,qla 6 13 1,⟨some 7,oc (g "dactyl/syntax.only") [u 6],none,[1]⟩,⟨some 8,oc (g "dactyl/syntax.sameBlock") [u 5,u 7],none,[0,2,1]⟩,⟨some 9,.un .not (u 8),none,[3,0,2,1]⟩]
abbrev uP:List Nat:=[0,2]
abbrev aCj(g:String->Nat):List AOper:=[qf 71 12 1,⟨some 72,ol 1 71,none,[0]⟩,qc 73 (g "dactyl/syntax.upTo") [ui 0,ui 80],⟨some 74,oc (g "dactyl/syntax.all[string]") [u 72,ui 1,ui 64,u 73],none,[1,0,2]⟩,⟨some 2,om 74,none,[3,1,0,2]⟩]
abbrev uQ:List Nat:=[1,2]
def uR(g:String->Nat):ACode:=.block 0 (qS [qbi 13 .eql 11 0,qm 12 13]<|qC 12 (qS [qf 14 1 1,ql 15 1 14,qc 16 (g "dactyl/syntax.isRuns") [u 15],qm 2 16]<|.ret) (qS [qbi 18 .eql 11 1,qm 17 18]<|qC 17 (qS [qf 20 2 1,qla 21 3 20,qc 22 (g "dactyl/syntax.isExpr") [u 21,ui 1],qm 19 22,qq 23 (.ext 0 (u 19)),qq 24 (.ext 1 (u 19)),qm 3 23,qm 4 24]<|qS [qm 25 4,qm 2 25]<|.ret) (qS [qbi 27 .eql 11 2,qm 26 27]<|qC 26 (qS [qq 28 (.bsl 1 [(.int .i64 0)] 4 [(0,(.const (.int .i64 3))),(1,(.const (.int .i64 4))),(2,(.const (.int .i64 5))),(3,(.const (.int .i64 6)))]),qf 29 5 1,qf 30 0 29,ql 31 1 30,qc 32 (g "slices.Contains[[]int,int]") [u 28,u 31],qm 33 32,qT 34 33 (of 5 1),qT 35 33 (of 1 34),qT 36 33 (ol 1 35),qT 37 33 (oc (g "dactyl/syntax.all[int]") [u 36,ui 1,ui 8,uf (g "dactyl/syntax.isBlock$1")]),qp 38 33 37,qm 2 38]<|.ret) (qS [qbi 40 .eql 11 3,qm 39 40]<|qC 39 (qS [qf 41 7 1,qf 42 0 41,ql 43 1 42,qq 44 (.mkf (g "dactyl/syntax.isBlock$2") [] [(.tmp 1)]),qc 45 (g "dactyl/syntax.all[[]string]") [u 43,ui 1,ui 12,u 44],qm 2 45]<|.ret) (qS [qbi 47 .eql 11 4,qm 46 47]<|qC 46 (qS [qf 48 8 1,qf 49 0 48,ql 50 1 49,qc 51 (g "dactyl/syntax.within") [u 50,ui 1,ui 1000],qm 52 51,qT 53 52 (of 8 1),qT 54 52 (of 1 53),qT 55 52 (ol 1 54),qT 56 52 (oc (g "dactyl/syntax.within") [u 55,ui 1,ui 1000]),qp 57 52 56,qm 58 57,qT 59 58 (of 8 1),qT 60 58 (of 2 59),qT 61 58 (ol 1 60),qT 62 58 (oc (g "dactyl/syntax.all[dactyl/api.Shape]") [u 61,ui 1,ui 8,uf (g "dactyl/syntax.isShape")]),qp 63 58 62,qm 2 63]<|.ret) (qS [qbi 65 .eql 11 5,qm 64 65]<|qC 64 (qS [qf 66 11 1,qla 67 1 66,qc 68 (g "dactyl/syntax.isMelody") [u 67],qm 2 68]<|.ret) (qS [qbi 70 .eql 11 6,qm 69 70]<|qC 69 (.seq (.region true (aCj g))<|.ret) (.skip))))))))
def sQ(g:String->Nat):AFn:=⟨75,[],[.tmp 2],qS [qx 1 13 0,qmc 2 (.bool false)]<|.seq (.seq (.region true (aCi g))<|qC 9 (qS [qmc 2 (.bool false)]<|.ret) (.skip))<|.seq (qS [qf 10 0 1,ql 11 1 10]<|uR g)<|qS [qmc 2 (.bool false)]<|.ret⟩
def oV(g:String->Nat):AFn:=⟨5,[],[.tmp 2],qS [qmc 2 (.bool false)]<|qS [qm 3 0,qc 4 (g "dactyl/syntax.within") [u 3,ui 0,ui 999999],qm 2 4]<|.ret⟩
def oW(g:String->Nat):AFn:=⟨18,[],[.tmp 3],qS [qmc 3 (.bool false)]<|qS [qm 4 0,qn 5 4,qf 6 7 1,qf 7 0 6,ql 8 1 7,qq 9 (.iaV (u 8) (ui 0) 1),ql 10 1 9,qn 11 10,qb 12 .eql 5 11,qm 13 12,qT 14 13 (om 0),qT 15 13 (oc (g "dactyl/syntax.upTo") [ui 0,ui 20]),qT 16 13 (oc (g "dactyl/syntax.all[string]") [u 14,ui 1,ui 12,u 15]),qp 17 13 16,qm 3 17]<|.ret⟩
section
variable {A:AProg}{g:String->Nat}
def aRx(n:Int):Bool:=wi n 0 999999
def aUk(n:Nat)(r:List Str):Bool:=((r.length:Int)==(n:Int))&&(wi r.length 1 12&&r.all (aGG 0 20))
noncomputable def aDf(b:Block):Bool:=
 if b.kind=0 then aI3 b.runs
 else if b.kind=1 then (exS b.expr 1).2
 else if b.kind=2 then ([3,4,5,6]:List Int).any (fun x=>b.sumOp==x)&&(wi b.sumA.length 1 8&&b.sumA.all aRx)
 else if b.kind=3 then wi b.grid.length 1 12&&b.grid.all (aUk (b.grid.headD []).length)
 else if b.kind=4 then (wi b.w 1 1000&&wi b.h 1 1000)&&(wi b.shapes.length 1 8&&b.shapes.all aCX)
 else if b.kind=5 then aSH b.hands
 else if b.kind=6 then wi b.lines.length 1 64&&b.lines.all (aGG 0 80)
 else false
noncomputable def kT(b:Block):Bool:=eqv b (aGL b)&&aDf b
structure HasBlock(A:AProg)(g:String->Nat):Prop where
 block:Has A g "dactyl/syntax.isBlock" (sQ g)
 block1:Has A g "dactyl/syntax.isBlock$1" (oV g)
 block2:Has A g "dactyl/syntax.isBlock$2" (oW g)
 only:Has A g "dactyl/syntax.only" (vY g)
 runs:Has A g "dactyl/syntax.isRuns" (pP g)
 runs1:Has A g "dactyl/syntax.isRuns$1" (jX g)
 expr:Has A g "dactyl/syntax.isExpr" (pQ g)
 kids:Has A g "dactyl/syntax.kids" (qN g)
 upTo:Has A g "dactyl/syntax.upTo" (vX g)
 upTo1:Has A g "dactyl/syntax.upTo$1" (pM g)
 shape:Has A g "dactyl/syntax.isShape" (nU g)
 shape1:Has A g "dactyl/syntax.isShape$1" (iO g)
 within:Has A g "dactyl/syntax.within" (pK g)
 text:Has A g "dactyl/syntax.isText" (pL g)
 text1:Has A g "dactyl/syntax.isText$1" (jV g)
 con:Has A g "slices.Contains[[]int,int]" (eR g)
 ind:Has A g "slices.Index[[]int,int]" (eM g)
 mel:HasMel A g
 same:HasSame A g
 allB:HasAll A g 1 false (g "dactyl/syntax.all[byte]")
 allR:HasAll A g 2 true (g "dactyl/syntax.all[dactyl/api.Run]")
 allI:HasAll A g 1 false (g "dactyl/syntax.all[int]")
 allL:HasAll A g 1 false (g "dactyl/syntax.all[[]string]")
 allS:HasAll A g 1 false (g "dactyl/syntax.all[string]")
 allF:HasAll A g 2 true (g "dactyl/syntax.all[dactyl/api.Shape]")
 allP:HasAll A g 2 true (g "dactyl/syntax.all[dactyl/api.Point]")
theorem aOP(h:HasBlock A g)(n:Int)(H:List AObj):aL A (g "dactyl/syntax.isBlock$1") [vi n] H=some (.bool (aRx n),H,[]):=by
 refine h.block1.call (by simp[oV]) (by kernel_rfl) ?_
 have hw:=qM h.within n 0 999999;simp only[oV,aRx];simp only[go_sem,↓aC,seval,hw]
theorem aFW(h:HasBlock A g)(l:List Str)(hl:l.length<=16)(ht:∀s∈l,s.length<=1000000)(a b lo hi:Int)(H:List AObj):
  aL A (g "dactyl/syntax.all[string]") [.sl false (l.map aN),vi lo,vi hi,.fn (g "dactyl/syntax.upTo$1") [] [.ep [vi a] 0,.ep [vi b] 0]] H=some (.bool (wi l.length lo hi&&l.all (aGG a b)),H,[]):=
 have hw:=qM h.within
 h.allS.spec hw aRl ((fA.ep [vi b] 0).ep [vi a] 0) (by show l.length<_;omega) fun _ s hm=>aL3 h.upTo1 (aAN h.text h.text1 h.allB hw) s a b H (ht s hm)
theorem aIa(h:HasBlock A g){r0:List Str}{rs:List (List Str)}{c0 c1 c2 c3 c4 c5 c6 c8 c9 c10 c11 c12:AV}(r:List Str)(hl:r.length<=16)(ht:∀s∈r,s.length<=1000000)(H:List AObj):
  aL A (g "dactyl/syntax.isBlock$2") [.sl false (r.map aN),.ep [c0,c1,c2,c3,c4,c5,c6,.sl false ((r0::rs).map cA),c8,c9,c10,c11,c12] 0] H=some (.bool (aUk r0.length r),H,[]):=by
 refine h.block2.call (by simp[oW]) (by kernel_rfl) ?_
 have hu:=fun H=>aI0 h.upTo 0 20 H;have hc:=aFW h r hl ht 0 20 1 12 H;simp only[oW,aUk];cases e:((r.length:Int)==(r0.length:Int))with
 |false=>simp only[go_sem,↓aC,seval,List.length_map,List.map_cons,List.getElem?_cons_zero,cA,e,Bool.false_and,Bool.false_beq]
 |true=>simp only[go_sem,↓aC,seval,List.length_map,List.map_cons,List.getElem?_cons_zero,cA,e,Bool.true_and,beq_self_eq_true,hu,hc]
set_option maxHeartbeats 3200000 in
theorem aIb(h:HasBlock A g)(b:Block)(hb:b.Ok)(H:List AObj):aL A (g "dactyl/syntax.isBlock") [.agg (aE b)] H=some (.bool (kT b),H,[]):=by
 refine h.block.call (by simp[sQ]) (by kernel_rfl) ?_
 have hw:=qM h.within;have ht:=aAN h.text h.text1 h.allB hw;have hon:=aI9 h.only b H;have hsm:=aFS h.same b (aGL b) H hb;have tx:∀{s:Str},mF s->s.length<=1000000:=fun h=>by have:_<=1000:=h;omega
 have h0:=aJ9 h.runs h.runs1 h.allR hw ht b.runs (by have:=hb.lenR;omega) (fun r hr=>tx (hb.runs r hr).text) H
 have h1:=aJa h.expr h.kids hw _ b.expr 1 H (Nat.lt_succ_self _) hb.expr (by decide) (by decide)
 have h2:=aF4 h.con h.ind [3,4,5,6] b.sumOp (by decide) H
 have h2':=h.allI.spec hw aRk fA (l:=b.sumA) (H:=H) (f1:=g "dactyl/syntax.isBlock$1") (q:=aRx) (lo:=1) (hi:=8) (by have:=hb.lenA;show b.sumA.length<_;omega) fun _ n _=>aOP h n H
 have h4:=h.allF.spec hw aHX fA (l:=b.shapes) (H:=H) (f1:=g "dactyl/syntax.isShape") (q:=aCX) (lo:=1) (hi:=8) (by have:=hb.lenS;show b.shapes.length<_;omega)
  fun _ s hm=>aI2 h.shape h.shape1 h.allP hw s (by have:=(hb.shapes s hm).len;omega) H
 have h4w:=fun H=>hw b.w 1 1000 H;have h4h:=fun H=>hw b.h 1 1000 H;have h5:=aGM h.mel hw b.hands hb.lenH (fun x hx=>⟨(hb.hands x hx).1,fun l hl=>((hb.hands x hx).2 l hl).1⟩) H;have h6:=aFW h b.lines hb.lenL (fun s hs=>tx (hb.lines s hs)) 0 80 1 64 H;have h6u:=fun H=>aI0 h.upTo 0 80 H;have hgl:=hb.lenG;have hgr:=hb.grid;have hcells:∃c0 c1 c2 c3 c4 c5 c6 c8 c9 c10 c11 c12,aE b=[c0,c1,c2,c3,c4,c5,c6,.sl false (b.grid.map cA),c8,c9,c10,c11,c12]:=by
  obtain⟨_,_,⟨_,_,_⟩,_,_,_,_,_,_,_,_⟩:=b;exact⟨_,_,_,_,_,_,_,_,_,_,_,_,rfl⟩
 have h3:aL A (g "dactyl/syntax.all[[]string]") [.sl false (b.grid.map cA),vi 1,vi 12,.fn (g "dactyl/syntax.isBlock$2") [] [.ep (aE b) 0]] H=some (.bool (wi b.grid.length 1 12&&b.grid.all (aUk (b.grid.headD []).length)),H,[]):=by
  obtain⟨c0,c1,c2,c3,c4,c5,c6,c8,c9,c10,c11,c12,e⟩:=hcells;rw[e];refine h.allL.spec hw aRm (fA.ep _ 0) (l:=b.grid) (by show b.grid.length<_;omega) fun _ r hm => ?_
  cases hgd:b.grid with
  |nil=>rw[hgd]at hm;cases hm
  |cons r0 rs=>
   have:=aIa h (r0:=r0) (rs:=rs) (c0:=c0) (c1:=c1) (c2:=c2) (c3:=c3) (c4:=c4) (c5:=c5) (c6:=c6) (c8:=c8) (c9:=c9) (c10:=c10) (c11:=c11) (c12:=c12) r (hgr r hm).1 (fun s hs=>tx ((hgr r hm).2 s hs)) H;exact this
 simp only[sQ];simp only[go_sem,↓aC,seval,cQ,gC.still,gC.strips];refine bN (keep:=uP) (by rfl) (by rfl) ?_
 simp only[go_sem,↓aC,seval,uP,fG,eB,aR,cQ,gC.take,aY (bO b),aY (bO (aGL b)),aM (bO b),aM (bO (aGL b)),hon,hsm];cases e:eqv b (aGL b)with
 |false=>
  simp only[go_sem,↓aC,seval,kT,e,Bool.false_and]
 |true=>
  have hbb:kT b=aDf b:=by unfold kT;rw[e,Bool.true_and]
  rw[hbb];obtain⟨op,n,ks,hex⟩:∃op n ks,b.expr=Expr.mk op n ks:=by cases b.expr;exact⟨_,_,_,rfl⟩
  have hee:aF b.expr=[vi op,vi n,.sl false (ks.map aF)]:=by rw[hex,aF,aV]
  have hcb:aE b=[vi b.kind,.sl false (b.runs.map cW),vi op,vi n,.sl false (ks.map aF),vi b.sumOp,.sl false (b.sumA.map bD),.sl false (b.grid.map cA),vi b.w,vi b.h,.sl false (b.shapes.map bB),.sl false (b.hands.map cE),.sl false (b.lines.map aN)]:=by
   unfold aE;rw[hee];rfl
  rw[hee]at h1;rw[hcb]at h3;simp only[go_sem,↓aC,seval,hcb];simp only[uR];unfold aDf
  by_cases e0:b.kind=0
  ·rw[e0];simp only[go_sem,↓aC,seval,h0]
  have n0:(b.kind==0)=false:=by simpa using e0
  rw[if_neg e0]
  by_cases e1:b.kind=1
  ·rw[e1];simp only[go_sem,↓aC,seval,h1]
  have n1:(b.kind==1)=false:=by simpa using e1
  rw[if_neg e1]
  by_cases e2:b.kind=2
  ·rw[e2];simp only[List.map_cons,List.map_nil,bD]at h2;cases k:([3,4,5,6]:List Int).any (fun x=>b.sumOp==x)with
   |false=>rw[k]at h2;simp only[go_sem,↓aC,seval,h2,Bool.false_and,beq_self_eq_true,Bool.false_beq]
   |true=>rw[k]at h2;simp only[go_sem,↓aC,seval,h2,Bool.true_and,beq_self_eq_true,h2']
  have n2:(b.kind==2)=false:=by simpa using e2
  rw[if_neg e2]
  by_cases e3:b.kind=3
  ·rw[e3]at h3 ⊢;simp only[go_sem,↓aC,seval,h3]
  have n3:(b.kind==3)=false:=by simpa using e3
  rw[if_neg e3]
  by_cases e4:b.kind=4
  ·rw[e4];cases k1:wi b.w 1 1000 with
   |false=>simp only[go_sem,↓aC,seval,h4w,k1,Bool.false_and,beq_self_eq_true,Bool.false_beq]
   |true=>cases k2:wi b.h 1 1000 with
    |false=>simp only[go_sem,↓aC,seval,h4w,h4h,k1,k2,Bool.false_and,Bool.and_false,beq_self_eq_true,Bool.false_beq]
    |true=>simp only[go_sem,↓aC,seval,h4w,h4h,k1,k2,h4,Bool.true_and,beq_self_eq_true]
  have n4:(b.kind==4)=false:=by simpa using e4
  rw[if_neg e4]
  by_cases e5:b.kind=5
  ·rw[e5];simp only[go_sem,↓aC,seval,h5]
  have n5:(b.kind==5)=false:=by simpa using e5
  rw[if_neg e5]
  by_cases e6:b.kind=6
  ·rw[e6];simp only[go_sem,↓aC,seval];refine bN (keep:=uQ) (by rfl) (by rfl) ?_
   simp only[go_sem,↓aC,seval,uQ,fG,eB,aR,h6u,h6]
  have n6:(b.kind==6)=false:=by simpa using e6
  rw[if_neg e6];simp only[go_sem,↓aC,seval,n0,n1,n2,n3,n4,n5,n6]
end
end Go.AM
end
