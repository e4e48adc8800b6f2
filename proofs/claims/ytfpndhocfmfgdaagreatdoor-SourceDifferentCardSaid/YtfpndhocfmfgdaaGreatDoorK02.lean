/- Part 2: lemmas for the last text. -/
import Derived.Test.YtfpndhocfmfgdaaGreatDoorK01
import Derived.Laws.World
import Derived.WalkKit
set_option linter.unusedVariables false
set_option linter.unusedSimpArgs false
section
namespace Go.AM
open Go
structure Loc where
 b:Nat
 st:Nat
 len:Nat
 k:Nat
 cap:Nat
structure G where
 perm:Nat->Nat->Option Value
 obj:Nat->Option Loc
 whole:Nat->Option Obj
 io:Os×Array (Nat×ByteArray)
 code:ACode->Code->Prop
inductive VRel(g:G):AV->Value->Prop where
 |undef (x:Value):VRel g .undef x
 |bool (b:Bool):VRel g (.bool b) (.bool b)
 |int (k:IntKind) (n:Int):VRel g (.int k n) (.int k n)
 |str (s:ByteArray):VRel g (.str s.data.toList) (.string s)
 |fn (f:Nat) (first caps:List AV) (vf vc:Array Value)
   (hf:first.length=vf.size) (hc:caps.length=vc.size)
   (h1:∀(i:Nat) a x,first[i]? = some a->vf[i]? = some x->VRel g a x)
   (h2:∀(i:Nat) a x,caps[i]? = some a->vc[i]? = some x->VRel g a x):VRel g (.fn f first caps) (.func (.func f) vf vc)
 |nilFn:VRel g .nilFn .nilFunc
 |ptr (o v off:Nat) (l:Loc) (a:Addr) (hl:g.obj o=some l) (hv:v<=l.st)
   (h:l.st=v->l.len=0->a=⟨l.b,off,none⟩):VRel g (.ptr o v off) (.pointer (some a))
 |vp (o v n k i off:Nat) (l:Loc) (a:Addr) (hl:g.obj o=some l) (hv:v<=l.st) (hn:l.st=v->n<=l.len)
   (h:l.st=v->l.len=n->a=⟨l.b,i*k+off,none⟩):VRel g (.vp o v n k i off) (.pointer (some a))
 |nilPtr:VRel g .nilPtr (.pointer none)
 |ep (row:List AV) (off b base:Nat) (hst:row.all AV.still=true)
   (hp:∀j,j<row.length->(g.perm b (base+j)).isSome)
   (h:∀(j:Nat) a x,row[j]? = some a->g.perm b (base+j)=some x->VRel g a x):VRel g (.ep row off) (.pointer (some ⟨b,base+off,none⟩))
 |slNil (full:Bool):VRel g (.sl full []) (.slice none 0 0)
 |sl (full:Bool) (rows:List (List AV)) (b off cap k:Nat) (hcap:rows.length<=cap) (hfull:full=true->cap=rows.length)
   (hk:∀(row:List AV),row∈rows->row.length=k) (hst:∀(row:List AV),row∈rows->row.all AV.still=true)
   (hp:∀i j,i<rows.length->j<k->(g.perm b (off+i*k+j)).isSome)
   (h:∀(i j:Nat) (row:List AV) a x,rows[i]? = some row->row[j]? = some a->g.perm b (off+i*k+j)=some x->VRel g a x):
   VRel g (.sl full rows) (.slice (some ⟨b,off,none⟩) rows.length cap)
 |sr (o v n:Nat) (l:Loc) (a:Addr) (cap:Nat) (hl:g.obj o=some l) (hv:v<=l.st) (hn:l.st=v->n<=l.len) (hc0:n<=cap)
   (h:l.st=v->l.len=n->a=⟨l.b,0,none⟩/\cap=l.cap):VRel g (.sr o v n) (.slice (some a) n cap)
 |srv (o v n k lo:Nat) (l:Loc) (a:Addr) (cap:Nat) (hl:g.obj o=some l) (hv:v<=l.st) (hn:l.st=v->n<=l.len) (hlo:lo<=n)
   (h:l.st=v->l.len=n->∃off,a=⟨l.b,off,none⟩/\(lo<n->off=lo*k)/\n - lo<=cap):VRel g (.srv o v n k lo) (.slice (some a) (n - lo) cap)
 |srw (o v n hi:Nat) (l:Loc) (a:Addr) (cap:Nat) (hl:g.obj o=some l) (hv:v<=l.st) (hn:l.st=v->n<=l.len) (hhi:hi<=n)
   (h:l.st=v->l.len=n->a=⟨l.b,0,none⟩/\cap=l.cap):VRel g (.srw o v n hi) (.slice (some a) hi cap)
 |nilSl:VRel g .nilSl (.slice none 0 0)
 |mp (o v:Nat) (l:Loc) (r:Nat) (hl:g.obj o=some l) (hv:v<=l.st) (h:l.st=v->l.len=0->r=l.b):VRel g (.mp o v) (.map (some r))
 |fmp (ks vs:List AV) (r:Nat) (entries:Array MapEntry) (clock:Nat) (hw:g.whole r=some (.map entries clock)) (hk:ks.length=entries.size) (hv:vs.length=entries.size)
   (h1:∀(i:Nat) a (e:MapEntry),ks[i]? = some a->entries[i]? = some e->VRel g a e.key)
   (h2:∀(i:Nat) a (e:MapEntry),vs[i]? = some a->entries[i]? = some e->VRel g a e.val):VRel g (.fmp ks vs) (.map (some r))
 |yld (o v:Nat) (l:Loc) (r:Nat) (hl:g.obj o=some l) (hv:v<=l.st) (h:l.st=v->l.len=0->r=l.b):VRel g (.yld o v) (.func (.yield r) #[] #[])
 |agg (cs:List AV) (vs:Array Value) (hs:cs.length=vs.size)
   (h:∀(i:Nat) a x,cs[i]? = some a->vs[i]? = some x->VRel g a x):VRel g (.agg cs) (.agg vs)
 |tup (cs:List AV) (vs:Array Value) (hs:cs.length=vs.size)
   (h:∀(i:Nat) a x,cs[i]? = some a->vs[i]? = some x->VRel g a x):VRel g (.tup cs) (.tuple vs)
 |ifc (t:Nat) (v:AV) (x:Value) (hv:v.inIfc=true) (h:VRel g v x):VRel g (.ifc t v) (.iface t x)
 |nilIfc:VRel g .nilIfc .nilIface
def fO(g:G)(as:List AV)(xs:List Value):Prop:=
 as.length=xs.length/\∀(i:Nat) a x,as[i]? = some a->xs[i]? = some x->VRel g a x
structure G.le(g g':G):Prop where
 perm:∀b i x,g.perm b i=some x->g'.perm b i=some x
 obj:∀o l,g.obj o=some l->∃l',g'.obj o=some l'/\l.st<=l'.st/\(l'.st=l.st->l.len<=l'.len/\(l'.len=l.len->l'=l))
 whole:∀b x,g.whole b=some x->g'.whole b=some x
 io:g'.io=g.io
 code:g'.code=g.code
theorem G.le.refl(g:G):g.le g:=⟨fun _ _ _ h=>h,fun _ l h=>⟨l,h,Nat.le_refl _,fun _=>⟨Nat.le_refl _,fun _=>rfl⟩⟩,fun _ _ h=>h,rfl,rfl⟩
theorem G.le.trans{a b c:G}(h:a.le b)(h':b.le c):a.le c:=by
 refine⟨fun x i v hx=>h'.perm _ _ _ (h.perm _ _ _ hx),fun o l hl => ?_,fun b x hx=>h'.whole _ _ (h.whole _ _ hx),h'.io.trans h.io,h'.code.trans h.code⟩;obtain⟨l1,h1,s1,e1⟩:=h.obj o l hl;obtain⟨l2,h2,s2,e2⟩:=h'.obj o l1 h1;refine⟨l2,h2,Nat.le_trans s1 s2,fun e => ?_⟩;have x1:l1.st=l.st:=by omega
 have x2:l2.st=l1.st:=by omega
 refine⟨Nat.le_trans (e1 x1).1 (e2 x2).1,fun e' => ?_⟩;have y1:=(e1 x1).1;have y2:=(e2 x2).1;rw[(e2 x2).2 (by omega),(e1 x1).2 (by omega)]
theorem VRel.mono{g g':G}(hg:g.le g'){a:AV}{x:Value}(h:VRel g a x):VRel g' a x:=by
 induction h with
 |undef x=>exact .undef x
 |bool b=>exact .bool b
 |int k n=>exact .int k n
 |str s=>exact .str s
 |fn f first caps vf vc hf hc h1 h2 ih1 ih2=>exact .fn f first caps vf vc hf hc ih1 ih2
 |nilFn=>exact .nilFn
 |ptr o v off l a hl hv h=>
  obtain⟨l',hl',hs,he⟩:=hg.obj o l hl;refine .ptr o v off l' a hl' (by omega) fun e1 e2 => ?_
  have x1:l'.st=l.st:=by omega
  have:=(he x1).1;rw[(he x1).2 (by omega)]
  exact h (by omega) (by omega)
 |vp o v n k i off l a hl hv hn h=>
  obtain⟨l',hl',hs,he⟩:=hg.obj o l hl;refine .vp o v n k i off l' a hl' (by omega) (fun e1 => ?_) fun e1 e2 => ?_
  ·have x1:l'.st=l.st:=by omega
   have:=(he x1).1;have:=hn (by omega)
   omega
  ·have x1:l'.st=l.st:=by omega
   have y1:=(he x1).1;have y2:=hn (by omega)
   rw[(he x1).2 (by omega)]
   exact h (by omega) (by omega)
 |nilPtr=>exact .nilPtr
 |nilIfc=>exact .nilIfc
 |ifc t v x hv h ih=>exact .ifc t v x hv ih
 |ep row off b base hst hp h ih=>
  refine .ep row off b base hst (fun j hj => ?_) fun j a x ha hx => ?_
  ·have:=hp j hj;cases hq:g.perm b (base+j)with
   |none=>simp[hq]at this
   |some y=>rw[hg.perm _ _ _ hq];rfl
  ·have hj:j<row.length:=(List.getElem?_eq_some_iff.1 ha).1;have:=hp j hj;cases hq:g.perm b (base+j)with
   |none=>simp[hq]at this
   |some y=>
    have hy:=hg.perm _ _ _ hq;rw[hx]at hy;injection hy with hy;subst hy;exact ih j a x ha hq
 |slNil full=>exact .slNil full
 |sl full rows b off cap k hcap hfull hk hst hp h ih=>
  refine .sl full rows b off cap k hcap hfull hk hst (fun i j hi hj => ?_) fun i j row a x hr ha hx => ?_
  ·have:=hp i j hi hj;cases hq:g.perm b (off+i*k+j)with
   |none=>simp[hq]at this
   |some y=>rw[hg.perm _ _ _ hq];rfl
  ·have hi:i<rows.length:=(List.getElem?_eq_some_iff.1 hr).1;have hj:j<row.length:=(List.getElem?_eq_some_iff.1 ha).1;have hrk:=hk row (List.mem_of_getElem? hr);have:=hp i j hi (by omega)
   cases hq:g.perm b (off+i*k+j)with
   |none=>simp[hq]at this
   |some y=>
    have hy:=hg.perm _ _ _ hq;rw[hx]at hy;injection hy with hy;subst hy;exact ih i j row a x hr ha hq
 |sr o v n l a cap hl hv hn hc0 h=>
  obtain⟨l',hl',hs,he⟩:=hg.obj o l hl;refine .sr o v n l' a cap hl' (by omega) (fun e1 => ?_) hc0 fun e1 e2 => ?_
  ·have x1:l'.st=l.st:=by omega
   have:=(he x1).1;have:=hn (by omega)
   omega
  ·have x1:l'.st=l.st:=by omega
   have y1:=(he x1).1;have y2:=hn (by omega)
   rw[(he x1).2 (by omega)]
   exact h (by omega) (by omega)
 |srw o v n hi l a cap hl hv hn hhi h=>
  obtain⟨l',hl',hs,he⟩:=hg.obj o l hl;refine .srw o v n hi l' a cap hl' (by omega) (fun e1 => ?_) hhi fun e1 e2 => ?_
  ·have x1:l'.st=l.st:=by omega
   have:=(he x1).1;have:=hn (by omega)
   omega
  ·have x1:l'.st=l.st:=by omega
   have y1:=(he x1).1;have y2:=hn (by omega)
   rw[(he x1).2 (by omega)]
   exact h (by omega) (by omega)
 |srv o v n k lo l a cap hl hv hn hlo h=>
  obtain⟨l',hl',hs,he⟩:=hg.obj o l hl;refine .srv o v n k lo l' a cap hl' (by omega) (fun e1 => ?_) hlo fun e1 e2 => ?_
  ·have x1:l'.st=l.st:=by omega
   have:=(he x1).1;have:=hn (by omega)
   omega
  ·have x1:l'.st=l.st:=by omega
   have y1:=(he x1).1;have y2:=hn (by omega)
   rw[(he x1).2 (by omega)]
   exact h (by omega) (by omega)
 |nilSl=>exact .nilSl
 |mp o v l r hl hv h=>
  obtain⟨l',hl',hs,he⟩:=hg.obj o l hl;refine .mp o v l' r hl' (by omega) fun e1 e2 => ?_
  have x1:l'.st=l.st:=by omega
  have:=(he x1).1;rw[(he x1).2 (by omega)]
  exact h (by omega) (by omega)
 |fmp ks vs r entries clock hw hk hv h1 h2 ih1 ih2=>exact .fmp ks vs r entries clock (hg.whole _ _ hw) hk hv ih1 ih2
 |yld o v l r hl hv h=>
  obtain⟨l',hl',hs,he⟩:=hg.obj o l hl;refine .yld o v l' r hl' (by omega) fun e1 e2 => ?_
  have x1:l'.st=l.st:=by omega
  have:=(he x1).1;rw[(he x1).2 (by omega)]
  exact h (by omega) (by omega)
 |agg cs vs hs h ih=>exact .agg cs vs hs ih
 |tup cs vs hs h ih=>exact .tup cs vs hs ih
theorem fO.mono{g g':G}(hg:g.le g'){as:List AV}{xs:List Value}(h:fO g as xs):fO g' as xs:=
 ⟨h.1,fun i a x ha hx=>(h.2 i a x ha hx).mono hg⟩
def aNH(w:World)(b:Nat):Prop:=∀j,(w.cell? ⟨b,j,none⟩).isSome->w.frozen? ⟨b,j,none⟩=false
def aGf:AExit->Code
 |.normal=>.skip
 |.exit id=>.exit id
 |.ret=>.ret
def aA8(g:G)(w:World)(l:Loc):AObj->Prop
 |.gone _=>True
 |.tbox _ ty cells=>l.len=0/\(∃cs:Array Value,w.heap[l.b]? = some (.cells cs ty (0,0))/\cs.size=cells.length)/\∀(j:Nat) a,cells[j]? = some a->∃x,w.cell? ⟨l.b,j,none⟩=some x/\VRel g a x
 |.box _ cells=>l.len=0/\aNH w l.b/\∀(j:Nat) a,cells[j]? = some a->∃x,w.cell? ⟨l.b,j,none⟩=some x/\VRel g a x
 |.vec _ k rows=>l.len=rows.length/\l.k=k/\rows.length<=l.cap/\aNH w l.b/\(∀row∈rows,row.length=k) /\
   (∀j,j<l.cap*k->(w.cell? ⟨l.b,j,none⟩).isSome) /\
   ∀(i j:Nat) (row:List AV) a,rows[i]? = some row->row[j]? = some a->a.cellOk=true/\∃x,w.cell? ⟨l.b,i*k+j,none⟩=some x/\VRel g a x
 |.tvec _ ty k rows=>(l.len=rows.length/\l.k=k/\rows.length<=l.cap/\aNH w l.b/\(∀row∈rows,row.length=k) /\
   (∀j,j<l.cap*k->(w.cell? ⟨l.b,j,none⟩).isSome) /\
   ∀(i j:Nat) (row:List AV) a,rows[i]? = some row->row[j]? = some a->a.cellOk=true/\∃x,w.cell? ⟨l.b,i*k+j,none⟩=some x/\VRel g a x) /\
   ∃cs:Array Value,w.heap[l.b]? = some (.cells cs ty (0,0))
 |.map _ es=>l.len=0/\∃entries clock,w.heap[l.b]? = some (.map entries clock)/\es.length=entries.size /\
   ∀(i:Nat) k v (e:MapEntry),es[i]? = some (k,v)->entries[i]? = some e->VRel g k e.key/\VRel g v e.val
 |.rnd _ _ _ ps body ρ busy pend=>l.len=0/\∃r:Loop,w.heap[l.b]? = some (.loop r)/\r.state=(if busy then .busy else if pend.isNone then .ready else .done)/\r.pending=pend.map aGf /\
   r.params.toList=ps/\(∃ca cb,body=.seq ca cb/\g.code ca r.assign/\g.code cb r.body)/\True/\ρ.length=r.tmps.size/\∀t,VRel g ((ρ[t]?).getD .undef) (r.tmps.getD t Go.undef)
def AObj.alive:AObj->Bool
 |.gone _=>false
 |_=>true
structure Backed(g:G)(H:List AObj)(o:Nat)(l:Loc)(x:AObj):Prop where
 at_:H[o]? = some x
 alive:x.alive=true
 loc:g.obj o=some l
 st:l.st=x.ver
structure Whole(g:G)(H:List AObj)(w:World):Prop where
 blocks:∀b x,g.whole b=some x->w.heap[b]? = some x/\∀o l y,Backed g H o l y->l.b≠b
 io:g.io=(w.os,w.output)
theorem Whole.lt{g:G}{H:List AObj}{w:World}(h:Whole g H w){b:Nat}{x:Obj}(hx:g.whole b=some x):b<w.heap.size:=by
 have:=(h.blocks b x hx).1;exact (Array.getElem?_eq_some_iff.1 this).1
theorem Whole.keep{g g':G}{H H':List AObj}{w w':World}(h:Whole g H w)(hw:g'.whole=g.whole)(hg:g'.io=g.io)(hio:w'.os=w.os/\w'.output=w.output)(hh:∀b,b<w.heap.size->(∀o l y,Backed g H o l y->l.b≠b)->w'.heap[b]? = w.heap[b]?)
  (ho:∀o l y,Backed g' H' o l y->w.heap.size<=l.b∨∃o' l' y',Backed g H o' l' y'/\l'.b=l.b):Whole g' H' w':=by
 refine⟨?_,by rw[hg,hio.1,hio.2];exact h.io⟩
 intro b x hx;rw[hw]at hx;obtain⟨h1,h2⟩:=h.blocks b x hx;refine⟨by rw[hh b (h.lt hx) h2];exact h1,fun o l y hl e => ?_⟩
 rcases ho o l y hl with hge | ⟨o',l',y',hl',e'⟩
 ·have:=h.lt hx;omega
 ·exact h2 o' l' y' hl' (by omega)
structure WF(g:G)(H:List AObj)(w:World):Prop where
 perm:∀b i x,g.perm b i=some x->w.cell? ⟨b,i,none⟩=some x
 lt:∀o l,g.obj o=some l->o<H.length
 blk:∀o l,g.obj o=some l->l.b<w.heap.size
 st:∀o x l,H[o]? = some x->g.obj o=some l->l.st<=x.ver
 obj:∀o l x,Backed g H o l x->aA8 g w l x
 priv:∀o l x,Backed g H o l x->∀j,g.perm l.b j=none
 inj:∀o o' l l' x x',Backed g H o l x->Backed g H o' l' x'->l.b=l'.b->o=o'
 whole:Whole g H w
def aBV(g:G)(wr:List Nat)(w w':World):Prop:=
 w.heap.size<=w'.heap.size /\
 ∀b,b<w.heap.size->(∀o∈wr,∀l,g.obj o=some l->l.b≠b)->w'.heap[b]? = w.heap[b]?
structure Step(g:G)(H:List AObj)(w:World)(g':G)(H':List AObj)(w':World)(wr:List Nat):Prop where
 le:g.le g'
 wf:WF g' H' w'
 frame:aBV g wr w w'
 same:∀o,o<H.length->o∉wr->H'[o]? = H[o]?
 len:H.length<=H'.length
 track:∀o l',g'.obj o=some l'->w.heap.size<=l'.b∨∃l,g.obj o=some l/\l.b=l'.b
 keep:∀o,o<H.length->o∉wr->g'.obj o=g.obj o
theorem cell_of_heap{w w':World}{b:Nat}(h:w'.heap[b]? = w.heap[b]?)(j:Nat):w'.cell? ⟨b,j,none⟩=w.cell? ⟨b,j,none⟩:=by
 simp only[World.cell?,h]
theorem frozen_of_heap{w w':World}{b:Nat}(h:w'.heap[b]? = w.heap[b]?)(j:Nat):w'.frozen? ⟨b,j,none⟩=w.frozen? ⟨b,j,none⟩:=by
 simp only[World.frozen?,h]
theorem aNH.of_heap{w w':World}{b:Nat}(h:w'.heap[b]? = w.heap[b]?)(hs:aNH w b):aNH w' b:=fun j hj=>by
 rw[frozen_of_heap h];exact hs j (by rwa [cell_of_heap h]at hj)
theorem aA8.keep{g g':G}{w w':World}{l:Loc}{x:AObj}(hg:g.le g')(hb:w'.heap[l.b]? = w.heap[l.b]?)(h:aA8 g w l x):aA8 g' w' l x:=by
 cases x with
 |gone v=>trivial
 |box v cells=>
  obtain⟨h1,h2,h3⟩:=h;refine⟨h1,h2.of_heap hb,fun j a ha => ?_⟩;obtain⟨y,hy,hr⟩:=h3 j a ha;exact⟨y,by rw[cell_of_heap hb];exact hy,hr.mono hg⟩
 |tbox v ty cells=>
  obtain⟨h1,⟨cs,h2,h2'⟩,h3⟩:=h;refine⟨h1,⟨cs,by rw[hb];exact h2,h2'⟩,fun j a ha => ?_⟩
  obtain⟨y,hy,hr⟩:=h3 j a ha;exact⟨y,by rw[cell_of_heap hb];exact hy,hr.mono hg⟩
 |vec v k rows=>
  obtain⟨h1,h2,h3,h4,h5,h6,h7⟩:=h;refine⟨h1,h2,h3,h4.of_heap hb,h5,fun j hj=>by rw[cell_of_heap hb];exact h6 j hj,fun i j row a hr ha => ?_⟩
  obtain⟨hs,y,hy,hv⟩:=h7 i j row a hr ha;exact⟨hs,y,by rw[cell_of_heap hb];exact hy,hv.mono hg⟩
 |tvec v ty k rows=>
  obtain⟨⟨h1,h2,h3,h4,h5,h6,h7⟩,cs,h8⟩:=h;refine⟨?_,cs,by rw[hb];exact h8⟩
  refine⟨h1,h2,h3,h4.of_heap hb,h5,fun j hj=>by rw[cell_of_heap hb];exact h6 j hj,fun i j row a hr ha => ?_⟩
  obtain⟨hs,y,hy,hv⟩:=h7 i j row a hr ha;exact⟨hs,y,by rw[cell_of_heap hb];exact hy,hv.mono hg⟩
 |map v es=>
  obtain⟨h1,entries,clock,h2,h3,h4⟩:=h;exact⟨h1,entries,clock,by rw[hb];exact h2,h3,fun i k v e hk he=>⟨(h4 i k v e hk he).1.mono hg,(h4 i k v e hk he).2.mono hg⟩⟩
 |rnd v base sites ps body ρ busy pend=>
  obtain⟨h1,r,h2,h3,h4,h5,h6,h7,h8,h9⟩:=h;exact⟨h1,r,by rw[hb];exact h2,h3,h4,h5,by rw[hg.code];exact h6,h7,h8,fun t=>(h9 t).mono hg⟩
theorem WF.of_heap{g:G}{H:List AObj}{w w':World}(h:WF g H w)(e:w'.heap=w.heap)(io:w'.os=w.os/\w'.output=w.output:=by exact⟨rfl,rfl⟩):WF g H w':=by
 have hc:∀a,w'.cell? a=w.cell? a:=fun a=>by simp only[World.cell?,e]
 refine⟨fun b i x hx=>by rw[hc];exact h.perm b i x hx,h.lt,fun o l hl=>by rw[e];exact h.blk o l hl,h.st,fun o l x hb => ?_,h.priv,h.inj,h.whole.keep rfl rfl io (fun b _ _=>by rw[e]) fun o l y hl=>.inr ⟨o,l,y,hl,rfl⟩⟩
 exact (h.obj o l x hb).keep (G.le.refl g) (by rw[e])
theorem aBV.refl(g:G)(wr:List Nat)(w:World):aBV g wr w w:=⟨Nat.le_refl _,fun _ _ _=>rfl⟩
theorem Step.refl{g:G}{H:List AObj}{w:World}(h:WF g H w):Step g H w g H w []:=
 ⟨G.le.refl g,h,aBV.refl g _ w,fun _ _ _=>rfl,Nat.le_refl _,fun _ l' hl=>.inr ⟨l',hl,rfl⟩,fun _ _ _=>rfl⟩
theorem Step.of_heap{g:G}{H:List AObj}{w w':World}(h:WF g H w)(e:w'.heap=w.heap)(io:w'.os=w.os/\w'.output=w.output:=by exact⟨rfl,rfl⟩):Step g H w g H w' []:=
 ⟨G.le.refl g,h.of_heap e io,⟨by rw[e];exact Nat.le_refl _,fun _ _ _=>by rw[e]⟩,fun _ _ _=>rfl,Nat.le_refl _,fun _ l' hl=>.inr ⟨l',hl,rfl⟩,fun _ _ _=>rfl⟩
theorem Step.trans{g g1 g2:G}{H H1 H2:List AObj}{w w1 w2:World}{a b:List Nat}(h:Step g H w g1 H1 w1 a)(h':Step g1 H1 w1 g2 H2 w2 b):
  Step g H w g2 H2 w2 (a++b):=by
 refine⟨h.le.trans h'.le,h'.wf,⟨Nat.le_trans h.frame.1 h'.frame.1,fun x hx ho => ?_⟩,fun o hl ho => ?_,Nat.le_trans h.len h'.len,fun o l' hl => ?_,fun o hl ho => ?_⟩
 ·rw[<- h.frame.2 x hx fun o hm l hl=>ho o (List.mem_append_left _ hm) l hl];refine h'.frame.2 x (Nat.lt_of_lt_of_le hx h.frame.1) fun o hm l hl => ?_;rcases h.track o l hl with hge | ⟨l0,h0,e0⟩
  ·omega
  ·rw[<- e0];exact ho o (List.mem_append_right _ hm) l0 h0
 ·simp only[List.mem_append,not_or]at ho;rw[h'.same o (Nat.lt_of_lt_of_le hl h.len) ho.2,h.same o hl ho.1]
 ·rcases h'.track o l' hl with hge | ⟨l0,h0,e0⟩
  ·exact .inl (Nat.le_trans h.frame.1 hge)
  ·rcases h.track o l0 h0 with hge | ⟨l1,h1,e1⟩
   ·exact .inl (by omega)
   ·exact .inr ⟨l1,h1,by omega⟩
 ·simp only[List.mem_append,not_or]at ho;rw[h'.keep o (Nat.lt_of_lt_of_le hl h.len) ho.2,h.keep o hl ho.1]
theorem aBV.weaken{g:G}{wr wr':List Nat}{w w':World}(h:aBV g wr w w')(hs:∀o∈wr,o∈wr'):aBV g wr' w w':=
 ⟨h.1,fun b hb ho=>h.2 b hb fun o hm=>ho o (hs o hm)⟩
theorem Step.weaken{g g':G}{H H':List AObj}{w w':World}{wr wr':List Nat}(h:Step g H w g' H' w' wr)(hs:∀o∈wr,o∈wr'):Step g H w g' H' w' wr':=
 ⟨h.le,h.wf,h.frame.weaken hs,fun o hl ho=>h.same o hl fun hm=>ho (hs o hm),h.len,h.track,fun o hl ho=>h.keep o hl fun hm=>ho (hs o hm)⟩
theorem WF.perm_lt{g:G}{H:List AObj}{w:World}(h:WF g H w){b i:Nat}{x:Value}(hx:g.perm b i=some x):b<w.heap.size:=
 World.block_lt_of_cell? (a:=⟨b,i,none⟩) w (h.perm b i x hx)
def G.addPerm(g:G)(b:Nat)(f:Nat->Option Value):G:={ g with perm:=fun b' i=>if b'=b then f i else g.perm b' i }
theorem cB{w w':World}{o:Obj}{b:Nat}(e:w'.heap=w.heap.push o)(h:b<w.heap.size):w'.heap[b]? = w.heap[b]? := by
 rw[e,Array.getElem?_push];have:b≠w.heap.size:=by omega
 simp[this]
theorem Step.allocPerm{g:G}{H:List AObj}{w w':World}(h:WF g H w)(c:Array Value)(t:TypeId)(fz:Nat×Nat)
  (e:w'.heap=w.heap.push (.cells c t fz)) (io:w'.os=w.os/\w'.output=w.output:=by exact⟨rfl,rfl⟩):Step g H w (g.addPerm w.heap.size fun i=>c[i]?) H w' []:=by
 have hle:g.le (g.addPerm w.heap.size fun i=>c[i]?):=by
  refine⟨fun b i x hx => ?_,fun o l hl=>⟨l,hl,Nat.le_refl _,fun _=>⟨Nat.le_refl _,fun _=>rfl⟩⟩,fun _ _ hx=>hx,rfl,rfl⟩;have:=h.perm_lt hx;have hne:b≠w.heap.size:=by omega
  simp only[G.addPerm,hne,if_false];exact hx
 have hbk:∀o l x,Backed (g.addPerm w.heap.size fun i=>c[i]?) H o l x->Backed g H o l x:=fun o l x hb=>⟨hb.at_,hb.alive,hb.loc,hb.st⟩;refine⟨hle,⟨fun b i x hx => ?_,h.lt,fun o l hl => ?_,h.st,fun o l x hb => ?_,fun o l x hb j => ?_,fun o o' l l' x x' hb hb'=>h.inj o o' l l' x x' (hbk _ _ _ hb) (hbk _ _ _ hb'),
   h.whole.keep rfl rfl io (fun b hb _=>cB e hb) fun o l y hl=>.inr ⟨o,l,y,hbk o l y hl,rfl⟩⟩,
  ⟨?_,fun b hb _=>cB e hb⟩,fun _ _ _=>rfl,Nat.le_refl _,fun _ l' hl=>.inr ⟨l',hl,rfl⟩,fun _ _ _=>rfl⟩
 ·by_cases hb:b=w.heap.size
  ·subst hb;simp only[G.addPerm,if_true]at hx;simp only[World.cell?,e,Array.getElem?_push,if_true];exact hx
  ·simp only[G.addPerm,hb,if_false]at hx;rw[cell_of_heap (cB e (h.perm_lt hx))];exact h.perm b i x hx
 ·have:=h.blk o l hl;rw[e];simp;omega
 ·exact (h.obj o l x (hbk o l x hb)).keep hle (cB e (h.blk o l hb.loc))
 ·have:=h.blk o l hb.loc;have hne:l.b≠w.heap.size:=by omega
  simp only[G.addPerm,hne,if_false];exact h.priv o l x (hbk o l x hb) j
 ·rw[e];simp
def G.setObj(g:G)(o:Nat)(l:Loc):G:={ g with obj:=fun o'=>if o'=o then some l else g.obj o' }
theorem getElem?_set_ne'{α:Type}(l:List α){i j:Nat}(x:α)(h:i≠j):(l.set i x)[j]? = l[j]? := by
 simp[h]
theorem Step.update{g:G}{H:List AObj}{w w':World}(h:WF g H w)(o:Nat)(x':AObj)(l':Loc)(ho:o<H.length)
  (hsz:w.heap.size<=w'.heap.size)
  (hother:∀b,b<w.heap.size->(∀l x,Backed g H o l x->l.b≠b)->w'.heap[b]? = w.heap[b]?)
  (hb:l'.b<w'.heap.size)
  (hnew:w.heap.size<=l'.b∨∃l x,Backed g H o l x/\l.b=l'.b)
  (hst:l'.st=x'.ver) (hal:x'.alive=true)
  (hver:∀l,g.obj o=some l->l.st<=l'.st/\(l'.st=l.st->l.len<=l'.len/\(l'.len=l.len->l'=l)))
  (hobj:g.le (g.setObj o l')->aA8 (g.setObj o l') w' l' x') (io:w'.os=w.os/\w'.output=w.output:=by exact⟨rfl,rfl⟩):
  Step g H w (g.setObj o l') (H.set o x') w' [o]:=by
 have hle:g.le (g.setObj o l'):=by
  refine⟨fun _ _ _ hx=>hx,fun o' l hl => ?_,fun _ _ hx=>hx,rfl,rfl⟩
  by_cases e:o'=o
  ·subst e;exact⟨l',by simp[G.setObj],(hver l hl).1,(hver l hl).2⟩
  ·exact⟨l,by simp only[G.setObj,e,if_false];exact hl,Nat.le_refl _,fun _=>⟨Nat.le_refl _,fun _=>rfl⟩⟩
 have hpb:∀b i x,g.perm b i=some x->w'.heap[b]? = w.heap[b]? := fun b i x hx=>by
  refine hother b (h.perm_lt hx) fun l y hb e => ?_;have:=h.priv o l y hb i;rw[e,hx]at this;cases this
 have hbk:∀o' l x,o'≠o->Backed (g.setObj o l') (H.set o x') o' l x->Backed g H o' l x:=fun o' l x hne hb=>
  ⟨by rw[<- getElem?_set_ne' H x' (Ne.symm hne)];exact hb.at_,hb.alive,by have:=hb.loc;simpa only[G.setObj,hne,if_false]using this,hb.st⟩
 have hself:∀l x,Backed (g.setObj o l') (H.set o x') o l x->l=l'/\x=x':=fun l x hb=>by
  have h1:=hb.at_;have h2:=hb.loc;simp[ho]at h1;simp[G.setObj]at h2;exact⟨h2.symm,h1.symm⟩
 have hkeepB:∀o' l x,o'≠o->Backed g H o' l x->w'.heap[l.b]? = w.heap[l.b]? := fun o' l x hne hb=>
  hother l.b (h.blk o' l hb.loc) fun l0 x0 hb0 e=>hne (h.inj o' o l l0 x x0 hb hb0 e.symm)
 refine⟨hle,⟨fun b i x hx => ?_,fun o' l hl => ?_,fun o' l hl => ?_,fun o' x l hx hl => ?_,fun o' l x hb' => ?_,fun o' l x hb' j => ?_,fun o1 o2 l1 l2 x1 x2 hb1 hb2 e => ?_,
   h.whole.keep rfl rfl io (fun b hb hno=>hother b hb fun l x hbk'=>hno o l x hbk') fun o' l y hl=>by
    by_cases e:o'=o
    ·subst e;obtain⟨rfl,rfl⟩:=hself l y hl;rcases hnew with hge | ⟨l0,x0,hb0,e0⟩
     ·exact .inl hge
     ·exact .inr ⟨_,l0,x0,hb0,e0⟩
    ·exact .inr ⟨o',l,y,hbk o' l y e hl,rfl⟩⟩,
  ⟨hsz,fun b hb hw=>hother b hb fun l x hbk'=>hw o (by simp) l hbk'.loc⟩,fun o' hl hm => ?_,by simp,fun o' l hl => ?_,fun o' hl hm => ?_⟩
 ·rw[cell_of_heap (hpb b i x hx)];exact h.perm b i x hx
 ·by_cases e:o'=o
  ·subst e;simpa using ho
  ·simp only[G.setObj,e,if_false]at hl;simpa using h.lt o' l hl
 ·by_cases e:o'=o
  ·subst e;simp[G.setObj]at hl;subst hl;exact hb
  ·simp only[G.setObj,e,if_false]at hl;exact Nat.lt_of_lt_of_le (h.blk o' l hl) hsz
 ·by_cases e:o'=o
  ·subst e;simp[G.setObj]at hl;simp[ho]at hx;subst hl;subst hx;exact Nat.le_of_eq hst
  ·simp only[G.setObj,e,if_false]at hl;rw[getElem?_set_ne' H x' (Ne.symm e)]at hx;exact h.st o' x l hx hl
 ·by_cases e:o'=o
  ·subst e;obtain⟨rfl,rfl⟩:=hself l x hb';exact hobj hle
  ·exact (h.obj o' l x (hbk o' l x e hb')).keep hle (hkeepB o' l x e (hbk o' l x e hb'))
 ·by_cases e:o'=o
  ·subst e;obtain⟨rfl,rfl⟩:=hself l x hb';rcases hnew with hge | ⟨l0,x0,hb0,e0⟩
   ·cases hq:(g.setObj o' l).perm l.b j with
    |none=>rfl
    |some y=>have:=h.perm_lt (b:=l.b) (i:=j) (x:=y) hq;omega
   ·rw[<- e0];exact h.priv o' l0 x0 hb0 j
  ·exact h.priv o' l x (hbk o' l x e hb') j
 ·by_cases e1:o1=o
  ·by_cases e2:o2=o
   ·rw[e1,e2]
   ·subst e1;obtain⟨rfl,rfl⟩:=hself l1 x1 hb1;have hb2':=hbk o2 l2 x2 e2 hb2;rcases hnew with hge | ⟨l0,x0,hb0,e0⟩
    ·have:=h.blk o2 l2 hb2'.loc;omega
    ·exact h.inj o1 o2 l0 l2 x0 x2 hb0 hb2' (by omega)
  ·by_cases e2:o2=o
   ·subst e2;obtain⟨rfl,rfl⟩:=hself l2 x2 hb2;have hb1':=hbk o1 l1 x1 e1 hb1;rcases hnew with hge | ⟨l0,x0,hb0,e0⟩
    ·have:=h.blk o1 l1 hb1'.loc;omega
    ·exact h.inj o1 o2 l1 l0 x1 x0 hb1' hb0 (by omega)
   ·exact h.inj o1 o2 l1 l2 x1 x2 (hbk _ _ _ e1 hb1) (hbk _ _ _ e2 hb2) e
 ·simp only[List.mem_singleton]at hm;exact getElem?_set_ne' H x' (Ne.symm hm)
 ·by_cases e:o'=o
  ·subst e;simp[G.setObj]at hl;subst hl;rcases hnew with hge | ⟨l0,x0,hb0,e0⟩
   ·exact .inl hge
   ·exact .inr ⟨l0,hb0.loc,e0⟩
  ·simp only[G.setObj,e,if_false]at hl;exact .inr ⟨l,hl,rfl⟩
 ·simp only[List.mem_singleton]at hm;simp[G.setObj,hm]
theorem Step.gone{g:G}{H:List AObj}{w:World}(h:WF g H w){o:Nat}{l:Loc}{x:AObj}(hb:Backed g H o l x):
  Step g H w (g.addPerm l.b fun i=>w.cell? ⟨l.b,i,none⟩) (H.set o (.gone x.ver)) w [o]:=by
 have ho:o<H.length:=h.lt o l hb.loc;have hle:g.le (g.addPerm l.b fun i=>w.cell? ⟨l.b,i,none⟩):=by
  refine⟨fun b i y hy => ?_,fun o l hl=>⟨l,hl,Nat.le_refl _,fun _=>⟨Nat.le_refl _,fun _=>rfl⟩⟩,fun _ _ hx=>hx,rfl,rfl⟩
  by_cases e:b=l.b
  ·subst e;have:=h.priv o l x hb i;rw[hy]at this;cases this
  ·simp only[G.addPerm,e,if_false];exact hy
 have hbk:∀o' l' x',Backed (g.addPerm l.b fun i=>w.cell? ⟨l.b,i,none⟩) (H.set o (.gone x.ver)) o' l' x'->o'≠o/\Backed g H o' l' x':=fun o' l' x' hb'=>by
  have hne:o'≠o:=fun e=>by
   subst e;have h1:=hb'.at_;simp[ho]at h1;have h2:=hb'.alive;subst h1;simp[AObj.alive]at h2
  exact⟨hne,⟨by rw[<- getElem?_set_ne' H (.gone x.ver) (Ne.symm hne)];exact hb'.at_,hb'.alive,hb'.loc,hb'.st⟩⟩
 refine⟨hle,⟨fun b i y hy => ?_,fun o' l' hl=>by simpa using h.lt o' l' hl,h.blk,fun o' x' l' hx hl => ?_,fun o' l' x' hb' => ?_,fun o' l' x' hb' j => ?_,fun o1 o2 l1 l2 x1 x2 hb1 hb2 e => ?_,h.whole.keep rfl rfl ⟨rfl,rfl⟩ (fun _ _ _=>rfl) fun o l y hl=>.inr ⟨o,l,y,(hbk _ _ _ hl).2,rfl⟩⟩,
  aBV.refl _ _ _,fun o' hl hm => ?_,by simp,fun o' l' hl=>.inr ⟨l',hl,rfl⟩,fun _ _ _=>rfl⟩
 ·by_cases e:b=l.b
  ·subst e;simpa only[G.addPerm,if_true]using hy
  ·simp only[G.addPerm,e,if_false]at hy;exact h.perm b i y hy
 ·by_cases e:o'=o
  ·subst e;simp[ho]at hx;subst hx;exact h.st o' x l' hb.at_ hl
  ·rw[getElem?_set_ne' H (.gone x.ver) (Ne.symm e)]at hx;exact h.st o' x' l' hx hl
 ·exact (h.obj o' l' x' (hbk _ _ _ hb').2).keep hle rfl
 ·obtain⟨hne,hb0⟩:=hbk _ _ _ hb';have hnb:l'.b≠l.b:=fun e=>hne (h.inj o' o l' l x' x hb0 hb e);simp only[G.addPerm,hnb,if_false];exact h.priv o' l' x' hb0 j
 ·exact h.inj o1 o2 l1 l2 x1 x2 (hbk _ _ _ hb1).2 (hbk _ _ _ hb2).2 e
 ·simp only[List.mem_singleton]at hm;exact getElem?_set_ne' H (.gone x.ver) (Ne.symm hm)
structure Glob where
 row:Nat->Option (List AV)
 nl:Bool:=false
 typed:List Nat:=[]
 refs:List Nat:=[]
def aUB(nl:Bool):Value->Option AV
 |.bool b=>some (.bool b)
 |.int k n=>some (.int k n)
 |.string s=>some (.str s.data.toList)
 |.func (.func f) vf vc=>if vf.size=0/\vc.size=0 then some (.fn f [] [])else none
 |.nilFunc=>some .nilFn
 |.pointer none=>some .nilPtr
 |.nilIface=>some .nilIfc
 |.map none=>some .undef
 |.slice none 0 0=>some (if nl then .nilSl else .sl true [])
 |_=>none
def aNN(nl:Bool):List Value->Option (List AV)
 | []=>some []
 |v::r=>match aUB nl v with
  |none=>none
  |some a=>match aNN nl r with
   |none=>none
   |some as=>some (a::as)
def ofV(nl:Bool):Value->Option AV
 |.agg cs=>(aNN nl cs.toList).map .agg
 |v=>aUB nl v
section
variable (P:Program)(glob:Glob)
def eO:Operand->Option AOpd
 |.tmp t=>some (.tmp t)
 |.const v=>(ofV glob.nl v).map .const
 |.func f=>some (.const (.fn f [] []))
 |.global g=>(glob.row g).map fun row=>.const (.ep row 0)
def rU:List Operand->Option (List AOpd)
 | []=>some []
 |x::r=>match eO glob x with
  |none=>none
  |some a=>match rU r with
   |none=>none
   |some as=>some (a::as)
def uZ:Option Operand->Option (Option AOpd)
 |none=>some none
 |some x=>(eO glob x).map some
def size?(t:TypeId):Option Nat:=(P.info? t).map (·.size)
def zeroCells?(t:TypeId):Option (List AV):=((P.info? t).bind (·.zero)).bind fun z=>aNN glob.nl z.cells.toList
def zeroV?(t:TypeId):Option AV:=((P.info? t).bind (·.zero)).bind (ofV glob.nl)
def aS0(t:TypeId):Bool:=
 match P.underlying t with
 |some (.struct _) | some (.array ..)=>true
 |_=>false
def qG(t:TypeId):Option (Nat×Bool):=
 match size? P t,P.underlying t with
 |some n,some _=>if aS0 P t then some (n,true)else if n=1 then some (1,false)else none
 |_,_=>none
def aFi(fields:Array Field):List (Nat×Operand)->Option (List (Nat×Nat×AOpd))
 | []=>some []
 | (i,x)::r=>
  match fields[i]? with
  |none=>none
  |some f=>match size? P f.type,eO glob x,aFi fields r with
   |some n,some a,some r'=>some ((f.offset,n,a)::r')
   |_,_,_=>none
def aFj(n:Nat):List (Nat×Operand)->Option (List (Nat×Nat×AOpd))
 | []=>some []
 | (i,x)::r=>match eO glob x,aFj n r with
  |some a,some r'=>some ((i*n,n,a)::r')
  |_,_=>none
def aDF(len:Nat):List (Nat×Operand)->Option (List (Nat×AOpd))
 | []=>some []
 | (i,x)::r=>match eO glob x,aDF len r with
  |some a,some r'=>if i<len then some ((i,a)::r')else none
  |_,_=>none
def aLD(t:TypeId):Option Tag:=
 match P.underlying t with
 |some .bool=>some .bool
 |some (.int _)=>some .int
 |some .string=>some .str
 |_=>none
def qH:Nat->List Field->Option (List Tag)
 |_,[]=>some []
 |i,f::r=>
  match aLD P f.type,qH (i+1) r with
  |some t,some ts=>if f.name ≠ "_" /\ f.offset=i then some (t::ts)else none
  |_,_=>none
def eqK(t:TypeId):EqK:=
 match P.underlying t with
 |some (.struct fields)=>match qH P 0 fields.toList with
  |some ts=>if P.stoodInHeld t || P.eqGuardType P.depth t then .no else .cells ts
  |none=>.no
 |some .bool=>.bool
 |some (.func ..)=>.func
 |some (.pointer _)=>.ptr
 |_=>.no
def aH5(m:String)(t:TypeId):Option FuncId:=
 match P.info? t,P.underlying t with
 |some i,some (.pointer _)=>match i.methods.find? (·.name==m)with
  |some r=>if r.path.isEmpty then match r.func with
   |some (f,true)=>some f
   |_=>none
   else none
  |none=>none
 |_,_=>none
def aGg(m:String):List (Nat×Nat):=(List.range P.types.size).filterMap fun t=>(aH5 P m t).map fun f=>(t,f)
theorem aKx{m:String}{t f:Nat}(h:(aGg P m).lookup t=some f):aH5 P m t=some f:=by
 unfold aGg at h;generalize List.range P.types.size=l at h
 induction l with
 |nil=>simp at h
 |cons u r ih=>
  simp only[List.filterMap_cons]at h;cases hq:aH5 P m u with
  |none=>rw[hq]at h;exact ih h
  |some k=>
   rw[hq]at h;simp only[Option.map_some,List.lookup_cons]at h
   split at h
   ·rename_i e;have:t=u:=by simpa using e
    subst this;rw[hq];exact h
   ·exact ih h
def aIK:Operand->Bool
 |.const _=>true
 |_=>false
def aSJ(t:TypeId)(x y:Operand):EqK:=
 match P.underlying t with
 |some (.interface _)=>if aIK x || aIK y then .iface else .no
 |_=>eqK P t
def aUC(e:TypeId):Bool:=
 match P.underlying e with
 |some (.int .u8)=>size? P e==some 1
 |_=>false
def aQ0(src dst:TypeId):Option AConv:=
 match P.underlying src,P.underlying dst with
 |some (.int _),some (.int k)=>some (.toInt k)
 |some (.int _),some .string=>some .i2s
 |some .string,some .string=>some .same
 |some .string,some (.slice e)=>if aUC P e then some .s2b else none
 |some (.slice e),some .string=>if aUC P e then some .b2s else none
 |_,_=>none
def aGh(t:TypeId)(y:Operand):Bool:=
 match P.underlying t,y with
 |some (.slice _),.const (.slice none 0 0)=>true
 |_,_=>false
def aVS:AOpd->Bool
 |.const (.fn f _ _)=>glob.refs.contains f
 |_=>false
def cOp(o:Oper):Option AOp:=
 match o.op with
 |.move x | .assign x=>(eO glob x).map .mov
 |.pick c a b=>match eO glob c,eO glob a,eO glob b with
  |some c,some a,some b=>some (.pick c a b)
  |_,_,_=>none
 |.alloc t=>if glob.typed.contains t then (zeroCells? P glob t).map (.talloc t)else (zeroCells? P glob t).map .alloc
 |.box t x=>match size? P t,eO glob x with
  |some n,some x=>if glob.typed.contains t then some (.tbx t n x)else some (.box n x)
  |_,_=>none
 |.build t parts=>match zeroCells? P glob t,P.underlying t with
  |some zs,some (.struct fields)=>if fields.all (fun f=>(size? P f.type).isSome)then (aFi P glob fields parts.toList).map (.build zs)else none
  |some zs,some (.array _ e)=>match size? P e with
   |some n=>(aFj glob n parts.toList).map (.build zs)
   |none=>none
  |_,_=>none
 |.buildSlice t len parts=>match P.underlying t with
  |some (.slice e)=>match size? P e,zeroCells? P glob e,aDF glob len parts.toList with
   |some k,some zs,some ps=>if 0<k/\zs.length=k/\len*k<=16777216/\zs.all AV.still then some (.bsl k (zs.map AV.strip1) len ps)else none
   |_,_,_=>none
  |_=>none
 |.load t x=>match qG P t,eO glob x with
  |some (n,agg),some x=>some (.load n agg x)
  |_,_=>none
 |.store t x v=>match size? P t,eO glob x,eO glob v with
  |some n,some x,some v=>some (.store n x v)
  |_,_,_=>none
 |.nilCheck x=>(eO glob x).map .nilck
 |.binOp op t x y _=>if aGh P t y then
   match op with
   |.eql=>(eO glob x).map (.isnil false)
   |.neq=>(eO glob x).map (.isnil true)
   |_=>none
  else match eO glob x,eO glob y with
  |some x',some y'=>some (.bin op (aSJ P t x y) x' y')
  |_,_=>none
 |.unOp op _ x=>(eO glob x).map (.un op)
 |.convert src dst x=>match aQ0 P src dst,eO glob x with
  |some c,some x=>some (.conv c x)
  |_,_=>none
 |.makeFunc (.func f) first caps=>match rU glob first.toList,rU glob caps.toList with
  |some a,some b=>some (.mkf f a b)
  |_,_=>none
 |.makeSlice t len cap=>match P.underlying t with
  |some (.slice e)=>match P.info? e,zeroCells? P glob e,eO glob len,eO glob cap with
   |some i,some zs,some l,some c=>if 0<i.size/\zs.length=i.size/\zs.all AV.still then some (.mks i.size i.bytes zs l c)else none
   |_,_,_,_=>none
  |_=>none
 |.slice t x lo hi mx=>match P.underlying t,eO glob x,uZ glob lo,uZ glob hi,uZ glob mx with
  |some .string,some x,some lo,some hi,some none=>some (.sliceS x lo hi)
  |some (.slice e),some x,some lo,some hi,some mx=>match size? P e with
   |some k=>if 0<k then (if glob.nl/\hi.isNone/\mx.isNone then some (.view k x lo)else some (.sliceV k x lo hi mx))else none
   |none=>none
  |some (.array n e),some x,some lo,some hi,some mx=>match size? P e with
   |some k=>if 0<k then some (.sliceA n k x lo hi mx)else none
   |none=>none
  |_,_,_,_,_=>none
 |.fieldAddr s x f=>match P.underlying s,eO glob x with
  |some (.struct fields),some x=>match fields[f]? with
   |some fd=>match size? P fd.type with
    |some (_+1)=>some (.fa fd.offset x)
    |_=>none
   |none=>none
  |_,_=>none
 |.field s x f=>match P.underlying s,eO glob x with
  |some (.struct fields),some x=>match fields[f]? with
   |some fd=>match qG P fd.type with
    |some (n,agg)=>some (.fld fd.offset n agg x)
    |none=>none
   |none=>none
  |_,_=>none
 |.indexAddr t x i=>match P.underlying t,eO glob x,eO glob i with
  |some (.array n e),some x,some i=>match size? P e with
   |some k=>some (.iaA n k x i)
   |none=>none
  |some (.slice e),some x,some i=>match size? P e with
   |some k=>if 0<k then some (.iaV x i k)else none
   |none=>none
  |_,_,_=>none
 |.index t x i=>match P.underlying t,eO glob x,eO glob i with
  |some (.array n e),some x,some i=>match qG P e with
   |some (k,agg)=>some (.ixA n k agg x i)
   |none=>none
  |some .string,some x,some i=>some (.ixS x i)
  |_,_,_=>none
 |.extract x i=>(eO glob x).map (.ext i)
 |.makeInterface t x=>match P.underlying t with
  |some (.interface _)=>none
  |some _=>(eO glob x).map (.mkifc t)
  |none=>none
 |.makeMap _ none=>some .mkmap
 |.insert t m k v=>match P.underlying t with
  |some (.map kt _)=>match P.underlying kt,eO glob m,eO glob k,eO glob v with
   |some (.int _),some m,some k,some v=>some (.ins m k v)
   |_,_,_,_=>none
  |_=>none
 |.lookup t m k ok=>match P.underlying t with
  |some (.map kt et)=>match P.underlying kt,zeroV? P glob et,eO glob m,eO glob k with
   |some (.int _),some z,some m,some k=>some (.look z m k ok)
   |_,_,_,_=>none
  |_=>none
 |.call { callee:=.builtin b,args,argTypes }=>match b,rU glob args.toList,argTypes.toList with
  |.len,some [x],[t]=>match P.underlying t with
   |some .string=>some (.lenS x)
   |some (.slice _)=>some (.lenV x)
   |some (.array n _)=>some (.lenC n)
   |_=>none
  |.append,some [s,x],[t,u]=>match P.underlying t,P.underlying u with
   |some (.slice e),some d=>if d matches .int _ then none else match P.info? e with
    |some i=>match i.zero with
     |some z=>if 0<i.size/\z.cells.size=i.size then (if glob.typed.contains e then some (.tapp e i.size i.bytes s x)else some (.app i.size i.bytes s x))else none
     |none=>none
    |none=>none
   |_,_=>none
  |.copy,some [x,y],[t,_]=>match P.underlying t with
   |some (.slice e)=>match size? P e with
    |some k=>if 0<k then some (.cpy k x y)else none
    |none=>none
   |_=>none
  |.max,some xs,_=>some (.mm true xs)
  |.min,some xs,_=>some (.mm false xs)
  |_,_,_=>none
 |.call { callee:=.invoke x m,args,.. }=>match eO glob x,rU glob args.toList with
  |some x,some xs=>some (.invk (aGg P m) x xs)
  |_,_=>none
 |.call { callee:=.value f,args,.. }=>match eO glob f,rU glob args.toList with
  |some f,some xs=>some (if aVS glob f then .callr f xs else .callv f xs)
  |_,_=>none
 |_=>none
def aDG(ops:List Oper)(g:Option (Nat×Bool)):Option (Option Nat×Bool):=
 match g with
 |none=>none
 |some (j,want)=>some ((ops[j]?).bind (·.dst),want)
def once:List Nat->List Nat | []=>[] | x::r=>let d:=once r;if d.contains x then d else x::d
theorem aGi(a:Nat):∀(l:List Nat),a∈once l↔a∈l
 | []=>by simp[once]
 |x::r=>by
  have ih:=aGi a r;simp only[once]
  split
  ·rename_i h;simp only[List.contains_iff_mem]at h;rw[List.mem_cons,<- ih];exact⟨.inr,fun h1=>h1.elim (fun e=>e ▸ h) id⟩
  ·rw[List.mem_cons,List.mem_cons,ih]
def aH6(pres:List (List Nat))(o:Oper):List Nat:=
 once (o.after.toList.flatMap fun e=>if Region.binds .any e then e.on::(pres[e.on]?).getD [] else [])
def aBS(all:List Oper):List Oper->List (List Nat)->List AOper
 | [],_=>[]
 |o::r,pres=>⟨o.dst,(cOp P glob o).getD .bad,aDG all o.guard,aH6 pres o⟩::aBS all r (pres++[aH6 pres o])
def aQ1:Bool->List AOper->List AOper
 |true,l=>l
 |false,l=>l.map fun o=>⟨o.dst,o.op,o.guard,[]⟩
def mY(frz:Nat->List (Nat×Nat)):Code->ACode
 |.skip=>.skip
 |.region id ops draw=>
  let r:=.region draw (aQ1 draw (aBS P glob ops.toList ops.toList []))
  match frz id with
  | []=>r
  |ts=>.seq (.frz ts) r
 |.seq a b=>.seq (mY frz a) (mY frz b)
 |.cond (.tmp t) a b=>.cond (.tmp t) (mY frz a) (mY frz b)
 |.block id c=>.block id (mY frz c)
 |.loop c=>.loop (mY frz c)
 |.exit id=>.exit id
 |.ret=>.ret
 |.rangeFunc g ps a c=>match eO glob g with
  |some x=>.rangeF x ps.toList (.seq (mY frz a) (mY frz c))
  |none=>.bad
 |_=>.bad
def aVT:ResultVar->Option ARes
 |.tmp t=>some (.tmp t)
 |.cell a t=>(qG P t).map fun(n,agg)=>.cell a n agg
def aKy:List ResultVar->Option (List ARes)
 | []=>some []
 |r::rs=>match aVT P r,aKy rs with
  |some a,some as=>some (a::as)
  |_,_=>none
end
def aT(g:G)(ρ:List AV)(tmps:Array Value):Prop:=
 ρ.length=tmps.size/\∀t,VRel g ((ρ[t]?).getD .undef) (tmps.getD t Go.undef)
theorem aT.mono{g g':G}(hg:g.le g'){ρ:List AV}{tmps:Array Value}(h:aT g ρ tmps):aT g' ρ tmps:=
 ⟨h.1,fun t=>(h.2 t).mono hg⟩
structure GlobOkR(P:Program)(tab:Nat->Option (List AV))(g:G):Prop where
 row:∀n row,tab n=some row->VRel g (.ep row 0) (.pointer (some ⟨n,0,none⟩))/\∃cs t fz,g.whole n=some (.cells cs t fz)/\cs.size=row.length
 code:∀a c,g.code a c↔∃nl ty rs frz,a=mY P ⟨tab,nl,ty,rs⟩ frz c
def bI(P:Program)(glob:Glob)(g:G):Prop:=GlobOkR P glob.row g
theorem bI.mono{P:Program}{glob:Glob}{g g':G}(hg:g.le g')(h:bI P glob g):bI P glob g':=
 ⟨fun n row e=>by
  obtain⟨h1,cs,t,fz,h2,h3⟩:=h.row n row e;exact⟨h1.mono hg,cs,t,fz,hg.whole _ _ h2,h3⟩,fun a c=>by rw[hg.code];exact h.code a c⟩
theorem aFk{nl:Bool}{v:Value}{a:AV}(h:aUB nl v=some a)(g:G):VRel g a v:=by
 unfold aUB at h
 split at h
 ·cases h;exact .bool _
 ·cases h;exact .int _ _
 ·cases h;exact .str _
 ·split at h
  ·rename_i hs;cases h;refine .fn _ [] [] _ _ (by simp[hs.1]) (by simp[hs.2]) (fun i a x hi _=>by simp at hi) (fun i a x hi _=>by simp at hi)
  ·cases h
 ·cases h;exact .nilFn
 ·cases h;exact .nilPtr
 ·cases h;exact .nilIfc
 ·cases h;exact .undef _
 ·cases h;split
  ·exact .nilSl
  ·exact .slNil _
 ·cases h
theorem zR:∀{nl:Bool} {l:List Value} {as:List AV},aNN nl l=some as->∀g,fO g as l
 |_,[],as,h,g=>by simp only[aNN,Option.some.injEq]at h;subst h;exact⟨rfl,fun i a x hi _=>by simp at hi⟩
 |_,v::r,as,h,g=>by
  unfold aNN at h
  split at h
  ·cases h
  ·rename_i a ha
   split at h
   ·cases h
   ·rename_i as' has;cases h;have ih:=zR has g;refine⟨by simp[ih.1],fun i b x hb hx => ?_⟩
    cases i with
    |zero=>simp at hb hx;subst hb;subst hx;exact aFk ha g
    |succ i=>simp at hb hx;exact ih.2 i b x hb hx
theorem fO.agg{g:G}{as:List AV}{vs:Array Value}(h:fO g as vs.toList):VRel g (.agg as) (.agg vs):=
 .agg as vs (by simpa using h.1) fun i a x ha hx=>h.2 i a x ha (by simpa using hx)
theorem aH7{nl:Bool}{v:Value}{a:AV}(h:ofV nl v=some a)(g:G):VRel g a v:=by
 unfold ofV at h
 split at h
 ·cases hq:aNN nl (‹Array Value›).toList with
  |none=>simp[hq]at h
  |some as=>simp[hq]at h;subst h;exact (zR hq g).agg
 ·exact aFk h g
theorem aJ{P:Program}{glob:Glob}{X:Operand}{x:AOpd}(h:eO glob X=some x){g:G}(hg:bI P glob g)
  {ρ:List AV} {a:Act} (hs:aT g ρ a.tmps):VRel g (x.ev ρ) (a.eval X):=by
 cases X with
 |tmp t=>simp only[eO,Option.some.injEq]at h;subst h;exact hs.2 t
 |const v=>
  simp only[eO]at h;cases hv:ofV glob.nl v with
  |none=>simp[hv]at h
  |some y=>simp[hv]at h;subst h;exact aH7 hv g
 |func f=>
  simp only[eO,Option.some.injEq]at h;subst h;exact .fn f [] [] #[] #[] rfl rfl (fun i a x hi _=>by simp at hi) (fun i a x hi _=>by simp at hi)
 |global n=>
  simp only[eO]at h;cases hv:glob.row n with
  |none=>simp[hv]at h
  |some y=>simp[hv]at h;subst h;exact (hg.row n y hv).1
theorem lS{P:Program}{glob:Glob}:∀{X:List Operand} {x:List AOpd},rU glob X=some x->∀{g:G},bI P glob g ->
  ∀{ρ:List AV} {a:Act},aT g ρ a.tmps->fO g (x.map (AOpd.ev ρ)) (X.map a.eval)
 | [],x,h,g,_,ρ,a,_=>by simp only[rU,Option.some.injEq]at h;subst h;exact⟨rfl,fun i a x hi _=>by simp at hi⟩
 |X::r,x,h,g,hg,ρ,a,hs=>by
  unfold rU at h
  split at h
  ·cases h
  ·rename_i y hy
   split at h
   ·cases h
   ·rename_i ys hys;cases h;have ih:=lS hys hg hs;refine⟨by simpa using ih.1,fun i b x hb hx => ?_⟩
    cases i with
    |zero=>simp at hb hx;subst hb;subst hx;exact aJ hy hg hs
    |succ i=>exact ih.2 i b x (by simpa using hb) (by simpa using hx)
theorem VRel.strip1{g:G}{a:AV}{x:Value}(h:VRel g a x):VRel g a.strip1 x:=by
 cases h with
 |slNil full=>exact .slNil false
 |nilSl=>exact .nilSl
 |srv o v n k lo l a cap hl hv hn hlo h=>exact .srv o v n k lo l a cap hl hv hn hlo h
 |srw o v n hi l a cap hl hv hn hhi h=>exact .srw o v n hi l a cap hl hv hn hhi h
 |sl full rows b off cap k hcap hfull hk hst hp h=>exact .sl false rows b off cap k hcap (by simp) hk hst hp h
 |undef x=>exact .undef x
 |bool b=>exact .bool b
 |int k n=>exact .int k n
 |str s=>exact .str s
 |fn f first caps vf vc hf hc h1 h2=>exact .fn f first caps vf vc hf hc h1 h2
 |nilFn=>exact .nilFn
 |ptr o v off l a hl hv h=>exact .ptr o v off l a hl hv h
 |vp o v n k i off l a hl hv hn h=>exact .vp o v n k i off l a hl hv hn h
 |nilPtr=>exact .nilPtr
 |nilIfc=>exact .nilIfc
 |ifc t v x hv h=>exact .ifc t v x hv h
 |ep row off b base hst hp h=>exact .ep row off b base hst hp h
 |sr o v n l a cap hl hv hn hc0 h=>exact .sr o v n l a cap hl hv hn hc0 h
 |mp o v l r hl hv h=>exact .mp o v l r hl hv h
 |yld o v l r hl hv h=>exact .yld o v l r hl hv h
 |fmp ks vs r entries clock hw hk hv h1 h2=>exact .fmp ks vs r entries clock hw hk hv h1 h2
 |agg cs vs hs h=>exact .agg cs vs hs h
 |tup cs vs hs h=>exact .tup cs vs hs h
theorem fO.strip1{g:G}{as:List AV}{xs:List Value}(h:fO g as xs):fO g (as.map AV.strip1) xs:=by
 refine⟨by simpa using h.1,fun i a x ha hx => ?_⟩
 rw[List.getElem?_map]at ha;cases hq:as[i]? with
 |none=>simp[hq]at ha
 |some b=>simp[hq]at ha;subst ha;exact (h.2 i b x hq hx).strip1
theorem VRel.agg_list{g:G}{cs:List AV}{x:Value}(h:VRel g (.agg cs) x):∃vs:Array Value,x=.agg vs/\fO g cs vs.toList:=by
 cases h with
 |agg cs vs hs h=>exact⟨vs,rfl,by simpa using hs,fun i a x ha hx=>h i a x ha (by simpa using hx)⟩
theorem VRel.tup_list{g:G}{cs:List AV}{x:Value}(h:VRel g (.tup cs) x):∃vs:Array Value,x=.tuple vs/\fO g cs vs.toList:=by
 cases h with
 |tup cs vs hs h=>exact⟨vs,rfl,by simpa using hs,fun i a x ha hx=>h i a x ha (by simpa using hx)⟩
theorem VRel.skip(g:G):VRel g (.tup []) Go.undef:=.tup [] #[] rfl fun i a x h=>by simp at h
theorem VRel.strip{g:G}{a:AV}{x:Value}(h:VRel g a x):VRel g a.strip x:=by
 unfold AV.strip
 split
 ·obtain⟨vs,rfl,hl⟩:=h.agg_list;exact hl.strip1.agg
 ·obtain⟨vs,rfl,hl⟩:=h.tup_list;refine .tup _ vs (by simpa using hl.1) fun i a x ha hx => ?_
  rw[List.getElem?_map]at ha;cases hq:(‹List AV›)[i]? with
  |none=>simp[hq]at ha
  |some b=>
   simp[hq]at ha;have hb:=hl.2 i b x hq (by simpa using hx)
   subst ha
   split
   ·obtain⟨vs',rfl,hl'⟩:=hb.agg_list;exact hl'.strip1.agg
   ·exact hb.strip1
 ·exact h.strip1
theorem VRel.cells{g:G}{a:AV}{x:Value}(h:VRel g a x)(hok:a.cells.all AV.cellOk=true):fO g a.cells x.cells.toList:=by
 have one:∀{a:AV} {x:Value},VRel g a x->x.cells = #[x]->fO g [a] x.cells.toList:=fun {a x} h e=>by
  rw[e];refine⟨rfl,fun i b y hb hy => ?_⟩;cases i with
  |zero=>simp at hb hy;subst hb;subst hy;exact h
  |succ i=>simp at hb
 cases a with
 |agg cs=>obtain⟨vs,rfl,hl⟩:=h.agg_list;exact hl
 |undef=>simp[AV.cells,AV.cellOk]at hok
 |tup vs=>simp[AV.cells,AV.cellOk]at hok
 |own k rows=>simp[AV.cells,AV.cellOk]at hok
 |srv o v n k lo=>simp[AV.cells,AV.cellOk]at hok
 |srw o v n hi=>simp[AV.cells,AV.cellOk]at hok
 |_=>cases h<;>exact one (by first | assumption | constructor<;>assumption) rfl
end Go.AM
end
