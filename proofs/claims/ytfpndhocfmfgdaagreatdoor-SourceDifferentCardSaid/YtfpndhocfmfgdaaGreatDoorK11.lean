/- Part 11: lemmas for the last text. -/
import Derived.Test.YtfpndhocfmfgdaaGreatDoorK10
set_option linter.unusedVariables false
set_option linter.unusedSimpArgs false
section
namespace Go.AM
open Go
theorem dG(n:Nat):∀(l:List AV),dS n l=true↔∀a∈l,a.under n=true
 | []=>by simp[dS]
 |v::r=>by simp[dS,dG n r]
theorem jR(n:Nat):∀(l:List (List AV)),eF n l=true↔∀row∈l,∀a∈row,a.under n=true
 | []=>by simp[eF]
 |v::r=>by simp[eF,jR n r,dG]
def G.cut(g:G)(n:Nat):G:={ g with obj:=fun o=>if o<n then g.obj o else none }
theorem jS{α:Type}{l:List α}{a:α}(h:a∈l):∃i,i<l.length/\l[i]? = some a:=by
 obtain⟨i,hi,he⟩:=List.getElem_of_mem h;exact⟨i,hi,by rw[List.getElem?_eq_getElem hi,he]⟩
theorem VRel.under{g:G}{n:Nat}(hg:∀o l,g.obj o=some l->o<n){a:AV}{x:Value}(h:VRel g a x):a.under n=true:=by
 induction h with
 |undef x=>rfl
 |bool b=>rfl
 |int k n=>rfl
 |str s=>rfl
 |fn f first caps vf vc hf hc h1 h2 ih1 ih2=>
  simp only[AV.under,Bool.and_eq_true,dG];refine⟨fun a ha => ?_,fun a ha => ?_⟩
  ·obtain⟨i,hi,he⟩:=jS ha;exact ih1 i a _ he (Array.getElem?_eq_getElem (by omega))
  ·obtain⟨i,hi,he⟩:=jS ha;exact ih2 i a _ he (Array.getElem?_eq_getElem (by omega))
 |nilFn=>rfl
 |ptr o v off l a hl hv h=>simp[AV.under,hg o l hl]
 |vp o v n k i off l a hl hv hn h=>simp[AV.under,hg o l hl]
 |nilPtr=>rfl
 |nilIfc=>rfl
 |ifc t v x hv h ih=>simpa [AV.under]using ih
 |ep row off b base hst hp h ih=>
  simp only[AV.under,dG];intro a ha;obtain⟨j,hj,he⟩:=jS ha;have:=hp j hj;cases hq:g.perm b (base+j)with
  |none=>rw[hq]at this;cases this
  |some y=>exact ih j a y he hq
 |slNil full=>rfl
 |sl full rows b off cap k hcap hfull hk hst hp h ih=>
  simp only[AV.under,jR];intro row hr a ha;obtain⟨i,hi,he⟩:=jS hr;obtain⟨j,hj,he'⟩:=jS ha;have:=hp i j hi (by rw[<- hk row hr];exact hj)
  cases hq:g.perm b (off+i*k+j)with
  |none=>rw[hq]at this;cases this
  |some y=>exact ih i j row a y he he' hq
 |sr o v n l a cap hl hv hn hc0 h=>simp[AV.under,hg o l hl]
 |srv o v n k lo l a cap hl hv hn hlo h=>simp[AV.under,hg o l hl]
 |srw o v n hi l a cap hl hv hn hhi h=>simp[AV.under,hg o l hl]
 |nilSl=>rfl
 |mp o v l r hl hv h=>simp[AV.under,hg o l hl]
 |yld o v l r hl hv h=>simp[AV.under,hg o l hl]
 |fmp ks vs r entries clock hw hk hv h1 h2 ih1 ih2=>
  simp only[AV.under,Bool.and_eq_true,dG];refine⟨fun a ha => ?_,fun a ha => ?_⟩
  ·obtain⟨i,hi,he⟩:=jS ha;exact ih1 i a _ he (Array.getElem?_eq_getElem (by omega))
  ·obtain⟨i,hi,he⟩:=jS ha;exact ih2 i a _ he (Array.getElem?_eq_getElem (by omega))
 |agg cs vs hs h ih=>
  simp only[AV.under,dG];intro a ha;obtain⟨i,hi,he⟩:=jS ha;exact ih i a _ he (Array.getElem?_eq_getElem (by omega))
 |tup cs vs hs h ih=>
  simp only[AV.under,dG];intro a ha;obtain⟨i,hi,he⟩:=jS ha;exact ih i a _ he (Array.getElem?_eq_getElem (by omega))
theorem VRel.cut{g:G}{n:Nat}{a:AV}{x:Value}(h:VRel g a x):a.under n=true->VRel (g.cut n) a x:=by
 have hobj:∀o l,g.obj o=some l->o<n->(g.cut n).obj o=some l:=fun o l h1 h2=>by simp[G.cut,h1,h2]
 induction h with
 |undef x=>exact fun _=>.undef x
 |bool b=>exact fun _=>.bool b
 |int k n=>exact fun _=>.int k n
 |str s=>exact fun _=>.str s
 |fn f first caps vf vc hf hc h1 h2 ih1 ih2=>
  intro hu;simp only[AV.under,Bool.and_eq_true,dG]at hu;exact .fn f first caps vf vc hf hc (fun i a x e1 e2=>ih1 i a x e1 e2 (hu.1 a (List.mem_of_getElem? e1))) (fun i a x e1 e2=>ih2 i a x e1 e2 (hu.2 a (List.mem_of_getElem? e1)))
 |nilFn=>exact fun _=>.nilFn
 |ptr o v off l a hl hv h=>intro hu;exact .ptr o v off l a (hobj o l hl (by simpa [AV.under]using hu)) hv h
 |vp o v n k i off l a hl hv hn h=>intro hu;exact .vp o v n k i off l a (hobj o l hl (by simpa [AV.under]using hu)) hv hn h
 |nilPtr=>exact fun _=>.nilPtr
 |nilIfc=>exact fun _=>.nilIfc
 |ifc t v x hv h ih=>exact fun hu=>.ifc t v x hv (ih (by simpa [AV.under]using hu))
 |ep row off b base hst hp h ih=>
  intro hu;simp only[AV.under,dG]at hu;exact .ep row off b base hst hp fun j a x e1 e2=>ih j a x e1 e2 (hu a (List.mem_of_getElem? e1))
 |slNil full=>exact fun _=>.slNil full
 |sl full rows b off cap k hcap hfull hk hst hp h ih=>
  intro hu;simp only[AV.under,jR]at hu;exact .sl full rows b off cap k hcap hfull hk hst hp fun i j row a x e1 e2 e3=>ih i j row a x e1 e2 e3 (hu row (List.mem_of_getElem? e1) a (List.mem_of_getElem? e2))
 |sr o v n l a cap hl hv hn hc0 h=>intro hu;exact .sr o v n l a cap (hobj o l hl (by simpa [AV.under]using hu)) hv hn hc0 h
 |srv o v n k lo l a cap hl hv hn hlo h=>intro hu;exact .srv o v n k lo l a cap (hobj o l hl (by simpa [AV.under]using hu)) hv hn hlo h
 |srw o v n hi l a cap hl hv hn hhi h=>intro hu;exact .srw o v n hi l a cap (hobj o l hl (by simpa [AV.under]using hu)) hv hn hhi h
 |nilSl=>exact fun _=>.nilSl
 |mp o v l r hl hv h=>intro hu;exact .mp o v l r (hobj o l hl (by simpa [AV.under]using hu)) hv h
 |yld o v l r hl hv h=>intro hu;exact .yld o v l r (hobj o l hl (by simpa [AV.under]using hu)) hv h
 |fmp ks vs r entries clock hw hk hv h1 h2 ih1 ih2=>
  intro hu;simp only[AV.under,Bool.and_eq_true,dG]at hu;exact .fmp ks vs r entries clock hw hk hv (fun i a e e1 e2=>ih1 i a e e1 e2 (hu.1 a (List.mem_of_getElem? e1))) fun i a e e1 e2=>ih2 i a e e1 e2 (hu.2 a (List.mem_of_getElem? e1))
 |agg cs vs hs h ih=>
  intro hu;simp only[AV.under,dG]at hu;exact .agg cs vs hs fun i a x e1 e2=>ih i a x e1 e2 (hu a (List.mem_of_getElem? e1))
 |tup cs vs hs h ih=>
  intro hu;simp only[AV.under,dG]at hu;exact .tup cs vs hs fun i a x e1 e2=>ih i a x e1 e2 (hu a (List.mem_of_getElem? e1))
theorem aA8.under{g:G}{n:Nat}(hg:∀o l,g.obj o=some l->o<n){w:World}{l:Loc}{x:AObj}(h:aA8 g w l x):x.under n=true:=by
 cases x with
 |gone v=>rfl
 |box v cells=>
  obtain⟨h1,h2,h3⟩:=h;simp only[AObj.under,dG];intro a ha;obtain⟨j,hj,he⟩:=jS ha;obtain⟨y,hy,hr⟩:=h3 j a he;exact hr.under hg
 |tbox v ty cells=>
  obtain⟨h1,h2,h3⟩:=h;simp only[AObj.under,dG];intro a ha;obtain⟨j,hj,he⟩:=jS ha;obtain⟨y,hy,hr⟩:=h3 j a he;exact hr.under hg
 |vec v k rows=>
  obtain⟨h1,h2,h3,h4,h5,h6,h7⟩:=h;simp only[AObj.under,jR];intro row hr a ha;obtain⟨i,hi,he⟩:=jS hr;obtain⟨j,hj,he'⟩:=jS ha;obtain⟨_,y,hy,hv⟩:=h7 i j row a he he';exact hv.under hg
 |tvec v ty k rows=>
  obtain⟨⟨h1,h2,h3,h4,h5,h6,h7⟩,h8⟩:=h;simp only[AObj.under,jR];intro row hr a ha;obtain⟨i,hi,he⟩:=jS hr;obtain⟨j,hj,he'⟩:=jS ha;obtain⟨_,y,hy,hv⟩:=h7 i j row a he he';exact hv.under hg
 |map v es=>
  obtain⟨h1,entries,clock,h2,h3,h4⟩:=h;simp only[AObj.under,List.all_eq_true];rintro⟨k,v⟩ hm;obtain⟨i,hi,he⟩:=jS hm;have:=h4 i k v _ he (Array.getElem?_eq_getElem (by omega))
  simp[this.1.under hg,this.2.under hg]
 |rnd v base sites ps body ρ busy pend=>
  obtain⟨h1,r,h2,h3,h4,h5,h6,h7,h8,h9⟩:=h;simp only[AObj.under,dG];intro a ha;obtain⟨j,hj,he⟩:=jS ha;have:=h9 j;rw[he]at this;exact this.under hg
theorem aA8.cut{g:G}{n:Nat}{w:World}{l:Loc}{x:AObj}(h:aA8 g w l x)(hu:x.under n=true):aA8 (g.cut n) w l x:=by
 cases x with
 |gone v=>trivial
 |box v cells=>
  obtain⟨h1,h2,h3⟩:=h;simp only[AObj.under,dG]at hu;refine⟨h1,h2,fun j a ha => ?_⟩;obtain⟨y,hy,hr⟩:=h3 j a ha;exact⟨y,hy,hr.cut (hu a (List.mem_of_getElem? ha))⟩
 |tbox v ty cells=>
  obtain⟨h1,h2,h3⟩:=h;simp only[AObj.under,dG]at hu;refine⟨h1,h2,fun j a ha => ?_⟩;obtain⟨y,hy,hr⟩:=h3 j a ha;exact⟨y,hy,hr.cut (hu a (List.mem_of_getElem? ha))⟩
 |vec v k rows=>
  obtain⟨h1,h2,h3,h4,h5,h6,h7⟩:=h;simp only[AObj.under,jR]at hu;refine⟨h1,h2,h3,h4,h5,h6,fun i j row a hr ha => ?_⟩;obtain⟨hs,y,hy,hv⟩:=h7 i j row a hr ha;exact⟨hs,y,hy,hv.cut (hu row (List.mem_of_getElem? hr) a (List.mem_of_getElem? ha))⟩
 |tvec v ty k rows=>
  obtain⟨⟨h1,h2,h3,h4,h5,h6,h7⟩,h8⟩:=h;simp only[AObj.under,jR]at hu;refine⟨?_,h8⟩;refine⟨h1,h2,h3,h4,h5,h6,fun i j row a hr ha => ?_⟩;obtain⟨hs,y,hy,hv⟩:=h7 i j row a hr ha;exact⟨hs,y,hy,hv.cut (hu row (List.mem_of_getElem? hr) a (List.mem_of_getElem? ha))⟩
 |map v es=>
  obtain⟨h1,entries,clock,h2,h3,h4⟩:=h;simp only[AObj.under,List.all_eq_true]at hu;refine⟨h1,entries,clock,h2,h3,fun i k v e hk he => ?_⟩;have:=hu (k,v) (List.mem_of_getElem? hk);simp only[Bool.and_eq_true]at this;exact⟨(h4 i k v e hk he).1.cut this.1,(h4 i k v e hk he).2.cut this.2⟩
 |rnd v base sites ps body ρ busy pend=>
  obtain⟨h1,r,h2,h3,h4,h5,h6,h7,h8,h9⟩:=h;simp only[AObj.under,dG]at hu;refine⟨h1,r,h2,h3,h4,h5,h6,h7,h8,fun t=>(h9 t).cut ?_⟩;cases he:ρ[t]? with
  |none=>rfl
  |some a=>exact hu a (List.mem_of_getElem? he)
section
variable {g g':G}{H H':List AObj}{w w':World}{wr W:List Nat}
theorem Step.narrow(hlt:∀o l,g.obj o=some l->o<H.length)(h:Step g H w g' H' w' W)(hs:∀o∈W,o<H.length->o∈wr):Step g H w g' H' w' wr:=
 ⟨h.le,h.wf,⟨h.frame.1,fun b hb ho=>h.frame.2 b hb fun o hm l hl=>ho o (hs o hm (hlt o l hl)) l hl⟩,fun o hl ho=>h.same o hl fun hm=>ho (hs o hm hl),h.len,h.track,fun o hl ho=>h.keep o hl fun hm=>ho (hs o hm hl)⟩
theorem Step.cut(hw:WF g H w)(h:Step g H w g' H' w' wr)(hu:∀o∈wr,∀x,H'[o]? = some x->x.under H.length=true):Step g H w (g'.cut H.length) (H'.take H.length) w' wr:=by
 have htake:∀o,o<H.length->(H'.take H.length)[o]? = H'[o]? := fun o ho=>by simp[ho]
 have hbk:∀o l x,Backed (g'.cut H.length) (H'.take H.length) o l x->o<H.length/\Backed g' H' o l x:=fun o l x hb=>by
  have hlt:o<H.length:=by
   have:=(List.getElem?_eq_some_iff.1 hb.at_).1;simp at this;omega
  refine⟨hlt,⟨by rw[<- htake o hlt];exact hb.at_,hb.alive, ?_,hb.st⟩⟩
  have:=hb.loc;simpa [G.cut,hlt]using this
 have hobj:∀o l,(g'.cut H.length).obj o=some l->o<H.length/\g'.obj o=some l:=fun o l hl=>by
  simp only[G.cut]at hl
  split at hl
  ·exact⟨‹_›,hl⟩
  ·cases hl
 have hlen:=h.len;refine⟨⟨fun b i x hx=>h.le.perm b i x hx,fun o l hl => ?_,h.le.whole,h.le.io,h.le.code⟩,⟨h.wf.perm,fun o l hl => ?_,fun o l hl=>h.wf.blk o l (hobj o l hl).2,fun o x l hx hl => ?_,fun o l x hb => ?_,fun o l x hb=>h.wf.priv o l x (hbk o l x hb).2,
  fun o o' l l' x x' h1 h2=>h.wf.inj o o' l l' x x' (hbk _ _ _ h1).2 (hbk _ _ _ h2).2,h.wf.whole.keep rfl rfl ⟨rfl,rfl⟩ (fun _ _ _=>rfl) fun o l y hl=>.inr ⟨o,l,y,(hbk _ _ _ hl).2,rfl⟩⟩,h.frame,fun o ho hn => ?_,by simp;omega,fun o l hl=>h.track o l (hobj o l hl).2,fun o ho hn => ?_⟩
 ·obtain⟨l',h1,h2⟩:=h.le.obj o l hl;exact⟨l',by simp[G.cut,hw.lt o l hl,h1],h2⟩
 ·have:=(hobj o l hl).1;simp;omega
 ·obtain⟨h1,h2⟩:=hobj o l hl;rw[htake o h1]at hx;exact h.wf.st o x l hx h2
 ·obtain⟨h1,h2⟩:=hbk o l x hb;refine (h.wf.obj o l x h2).cut ?_
  by_cases hm:o∈wr
  ·exact hu o hm x h2.at_
  ·have hb0:Backed g H o l x:=⟨by rw[<- h.same o h1 hm];exact h2.at_,h2.alive,by rw[<- h.keep o h1 hm];exact h2.loc,h2.st⟩
   exact (hw.obj o l x hb0).under hw.lt
 ·rw[htake o ho];exact h.same o ho hn
 ·simp only[G.cut,ho,if_true];exact h.keep o ho hn
theorem pD.cut{n n0:Nat}{av:AV}{v:Value}(h:pD g' H' n0 w' av v)(hu:av.under n=true):pD (g'.cut n) (H'.take n) n0 w' av v:=by
 cases av with
 |own k rows=>
  obtain⟨b,cap,e,ho⟩:=h;simp only[AV.under,jR]at hu;refine⟨b,cap,e,⟨ho.hnew,ho.hlt,ho.hcap,ho.hsoft,ho.hrow,ho.hstill,ho.hsome,fun i j row c hr hc => ?_,ho.hpriv,fun o l x hb => ?_,ho.hwhole⟩⟩
  ·obtain⟨y,hy,hv⟩:=ho.hrel i j row c hr hc;exact⟨y,hy,hv.cut (hu row (List.mem_of_getElem? hr) c (List.mem_of_getElem? hc))⟩
  ·have hlt:o<n:=by
    have:=(List.getElem?_eq_some_iff.1 hb.at_).1;simp at this;omega
   refine ho.hapart o l x ⟨?_,hb.alive, ?_,hb.st⟩
   ·have:=hb.at_;simpa [List.getElem?_take,hlt]using this
   ·have:=hb.loc;simpa [G.cut,hlt]using this
 |_=>exact VRel.cut h hu
end
section
variable {P:Program}{glob:Glob}{g:G}{H:List AObj}{w w':World}{ρ:List AV}
theorem Step.drop(h:WF g H w){o:Nat}{l:Loc}{x:AObj}(hb:Backed g H o l x):
  Step g H w g (H.set o (.gone x.ver)) w [o]/\∀o' l' x',Backed g (H.set o (.gone x.ver)) o' l' x'->l'.b≠l.b:=by
 have ho:o<H.length:=h.lt o l hb.loc;have hbk:∀o' l' x',Backed g (H.set o (.gone x.ver)) o' l' x'->o'≠o/\Backed g H o' l' x':=fun o' l' x' hb'=>by
  have hne:o'≠o:=fun e=>by
   subst e;have h1:=hb'.at_;simp[ho]at h1;have h2:=hb'.alive;subst h1;simp[AObj.alive]at h2
  exact⟨hne,⟨by rw[<- getElem?_set_ne' H (.gone x.ver) (Ne.symm hne)];exact hb'.at_,hb'.alive,hb'.loc,hb'.st⟩⟩
 refine⟨⟨G.le.refl g,⟨h.perm,fun o' l' hl=>by simpa using h.lt o' l' hl,h.blk,fun o' x' l' hx hl => ?_,fun o' l' x' hb'=>h.obj o' l' x' (hbk _ _ _ hb').2,fun o' l' x' hb'=>h.priv o' l' x' (hbk _ _ _ hb').2,
  fun o1 o2 l1 l2 x1 x2 hb1 hb2 e=>h.inj o1 o2 l1 l2 x1 x2 (hbk _ _ _ hb1).2 (hbk _ _ _ hb2).2 e,h.whole.keep rfl rfl ⟨rfl,rfl⟩ (fun _ _ _=>rfl) fun o l y hl=>.inr ⟨o,l,y,(hbk _ _ _ hl).2,rfl⟩⟩,
  aBV.refl _ _ _,fun o' hl hm => ?_,by simp,fun o' l' hl=>.inr ⟨l',hl,rfl⟩,fun _ _ _=>rfl⟩,fun o' l' x' hb' e => ?_⟩
 ·by_cases e:o'=o
  ·subst e;simp[ho]at hx;subst hx;exact h.st o' x l' hb.at_ hl
  ·rw[getElem?_set_ne' H (.gone x.ver) (Ne.symm e)]at hx;exact h.st o' x' l' hx hl
 ·simp only[List.mem_singleton]at hm;exact getElem?_set_ne' H (.gone x.ver) (Ne.symm hm)
 ·obtain⟨hne,hb0⟩:=hbk _ _ _ hb';exact hne (h.inj o' o l' l x' x hb0 hb e)
theorem aLT(hw:WF g H w){o v n v' k:Nat}{rows:List (List AV)}(ho:H[o]? = some (.vec v' k rows))(hv:v'=v)(hn:rows.length=n){x:Value}(hx:VRel g (.sr o v n) x):
  ∃l,Backed g H o l (.vec v k rows)/\x=.slice (some ⟨l.b,0,none⟩) n l.cap:=by
 subst hv;cases hx with
 |sr _ _ _ l a cap hl hv hn' hc0 h=>
  have hst:l.st=v':=by have:=hw.st o _ l ho hl;simp only[AObj.ver]at this;omega
  have hb:Backed g H o l (.vec v' k rows):=⟨ho,rfl,hl,hst⟩;obtain⟨h0,_⟩:=hw.obj o l _ hb;obtain⟨e1,e2⟩:=h hst (by omega)
  exact⟨l,hb,by rw[e1,e2]⟩
theorem aFw{base n0:Nat}(hnew:∀o l,base<=o->g.obj o=some l->n0<=l.b)(hw:WF g H w){v v':AV}{H':List AObj}{l:List Nat}(h:aD6 base H v=some (v',H',l)){x:Value}(hx:VRel g v x):
  ∃g',Step g H w g' H' w l/\pD g' H' n0 w v' x:=by
 unfold aD6 at h
 split at h
 ·rename_i o v n
  split at h
  ·cases h;exact⟨g,.refl hw,hx⟩
  split at h
  ·rename_i v1 k rows ho
   split at h
   ·rename_i hc;obtain⟨hc1,hc2,hc3,hc4⟩:=hc;simp only[Option.some.injEq,Prod.mk.injEq]at h;obtain⟨rfl,rfl,rfl⟩:=h;obtain⟨lc,hb,rfl⟩:=aLT hw ho hc1 hc2 hx;obtain⟨h0,hlk,hcap,hsoft,hk,hsome,hcell⟩:=hw.obj o lc _ hb;obtain⟨h1,h2⟩:=Step.drop hw hb;have he:dL H [o]=H.set o (.gone (AObj.vec v k rows).ver):=by simp only[dL,hb.at_];rfl
    rw[he];refine⟨g,h1,lc.b,lc.cap,by rw[hc2],⟨hnew o lc hc3 hb.loc,hw.blk o lc hb.loc,hcap,hsoft,hk, ?_,hsome,fun i j row c hr hj => ?_,hw.priv o lc _ hb,h2, ?_⟩⟩
    ·exact hc4
    ·obtain⟨_,y,hy,hv⟩:=hcell i j row c hr hj;exact⟨y,hy,hv⟩
    ·cases hwh:g.whole lc.b with
     |none=>rfl
     |some z=>exact absurd rfl ((hw.whole.blocks lc.b z hwh).2 o lc _ hb)
   ·cases h
  ·cases h
 ·rename_i o v
  split at h
  ·rename_i v1 es ho
   split at h
   ·rename_i hc;simp only[Option.some.injEq,Prod.mk.injEq]at h;obtain⟨rfl,rfl,rfl⟩:=h;obtain⟨lc,entries,clock,hb,rfl,hheap,hrel,_⟩:=aDO hw ho hc.1 hx;obtain⟨h1,h2⟩:=Step.drop hw hb;have hle:g.le { g with whole:=fun b=>if b=lc.b then some (.map entries clock)else g.whole b }:=by
     refine⟨fun _ _ _ hx=>hx,fun o l hl=>⟨l,hl,Nat.le_refl _,fun _=>⟨Nat.le_refl _,fun _=>rfl⟩⟩,fun b x hx => ?_,rfl,rfl⟩
     by_cases e:b=lc.b
     ·subst e;exact absurd rfl ((hw.whole.blocks lc.b x hx).2 o lc _ hb)
     ·simp only[e,if_false];exact hx
    have hbk:∀o' l' x',Backed { g with whole:=fun b=>if b=lc.b then some (.map entries clock)else g.whole b } (H.set o (.gone v)) o' l' x'->Backed g (H.set o (.gone v)) o' l' x':=fun o' l' x' hb'=>⟨hb'.at_,hb'.alive,hb'.loc,hb'.st⟩
    have h1w:=h1.wf;refine⟨{ g with whole:=fun b=>if b=lc.b then some (.map entries clock)else g.whole b },⟨hle,⟨h1w.perm,h1w.lt,h1w.blk,h1w.st,fun o' l' x' hb'=>(h1w.obj o' l' x' (hbk _ _ _ hb')).keep hle rfl,fun o' l' x' hb'=>h1w.priv o' l' x' (hbk _ _ _ hb'),fun o1 o2 l1 l2 x1 x2 hb1 hb2=>h1w.inj o1 o2 l1 l2 x1 x2 (hbk _ _ _ hb1) (hbk _ _ _ hb2),
      ⟨fun b x hx => ?_,hw.whole.io⟩⟩,h1.frame,h1.same,h1.len,fun o' l' hl=>.inr ⟨l',hl,rfl⟩,fun _ _ _=>rfl⟩, ?_⟩
    ·by_cases e:b=lc.b
     ·subst e;simp only[if_true,Option.some.injEq]at hx;subst hx;exact⟨hheap,fun o' l' y hb'=>h2 o' l' y (hbk _ _ _ hb')⟩
     ·simp only[e,if_false]at hx;exact⟨(h1w.whole.blocks b x hx).1,fun o' l' y hb'=>(h1w.whole.blocks b x hx).2 o' l' y (hbk _ _ _ hb')⟩
    ·refine VRel.fmp _ _ lc.b entries clock (by simp) (by simpa using hrel.1) (by simpa using hrel.1) (fun i a e h5 h6 => ?_) fun i a e h5 h6 => ?_
     ·rw[List.getElem?_map]at h5;cases hq:es[i]? with
      |none=>simp[hq]at h5
      |some kv=>simp[hq]at h5;subst h5;exact (hrel.2 i kv.1 kv.2 e hq (by simpa using h6)).1.mono hle
     ·rw[List.getElem?_map]at h5;cases hq:es[i]? with
      |none=>simp[hq]at h5
      |some kv=>simp[hq]at h5;subst h5;exact (hrel.2 i kv.1 kv.2 e hq (by simpa using h6)).2.mono hle
   ·cases h;exact⟨g,.refl hw,hx⟩
  ·cases h;exact⟨g,.refl hw,hx⟩
 ·obtain⟨g',h1,h2⟩:=qJ hw h hx;refine⟨g',h1, ?_⟩;cases v' with
  |own k rows=>cases h2
  |_=>exact h2
theorem aDY:∀{vs vs':List AV} {g:G} {H H':List AObj} {l:List Nat},WF g H w->aBU H vs=some (vs',H',l)->∀{xs:List Value},fO g vs xs->∃g',Step g H w g' H' w l/\fO g' vs' xs
 | [],vs',g,H,H',l,hw,h,xs,hx=>by
  simp only[aBU,Option.some.injEq,Prod.mk.injEq]at h;obtain⟨rfl,rfl,rfl⟩:=h;exact⟨g,.refl hw,hx⟩
 |v::vs,vs',g,H,H',l,hw,h,xs,hx=>by
  unfold aBU at h
  split at h
  ·cases h
  ·rename_i v1 H1 l1 hf
   split at h
   ·cases h
   ·rename_i r1 H2 l2 hr;simp only[Option.some.injEq,Prod.mk.injEq]at h;obtain⟨rfl,rfl,rfl⟩:=h;cases xs with
    |nil=>have:=hx.1;simp at this
    |cons x xs=>
     obtain⟨g1,h1,h2⟩:=qJ hw hf (hx.2 0 v x rfl rfl);have hxs:fO g1 vs xs:=⟨by simpa using hx.1,fun i a y ha hy=>(hx.2 (i+1) a y (by simpa using ha) (by simpa using hy)).mono h1.le⟩
     obtain⟨g2,h3,h4⟩:=aDY h1.wf hr hxs;refine⟨g2,h1.trans h3,by simp[h4.1],fun i a y ha hy => ?_⟩
     cases i with
     |zero=>simp at ha hy;subst ha;subst hy;exact h2.mono h3.le
     |succ i=>exact h4.2 i a y (by simpa using ha) (by simpa using hy)
def vH(tmps:Array Value)(rs:List ResultVar):Sem (List Value):=
 rs.mapM fun
  |.tmp t=>pure (tmps.getD t Go.undef)
  |.cell a t=>do loadVar t (<- asAddr (tmps.getD a Go.undef))
theorem uD(hw:WF g H w){tmps:Array Value}(hs:aT g ρ tmps):∀(rs:List ResultVar) (as:List ARes) (vs:List AV),aKy P rs=some as->aGe H ρ as=some vs ->
  ∃xs,(vH tmps rs).run P w=.ok xs w/\fO g vs xs
 | [],as,vs,h,hv=>by
  simp only[aKy,Option.some.injEq]at h;subst h;simp only[aGe,Option.some.injEq]at hv;subst hv;exact⟨[],by simp[vH],rfl,fun i a x h=>by simp at h⟩
 |r::rs,as,vs,h,hv=>by
  unfold aKy at h
  split at h
  ·rename_i a as' ha has;simp only[Option.some.injEq]at h;subst h;unfold aGe at hv
   split at hv
   ·cases hv
   ·rename_i v hv1
    split at hv
    ·cases hv
    ·rename_i vs' hvs;simp only[Option.some.injEq]at hv;subst hv;obtain⟨xs,h1,h2⟩:=uD hw hs rs as' vs' has hvs;have key:∃x,(match r with | .tmp t=>pure (tmps.getD t Go.undef) | .cell a t=>do loadVar t (<- asAddr (tmps.getD a Go.undef)):Sem Value).run P w=.ok x w/\VRel g v x:=by
      cases r with
      |tmp t=>
       simp only[aVT,Option.some.injEq]at ha;subst ha;simp only[aUA,Option.some.injEq]at hv1;subst hv1;exact⟨_,by simp,hs.2 t⟩
      |cell t ty=>
       simp only[aVT]at ha;obtain⟨⟨n,agg⟩,hsh,rfl⟩:=map_some ha;simp only[aUA]at hv1
       split at hv1
       ·rename_i cs hr;obtain⟨b,off,ys,e,hlen,hl,hc⟩:=dT hw hr (hs.2 t);have hrun:=aCF (P:=P) hsh w b off ys (by rw[<- hl.1];exact hlen) hc
        exact⟨_,by
         show (do loadVar ty (<- asAddr (tmps.getD t Go.undef)):Sem Value).run P w=_
         rw[e,Sem.run_bind,show (asAddr (Value.pointer (some ⟨b,off,none⟩))).run P w=.ok ⟨b,off,none⟩ w from rfl];exact hrun,vA hv1 hl⟩
       ·cases hv1
     obtain⟨x,hx1,hx2⟩:=key;refine⟨x::xs, ?_,by simp[h2.1],fun i a' y ha' hy => ?_⟩
     ·unfold vH at h1 ⊢;rw[List.mapM_cons];rw[Sem.run_bind,hx1];simp only[Result.andThen_ok];rw[Sem.run_bind,h1];simp
     ·cases i with
      |zero=>simp at ha' hy;subst ha';subst hy;exact hx2
      |succ i=>exact h2.2 i a' y (by simpa using ha') (by simpa using hy)
  ·cases h
def aNW:List Value->Value
 | [x]=>x
 |xs=>.tuple xs.toArray
theorem aIO{fn:Func}{tmps:Array Value}{xs:List Value}(h:(vH tmps fn.results.toList).run P w=.ok xs w):
  (results fn tmps).run P w=.ok (aNW xs) w:=by
 unfold results;rw[Array.mapM_eq_mapM_toList];have h':((fn.results.toList.mapM fun | .tmp t=>pure (tmps.getD t Go.undef) | .cell a t=>do loadVar t (<- asAddr (tmps.getD a Go.undef)):Sem (List Value))).run P w=.ok xs w:=h
 rw[map_eq_pure_bind];simp only[bind_assoc,pure_bind];rw[Sem.run_bind];refine (congrArg (fun r=>Result.andThen r _) h').trans ?_;simp only[Result.andThen_ok,List.size_toArray];clear h h';cases xs with
 |nil=>rfl
 |cons x r=>cases r with
  |nil=>rfl
  |cons y r=>rfl
end
section
variable {A:AProg}{n:Nat}{c:Ctx}{s:ASt}
theorem gF{x:ACode}:cO A 0 c x s=none:=rfl
theorem vI:cO A (n+1) c .skip s=some (.normal,s):=rfl
theorem pX:cO A (n+1) c .bad s=none:=rfl
theorem iA{d:Bool}{ops:List AOper}:cO A (n+1) c (.region d ops) s=match hG (cT A n) c d ops s with | some s'=>some (.normal,s') | none=>none:=rfl
theorem gO{x y:ACode}:cO A (n+1) c (.seq x y) s=match cO A n c x s with | some (.normal,s')=>cO A n c y s' | r=>r:=rfl
theorem iB{t:AOpd}{x y:ACode}:cO A (n+1) c (.cond t x y) s=match t.ev s.ρ with | .bool true=>cO A n c x s | .bool false=>cO A n c y s | _=>none:=rfl
theorem dW{id:Nat}{x:ACode}:cO A (n+1) c (.block id x) s=match cO A n c x s with
  |some (.exit id',s')=>if id'=id then some (.normal,s')else some (.exit id',s')
  |r=>r:=rfl
theorem gG{x:ACode}:cO A (n+1) c (.loop x) s=match cO A n c x s with | some (.normal,s')=>cO A n c (.loop x) s' | r=>r:=rfl
theorem aAA{id:Nat}:cO A (n+1) c (.exit id) s=some (.exit id,s):=rfl
theorem aC1:cO A (n+1) c .ret s=some (.ret,s):=rfl
theorem uE{ts:List (Nat×Nat)}:cO A (n+1) c (.frz ts) s=match nD c s ts with | some s'=>some (.normal,s') | none=>none:=rfl
theorem kO{x:AOpd}{ps:List Nat}{body:ACode}:cO A (n+1) c (.rangeF x ps body) s=match x.ev s.ρ,c.site ps.head? with
   |.fn f first caps,some id=>
    if id<s.H.length/\iZ c s.H=true then
     match cT A n f (first++.yld id (bG s.H id)::caps) (make s.H id fun v=>.rnd v c.base c.sites ps body s.ρ false none)with
     |some (_,H2,wr)=>match H2[id]? with
      |some (.rnd v _ _ _ _ _ false pend)=>if v=bG s.H id/\iZ c H2=true then some (pend.getD .normal,⟨s.ρ,H2.set id (.gone v),bA c.base s.wr (id::wr)⟩)else none
      |_=>none
     |none=>none
    else none
   |_,_=>none:=rfl
theorem nQ{ev:Ctx->ACode->ASt->Option (AExit×ASt)}{H:List AObj}{args:List AV}{r:AV×List AObj×List Nat}(h:rX ev H args=some r):
  ∃o v xs base sites ps asg body ρ s0 b1 t1 p1 c1 r1 e s,args=.own 0 []::.yld o v::xs/\H[o]? = some (.rnd v base sites ps (.seq asg body) ρ false none)/\xs.length=ps.length /\
   ev ⟨base,sites++[YF+o,YF+v]⟩ asg ⟨dQ ρ ps xs,H,[]⟩=some (.normal,s0)/\s0.H[o]? = some (.rnd v b1 t1 p1 c1 r1 false none) /\
   ev ⟨base,sites++[YF+o,YF+v]⟩ body ⟨s0.ρ,s0.H.set o (.rnd v b1 t1 p1 c1 r1 true none),s0.wr⟩=some (e,s) /\
   ∃b' s' p' c' r',s.H[o]? = some (.rnd v b' s' p' c' r' true none) /\
   r=(.bool (decide (e=.normal)),s.H.set o (.rnd v b' s' p' c' r' false (if e=.normal then none else some e)),List.range' base (H.length - base)++(o::s.wr)):=by
 unfold rX at h
 split at h
 ·rename_i o v xs
  split at h
  ·rename_i v' base sites ps asg body ρ hH
   split at h
   ·rename_i hc;obtain⟨rfl,hlen⟩:=hc
    split at h
    ·rename_i s0 hev0
     split at h
     ·rename_i v1 b1 t1 p1 c1 r1 hs0
      split at h
      ·rename_i hv1;subst hv1
       split at h
       ·rename_i e s hev
        split at h
        ·rename_i v2 b' s' p' c' r' hs
         split at h
         ·rename_i hv;subst hv;cases h;exact⟨o,_,xs,base,sites,ps,asg,body,ρ,s0,b1,t1,p1,c1,r1,e,s,rfl,hH,hlen,hev0,hs0,hev,_,_,_,_,_,hs,rfl⟩
         ·cases h
        ·cases h
       ·cases h
      ·cases h
     ·cases h
    ·cases h
   ·cases h
  ·cases h
 ·cases h
theorem sB{f:Nat}{args:List AV}{H:List AObj}{r:AV×List AObj×List Nat}(h:cT A n f args H=some r):
  (∃p v,A.prim f=some p/\p args H=some v/\r=dA H v) ∨
  (∃fn s' e r',A.fn f=some fn/\cO A n ⟨H.length,fn.sites⟩ fn.body (mK fn args H)=some (e,s')/\(e=.normal∨e=.ret)/\xZ H.length fn s'=some r'/\r=cD H.length r'/\args.length<=fn.ntmps) ∨
  (A.fn f=none/\rX (cO A n) H args=some r):=by
 unfold cT qE at h
 split at h
 ·rename_i v hv;cases h;cases hp:A.prim f with
  |none=>rw[hp]at hv;cases hv
  |some p=>rw[hp]at hv;exact .inl ⟨p,v,rfl,hv,rfl⟩
 ·split at h
  ·rename_i hf;exact .inr (.inr ⟨hf,h⟩)
  ·rename_i fn hf
   split at h
   rotate_left
   ·cases h
   rename_i hN
   split at h
   ·rename_i s' he
    split at h
    ·rename_i r' hr;cases h;exact .inr (.inl ⟨fn,s',_,r',hf,he,.inl rfl,hr,rfl,hN⟩)
    ·cases h
   ·rename_i s' he
    split at h
    ·rename_i r' hr;cases h;exact .inr (.inl ⟨fn,s',_,r',hf,he,.inr rfl,hr,rfl,hN⟩)
    ·cases h
   ·cases h
theorem aQe{base:Nat}{H H':List AObj}{v v':AV}{l:List Nat}(h:aD6 base H v=some (v',H',l)):Fr H H' l:=by
 unfold aD6 at h
 split at h
 ·split at h
  ·cases h;exact .refl _ _
  split at h
  ·split at h
   ·cases h;exact aBZ _ _
   ·cases h
  ·cases h
 ·split at h
  ·split at h
   ·cases h;exact Fr.set _ _ _
   ·cases h;exact .refl _ _
  ·cases h;exact .refl _ _
 ·exact aDS h
theorem aJP:∀{vs vs':List AV} {H H':List AObj} {l:List Nat},aBU H vs=some (vs',H',l)->Fr H H' l
 | [],vs',H,H',l,h=>by simp only[aBU,Option.some.injEq,Prod.mk.injEq]at h;obtain⟨_,rfl,rfl⟩:=h;exact .refl _ _
 |v::vs,vs',H,H',l,h=>by
  unfold aBU at h
  split at h
  ·cases h
  ·rename_i hf
   split at h
   ·cases h
   ·rename_i hr;cases h;exact (aDS hf).trans (aJP hr)
theorem aCK{base:Nat}{fn:AFn}{s:ASt}{r:AV×List AObj×List Nat}(h:xZ base fn s=some r):
  ∃vs,aGe s.H s.ρ fn.results=some vs /\
   ((∃v v' H' l,vs=[v]/\aD6 base s.H v=some (v',H',l)/\r=(v',H',bA base s.wr l)) ∨
    (∃vs' H' l,vs.length≠1/\aBU s.H vs=some (vs',H',l)/\r=(.tup vs',H',bA base s.wr l))):=by
 unfold xZ at h
 split at h
 ·cases h
 ·rename_i v hv
  split at h
  ·rename_i v' H' l hf;cases h;exact⟨[v],hv,.inl ⟨v,v',H',l,rfl,hf,rfl⟩⟩
  ·cases h
 ·rename_i vs hne hv
  split at h
  ·rename_i vs' H' l hf;cases h;refine⟨vs,hv,.inr ⟨vs',H',l,fun e => ?_,hf,rfl⟩⟩;obtain⟨x,rfl⟩:=List.length_eq_one_iff.1 e;exact hne x rfl
  ·cases h
theorem aLU{base:Nat}{fn:AFn}{s:ASt}{r:AV×List AObj×List Nat}(h:xZ base fn s=some r):FrB base s ⟨s.ρ,r.2.1,r.2.2⟩:=by
 obtain⟨vs,_,⟨v,v',H',l,rfl,hf,rfl⟩ | ⟨vs',H',l,_,hf,rfl⟩⟩:=aCK h
 ·exact FrB.of (aQe hf)
 ·exact FrB.of (aJP hf)
theorem aHr:∀(l:List (Nat×AObj)) (H:List AObj),Fr H (fZ H l) (l.map Prod.fst)
 | [],H=>.refl _ _
 | (o,x)::r,H=>(Fr.set H o x).trans (aHr r (H.set o x))
theorem Fr.more{H H':List AObj}{wr:List Nat}(h:Fr H H' wr)(l:List AObj):Fr H (H'++l) wr:=⟨by have:=h.1;simp;omega,fun o ho hn=>by rw[List.getElem?_append_left (by have:=h.1;omega)];exact h.2 o ho hn⟩
theorem aCL(hcode:∀(c:Ctx) (x:ACode) (s:ASt) e s',cO A n c x s=some (e,s')->FrB c.base s s'):rZ (cT A n):=by
 intro f args H v H' wr h;rcases sB h with⟨p,v1,_,_,hr⟩ | ⟨fn,s',e,r',_,he,_,hf,hr,_⟩ | ⟨_,hr⟩
 ·cases hr;exact (aHr _ _).more _
 ·have h1:=hcode _ _ _ _ _ he;have h2:=h1.trans (aLU hf);obtain⟨v1,H1,wr1⟩:=r';have h3:Fr H H1 wr1:=by
   refine⟨?_,fun o ho hn => ?_⟩
   ·have:=h2.1;simp only[mK,List.length_append]at this;omega
   ·have:=h2.2.2 o (by simp only[mK,List.length_append];omega) ho hn
    rw[this];simp only[mK];rw[List.getElem?_append_left ho]
  simp only[cD]at hr
  split at hr
  ·cases hr;refine⟨by have:=h3.1;simp;omega,fun o ho hn => ?_⟩
   rw[<- h3.2 o ho hn];simp[ho]
  ·cases hr;exact h3
 ·obtain⟨o,ve,xs,base,sites,ps,asg,body,ρ,s0,b1,t1,p1,c1,r1,e,s1,rfl,hH,hlen,hev0,hs0,hev,b',s',p',c',r',hs,hr'⟩:=nQ hr;simp only[Prod.mk.injEq]at hr';obtain⟨_,rfl,rfl⟩:=hr';have h0:=hcode _ _ _ _ _ hev0;have h1:=hcode _ _ _ _ _ hev;refine⟨by have a0:=h0.1;have a1:=h1.1;simp only[List.length_set]at a0 a1 ⊢;omega,fun q hq hn => ?_⟩
  simp only[List.mem_append,List.mem_cons,not_or,List.mem_range'_1]at hn;obtain⟨hn1,hn2,hn3⟩:=hn;rw[getElem?_set_ne' _ _ (Ne.symm hn2)];have h2:=h1.2.2 q (by have a0:=h0.1;simp only[List.length_set]at a0 ⊢;omega) (by show q<base;omega) hn3
  rw[h2];have h3:=h0.2.2 q hq (by show q<base;omega) fun hm=>hn3 (h1.2.1 q hm)
  rw[<- h3];exact getElem?_set_ne' _ _ (Ne.symm hn2)
theorem eX:∀(n:Nat) (c:Ctx) (x:ACode) (s:ASt) e s',cO A n c x s=some (e,s')->FrB c.base s s'
 |0,c,x,s,e,s',h=>by rw[gF]at h;cases h
 |n+1,c,x,s,e,s',h=>by
  have hcall:rZ (cT A n):=aCL (eX n);cases x with
  |skip=>rw[vI]at h;cases h;exact .refl _ _
  |bad=>rw[pX]at h;cases h
  |region d ops=>
   rw[iA]at h
   split at h
   ·rename_i s1 hr;cases h;exact aIN hcall hr
   ·cases h
  |seq a b=>
   rw[gO]at h
   split at h
   ·rename_i s1 hr;exact (eX n _ _ _ _ _ hr).trans (eX n _ _ _ _ _ h)
   ·exact eX n _ _ _ _ _ h
  |cond t a b=>
   rw[iB]at h
   split at h
   ·exact eX n _ _ _ _ _ h
   ·exact eX n _ _ _ _ _ h
   ·cases h
  |block id b=>
   rw[dW]at h
   split at h
   ·rename_i hr
    split at h<;>(cases h;exact eX n _ _ _ _ _ hr)
   ·exact eX n _ _ _ _ _ h
  |loop b=>
   rw[gG]at h
   split at h
   ·rename_i s1 hr;exact (eX n _ _ _ _ _ hr).trans (eX n _ _ _ _ _ h)
   ·exact eX n _ _ _ _ _ h
  |exit id=>rw[aAA]at h;cases h;exact .refl _ _
  |ret=>rw[aC1]at h;cases h;exact .refl _ _
  |frz ts=>
   rw[uE]at h
   split at h
   ·rename_i s1 hr;cases h;exact sA _ _ _ hr
   ·cases h
  |rangeF x ps body=>
   rw[kO]at h
   split at h
   ·rename_i f first caps id hx hid
    split at h
    ·rename_i hc
     split at h
     ·rename_i v2 H2 wr hcl
      split at h
      ·rename_i v b' s' p' c' r' pend hH2
       split at h
       ·cases h;have h1:=hcall _ _ _ _ _ _ hcl;have h2:Fr s.H (H2.set id (.gone v)) (id::wr):=by
         refine⟨by have:=h1.1;simp only[make,List.length_set]at this ⊢;exact this,fun q hq hn => ?_⟩
         simp only[List.mem_cons,not_or]at hn;rw[getElem?_set_ne' _ _ (Ne.symm hn.1),h1.2 q (by simpa [make]using hq) hn.2,make,getElem?_set_ne' _ _ (Ne.symm hn.1)]
        exact FrB.of h2
       ·cases h
      ·cases h
     ·cases h
    ·cases h
   ·cases h
theorem aHs(n:Nat):rZ (cT A n):=aCL (eX n)
end
abbrev bH:=Nat->AV
def upd(ρ:bH)(d:Nat)(v:AV):bH:=fun t=>if t=d then v else ρ t
def xT(ρ:bH):Option Nat->AV->bH
 |some d,v=>upd ρ d v
 |none,_=>ρ
def fenv(l:List AV):bH:=fun t=>(l[t]?).getD .undef
def AOpd.at(ρ:bH):AOpd->AV
 |.tmp t=>ρ t
 |.const v=>v
theorem AOpd.ev_eq(l:List AV)(x:AOpd):x.ev l=x.at (fenv l):=by cases x<;>rfl
theorem AOpd.ev_fun(l:List AV):AOpd.ev l=AOpd.at (fenv l):=funext fun x=>x.ev_eq l
def lT(ρ:bH)(cells:List AV):List (Nat×Nat×AOpd)->Option (List AV)
 | []=>some cells
 | (off,size,x)::r=>
  let vs:=(x.at ρ).cells
  if vs.length=size/\off+size<=cells.length/\vs.all AV.cellOk then lT ρ (nB cells off vs) r else none
def nE(ρ:bH)(k:Nat)(rows:List (List AV)):List (Nat×AOpd)->Option (List (List AV))
 | []=>some rows
 | (i,x)::r=>
  let vs:=(x.at ρ).strip.cells
  if vs.length=k/\i<rows.length/\vs.all AV.still then nE ρ k (rows.set i vs) r else none
def lU(ρ:bH)(k:Nat)(rows:List (List AV)):List (Nat×AOpd)->Option (List (List AV))
 | []=>some rows
 | (i,x)::r=>
  let vs:=(x.at ρ).strip.cells
  if vs.length=k/\i<rows.length/\vs.all AV.cellOk then lU ρ k (rows.set i vs) r else none
def tW(H:List AObj)(ρ:bH):AOp->Option AV
 |.mov x=>some (x.at ρ)
 |.pick c a b=>match c.at ρ with
  |.bool t=>some (if t then a.at ρ else b.at ρ)
  |_=>none
 |.alloc zs=>if zs.all AV.still then some (.ep (zs.map AV.strip1) 0)else none
 |.box k x=>
  let vs:=(x.at ρ).strip.cells
  if vs.length=k/\vs.all AV.still then some (.ep vs 0)else none
 |.build zs parts=>(lT ρ zs parts).map .agg
 |.bsl k zs n parts=>(nE ρ k (List.replicate n zs) parts).map (.sl true)
 |.mks _ bytes zs len cap=>match len.at ρ,cap.at ρ with
  |.int _ n,.int _ c=>if 0<=n/\n=c/\bP n.toNat bytes then some (.sl true (List.replicate n.toNat (zs.map AV.strip1)))else none
  |_,_=>none
 |.load k agg x=>match aX H k (x.at ρ)with
  |some cs=>dR agg cs
  |none=>none
 |.nilck x=>match x.at ρ with
  |.ptr o v off=>some (.ptr o v off)
  |.vp o v n k i off=>some (.vp o v n k i off)
  |.ep row off=>some (.ep row off)
  |.fn f a b=>some (.fn f a b)
  |_=>none
 |.isnil neg x=>match x.at ρ with
  |.sl _ (_::_) | .sr ..=>some (.bool neg)
  |.nilSl=>some (.bool !neg)
  |_=>none
 |.bin op ek x y=>kM op ek (x.at ρ) (y.at ρ)
 |.un op x=>unV op (x.at ρ)
 |.conv c x=>pG H c (x.at ρ)
 |.mkf f first caps=>if (first.map (AOpd.at ρ)).all AV.still&&(caps.map (AOpd.at ρ)).all AV.still then some (.fn f (first.map fun x=>(x.at ρ).strip1) (caps.map fun x=>(x.at ρ).strip1))else none
 |.sliceS x lo hi=>match x.at ρ with
  |.str s=>match dK s.length (lo.map (AOpd.at ρ)) (hi.map (AOpd.at ρ)) none with
   |some (l,h,_)=>some (.str ((s.take h).drop l))
   |none=>none
  |_=>none
 |.sliceV k x lo hi mx=>match x.at ρ with
  |.sl full rows=>match dK rows.length (lo.map (AOpd.at ρ)) (hi.map (AOpd.at ρ)) (mx.map (AOpd.at ρ))with
   |some (l,h,m)=>if cH k rows&&(!mx.isSome || hi.isSome)then some (.sl (decide (m=h)&&(mx.isSome || full)) ((rows.take h).drop l))else none
   |none=>none
  |.sr o v n=>if mx.isSome then none else match dK n (lo.map (AOpd.at ρ)) (hi.map (AOpd.at ρ)) none with
   |some (l,h,_)=>if hi.isSome&&decide (l=0)then some (.srw o v n h)else if h=n then some (.srv o v n k l)else none
   |none=>none
  |_=>none
 |.view k x lo=>match x.at ρ with
  |.sl full rows=>match dK rows.length (lo.map (AOpd.at ρ)) none none with
   |some (l,h,m)=>if cH k rows then some (.sl (decide (m=h)&&full) ((rows.take h).drop l))else none
   |none=>none
  |.sr o v n=>match H[o]? with
   |some (.vec v' _ rows)=>if v'=v/\rows.length=n then match kS 0 n (lo.map (AOpd.at ρ))with
     |some l=>some (.srv o v n k l)
     |none=>none
    else none
   |_=>none
  |_=>none
 |.sliceA n k x lo hi mx=>match x.at ρ with
  |.ep row off=>if off+n*k<=row.length then
    let rows:=aDC k n (row.drop off)
    match dK n (lo.map (AOpd.at ρ)) (hi.map (AOpd.at ρ)) (mx.map (AOpd.at ρ))with
    |some (l,h,m)=>if !mx.isSome || hi.isSome then some (.sl (decide (m=h)) ((rows.take h).drop l))else none
    |none=>none
   else none
  |_=>none
 |.fa off x=>match x.at ρ with
  |.ptr o v off0=>some (.ptr o v (off0+off))
  |.vp o v n k i off0=>some (.vp o v n k i (off0+off))
  |.ep row off0=>some (.ep row (off0+off))
  |_=>none
 |.fld off k agg x=>match x.at ρ with
  |.agg cs=>if off+k<=cs.length then dR agg ((cs.drop off).take k)else none
  |_=>none
 |.iaV x i k=>match x.at ρ,i.at ρ with
  |.sl _ rows,.int _ n=>if 0<=n then match rows[n.toNat]? with
    |some row=>if row.length=k then some (.ep row 0)else none
    |none=>none
   else none
  |.sr o v len,.int _ n=>if 0<=n/\n<len then some (.vp o v len k n.toNat 0)else none
  |_,_=>none
 |.iaA len k x i=>match x.at ρ,i.at ρ with
  |.ptr o v off,.int _ n=>if 0<=n/\n<len then some (.ptr o v (off+n.toNat*k))else none
  |.ep row off,.int _ n=>if 0<=n/\n<len then some (.ep row (off+n.toNat*k))else none
  |_,_=>none
 |.ixS x i=>match x.at ρ,i.at ρ with
  |.str s,.int _ n=>if 0<=n then match s[n.toNat]? with
    |some b=>some (.int .u8 b.toNat)
    |none=>none
   else none
  |_,_=>none
 |.ixA len k agg x i=>match x.at ρ,i.at ρ with
  |.agg cs,.int _ n=>if 0<=n/\n<len/\n.toNat*k+k<=cs.length then dR agg ((cs.drop (n.toNat*k)).take k)else none
  |_,_=>none
 |.lenS x=>match x.at ρ with
  |.str s=>some (.int .i64 s.length)
  |_=>none
 |.lenV x=>match x.at ρ with
  |.sl _ rows=>some (.int .i64 rows.length)
  |.sr _ _ n=>some (.int .i64 n)
  |.nilSl=>some (.int .i64 0)
  |_=>none
 |.lenC n=>some (.int .i64 n)
 |.mm mx xs=>mmV mx (xs.map (AOpd.at ρ))
 |.ext i x=>match x.at ρ with
  |.tup vs=>vs[i]?
  |_=>none
 |.mkifc t x=>if (x.at ρ).inIfc then some (.ifc t (x.at ρ))else none
 |.look zero m k ok=>match m.at ρ with
  |.mp o v=>match H[o]? with
   |some (.map v' es)=>if v'=v then
     match gY (k.at ρ) es 0 with
     |some (some (_,x))=>if ok then some (.tup [x,.bool true])else some x
     |some none=>if ok then some (.tup [zero,.bool false])else some zero
     |none=>none
    else none
   |_=>none
  |.fmp ks vs=>match gY (k.at ρ) (ks.zip vs) 0 with
   |some (some (_,x))=>if ok then some (.tup [x,.bool true])else some x
   |some none=>if ok then some (.tup [zero,.bool false])else some zero
   |none=>none
  |_=>none
 |_=>none
def aAB(ρ:bH):AOp->List Nat
 |.load _ _ x=>match x.at ρ with
  |.ptr o _ _=>[o]
  |.vp o _ _ _ _ _=>[o]
  |_=>[]
 |.conv .b2s x=>match x.at ρ with
  |.sr o _ _=>[o]
  |.srv o _ _ _ _=>[o]
  |.srw o _ _ _=>[o]
  |_=>[]
 |.look _ m _ _=>match m.at ρ with
  |.mp o _=>[o]
  |_=>[]
 |.view _ x _=>match x.at ρ with
  |.sr o _ _=>[o]
  |_=>[]
 |_=>[]
def vJ(ρ:bH)(k:Nat)(H:List AObj)(rows:List (List AV)):List (Nat×AOpd)->Option (List (List AV)×List AObj×List Nat)
 | []=>some (rows,H,[])
 | (i,x)::r=>
  match fix H (x.at ρ)with
  |some (v,H',l)=>
   if v.cells.length=k/\i<rows.length/\v.cells.all AV.still then
    match vJ ρ k H' (rows.set i v.cells) r with
    |some (rows',H'',l')=>some (rows',H'',l++l')
    |none=>none
   else none
  |none=>none
def aBj(call:Nat->List AV->List AObj->Out)(H:List AObj)(ρ:bH)(site:Option Nat):AOp->Out
 |.alloc zs=>match site with
  |some id=>if id<H.length then some (.ptr id (bG H id) 0,make H id (.box · zs),[id])else none
  |none=>none
 |.talloc ty zs=>match site with
  |some id=>if id<H.length then some (.ptr id (bG H id) 0,make H id (.tbox · ty zs),[id])else none
  |none=>none
 |.box k x=>match site with
  |some id=>if id<H.length/\(x.at ρ).cells.length=k/\(x.at ρ).cells.all AV.cellOk then some (.ptr id (bG H id) 0,make H id (.box · (x.at ρ).cells),[id])else none
  |none=>none
 |.tbx ty k x=>match site with
  |some id=>if id<H.length/\(x.at ρ).cells.length=k/\(x.at ρ).cells.all AV.cellOk then some (.ptr id (bG H id) 0,make H id (.tbox · ty (x.at ρ).cells),[id])else none
  |none=>none
 |.store k x v=>if (v.at ρ).cells.length=k/\(v.at ρ).cells.all AV.cellOk then
   match storeCells H (v.at ρ).cells (x.at ρ)with
   |some (H',wr)=>some (.undef,H',wr)
   |none=>none
  else none
 |.bsl k zs n parts=>match site with
  |some id=>match lU ρ k (List.replicate n zs) parts with
   |some rows=>if id<H.length then some (.sr id (bG H id) n,make H id (.vec · k rows),[id])else none
   |none=>none
  |none=>match vJ ρ k H (List.replicate n zs) parts with
   |some (rows,H',wr)=>some (.sl true rows,H',wr)
   |none=>none
 |.mks k bytes zs len cap=>match len.at ρ,cap.at ρ with
  |.int _ n,.int _ c=>
   if 0<=n/\n=c/\bP n.toNat bytes then
    match site with
    |some id=>if id<H.length then some (.sr id (bG H id) n.toNat,make H id (.vec · k (List.replicate n.toNat (zs.map AV.strip1))),[id])else none
    |none=>some (.sl true (List.replicate n.toNat (zs.map AV.strip1)),H,[])
   else match site with
    |some id=>if n=0/\0<c/\bP c.toNat bytes/\id<H.length then some (.sr id (bG H id) 0,make H id (.vec · k []),[id])else none
    |none=>none
  |_,_=>none
 |.app k bytes s x=>fH H site k bytes (s.at ρ) (x.at ρ)
 |.tapp ty k bytes s x=>tX H site ty k bytes (s.at ρ) (x.at ρ)
 |.callv f args=>cY call H site (f.at ρ) (args.map (AOpd.at ρ))
 |.callr f args=>hD call H site (f.at ρ) (args.map (AOpd.at ρ))
 |.invk tab x args=>match x.at ρ with
  |.ifc t v=>match tab.lookup t with
   |some f=>cY call H site (.fn f [v] []) (args.map (AOpd.at ρ))
   |none=>none
  |_=>none
 |.cpy k x y=>match x.at ρ with
  |.srv o v n k' lo=>match H[o]? with
   |some (.vec v' k2 rows)=>match cU H (y.at ρ)with
    |some new=>if new.isEmpty then some (.int .i64 0,H,[])else if v'=v/\rows.length=n/\k2=k/\k'=k/\cH k new/\lo+new.length<=n then
      some (.int .i64 (new.length:Nat),H.set o (.vec v k (rows.take lo++new++rows.drop (lo+new.length))),[o])
     else none
    |none=>none
   |_=>none
  |_=>none
 |.mkmap=>match site with
  |some id=>if id<H.length then some (.mp id (bG H id),make H id (.map · []),[id])else none
  |none=>none
 |.ins m k v=>match m.at ρ,k.at ρ with
  |.mp o ver,key=>match H[o]? with
   |some (.map v' es)=>
    if v'=ver/\(aH4 key key).isSome/\(v.at ρ).strip.cells.all AV.still then
     match gY key es 0 with
     |some (some (i,_))=>some (.undef,H.set o (.map ver (es.set i (key,(v.at ρ).strip))),[o])
     |some none=>some (.undef,H.set o (.map ver (es++[(key,(v.at ρ).strip)])),[o])
     |none=>none
    else none
   |_=>none
  |_,_=>none
 |_=>none
theorem aBk(l:List AV):∀(ps:List (Nat×Nat×AOpd)) (cells:List AV),gM l cells ps=lT (fenv l) cells ps
 | [],_=>rfl
 | (off,size,x)::r,cells=>by
  unfold gM lT;simp only[AOpd.ev_eq,aBk l r]
theorem aCM(l:List AV)(k:Nat):∀(ps:List (Nat×AOpd)) (rows:List (List AV)),lG l k rows ps=nE (fenv l) k rows ps
 | [],_=>rfl
 | (i,x)::r,rows=>by
  unfold lG nE;simp only[AOpd.ev_eq,aCM l k r]
theorem aBl(l:List AV)(k:Nat):∀(ps:List (Nat×AOpd)) (rows:List (List AV)),iY l k rows ps=lU (fenv l) k rows ps
 | [],_=>rfl
 | (i,x)::r,rows=>by
  unfold iY lU;simp only[AOpd.ev_eq,aBl l k r]
theorem aFx(l:List AV)(k:Nat):∀(ps:List (Nat×AOpd)) (H:List AObj) (rows:List (List AV)),nC l k H rows ps=vJ (fenv l) k H rows ps
 | [],_,_=>rfl
 | (i,x)::r,H,rows=>by
  unfold nC vJ;simp only[AOpd.ev_eq,aFx l k r];rfl
theorem aPr(H:List AObj)(l:List AV)(o:AOp):evR H l o=tW H (fenv l) o:=by
 cases o<;>simp only[evR,tW,AOpd.ev_eq,AOpd.ev_fun,aBk,aCM]<;>rfl
theorem aQf(l:List AV)(o:AOp):aGd l o=aAB (fenv l) o:=by
 cases o with
 |conv c x=>cases c<;>simp only[aGd,aAB,AOpd.ev_eq]<;>rfl
 |_=>first | rfl | (simp only[aGd,aAB,AOpd.ev_eq];done)|(simp only[aGd,aAB,AOpd.ev_eq];rfl)
theorem aPs(call:Nat->List AV->List AObj->Out)(H:List AObj)(l:List AV)(site:Option Nat)(o:AOp):evW call H l site o=aBj call H (fenv l) site o:=by
 cases o<;>simp only[evW,aBj,AOpd.ev_eq,AOpd.ev_fun,aBl,aFx]<;>rfl
end Go.AM
end
