/- Part 16: lemmas for the last text. -/
import Derived.Test.YtfpndhocfmfgdaaGreatDoorK13
import Derived.Test.YtfpndhocfmfgdaaGreatDoorK14
import Derived.Test.YtfpndhocfmfgdaaGreatDoorK15
import Derived.Shelf.Strconv.AppendUint10
import Derived.ProofKit
set_option linter.unusedVariables false
set_option linter.unusedSimpArgs false
open Bool renaming not_true -> BT
section
set_option maxRecDepth 100000
namespace Go.AM
open Go
section
variable {P:Program}{glob:Glob}{A:AProg}{g:G}{H:List AObj}{w:World}
def aQx(fid:Nat)(vf vc:List Value):Oper:=⟨none,.call { callee:=.value (.const (.func (.func fid) vf.toArray vc.toArray)),args := #[],argTypes := #[] },0,"",#[],none⟩
theorem aIV{fid:Nat}{first caps:List AV}{vf vc:List Value}(hlf:fO g first vf)(hlc:fO g caps vc){call:Nat->List AV->List AObj->Out}(hcall:nY P glob call){site:Option Nat}
  {av:AV} {H':List AObj} {wr:List Nat} (h:cY call H site (.fn fid first caps) []=some (av,H',wr)) (hw:WF g H w) (hg:bI P glob g):
  (∀w,(callFunc fid (vf++vc).toArray).run P w=.ok (.enter fid (vf++vc).toArray) w) /\
  Calls P fid (vf++vc).toArray w fun e w'=>(∃x,e=.returned x)/\∃g',Step g H w g' H' w' wr:=by
 have hF:∃Fn,P.funcs[fid]? = some Fn/\(Fn.name == "runtime.NumGoroutine")=false/\Fn.body.isNone=false:=by
  have h:=h;simp only[cY]at h
  split at h
  ·cases h
  rename_i args' lent hlend
  split at h
  ·cases h
  rename_i v H2 wr2 hc;have hargs:fO g (first++[]++caps) (vf++[]++vc):=(hlf.append ⟨rfl,fun i a x h=>by simp at h⟩).append hlc
  obtain⟨l1,l2⟩:=pH hw hlend hargs;obtain⟨g1,hstep1,hlent⟩:=kN lent g H hw fun o ho=>.inl (l1 o ho);exact (hcall.1 fid _ _ v H2 wr2 hc g1 w _ hstep1.wf (hg.mono hstep1.le) (l2 g1 hlent).strip).1
 obtain⟨Fn,hfn,hname,hbody⟩:=hF;have hn:¬(Fn.name = "runtime.NumGoroutine"):=by simpa using hname
 have hb:¬(Fn.body=none):=fun e=>by rw[e]at hbody;simp at hbody
 refine⟨fun w=>by simp[callFunc,hfn,hn,hb], ?_⟩
 have hrun:(execOp (Act.eval { tmps := #[],defers:=[] }) (aQx fid vf vc)).run P w=.ok (.enter fid (vf++vc).toArray) w:=by
  simp[aQx,execOp,resolve,Act.eval,Deferred.ofValue,invoke,callFunc,hfn,hn,hb]
 have hd:=aBX (o:=aQx fid vf vc) (a:={ tmps := #[],defers:=[] })
  (vx:=[]) hlf ⟨rfl,fun i a x h=>by simp at h⟩ hlc hcall h hw hg fun Fn' _ _ _=>by simpa using hrun
 rcases hd with⟨v,w',hr,_⟩ | ⟨w',hr,_⟩ | ⟨f,args,w1,hr,hR⟩ | ⟨l,f,t,b,c,w1,hr,_⟩
 ·rw[hrun]at hr;cases hr
 ·rw[hrun]at hr;cases hr
 ·rw[hrun]at hr;cases hr;refine hR.mono fun e w' he => ?_;cases e with
  |panicked c=>exact he.elim
  |outgrown=>exact he.elim
  |returned x=>exact⟨⟨x,rfl⟩,by obtain⟨g',h1,_⟩:=he;exact⟨g',h1⟩⟩
 ·rw[hrun]at hr;cases hr
def faV(off:Nat):AV->Option AV
 |.ptr o v off0=>some (.ptr o v (off0+off))
 |.vp o v n k i off0=>some (.vp o v n k i (off0+off))
 |.ep row off0=>some (.ep row (off0+off))
 |_=>none
theorem aY6{a a':AV}(h:faV 0 a=some a'):a'=a:=by
 cases a<;>first | (simp only[faV,Option.some.injEq,Nat.add_zero]at h;exact h.symm) | cases h
theorem aMf{off b o2:Nat}{a a':AV}(h:faV off a=some a')(hv:VRel g a (.pointer (some ⟨b,o2,none⟩))):VRel g a' (.pointer (some ⟨b,o2+off,none⟩)):=by
 cases hv with
 |ptr o v off0 l ad hl hv hh=>
  simp only[faV,Option.some.injEq]at h;subst h;exact .ptr o v _ l _ hl hv fun e1 e2=>by have:=hh e1 e2;simp only[Addr.mk.injEq]at this;rw[this.1,this.2.1]
 |vp o v n k i off0 l ad hl hv hn hh=>
  simp only[faV,Option.some.injEq]at h;subst h;exact .vp o v n k i _ l _ hl hv hn fun e1 e2=>by have:=hh e1 e2;simp only[Addr.mk.injEq]at this;rw[this.1,this.2.1,Nat.add_assoc]
 |ep row off0 b' base hst hp hh=>
  simp only[faV,Option.some.injEq]at h;subst h;have:=VRel.ep row (off0+off) b base hst hp hh
  rwa [<- Nat.add_assoc]at this
 |undef=>cases h
theorem aHI{b:Nat}{d:Option Nat}:(⟨b,[]⟩:Ctx).site d=none:=by
 cases d<;>simp[Ctx.site]
theorem opR{call:Nat->List AV->List AObj->Out}{b:Nat}{o:AOper}{r:List AOper}{s s':ASt}(hgd:o.guard=none)(hW:isW none false o.op=false)
  (h:iK call ⟨b,[]⟩ (o::r) s=some s'):∃v,evR s.H s.ρ o.op=some v/\iK call ⟨b,[]⟩ r ⟨putSlot s.ρ o.dst v,s.H,s.wr⟩=some s':=by
 simp only[iK,oR,wanted,hgd,if_true,aLy,aHI,hW,Bool.false_eq_true,if_false]at h
 split at h
 ·rename_i v H' wr h1
  split at h1
  ·rename_i v2 h2;cases h1;exact⟨_,h2,h⟩
  ·cases h1
 ·cases h
theorem opW{call:Nat->List AV->List AObj->Out}{b:Nat}{o:AOper}{r:List AOper}{s s':ASt}(hgd:o.guard=none)(hW:isW none false o.op=true)
  (h:iK call ⟨b,[]⟩ (o::r) s=some s'):∃v H' l,evW call s.H s.ρ none o.op=some (v,H',l)/\iK call ⟨b,[]⟩ r ⟨putSlot s.ρ o.dst v,H',bA b s.wr l⟩=some s':=by
 simp only[iK,oR,wanted,hgd,if_true,aLy,aHI,hW]at h
 split at h
 ·rename_i v H' wr h1;exact⟨_,_,_,h1,h⟩
 ·cases h
theorem yO{n:Nat}{c:Ctx}{x y:ACode}{s:ASt}{e s'}(hx:∀m e s1,cO A m c x s=some (e,s1)->e=.normal)(h:cO A n c (.seq x y) s=some (e,s')):
  ∃m s1,m<n/\cO A m c x s=some (.normal,s1)/\cO A m c y s1=some (e,s'):=by
 cases n with
 |zero=>rw[gF]at h;cases h
 |succ m=>
  rw[gO]at h
  split at h
  ·rename_i s1 h1;exact⟨m,s1,Nat.lt_succ_self m,h1,h⟩
  ·rename_i hno;obtain rfl:=hx m e s' h;exact absurd h (hno s')
theorem aCa{n:Nat}{c:Ctx}{ops:List AOper}{s:ASt}{e s'}(h:cO A n c (.region false ops) s=some (e,s')):e=.normal/\∃m,m<n/\iK (cT A m) c ops s=some s':=by
 cases n with
 |zero=>rw[gF]at h;cases h
 |succ m=>
  rw[iA]at h;simp only[hG,Bool.false_and,Bool.false_eq_true,if_false]at h
  split at h
  ·rename_i s1 h1;cases h;exact⟨rfl,m,Nat.lt_succ_self m,h1⟩
  ·cases h
theorem aQy{x:AV}{k:IntKind}{m:Int}(h:kM .eql .no x (.int k m)=some (.bool true)):x=.int k m:=by
 cases x with
 |int k' m'=>
  simp only[kM]at h
  split at h
  ·rename_i hk;subst hk;simp at h;rw[h]
  ·cases h
 |_=>change none=some _ at h;cases h
theorem aCb{n b off:Nat}{k:IntKind}{m:Int}{p f y:AV}{H:List AObj}{wr:List Nat}{e s'}(h:cO A n ⟨b,[]⟩ (aTh off k m) ⟨[.agg [p,f],y],H,wr⟩=some (e,s')):
  e=.normal/\∃p' z,faV off p=some p'/\aX H 1 p'=some [.int k m]/\s'=⟨[.agg [p,f],z],H,wr⟩:=by
 obtain⟨n1,s1,_,h1,h2⟩:=yO (fun m e s1 h=>(aCa h).1) h;obtain⟨_,n2,_,h1⟩:=aCa h1;obtain⟨v1,e1,h1⟩:=opR rfl rfl h1;obtain⟨v2,e2,h1⟩:=opR rfl rfl h1;obtain⟨v3,e3,h1⟩:=opR rfl rfl h1;obtain⟨v4,e4,h1⟩:=opR rfl rfl h1;simp only[iK,Option.some.injEq]at h1;subst h1;simp[evR,AOpd.ev,dR]at e1;subst e1;simp only[evR,putSlot,AOpd.ev,List.set_cons_succ,List.set_cons_zero,List.getElem?_cons_succ,List.getElem?_cons_zero,Option.getD_some]at e2 e3 e4;have e2':faV off p=some v2:=by cases p<;>simp_all [faV]
 cases n1 with
 |zero=>rw[gF]at h2;cases h2
 |succ n1=>
  rw[iB]at h2;simp only[putSlot,AOpd.ev,List.set_cons_succ,List.set_cons_zero,List.getElem?_cons_succ,List.getElem?_cons_zero,Option.getD_some]at h2
  split at h2
  ·cases n1 with
   |zero=>rw[gF]at h2;cases h2
   |succ n1=>
    rw[vI]at h2;cases h2;refine⟨rfl,v2,.bool true,e2', ?_,rfl⟩
    split at e3
    ·rename_i cs hr;have hc:cs=[v3]:=by
      simp only[dR,Bool.false_eq_true,if_false]at e3
      split at e3
      ·cases e3;rfl
      ·cases e3
     subst hc;rw[hr,aQy e4]
    ·cases e3
  ·cases n1 with
   |zero=>rw[gF]at h2;cases h2
   |succ n1=>rw[pX]at h2;cases h2
  ·cases h2
theorem aMg{call:Nat->List AV->List AObj->Out}{H H':List AObj}{ρ:List AV}{x:AOpd}{k:IntKind}{m:Int}{a:AV}{l:List Nat}(h:evW call H ρ none (.store 1 x (.const (.int k m)))=some (a,H',l)):
  storeCells H [.int k m] (x.ev ρ)=some (H',l):=by
 have e:evW call H ρ none (.store 1 x (.const (.int k m)))=(match storeCells H [.int k m] (x.ev ρ)with | some (H',wr)=>some (.undef,H',wr) | none=>none):=rfl
 rw[e]at h
 split at h
 ·rename_i h1;cases h;exact h1
 ·cases h
theorem aHJ{H:List AObj}{ρ:List AV}{x:AOpd}{v:AV}(h:evR H ρ (.nilck x)=some v):v=x.ev ρ/\v.cells=[v]/\v≠.undef/\∀o w,v≠.yld o w:=by
 simp only[evR]at h
 split at h<;>first | (cases h;rename_i e;exact⟨e.symm,rfl,by simp,by simp⟩) | cases h
theorem aMh{H:List AObj}{ρ:List AV}{p f v:AV}(hp:ρ[0]? = some p)(hf:ρ[1]? = some f)(cp:p.cells=[p])(cf:f.cells=[f])
  (h:evR H ρ (.build [.undef,.undef] [(0,1,.tmp 0),(1,1,.tmp 1)])=some v):v=.agg [p,f]:=by
 simp only[evR,gM,AOpd.ev,hp,hf,Option.getD_some,cp,cf]at h
 split at h
 ·split at h
  ·simpa [nB]using h.symm
  ·cases h
 ·cases h
theorem aEc{n b off:Nat}{k:IntKind}{m:Int}{p f y:AV}{H:List AObj}{wr:List Nat}{e s'}(h:cO A n ⟨b,[]⟩ (aTi off k m) ⟨[.agg [p,f],y],H,wr⟩=some (e,s')):
  e=.normal/\∃p' z H' l,faV off p=some p'/\storeCells H [.int k m] p'=some (H',l)/\s'=⟨[.agg [p,f],z],H',bA b wr l⟩:=by
 obtain⟨he,n2,_,h1⟩:=aCa h;obtain⟨v1,e1,h1⟩:=opR rfl rfl h1;obtain⟨v2,e2,h1⟩:=opR rfl rfl h1;obtain⟨v3,H3,l,e3,h1⟩:=opW rfl rfl h1;simp only[iK,Option.some.injEq]at h1;subst h1;simp[evR,AOpd.ev,dR]at e1;subst e1;have e3:=aMg e3;simp only[evR,putSlot,AOpd.ev,List.set_cons_succ,List.set_cons_zero,List.getElem?_cons_succ,List.getElem?_cons_zero,Option.getD_some]at e2 e3;have e2':faV off p=some v2:=by cases p<;>simp_all [faV]
 exact⟨he,v2,v2,H3,l,e2',e3,rfl⟩
theorem aJZ{n b:Nat}{p f y:AV}{H:List AObj}{wr:List Nat}{e s'}(h:cO A n ⟨b,[]⟩ aQw ⟨[.agg [p,f],y],H,wr⟩=some (e,s')):
  e=.normal/\∃m z H' l,m<n/\cY (cT A m) H none f []=some (z,H',l)/\s'=⟨[.agg [p,f],z],H',bA b wr l⟩:=by
 obtain⟨he,n2,hn,h1⟩:=aCa h;obtain⟨v1,e1,h1⟩:=opR rfl rfl h1;obtain⟨v3,H3,l,e3,h1⟩:=opW rfl rfl h1;simp only[iK,Option.some.injEq]at h1;subst h1;simp[evR,AOpd.ev,dR]at e1;subst e1;simp only[evW,putSlot,AOpd.ev,List.set_cons_succ,List.set_cons_zero,List.getElem?_cons_succ,List.getElem?_cons_zero,Option.getD_some,List.map_nil]at e3;exact⟨he,n2,v3,H3,l,hn,e3,rfl⟩
theorem aOf{n:Nat}{args:List AV}{H:List AObj}{r:AV×List AObj×List Nat}(hp:A.prim 230=none)(hf:A.fn 230=some lV)(h:cT A n 230 args H=some r):
  ∃p f q0 q1 m z H1 H2 H3 H4 l1 l2 l3 l4,args=[p,f]/\(∀o v,f≠.yld o v)/\m<n/\faV 0 p=some q0/\faV 1 p=some q1/\aX H 1 q0=some [.int .u32 0]/\aX H 1 q1=some [.int .i32 0] /\
   storeCells H [.int .i32 1] q1=some (H1,l1)/\cY (cT A m) H1 none f []=some (z,H2,l2)/\aX H2 1 q1=some [.int .i32 1] /\
   storeCells H2 [.int .u32 1] q0=some (H3,l3)/\storeCells H3 [.int .i32 0] q1=some (H4,l4) /\
   r=cD H.length (.tup [],H4,bA H.length (bA H.length (bA H.length (bA H.length [] l1) l2) l3) l4):=by
 rcases sB h with⟨p,v1,hp',_⟩ | ⟨fn,s',e,r',hf',he,hee,hfin,hr,hN⟩ | ⟨hf',_⟩;rotate_left 2
 ·rw[hf]at hf';cases hf'
 ·rw[hp]at hp';cases hp'
 rw[hf]at hf';cases hf';obtain⟨n1,s1,hn1,h1,he⟩:=yO (fun m e s1 h=>(aCa h).1) he;obtain⟨_,_,_,h1⟩:=aCa h1;obtain⟨u1,d1,h1⟩:=opR rfl rfl h1;obtain⟨u2,d2,h1⟩:=opR rfl rfl h1;obtain⟨v1,e1,h1⟩:=opR rfl rfl h1;simp only[iK,Option.some.injEq]at h1;subst h1;obtain⟨d1,c1,u1',_⟩:=aHJ d1;obtain⟨d2,c2,u2',y2⟩:=aHJ d2
 match args,d1,d2,e1,hN with
 | [],d1,_,e1,_=>exact absurd (by simpa [mK,lV,AOpd.ev]using d1) u1'
 | [p],d1,d2,e1,_=>exact absurd (by simpa [mK,lV,AOpd.ev,putSlot]using d2) u2'
 |p::f::x::r,d1,d2,e1,hN=>simp[lV]at hN
 | [p,f],d1,d2,e1,hN=>
  simp[mK,lV,AOpd.ev,putSlot]at d1 d2;subst d1;subst d2;have hv1:v1=.agg [u1,u2]:=aMh (by simp[mK,lV,putSlot]) (by simp[mK,lV,putSlot]) c1 c2 e1
  subst hv1;have he:cO A n1 ⟨H.length,[]⟩ aOe ⟨[.agg [u1,u2],u2],H,[]⟩=some (e,s'):=by simpa [mK,putSlot,lV]using he
  unfold aOe at he;obtain⟨n3,s3,hn3,h3,he⟩:=yO (fun m e s1 h=>(aCb h).1) he;obtain⟨_,q0,z0,a1,a2,rfl⟩:=aCb h3;obtain⟨n4,s4,hn4,h4,he⟩:=yO (fun m e s1 h=>(aCb h).1) he;obtain⟨_,q1,z1,b1,b2,rfl⟩:=aCb h4;obtain⟨n5,s5,hn5,h5,he⟩:=yO (fun m e s1 h=>(aEc h).1) he;obtain⟨_,q1',z2,H1,l1,c1,c2,rfl⟩:=aEc h5;obtain⟨n6,s6,hn6,h6,he⟩:=yO (fun m e s1 h=>(aJZ h).1) he;obtain⟨_,m,z3,H2,l2,hm,d1,rfl⟩:=aJZ h6;obtain⟨n7,s7,hn7,h7,he⟩:=yO (fun m e s1 h=>(aCb h).1) he;obtain⟨_,q2,z4,f1,f2,rfl⟩:=aCb h7;obtain⟨n8,s8,hn8,h8,he⟩:=yO (fun m e s1 h=>(aEc h).1) he;obtain⟨_,q3,z5,H3,l3,g1,g2,rfl⟩:=aEc h8;obtain⟨_,q4,z6,H4,l4,i1,i2,rfl⟩:=aEc he;rw[b1]at c1 f1 i1;rw[a1]at g1;cases c1;cases f1;cases i1;cases g1;refine⟨u1,u2,q0,q1,m,z3,H1,H2,H3,H4,l1,l2,l3,l4,rfl,y2,by omega,a1,b1,a2,b2,c2,d1,f2,g2,i2, ?_⟩
  rw[hr];simp[xZ,aGe,aBU,lV,bA]at hfin;rw[<- hfin]
end
end Go.AM
namespace Go.Proofs.Sa
open Go Go.AM Go.Proofs Go.RowKit Go.Lib
theorem slow_ok{glob:Glob}{A:AProg}(hp:A.prim 230=none)(hf:A.fn 230=some lV):aTg Tryz.prog glob A 230:=by
 intro n hm f' args H av H' wr hh g w xs hw hg hx;dsimp only at hh
 split at hh
 rotate_left
 ·cases hh
 rename_i e;subst e;refine⟨⟨Tryz.f230,Tryz.func230,by kernel_rfl,by kernel_rfl⟩, ?_⟩
 obtain⟨p,f,q0,q1,m,z,H1,H2,H3,H4,l1,l2,l3,l4,rfl,hny,hmn,a0,a1,r0,r1,s1,d1,r2,s3,s4,hr⟩:=aOf hp hf hh;obtain⟨x,y,rfl,hv,hy⟩:=nS hx;have hx0:∃b off,x=.pointer (some ⟨b,off,none⟩):=by
  have e:=aY6 a0;subst e;obtain⟨b,off,_,e,_⟩:=dT hw r0 hv;exact⟨b,off,e⟩
 obtain⟨b,off,rfl⟩:=hx0;have v0:=aMf a0 hv;have v1:=aMf a1 hv;obtain⟨b0,o0,vs0,e0,k0,t0,c0⟩:=dT hw r0 v0;cases e0;obtain⟨b1,o1,vs1,e1,k1,t1,c1⟩:=dT hw r1 v1;cases e1;have hc0:w.cell? ⟨b,off,none⟩=some (.int .u32 0):=by
  obtain⟨hl,hr⟩:=t0
  match vs0,hl with
  | [y0],_=>
   have:=hr 0 _ _ rfl rfl;cases this;exact c0 0 _ rfl
 have hc1:w.cell? ⟨b,off+1,none⟩=some (.int .i32 0):=by
  obtain⟨hl,hr⟩:=t1
  match vs1,hl with
  | [y0],_=>
   have:=hr 0 _ _ rfl rfl;cases this;exact c1 0 _ rfl
 have one:∀{g:G} (k:IntKind) (n:Int),fO g [.int k n] [.int k n]:=fun k n=>⟨rfl,fun i a x e1 e2=>by
  match i with
  |0=>simp at e1 e2;subst e1;subst e2;exact .int k n
  |i+1=>simp at e1⟩
 obtain⟨b2,o2,e2,i2,f2,st1⟩:=eV hw s1 v1 (one .i32 1);cases e2;have hz1:=f2 0 (by simp)
 cases f with
 |fn fid first caps=>
  obtain⟨vf,vc,ey,hlf,hlc⟩:=hy.fn_inv;subst ey;have hcall:=hm m hmn;obtain⟨hin,hcalls⟩:=aIV (P:=Tryz.prog) (hlf.mono st1.le) (hlc.mono st1.le) hcall d1 st1.wf (hg.mono st1.le);refine (aMe b off fid vf vc _ w (fun w'=>∃g',Step g H1 (w.setCells b (off+1) [.int .i32 1]) g' H2 w' l2) hin (by simp) hc0 hc1 hz1 ?_ ?_).mono ?_
  ·simpa [World.setCells]using hcalls
  ·rintro w' ⟨g',st2⟩;have hle:=st1.le.trans st2.le;obtain⟨b3,o3,e3,i3,f3,st3⟩:=eV st2.wf s3 (v0.mono hle) (one .u32 1);cases e3;obtain⟨b4,o4,e4,i4,f4,st4⟩:=eV st3.wf s4 (v1.mono hle) (one .i32 0);cases e4;obtain⟨b5,o5,vs5,e5,k5,t5,c5⟩:=dT st2.wf r2 (v1.mono hle);cases e5;refine⟨?_,f3 0 (by simp), ?_, ?_⟩
   ·have:=i3 0 (by simp)
    exact Option.isSome_iff_exists.1 this
   ·obtain⟨hl,hr⟩:=t5
    match vs5,hl with
    | [y0],_=>
     have:=hr 0 _ _ rfl rfl;cases this;exact c5 0 _ rfl
   ·have:=f4 0 (by simp)
    simpa [World.setCells]using this
  ·rintro e w' ⟨rfl,w2,⟨g',st2⟩,rfl⟩;have st2':=st2.trans (Step.of_heap (w':=w2.drew) st2.wf rfl);have hle:=st1.le.trans st2'.le;obtain⟨b3,o3,e3,i3,f3,st3⟩:=eV st2'.wf s3 (v0.mono hle) (one .u32 1);cases e3;obtain⟨b4,o4,e4,i4,f4,st4⟩:=eV st3.wf s4 (v1.mono hle) (one .i32 0);cases e4;have hall:=((st1.trans st2').trans st3).trans st4;have hall2:=Step.narrow (wr:=bA H.length (bA H.length (bA H.length (bA H.length [] l1) l2) l3) l4) hw.lt hall (fun o ho hb=>by
    simp only[List.append_nil,List.mem_append]at ho;rcases ho with ((ho | ho) | ho) | ho
    ·exact (bW _ _ _).1 o ((bW _ _ _).1 o ((bW _ _ _).1 o ((bW _ _ _).2 o ho hb)))
    ·exact (bW _ _ _).1 o ((bW _ _ _).1 o ((bW _ _ _).2 o ho hb))
    ·exact (bW _ _ _).1 o ((bW _ _ _).2 o ho hb)
    ·exact (bW _ _ _).2 o ho hb)
   simp only[World.setCells]at hall2;simp only[cD]at hr
   split at hr
   ·rename_i hcut;simp only[Bool.and_eq_true]at hcut;cases hr;refine⟨g'.cut H.length,Step.cut hw hall2 fun o ho x hx => ?_,VRel.skip _⟩;have:=List.all_eq_true.1 hcut.2 o ho;rw[hx]at this;exact this
   ·cases hr;exact⟨g',hall2,VRel.skip _⟩
 |yld o v=>exact absurd rfl (hny o v)
 |_=>simp[cY]at d1
end Go.Proofs.Sa
end
section
set_option maxRecDepth 100000
namespace Go.Proofs
open Go.Shelf Go.RowKit Go.Sort Go.Lib
variable {P:Program}{ρ:Ren}
theorem uJ{ops:Array Oper}{rest:List Oper}{o:Oper}{a:Act}{w:World}{Q:Exit->Act->World->Prop}(hgd:o.guard=none)(sl x:Operand)(t u:TypeId)
  (ho:o.op=.call { callee:=.builtin .append,args := #[sl,x],argTypes := #[t,u] }) (v xv v':Value) (w':World) (hs:a.eval sl=v) (hx:a.eval x=xv)
  (hr:(Builtin.append_ #[t,u] o.type #[v,xv]).run P w=.ok v' w') (h:wpList P ops Q rest (a.put o.dst v') w'):wpList P ops Q (o::rest) a w:=by
 refine wpList_plain hgd fun K hK => ?_;unfold Oper.wp execOp;simp only[ho,resolve,invoke,builtin,Sem.run_bind,Sem.run_pure,Result.andThen_ok,List.map_toArray,List.map_cons,List.map_nil,hs,hx,hr];exact hK _ _ h
set_option maxHeartbeats 6400000 in
theorem aKT(L:LaysM.n288 P ρ)(u:Nat)(hu:u<100)(sv v':Value)(w w1:World)(hrun:∀ty,(Builtin.append_ #[ρ.t 37,ρ.t 9] ty #[sv,.string ⟨(Lib.decDigits u).toArray⟩]).run P w=.ok v' w1):
  Calls P (ρ.f 288) #[sv,.int .u64 u,.int .i64 10] w fun e w'=>e=.returned v'/\w'=w1:=by
 have mixed:=L.mixed;have t5:=L.t5;have a5:=L.a5;have z5:=L.z5;have v5:=L.v5
 have t37:=L.t37;have u37:=run_underlying L.t37;have a37:=L.a37;have z37:=L.z37;have v37:=L.v37
 have t53:=L.t53;have a53:=L.a53;have z53:=L.z53;have v53:=L.v53
 have t3:=L.t3;have a3:=L.a3;have z3:=L.z3;have v3:=L.v3
 have t4:=L.t4;have a4:=L.a4;have z4:=L.z4;have v4:=L.v4
 have t9:=L.t9;have a9:=L.a9;have z9:=L.z9;have v9:=L.v9
 have t171:=L.t171;have a171:=L.a171;have z171:=L.z171;have v171:=L.v171
 have t0:=L.t0;have a0:=L.a0;have z0:=L.z0;have v0:=L.v0
 have t173:=L.t173;have a173:=L.a173;have z173:=L.z173;have v173:=L.v173
 have e283:∀args w,(callFunc (ρ.f 283) args).run P w=.ok (.enter (ρ.f 283) args) w:=enters_of L.f283 (by kernel_rfl) rfl
 go_enter L.f288,Body.n288_ntmps ρ
 go_wp2_with (first
  | (go_at_fn (ρ.f 283);refine (Any.internal_strconv_small { L with } u hu _).mono ?_;rintro e w' ⟨rfl,rfl⟩)
  | (at_builtin;refine uJ rfl _ _ (ρ.t 37) (ρ.t 9) rfl _ _ _ _ rfl rfl (hrun _) ?_))
 go_wp2
 go_ret
 exact⟨rfl,rfl⟩
set_option maxHeartbeats 12800000 in
theorem aOg(L:LaysM.n288 P ρ)(u:Nat)(hu:100<=u)(hu64:u<18446744073709551616)(sv:Value)(w:World)(htab:Lib.TabIs P w "internal/strconv.uint64pow10" .u64 Lib.pow10Tab)
  (Q:Value->World->Prop)
  (happ:∀w2:World,w.heap.size<=w2.heap.size->(∀b,b<w.heap.size->w2.heap[b]? = w.heap[b]?)->w2.os=w.os/\w2.output=w.output ->
   (∀j u',(Lib.byteCells (Lib.decDigits u))[j]? = some u'->w2.cell? ⟨w.heap.size,j,none⟩=some u') ->
   ∃v' w',(∀ty,(Builtin.append_ #[ρ.t 37,ρ.t 37] ty #[sv,.slice (some ⟨w.heap.size,0,none⟩) (Lib.nDigits u) 24]).run P w2=.ok v' w')/\Q v' w'):
  Calls P (ρ.f 288) #[sv,.int .u64 u,.int .i64 10] w fun e w'=>∃v',e=.returned v'/\Q v' w':=by
 have mixed:=L.mixed;have t5:=L.t5;have a5:=L.a5;have z5:=L.z5;have v5:=L.v5
 have t37:=L.t37;have u37:=run_underlying L.t37;have a37:=L.a37;have z37:=L.z37;have v37:=L.v37
 have t53:=L.t53;have a53:=L.a53;have z53:=L.z53;have v53:=L.v53
 have t3:=L.t3;have a3:=L.a3;have z3:=L.z3;have v3:=L.v3
 have t4:=L.t4;have a4:=L.a4;have z4:=L.z4;have v4:=L.v4
 have t9:=L.t9;have a9:=L.a9;have z9:=L.z9;have v9:=L.v9
 have t171:=L.t171;have a171:=L.a171;have z171:=L.z171;have v171:=L.v171
 have t0:=L.t0;have a0:=L.a0;have z0:=L.z0;have v0:=L.v0
 have t173:=L.t173;have a173:=L.a173;have z173:=L.z173;have v173:=L.v173
 have e284:∀args w,(callFunc (ρ.f 284) args).run P w=.ok (.enter (ρ.f 284) args) w:=enters_of L.f284 (by kernel_rfl) rfl
 have e285:∀args w,(callFunc (ρ.f 285) args).run P w=.ok (.enter (ρ.f 285) args) w:=enters_of L.f285 (by kernel_rfl) rfl
 have hu1:1<=u:=by omega
 have hnd20:Lib.nDigits u<=20:=by have:=Lib.numDigits_eq u hu1 hu64;split at this<;>omega
 have hal:P.arrayLen (ρ.t 171)=24:=by simp[Program.arrayLen,L.t171]
 have hsl:∀W,(Instr.sliceAt (ρ.t 171) (.pointer (some ⟨w.heap.size,0,none⟩)) none (some (.int .i64 (Lib.nDigits u:Int))) none).run P W=.ok (.slice (some ⟨w.heap.size,0,none⟩) (Lib.nDigits u) 24) W:=fun W=>by
  rw[run_sliceAt_array_h W (ρ.t 171) ⟨w.heap.size,0,none⟩ (by simp[Program.arrayLen,Program.elem,L.t171]) .i64 (Lib.nDigits u:Int) (by omega) (by rw[hal];omega)]
  go_simp
 have hH0:=Lib.holds_zero0 w (ρ.t 171) (Lib.nDigits u) (by omega)
 have hfmt:=Any.internal_strconv_formatBase10 { L with } w.heap.size 0 24 u (Array.replicate (Lib.nDigits u) 0) (w.alloc (.cells Lib.zeros24 (ρ.t 171))) hH0 (by rw[Array.size_replicate];exact Lib.lt_pow_nDigits u) hu64 (by rw[Array.size_replicate];omega)
 rw[Array.size_replicate]at hfmt;have HH0:=Lib.hid hH0;have iu:(100:Int)<=(u:Int):=by omega
 clear hH0 hal
 go_enter L.f288,Body.n288_ntmps ρ
 go_wp2_with (first
  | (go_at_fn (ρ.f 284);refine (Any.internal_strconv_numDigits { L with } u hu1 hu64 _ (Lib.tabIs_alloc htab _)).mono ?_;rintro e w' ⟨rfl,rfl⟩))
 go_at_fn (ρ.f 285)
 refine hfmt.mono ?_;rintro e w' ⟨rfl,k,v',dk,rfl,hF⟩;have hcells:∀j u',(Lib.byteCells (Lib.decDigits u))[j]? = some u'->((putRow (fun(b:UInt8)=>Value.int .u8 (b.toNat:Int)) (w.alloc (.cells Lib.zeros24 (ρ.t 171))) w.heap.size 0 dk).drewN k).cell? ⟨w.heap.size,j,none⟩=some u':=by
  intro j u' hj;have hjl:j<(Lib.decDigits u).length:=by
   have h5:=(List.getElem?_eq_some_iff.1 hj).1
   rwa [Lib.byteCells_length]at h5
  have e5:(Lib.byteCells (Lib.decDigits u))[j]? = some (Value.int .u8 ((Lib.decDigits u)[j].toNat:Int)):=by simp[Lib.byteCells,hjl]
  rw[e5]at hj;cases hj;rw[Lib.row_is_numeral hF j hjl,World.cell?_drewN];have:=cell?_putRow (fun(b:UInt8)=>Value.int .u8 (b.toNat:Int)) _ w.heap.size 0 _ dk HH0.out (by rw[hF.size,Array.size_replicate]) j (by rw[hF.size];rw[Lib.decDigits_length]at hjl;exact hjl)
  rwa [Nat.zero_add]at this
 obtain⟨os,eo⟩:=Lib.fin_at w (.cells Lib.zeros24 (ρ.t 171)) dk k 0;have hsz2:w.heap.size<=((putRow (fun(b:UInt8)=>Value.int .u8 (b.toNat:Int)) (w.alloc (.cells Lib.zeros24 (ρ.t 171))) w.heap.size 0 dk).drewN k).heap.size:=by rw[eo];exact Lib.size_grow w k os
 have hall:∀b,b<w.heap.size->((putRow (fun(b:UInt8)=>Value.int .u8 (b.toNat:Int)) (w.alloc (.cells Lib.zeros24 (ρ.t 171))) w.heap.size 0 dk).drewN k).heap[b]? = w.heap[b]? := fun b hb=>by rw[eo];exact Lib.heap_grow_old w k os b hb
 have hio:((putRow (fun(b:UInt8)=>Value.int .u8 (b.toNat:Int)) (w.alloc (.cells Lib.zeros24 (ρ.t 171))) w.heap.size 0 dk).drewN k).os=w.os/\((putRow (fun(b:UInt8)=>Value.int .u8 (b.toNat:Int)) (w.alloc (.cells Lib.zeros24 (ρ.t 171))) w.heap.size 0 dk).drewN k).output=w.output:=by rw[eo];exact⟨rfl,rfl⟩
 generalize (putRow (fun(b:UInt8)=>Value.int .u8 (b.toNat:Int)) (w.alloc (.cells Lib.zeros24 (ρ.t 171))) w.heap.size 0 dk).drewN k=W2 at hcells hsz2 hall hio ⊢;clear eo HH0 hfmt;obtain⟨v2,w3,hr,hQ⟩:=happ W2 hsz2 hall hio hcells
 go_wp2_with (at_builtin;refine uJ rfl _ _ (ρ.t 37) (ρ.t 37) rfl _ _ _ _ rfl rfl (hr _) ?_)
 go_wp2
 go_ret
 exact⟨v2,rfl,hQ⟩
end Go.Proofs
end
section
namespace Go.AM
open Go
def nT:aIH:=fun args H=>match args with
 | [.sr o v n,.int .u64 i,.int .i64 b]=>match H[o]? with
  |some (.vec v' 1 rows)=>if v'=v/\rows.length=n/\0<=i/\i<1000000/\n<=1000000000/\b=10/\cH 1 rows=true then
    some (.sr o v (n+(oT 7 i.toNat).length),[(o,.vec v 1 (rows++aG (oT 7 i.toNat)))],[])
   else none
  |_=>none
 | [.sl true [],.int .u64 i,.int .i64 b]=>if 0<=i/\i<1000000/\b=10 then
   some (.own 1 (aG (oT 7 i.toNat)),[],[])
  else none
 |_=>none
section
variable {P:Program}{glob:Glob}{g:G}{H:List AObj}{w w':World}
theorem aIW(hw:WF g H w){k:Nat}{rows:List (List AV)}{b cap:Nat}(hcap:rows.length<=cap)(hrow:∀row∈rows,row.length=k)(hstill:rows.all (fun r=>r.all AV.still)=true)
  (hrel:∀(i j:Nat) (row:List AV) c,rows[i]? = some row->row[j]? = some c->∃y,w.cell? ⟨b,i*k+j,none⟩=some y/\VRel g c y) (hpriv:∀j,g.perm b j=none) (hapart:∀o l x,Backed g H o l x->l.b≠b):
  ∃g',Step g H w g' H w []/\VRel g' (.sl false rows) (.slice (some ⟨b,0,none⟩) rows.length cap):=by
 have hle:g.le (g.addPerm b fun i=>w.cell? ⟨b,i,none⟩):=by
  refine⟨fun b' i y hy => ?_,fun o l hl=>⟨l,hl,Nat.le_refl _,fun _=>⟨Nat.le_refl _,fun _=>rfl⟩⟩,fun _ _ hx=>hx,rfl,rfl⟩
  by_cases e:b'=b
  ·subst e;rw[hpriv i]at hy;cases hy
  ·simp only[G.addPerm,e,if_false];exact hy
 have hbk:∀o l x,Backed (g.addPerm b fun i=>w.cell? ⟨b,i,none⟩) H o l x->Backed g H o l x:=fun o l x hb=>⟨hb.at_,hb.alive,hb.loc,hb.st⟩;refine⟨g.addPerm b fun i=>w.cell? ⟨b,i,none⟩,⟨hle,⟨fun b' i y hy => ?_,hw.lt,hw.blk,hw.st,fun o l x hb=>(hw.obj o l x (hbk _ _ _ hb)).keep hle rfl,fun o l x hb j => ?_,fun o o' l l' x x' hb hb'=>hw.inj o o' l l' x x' (hbk _ _ _ hb) (hbk _ _ _ hb'),
   hw.whole.keep rfl rfl ⟨rfl,rfl⟩ (fun _ _ _=>rfl) fun o l y hl=>.inr ⟨o,l,y,hbk _ _ _ hl,rfl⟩⟩,
  aBV.refl _ _ _,fun _ _ _=>rfl,Nat.le_refl _,fun _ l' hl=>.inr ⟨l',hl,rfl⟩,fun _ _ _=>rfl⟩, ?_⟩
 ·by_cases e:b'=b
  ·subst e;simpa only[G.addPerm,if_true]using hy
  ·simp only[G.addPerm,e,if_false]at hy;exact hw.perm b' i y hy
 ·have hne:=hapart o l x (hbk _ _ _ hb);simp only[G.addPerm,hne,if_false];exact hw.priv o l x (hbk _ _ _ hb) j
 ·refine .sl false rows b 0 cap k hcap (by simp) hrow (List.all_eq_true.1 hstill) (fun i j hi hj => ?_) fun i j row c x h1 h2 h3 => ?_
  ·have hrk:=hrow rows[i] (List.getElem_mem hi);obtain⟨y,hy,_⟩:=hrel i j rows[i] (rows[i][j]'(by omega)) (by simp[hi]) (by simp)
   simp only[G.addPerm,if_true,Nat.zero_add,hy];rfl
  ·obtain⟨y,hy,hr⟩:=hrel i j row c h1 h2;simp only[G.addPerm,if_true,Nat.zero_add,hy,Option.some.injEq]at h3;subst h3;exact hr.mono hle
theorem aIX{t u ty:TypeId}{S X:Operand}{dst:Option Tmp}{pos:String}{after:Array Edge}{guard:Option (Nat×Bool)}{a:Act}{R:Value->World->Prop}
  (h:yD P ⟨dst,.call { callee:=.builtin .append,args := #[S,X],argTypes := #[t,u] },ty,pos,after,guard⟩ a w R):
  ∃v w',(Builtin.append_ #[t,u] ty #[a.eval S,a.eval X]).run P w=.ok v w'/\R v w':=by
 have hex:(execOp a.eval ⟨dst,.call { callee:=.builtin .append,args := #[S,X],argTypes := #[t,u] },ty,pos,after,guard⟩).run P w=((Builtin.append_ #[t,u] ty #[a.eval S,a.eval X]).run P w).andThen fun v w'=>.ok (.value v) w':=by
  simp[execOp,resolve,invoke,builtin]
 cases hr:(Builtin.append_ #[t,u] ty #[a.eval S,a.eval X]).run P w with
 |ok v w1=>
  rw[hr]at hex;simp only[Result.andThen_ok]at hex;rcases h with⟨v',w',e,hR⟩ | ⟨w',e,_⟩ | ⟨_,_,_,e,_⟩ | ⟨_,_,_,_,_,_,e,_⟩
  ·rw[hex]at e;cases e;exact⟨_,_,rfl,hR⟩
  ·rw[hex]at e;cases e
  ·rw[hex]at e;cases e
  ·rw[hex]at e;cases e
 |_=>
  exfalso;rw[hr]at hex;simp only[Result.andThen]at hex;rcases h with⟨v',w',e,hR⟩ | ⟨w',e,_⟩ | ⟨_,_,_,e,_⟩ | ⟨_,_,_,_,_,_,e,_⟩<;>(rw[hex]at e;cases e)
theorem aFJ{t u e:TypeId}{i:TypeInfo}{z:Value}{d:TypeDesc}(ht:P.underlying t=some (.slice e))(hu:P.underlying u=some d)(hd:∀k,d≠.int k)(hi:P.info? e=some i)(hz:i.zero=some z)(hzs:z.cells.size=i.size)
  {site:Option Nat} {s x av:AV} {sv xv:Value} {H':List AObj} {wr:List Nat} (h:fH H site i.size i.bytes s x=some (av,H',wr)) (hw:WF g H w) (hg:bI P glob g) (hs:VRel g s sv) (hx:VRel g x xv) (ty:TypeId):
  ∃v w',(Builtin.append_ #[t,u] ty #[sv,xv]).run P w=.ok v w'/\∃g',Step g H w g' H' w' wr/\VRel g' av v:=by
 have hsl:aT g [s,x] #[sv,xv]:=by
  refine⟨rfl,fun t => ?_⟩
  match t with
  |0=>exact hs
  |1=>exact hx
  |t+2=>simpa using VRel.undef _
 have:=aIX (aST (P:=P) (glob:=glob) (w:=w) (ρ:=[s,x]) (a:={ tmps := #[sv,xv],defers:=[] }) (dst:=none) (ty:=ty) (pos:= "") (after := #[]) (guard:=none) (S:=.tmp 0) (X:=.tmp 1) (s:=.tmp 0) (x:=.tmp 1) (call:=fun _ _ _=>none) (site:=site)
  ht hu hd hi hz rfl rfl hzs h hw hg hsl)
 exact this
end
end Go.AM
namespace Go.Proofs.Sa
open Go Go.AM Go.Proofs Go.RowKit Go.Lib
theorem aFK{g:G}{a b c:AV}{xs:List Value}(h:fO g [a,b,c] xs):∃x y z,xs=[x,y,z]/\VRel g a x/\VRel g b y/\VRel g c z:=by
 obtain⟨h1,h2⟩:=h
 match xs,h1 with
 | [x,y,z],_=>exact⟨x,y,z,rfl,h2 0 a x rfl rfl,h2 1 b y rfl rfl,h2 2 c z rfl rfl⟩
theorem aBt:∀(k n:Nat),(oT k n).length<=k
 |0,_=>Nat.le_refl _
 |k+1,n=>by
  unfold oT
  split
  ·simp
  ·simp;exact aBt k _
theorem aQz(k n:Nat):oT (k+1) n≠[]:=by
 unfold oT
 split<;>simp
theorem aEd(l:List UInt8):(aG l).all (fun r=>r.all AV.still)=true:=by
 simp[aG,List.all_map,AV.still]
theorem aMi{l:List UInt8}{r:List AV}(h:r∈aG l):r.length=1:=by
 simp only[aG,List.mem_map]at h;obtain⟨b,_,rfl⟩:=h;rfl
theorem aFL(l:List UInt8):cH 1 (aG l)=true:=by cases l<;>rfl
theorem aHK{glob:Glob}{tab:Nat}(hgl:Tryz.prog.globalNamed "internal/strconv.uint64pow10" = some tab)(hrow:glob.row tab=some (Lib.pow10Tab.map fun z=>AV.int .u64 z))
  {g:G} {H H0 H':List AObj} {w:World} {site:Option Nat} {s av:AV} {sv:Value} {wr:List Nat} (u:Nat) (hu:u<1000000) (hw:WF g H w) (hg:bI Tryz.prog glob g) (h0:Step g H w g H0 w []) (hs:VRel g s sv)
  (h:fH H0 site 1 1 s (.sl false (aG (oT 7 u)))=some (av,H',wr)):
  Calls Tryz.prog 267 #[sv,.int .u64 u,.int .i64 10] w fun e w'=>∃v',e=.returned v'/\∃g',Step g H w g' H' w' wr/\VRel g' av v':=by
 have hd:oT 7 u=Lib.decDigits u:=aGu 7 u (by omega) (by omega)
 obtain⟨i0,hi,hz0,hz1,hz2⟩:=info_parts (show (Tryz.prog.info? 5).map (fun i=>(i.zero,i.size,i.bytes))=some (some (.int .u8 0),1,1)by kernel_rfl)
 have hzs:(Value.int .u8 0).cells.size=i0.size:=by rw[hz1];rfl
 by_cases h100:u<100
 ·
  have hx:VRel g (.str (oT 7 u)) (.string ⟨(Lib.decDigits u).toArray⟩):=by rw[hd];exact .str ⟨(Lib.decDigits u).toArray⟩
  have h2:fH H0 site i0.size i0.bytes s (.str (oT 7 u))=some (av,H',wr):=by
   rw[hz1,hz2];exact h
  have hr:=fun ty=>aFJ (t:=145) (u:=9) Tryz.underlying145 Tryz.underlying9 (by intro k;simp) hi hz0 hzs h2 h0.wf hg hs hx ty
  obtain⟨v,w1,hrun,g',h3,h4⟩:=hr 0;have hall:∀ty,(Builtin.append_ #[145,9] ty #[sv,.string ⟨(Lib.decDigits u).toArray⟩]).run Tryz.prog w=.ok v w1:=fun ty=>hrun;refine (aKT (ρ:=Tryz.laysM288_ren) Tryz.laysM288 u h100 sv v w w1 hall).mono ?_;rintro e w' ⟨rfl,rfl⟩;exact⟨v,rfl,g',by simpa using h0.trans h3,h4⟩
 ·refine aOg (ρ:=Tryz.laysM288_ren) Tryz.laysM288 u (by omega) (by omega) sv w (aPv hw hgl hrow hg) (fun v' w'=>∃g',Step g H w g' H' w' wr/\VRel g' av v') fun w2 hsz hold hio hcells => ?_
  have s1:Step g H w g H w2 []:=Step.bigger hw hsz hold hio;have s2:Step g H0 w g H0 w2 []:=Step.bigger h0.wf hsz hold hio;have hlen:(aG (oT 7 u)).length=Lib.nDigits u:=by rw[hd,aG,List.length_map,Lib.decDigits_length]
  obtain⟨g2,s3,hx⟩:=aIW (b:=w.heap.size) (k:=1) (cap:=24) (rows:=aG (oT 7 u)) s2.wf (by rw[aG,List.length_map];have:=aBt 7 u;omega) (fun r hr=>aMi hr) (aEd _)
   (fun i j row c h1 h2=>by
    simp only[aG,List.getElem?_map,Option.map_eq_some_iff]at h1;obtain⟨b,h1,rfl⟩:=h1
    match j,h2 with
    |0,h2=>
     simp at h2;subst h2;refine⟨.int .u8 b.toNat, ?_,.int _ _⟩;rw[Nat.mul_one,Nat.add_zero];refine hcells i _ ?_;rw[<- hd];simp[Lib.byteCells,h1])
   (fun j=>by
    cases hp:g.perm w.heap.size j with
    |none=>rfl
    |some x=>exact absurd (hw.perm_lt hp) (by omega))
   (fun o l x hb=>by have:=hw.blk o l hb.loc;omega)
  rw[hlen]at hx;have h2:fH H0 site i0.size i0.bytes s (.sl false (aG (oT 7 u)))=some (av,H',wr):=by
   rw[hz1,hz2];exact h
  obtain⟨v,w3,hrun,g',h3,h4⟩:=aFJ (t:=145) (u:=145) Tryz.underlying145 Tryz.underlying145 (by intro k;simp) hi hz0 hzs h2 s3.wf (hg.mono s3.le) (hs.mono s3.le) hx 0
  exact⟨v,w3,fun ty=>hrun,g',by simpa using ((h0.trans s2).trans s3).trans h3,h4⟩
theorem appUint_ok{glob:Glob}{tab:Nat}(hgl:Tryz.prog.globalNamed "internal/strconv.uint64pow10" = some tab)(hrow:glob.row tab=some (Lib.pow10Tab.map fun z=>AV.int .u64 z)):
  jC Tryz.prog glob fun f' args H=>if f'=267 then (nT args H).map (dA H)else none:=by
 refine sL ⟨Tryz.f267,Tryz.func267,by kernel_rfl,by kernel_rfl⟩ fun args H v ws ns hp g w xs hw hg hx => ?_
 have ne0:∀i:Nat,(aG (oT 7 i)).isEmpty=false:=fun i=>by
  cases h:oT 7 i with
  |nil=>exact absurd h (aQz 6 i)
  |cons a l=>rfl
 have hl7:∀i:Nat,(aG (oT 7 i)).length<=7:=fun i=>by rw[aG,List.length_map];exact aBt 7 i
 have hll:∀i:Nat,(aG (oT 7 i)).length=(oT 7 i).length:=fun i=>List.length_map ..;unfold nT at hp
 split at hp
 ·rename_i o ve n i b
  split at hp
  ·rename_i v' rows ho
   split at hp
   ·rename_i hc;obtain⟨rfl,hn,hi0,hi1,hnn,rfl,hho⟩:=hc;simp only[Option.some.injEq,Prod.mk.injEq]at hp;obtain⟨rfl,rfl,rfl⟩:=hp;obtain⟨x,y,z,rfl,h1,h2,h3⟩:=aFK hx;cases h2;cases h3;obtain⟨u,rfl⟩:=Int.eq_ofNat_of_zero_le hi0;refine (aHK hgl hrow (site:=none) (s:=.sr o v' n) (av:=.sr o v' (n+(oT 7 u).length)) (H':=H.set o (.vec v' 1 (rows++aG (oT 7 u)))) (wr:=[o]) u (by omega) hw hg (.refl hw) h1 ?_).mono ?_
    ·simp only[fH,cU,eH,aFL,BT,Bool.false_eq_true,if_false,ho,ne0];rw[if_pos ⟨trivial,hn,trivial,by simp only[bP,decide_eq_true_eq];have:=hl7 u;omega⟩,hll]
    ·rintro e w' ⟨v,rfl,g',h4,h5⟩;exact⟨g',by simpa [fZ]using h4,h5⟩
   ·cases hp
  ·cases hp
 ·rename_i i b
  split at hp
  ·rename_i hc;obtain⟨hi0,hi1,rfl⟩:=hc;simp only[Option.some.injEq,Prod.mk.injEq]at hp;obtain⟨rfl,rfl,rfl⟩:=hp;obtain⟨x,y,z,rfl,h1,h2,h3⟩:=aFK hx;cases h2;cases h3;obtain⟨u,rfl⟩:=Int.eq_ofNat_of_zero_le hi0;have hver:bG (H++List.replicate 1 (AObj.gone 0)) H.length=1:=by simp[bG,AObj.ver]
   have hmk:make (H++List.replicate 1 (AObj.gone 0)) H.length (.vec · 1 (aG (oT 7 u)))=H++[.vec 1 1 (aG (oT 7 u))]:=by
    simp[make,AObj.ver]
   refine (aHK hgl hrow (H0:=H++List.replicate 1 (.gone 0)) (site:=some H.length) (s:=.sl true []) (av:=.sr H.length 1 (oT 7 u).length) (H':=H++[.vec 1 1 (aG (oT 7 u))]) (wr:=[H.length]) u (by omega) hw hg (hw.more 1) h1 ?_).mono ?_
   ·simp only[fH,cU,eH,aFL,BT,Bool.false_eq_true,if_false,ne0];rw[if_pos (by simp only[cH,Bool.true_and,List.length_nil,Nat.zero_add,bP,decide_eq_true_eq];have:=hl7 u;omega)]
    simp only[List.length_append,List.length_replicate,Nat.lt_add_one,if_true,hver,List.length_nil,Nat.zero_add,List.nil_append,hmk,hll]
   ·rintro e w' ⟨v,rfl,g',h4,h5⟩;have hnew:∀o l,H.length<=o->g'.obj o=some l->w.heap.size<=l.b:=fun o l ho hl=>by
     rcases h4.track o l hl with h1 | ⟨l0,h0,_⟩
     ·exact h1
     ·have:=hw.lt o l0 h0;omega
    obtain⟨g2,k1,k2⟩:=aFw (base:=H.length) (n0:=w.heap.size) hnew h4.wf (v:=.sr H.length 1 (oT 7 u).length) (v':=.own 1 (aG (oT 7 u))) (H':=H++[.gone 1]) (l:=[H.length]) (by
     have h1:(H++[AObj.vec 1 1 (aG (oT 7 u))])[H.length]? = some (.vec 1 1 (aG (oT 7 u))):=by simp
     unfold aD6;simp only[h1,Nat.lt_irrefl,if_false];rw[if_pos ⟨trivial,hll u,Nat.le_refl _,aEd _⟩];simp[dL,AObj.ver]) h5
    have hu:(AV.own 1 (aG (oT 7 u))).under H.length=true:=by
     show eF H.length (aG (oT 7 u))=true
     generalize oT 7 u=l
     induction l with
     |nil=>rfl
     |cons a l ih=>show (dS H.length [.int .u8 a.toNat]&&eF H.length (aG l))=true;rw[ih];rfl
    have h6:=Step.narrow (wr:=[]) hw.lt (h4.trans k1) (fun i hi hi2=>by simp at hi;omega)
    refine⟨g2.cut H.length, ?_, ?_⟩
    ·have:=Step.cut hw h6 (fun o ho=>by cases ho)
     simpa [fZ]using this
    ·have:=pD.cut (n:=H.length) k2 hu;simpa [fZ]using this
  ·cases hp
 ·cases hp
end Go.Proofs.Sa
end
section
set_option maxRecDepth 100000
namespace Go.AM
open Go
def aTj(f:Nat):List Nat:=match f with
 |3=>[11,24,19,20]
 |4=>[2,22,4,7,10,58,13,81,98,104]
 |5=>[19]
 |6=>[4,8,31,11,63,78,89,119,41]
 |8=>[5]
 |9=>[2,3]
 |10=>[3]
 |12=>[4,5]
 |13=>[4,6,9]
 |14=>[3]
 |15=>[4,5,28,58,68]
 |16=>[3,6,32,43,51,55,64,71,80,86,104,112,12,19]
 |17=>[3,6,21,23,30,35]
 |19=>[1]
 |20=>[8,9]
 |21=>[2,3]
 |22=>[8,9]
 |23=>[2,3]
 |25=>[8,9]
 |26=>[2,3]
 |27=>[2,7]
 |28=>[2,5,32]
 |30=>[28]
 |31=>[4,5]
 |32=>[2]
 |33=>[2,3,29,34]
 |34=>[81,83,2,3,18,35,58,69,84]
 |35=>[2,3,12,57,61,66]
 |36=>[23]
 |41=>[4]
 |43=>[6]
 |44=>[2]
 |45=>[26]
 |48=>[2,3]
 |51=>[2]
 |52=>[2,4,47]
 |54=>[30,36]
 |55=>[2]
 |56=>[2,4,5,3]
 |58=>[26,32]
 |59=>[2]
 |60=>[2,3,37,42,48]
 |62=>[16]
 |63=>[2]
 |64=>[4,3]
 |65=>[2,3]
 |71=>[2,3]
 |75=>[8,9]
 |77=>[4,6,8]
 |78=>[2,3,6,8]
 |84=>[8]
 |85=>[4,7,46]
 |90=>[13,5,7,9,11]
 |91=>[5]
 |92=>[5]
 |93=>[5]
 |99=>[2,5,32,4]
 |105=>[7,18,30,39,44,54,69,85]
 |106=>[2,3,4,13]
 |110=>[9,11]
 |113=>[34,35,36,48,49,22]
 |114=>[5,16]
 |115=>[2,3,4]
 |116=>[12]
 |117=>[8,9]
 |119=>[1,7,10,11,15,16,21,22,26,27,33,34,50,51,55,56,60,61,65,66]
 |123=>[14]
 |131=>[3]
 |135=>[1]
 |137=>[1]
 |141=>[9,11]
 |143=>[3]
 |144=>[14]
 |153=>[10]
 |154=>[10]
 |156=>[3,4,5,6]
 |159=>[31]
 |165=>[9,16,23,28,39,46]
 |170=>[21,33,39,57]
 |171=>[7,20,21,27,28]
 |172=>[1,13,27,28]
 |173=>[7,19,20]
 |174=>[7,19,20]
 |175=>[1,15,63,66,67]
 |176=>[1,12,27,28,8,71,74,75]
 |177=>[5]
 |186=>[2,3]
 |188=>[9]
 |205=>[5]
 |206=>[5]
 |207=>[9]
 |210=>[2,7,5,11]
 |215=>[14,20]
 |216=>[2,3]
 |218=>[3]
 |225=>[10]
 |226=>[10]
 |227=>[15]
 |228=>[15]
 |231=>[94,11]
 |234=>[5,8]
 |238=>[12,98]
 |266=>[9]
 |267=>[17,7,27]
 |268=>[2,4,5]
 |273=>[5]
 |278=>[9]
 |279=>[13]
 |296=>[2]
 |304=>[16]
 |305=>[100,101,163,210,230]
 |346=>[5]
 |349=>[5]
 |355=>[85]
 |359=>[11]
 |360=>[11]
 |361=>[2]
 |363=>[14]
 |_=>[]
def aXs(f r:Nat):List (Nat×Nat):=match f,r with
 |3,4=>[(0,12)]
 |6,25=>[(4,11)]
 |34,13=>[(1,94)]
 |56,3=>[(1,3)]
 |159,18=>[(0,9)]
 |175,10=>[(0,5)]
 |176,15=>[(0,6)]
 |_,_=>[]
def nlK(f:Nat):Bool:=match f with
 |90 | 110 | 150 | 153 | 210 | 231 | 355=>true
 |_=>false
def tyK(f:Nat):List Nat:=match f with
 |90=>[181,195,5]
 |123=>[181,195,5]
 |144=>[181,195,5]
 |153=>[181,195,5]
 |_=>[]
def aTk:List Nat:=[105,154,215,267]
def aKU(f:Nat):Option aIH:=match f with
 |178=>some (eP 181 195)
 |124=>some (yM 5)
 |122=>some (aKP 181 5)
 |84=>some aHF
 |220=>some aUE
 |213=>some aC9
 |229=>some yN
 |79=>some aBr
 |267=>some nT
 |_=>none
def vi0(n:Int):AV:=.int .i64 n
def aWf:List AV:=[[119,104,111,108,101],[101,110,116,114,121],[105,110,115,105,100,101],[108,101,102,116],[108,111,110,103,101,114],[98,97,114],[114,111,119]].map AV.str
def aWg:List AV:=[vi0 0,vi0 999999,vi0 4,.int .u8 0,vi0 0,vi0 25,vi0 4,.int .u8 0,vi0 1,vi0 0,vi0 3,.int .u8 45,vi0 2,vi0 0,vi0 1,.int .u8 43,vi0 2,vi0 0,vi0 1,.int .u8 45,vi0 2,vi0 0,vi0 2,.int .u8 42,vi0 2,vi0 0,vi0 2,.int .u8 47,vi0 2,vi0 0,vi0 3,.int .u8 94,vi0 1,vi0 0,vi0 4,.int .u8 82,vi0 2,vi0 0,vi0 0,.int .u8 61,vi0 2,vi0 0,vi0 0,.int .u8 60]
def aWh:List AV:=[[],[],[110,101,103],[43],[45],[42],[47],[94],[114,111,111,116],[61],[60]].map AV.str
def aWi:List AV:=[[100,111,116],[108,105,110,101],[97,114,101,97]].map AV.str
def aUF(n:Nat):Option (List AV):=match n with
 |0=>some aWf
 |1=>some aWg
 |2=>some aWh
 |3=>some aWi
 |8=>some (Lib.pow10Tab.map fun z=>AV.int .u64 z)
 |_=>none
def aAH:Glob:=⟨aUF,false,[],aTk⟩
noncomputable def fnK(f:Nat):Option AFn:=match f with
 |230=>some lV
 |f=>match Go.Proofs.Tryz.prog.funcs[f]? with
  |some F=>match F.body,aKy Go.Proofs.Tryz.prog F.results.toList with
   |some b,some rs=>some ⟨F.ntmps,aTj f,rs,mY Go.Proofs.Tryz.prog { aAH with nl:=nlK f,typed:=tyK f } (aXs f) b⟩
   |_,_=>none
  |none=>none
noncomputable def AK:AProg:=⟨fnK,aKU⟩
theorem aOh:(Go.Proofs.Tryz.prog.funcs.toList.all fun F => !(F.name == "runtime.NumGoroutine"))=true:=by kernel_rfl
theorem aQA{f:Nat}{F:Func}(h:Go.Proofs.Tryz.prog.funcs[f]? = some F):(F.name == "runtime.NumGoroutine")=false:=by
 have:=List.all_eq_true.1 aOh F (by rw[Array.mem_toList_iff];exact Array.mem_of_getElem? h)
 simpa using this
theorem aTl{f:Nat}{fn:AFn}(hne:f≠230)(h:fnK f=some fn):aJY Go.Proofs.Tryz.prog aAH f fn:=by
 unfold fnK at h
 split at h
 ·exact absurd rfl hne
 split at h
 ·rename_i F hF
  split at h
  ·rename_i b rs hb hr;cases h;exact⟨F,b,aXs f,nlK f,tyK f,aTk,hF,aQA hF,hb,rfl,rfl,hr⟩
  ·cases h
 ·cases h
theorem aXt:Go.Proofs.Tryz.prog.globalNamed "internal/strconv.uint64pow10" = some 8:=by kernel_rfl
theorem aOi:Good Go.Proofs.Tryz.prog aAH AK where
 mixed:=by kernel_rfl
 noYF:=⟨by kernel_rfl,by kernel_rfl⟩
 fn:=fun f fn h=>by
  by_cases e:f=230
  ·subst e;exact .inr (Go.Proofs.Sa.slow_ok rfl rfl)
  ·exact .inl (aTl e h)
 prim:=fun f p h=>by
  have h:aKU f=some p:=h;unfold aKU at h
  split at h
  ·cases h;exact Go.Proofs.Sa.copyCheck_ok
  ·cases h;exact Go.Proofs.Sa.string_ok
  ·cases h;exact Go.Proofs.Sa.grow_ok
  ·cases h;exact Go.Proofs.Sa.join_ok
  ·cases h;exact Go.Proofs.Sa.index_ok
  ·cases h;exact Go.Proofs.Sa.count_ok
  ·cases h;exact Go.Proofs.Sa.boolLoad_ok
  ·cases h;exact Go.Proofs.Sa.itoa_ok aXt rfl
  ·cases h;exact Go.Proofs.Sa.appUint_ok aXt rfl
  ·cases h
def aGv:AV->List AObj->List Nat->Bool:=fun v H wr=>match v,H,wr with | .bool true,[],[]=>true | _,_,_=>false
def aOj:AV->List AObj->List Nat->Bool:=fun v H wr=>match v,H,wr with | .str [53],[],[]=>true | _,_,_=>false
def aHL:List AV:=[.agg [.int .i64 (0),.sl false [[.int .i64 (0),.str [97,32,126]],[.int .i64 (1),.str [98]]],.int .i64 (0),.int .i64 (0),.sl false [],.int .i64 (0),.sl false [],.sl false [],.int .i64 (0),.int .i64 (0),.sl false [],.sl false [],.sl false []],.str [97,32,126,126,126,124,98]]
def aHM:List AV:=[.agg [.int .i64 (2),.sl false [],.int .i64 (0),.int .i64 (0),.sl false [],.int .i64 (3),.sl false [[.int .i64 (12)],[.int .i64 (7)]],.sl false [],.int .i64 (0),.int .i64 (0),.sl false [],.sl false [],.sl false []],.str [43,32,49,50,32,55]]
def aHN:List AV:=[.agg [.int .i64 (3),.sl false [],.int .i64 (0),.int .i64 (0),.sl false [],.int .i64 (0),.sl false [],.sl false [[.sl false [[.str [97]],[.str [98,59]]]],[.sl false [[.str []],[.str [124]]]]],.int .i64 (0),.int .i64 (0),.sl false [],.sl false [],.sl false []],.str [97,124,98,126,59,59,124,126,124]]
def aHO:List AV:=[.agg [.int .i64 (6),.sl false [],.int .i64 (0),.int .i64 (0),.sl false [],.int .i64 (0),.sl false [],.sl false [],.int .i64 (0),.int .i64 (0),.sl false [],.sl false [],.sl false [[.str [120]],[.str []],[.str [126]]]],.str [120,126,124,126,124,126,126]]
def aHP:List AV:=[.agg [.int .i64 (5),.sl false [],.int .i64 (0),.int .i64 (0),.sl false [],.int .i64 (0),.sl false [],.sl false [],.int .i64 (0),.int .i64 (0),.sl false [],.sl false [[.sl false [[.sl false [[.int .i64 (21),.int .i64 (2),.int .i64 (0)],[.int .i64 (-1),.int .i64 (1),.int .i64 (0)]]],[.sl false [[.int .i64 (3),.int .i64 (4),.int .i64 (1)]]]]]],.sl false []],.str [99,51,50,32,114,49,124,102,35,48,52]]
def aFM:List AV:=[.agg [.int .i64 (1),.sl false [],.sl false [],.sl false [[.int .i64 (0)],[.int .i64 (2)]],.str [],.int .i64 (0),.sl false []],.sl false [[.str [97,49,50,98,51]],[.str [57]],[.str [57,57,48]]]]
end Go.AM
end
