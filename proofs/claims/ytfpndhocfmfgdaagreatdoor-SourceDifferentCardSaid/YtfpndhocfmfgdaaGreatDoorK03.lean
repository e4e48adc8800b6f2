/- Part 3: lemmas for the last text. -/
import Derived.Test.YtfpndhocfmfgdaaGreatDoorK02
set_option linter.unusedVariables false
set_option linter.unusedSimpArgs false
open Bool renaming not_true -> BT
section
namespace Go.AM
open Go
section
variable {P:Program}{glob:Glob}{g:G}{H:List AObj}{w:World}
theorem fP(b o n:Nat):(⟨b,o,none⟩:Addr).add n=⟨b,o+n,none⟩:=Addr.add_lit b o n
theorem dT(hw:WF g H w){k:Nat}{pv:AV}{cs:List AV}(h:aX H k pv=some cs){x:Value}(hx:VRel g pv x):
  ∃(b off:Nat) (vs:List Value),x=.pointer (some ⟨b,off,none⟩)/\cs.length=k/\fO g cs vs/\∀(j:Nat) v,vs[j]? = some v->w.cell? ⟨b,off+j,none⟩=some v:=by
 have build:∀(cs:List AV) (b off:Nat),(∀(j:Nat) a,cs[j]? = some a->∃y,w.cell? ⟨b,off+j,none⟩=some y/\VRel g a y) ->
   ∃vs:List Value,fO g cs vs/\∀(j:Nat) v,vs[j]? = some v->w.cell? ⟨b,off+j,none⟩=some v:=by
  intro cs b off hc;refine⟨(List.range cs.length).map fun j=>(w.cell? ⟨b,off+j,none⟩).getD Go.undef,⟨by simp,fun i a y ha hy => ?_⟩,fun j v hv => ?_⟩
  ·have hi:i<cs.length:=(List.getElem?_eq_some_iff.1 ha).1;obtain⟨z,hz,hr⟩:=hc i a ha;simp[hi,hz]at hy;subst hy;exact hr
  ·rw[List.getElem?_map]at hv
   by_cases hj:j<cs.length
   ·obtain⟨z,hz,_⟩:=hc j cs[j] (by simp[hj])
    simp[hj,hz]at hv;rw[hz,hv]
   ·simp[hj]at hv
 cases hx with
 |ptr o v off l a hl hv hh=>
  simp only[aX]at h
  split at h
  ·rename_i v' cells hH
   split at h
   ·rename_i hc;simp only[Option.some.injEq]at h;obtain⟨rfl,hlen⟩:=hc;have hst:l.st=v':=by
     have:=hw.st o _ l hH hl;simp only[AObj.ver]at this;omega
    have hb:Backed g H o l (.box v' cells):=⟨hH,rfl,hl,hst⟩;obtain⟨h0,_,hcell⟩:=hw.obj o l _ hb;have ha:=hh hst h0;subst ha;have hlen':cs.length=k:=by rw[<- h];simp;omega
    obtain⟨vs,hv1,hv2⟩:=build cs l.b off fun j a ha=>by
     have hj:j<cs.length:=(List.getElem?_eq_some_iff.1 ha).1;refine hcell (off+j) a ?_;rw[<- h,List.getElem?_take,List.getElem?_drop]at ha
     rwa [if_pos (by omega)]at ha
    exact⟨l.b,off,vs,rfl,hlen',hv1,hv2⟩
   ·cases h
  ·rename_i v' ty cells hH
   split at h
   ·rename_i hc;simp only[Option.some.injEq]at h;obtain⟨rfl,hlen⟩:=hc;have hst:l.st=v':=by
     have:=hw.st o _ l hH hl;simp only[AObj.ver]at this;omega
    have hb:Backed g H o l (.tbox v' ty cells):=⟨hH,rfl,hl,hst⟩;obtain⟨h0,_,hcell⟩:=hw.obj o l _ hb;have ha:=hh hst h0;subst ha;have hlen':cs.length=k:=by rw[<- h];simp;omega
    obtain⟨vs,hv1,hv2⟩:=build cs l.b off fun j a ha=>by
     have hj:j<cs.length:=(List.getElem?_eq_some_iff.1 ha).1;refine hcell (off+j) a ?_;rw[<- h,List.getElem?_take,List.getElem?_drop]at ha
     rwa [if_pos (by omega)]at ha
    exact⟨l.b,off,vs,rfl,hlen',hv1,hv2⟩
   ·cases h
  ·cases h
 |vp o v n k1 i off l a hl hv hn hh=>
  simp only[aX]at h
  split at h
  ·rename_i v' k' rows hH
   split at h
   ·rename_i hc;obtain⟨rfl,hlen,rfl⟩:=hc
    split at h
    ·rename_i row hrow
     split at h
     ·rename_i hlt;simp only[Option.some.injEq]at h;have hst:l.st=v':=by
       have:=hw.st o _ l hH hl;simp only[AObj.ver]at this;omega
      have hb:Backed g H o l (.vec v' k' rows):=⟨hH,rfl,hl,hst⟩;obtain⟨h0,hk,_,_,_,_,hcell⟩:=hw.obj o l _ hb;have ha:=hh hst (by omega)
      subst ha;have hlen':cs.length=k:=by rw[<- h];simp;omega
      obtain⟨vs,hv1,hv2⟩:=build cs l.b (i*k'+off) fun j a ha=>by
       have hj:j<cs.length:=(List.getElem?_eq_some_iff.1 ha).1;rw[<- h,List.getElem?_take,List.getElem?_drop,if_pos (by omega)]at ha
       obtain⟨_,y,hy,hr⟩:=hcell i (off+j) row a hrow ha;exact⟨y,by rw[Nat.add_assoc];exact hy,hr⟩
      exact⟨l.b,i*k'+off,vs,rfl,hlen',hv1,hv2⟩
     ·cases h
    ·cases h
   ·cases h
  ·cases h
 |ep row off b base hst hp hh=>
  simp only[aX]at h
  split at h
  ·rename_i hlt;simp only[Option.some.injEq]at h;have hlen':cs.length=k:=by rw[<- h];simp;omega
   obtain⟨vs,hv1,hv2⟩:=build cs b (base+off) fun j a ha=>by
    have hj:j<cs.length:=(List.getElem?_eq_some_iff.1 ha).1;rw[<- h,List.getElem?_take,List.getElem?_drop,if_pos (by omega)]at ha
    have hi:off+j<row.length:=(List.getElem?_eq_some_iff.1 ha).1;have:=hp (off+j) hi;cases hq:g.perm b (base+(off+j))with
    |none=>simp[hq]at this
    |some y=>exact⟨y,by rw[Nat.add_assoc];exact hw.perm _ _ _ hq,hh (off+j) a y ha hq⟩
   exact⟨b,base+off,vs,rfl,hlen',hv1,hv2⟩
  ·cases h
 |undef x=>simp[aX]at h
 |bool b=>simp[aX]at h
 |int k n=>simp[aX]at h
 |str s=>simp[aX]at h
 |fn f first caps vf vc hf hc h1 h2=>simp[aX]at h
 |nilFn=>simp[aX]at h
 |nilPtr=>simp[aX]at h
 |srv=>simp[aX]at h
 |srw=>simp[aX]at h
 |fmp=>simp[aX]at h
 |nilSl=>simp[aX]at h
 |nilIfc=>simp[aX]at h
 |ifc t v x hv h'=>simp[aX]at h
 |slNil full=>simp[aX]at h
 |sl full rows b off cap k hcap hfull hk hst hp h'=>simp[aX]at h
 |sr o v n l a cap hl hv hn hc0 h'=>simp[aX]at h
 |mp o v l r hl hv h'=>simp[aX]at h
 |yld o v l r hl hv h'=>simp[aX]at h
 |agg cs vs hs h'=>simp[aX]at h
 |tup cs vs hs h'=>simp[aX]at h
theorem size?_info{t:TypeId}{n:Nat}(h:size? P t=some n):∃i,P.info? t=some i/\i.size=n:=by
 unfold size? at h;cases hq:P.info? t with
 |none=>simp[hq]at h
 |some i=>exact⟨i,rfl,by simpa [hq]using h⟩
theorem fI{t:TypeId}{n:Nat}(h:size? P t=some n)(w:World):(sizeOf t).run P w=.ok n w:=by
 obtain⟨i,hi,hn⟩:=size?_info h;simp[sizeOf,typeInfo,hi,hn]
theorem zS{t:TypeId}{d:TypeDesc}(h:P.underlying t=some d)(w:World):(isAgg t).run P w=.ok (aS0 P t) w:=by
 unfold aS0;simp only[isAgg,Sem.run_bind,run_underlying h,Result.andThen_ok,h];cases d<;>rfl
theorem yA{t:TypeId}{n:Nat}{agg:Bool}(h:qG P t=some (n,agg)):
  size? P t=some n/\aS0 P t=agg/\(∃d,P.underlying t=some d)/\(agg=false->n=1):=by
 unfold qG at h
 split at h
 ·rename_i m d hm hd
  split at h
  ·rename_i ha;cases h;exact⟨hm,ha,⟨_,hd⟩,fun e=>by cases e⟩
  ·split at h
   ·rename_i ha h1;cases h;subst h1;exact⟨hm,by simpa using ha,⟨_,hd⟩,fun _=>rfl⟩
   ·cases h
 ·cases h
theorem aCF{t:TypeId}{n:Nat}{agg:Bool}(hs:qG P t=some (n,agg))(w:World)(b off:Nat)(vs:List Value)(hn:vs.length=n)
  (hc:∀(j:Nat) v,vs[j]? = some v->w.cell? ⟨b,off+j,none⟩=some v):
  (loadVar t ⟨b,off,none⟩).run P w=.ok (if agg then .agg vs.toArray else vs.headD Go.undef) w:=by
 obtain⟨h1,h2,⟨d,h3⟩,h4⟩:=yA hs;simp only[loadVar,Sem.run_bind,zS h3,Result.andThen_ok,h2,Sem.run_ite];cases agg with
 |true=>
  have:=run_loadCells_list (P:=P) w ⟨b,off,none⟩ vs (fun j v hv=>by rw[fP];exact hc j v hv)
  subst hn;simp[fI h1,this]
 |false=>
  have hn1:=h4 rfl;cases vs with
  |nil=>simp at hn;omega
  |cons v r=>
   have:=hc 0 v rfl;simp only[Nat.add_zero]at this;simp[this]
theorem vA{agg:Bool}{cs:List AV}{av:AV}(h:dR agg cs=some av){vs:List Value}(hl:fO g cs vs):
  VRel g av (if agg then .agg vs.toArray else vs.headD Go.undef):=by
 cases agg with
 |true=>
  simp only[dR,if_true,Option.some.injEq]at h;subst h;exact fO.agg (by simpa using hl)
 |false=>
  cases cs with
  |nil=>simp[dR]at h
  |cons c r=>
   cases r with
   |nil=>
    simp[dR]at h;subst h;cases vs with
    |nil=>have:=hl.1;simp at this
    |cons v r=>simpa using hl.2 0 c v rfl rfl
   |cons d r=>simp[dR]at h
def gW(P:Program)(o:Oper)(a:Act)(w:World)(R:Value->World->Prop):Prop:=
 ∃v w',(execOp a.eval o).run P w=.ok (.value v) w'/\R v w'
def hJ(g:G)(H:List AObj)(w:World)(av:AV)(v:Value)(w':World):Prop:=
 ∃g',Step g H w g' H w' []/\VRel g' av v
theorem hJ.same(hw:WF g H w){av:AV}{v:Value}(h:VRel g av v):hJ g H w av v w:=⟨g,.refl hw,h⟩
end
section
variable {P:Program}{glob:Glob}{g:G}{H:List AObj}{w:World}{ρ:List AV}{a:Act}
variable {dst:Option Tmp}{type:TypeId}{pos:String}{after:Array Edge}{guard:Option (Nat×Bool)}
theorem bE{o:Oper}{R:Value->World->Prop}{v:Value}{w':World}(h:(execOp a.eval o).run P w=.ok (.value v) w')(hr:R v w'):gW P o a w R:=⟨v,w',h,hr⟩
theorem map_some{α β:Type}{f:α->β}{x:Option α}{y:β}(h:x.map f=some y):∃z,x=some z/\f z=y:=by
 cases x with
 |none=>simp at h
 |some z=>exact⟨z,rfl,by simpa using h⟩
theorem aSK{X:Operand}{x:AOpd}(hx:eO glob X=some x)(hw:WF g H w)(hg:bI P glob g)(hs:aT g ρ a.tmps):
  gW P ⟨dst,.move X,type,pos,after,guard⟩ a w (hJ g H w (x.ev ρ)):=
 bE (by simp[execOp]) (.same hw (aJ hx hg hs))
theorem aNO{X:Operand}{x:AOpd}(hx:eO glob X=some x)(hw:WF g H w)(hg:bI P glob g)(hs:aT g ρ a.tmps):
  gW P ⟨dst,.assign X,type,pos,after,guard⟩ a w (hJ g H w (x.ev ρ)):=
 bE (by simp[execOp]) (.same hw (aJ hx hg hs))
theorem VRel.bool_inv{b:Bool}{x:Value}(h:VRel g (.bool b) x):x=.bool b:=by cases h;rfl
theorem VRel.int_inv{k:IntKind}{n:Int}{x:Value}(h:VRel g (.int k n) x):x=.int k n:=by cases h;rfl
theorem VRel.str_inv{l:List UInt8}{x:Value}(h:VRel g (.str l) x):∃s:ByteArray,x=.string s/\s.data.toList=l:=by cases h;exact⟨_,rfl,rfl⟩
theorem aSL{C A B:Operand}{c x y:AOpd}(hc:eO glob C=some c)(hx:eO glob A=some x)(hy:eO glob B=some y){t:Bool}(ht:c.ev ρ=.bool t)
  (hw:WF g H w) (hg:bI P glob g) (hs:aT g ρ a.tmps):
  gW P ⟨dst,.pick C A B,type,pos,after,guard⟩ a w (hJ g H w (if t then x.ev ρ else y.ev ρ)):=by
 have h:=aJ hc hg hs;rw[ht]at h;have e:=h.bool_inv;refine bE (v:=if t then a.eval A else a.eval B) (w':=w) ?_ (.same hw ?_)
 ·cases t<;>simp[execOp,e,asBool]
 ·cases t
  ·exact aJ hy hg hs
  ·exact aJ hx hg hs
theorem aSM{t:TypeId}{X:Operand}{x:AOpd}{n:Nat}{agg:Bool}(hx:eO glob X=some x)(hsh:qG P t=some (n,agg)){cs:List AV}{av:AV}
  (hr:aX H n (x.ev ρ)=some cs) (ho:dR agg cs=some av) (hw:WF g H w) (hg:bI P glob g) (hs:aT g ρ a.tmps):
  gW P ⟨dst,.load t X,type,pos,after,guard⟩ a w (hJ g H w av):=by
 obtain⟨b,off,vs,e,hlen,hl,hc⟩:=dT hw hr (aJ hx hg hs);have hrun:=aCF hsh w b off vs (by rw[<- hl.1];exact hlen) hc
 refine bE ?_ (.same hw (vA ho hl));simp[execOp,Instr.loadAt,Instr.sureAddr,e,hrun]
theorem VRel.ptr_inv{o v off:Nat}{x:Value}(h:VRel g (.ptr o v off) x):∃b:Addr,x=.pointer (some b):=by cases h;exact⟨_,rfl⟩
theorem VRel.vp_inv{o v n k i off:Nat}{x:Value}(h:VRel g (.vp o v n k i off) x):∃b:Addr,x=.pointer (some b):=by cases h;exact⟨_,rfl⟩
theorem VRel.ep_inv{row:List AV}{off:Nat}{x:Value}(h:VRel g (.ep row off) x):∃b base:Nat,x=.pointer (some ⟨b,base+off,none⟩):=by cases h;exact⟨_,_,rfl⟩
theorem VRel.fn_inv{f:Nat}{first caps:List AV}{x:Value}(h:VRel g (.fn f first caps) x):
  ∃vf vc:Array Value,x=.func (.func f) vf vc/\fO g first vf.toList/\fO g caps vc.toList:=by
 cases h with
 |fn f first caps vf vc hf hc h1 h2=>
  exact⟨vf,vc,rfl,⟨by simpa using hf,fun i a x ha hx=>h1 i a x ha (by simpa using hx)⟩,⟨by simpa using hc,fun i a x ha hx=>h2 i a x ha (by simpa using hx)⟩⟩
theorem aQ2{X:Operand}{x:AOpd}(hx:eO glob X=some x){av:AV}
  (hv:evR H ρ (.nilck x)=some av) (hw:WF g H w) (hg:bI P glob g) (hs:aT g ρ a.tmps):
  gW P ⟨dst,.nilCheck X,type,pos,after,guard⟩ a w (hJ g H w av):=by
 have h:=aJ hx hg hs;simp only[evR]at hv;have key:∀y,x.ev ρ=y->some y=some av->(∀z,VRel g y z->(∃b:Addr,z=.pointer (some b))∨∃f vf vc,z=.func (.func f) vf vc) ->
   gW P ⟨dst,.nilCheck X,type,pos,after,guard⟩ a w (hJ g H w av):=by
  intro y hy hav hz;cases hav;rw[hy]at h;refine bE (v:=a.eval X) (w':=w) ?_ (.same hw h);rcases hz _ h with⟨b,e⟩ | ⟨f,vf,vc,e⟩<;>simp[execOp,e]
 split at hv
 ·rename_i o v off e;exact key _ e hv fun z hz=>.inl hz.ptr_inv
 ·rename_i o v n k i off e;exact key _ e hv fun z hz=>.inl hz.vp_inv
 ·rename_i row off e;exact key _ e hv fun z hz=>.inl (by obtain⟨b,base,e⟩:=hz.ep_inv;exact⟨_,e⟩)
 ·rename_i f b c e;exact key _ e hv fun z hz=>.inr (by obtain⟨vf,vc,e,_⟩:=hz.fn_inv;exact⟨f,vf,vc,e⟩)
 ·cases hv
theorem tY:∀a b:List UInt8,Op.bytesLess a b=aAv a b
 | [],[]=>rfl
 | [],_::_=>rfl
 |_::_,[]=>rfl
 |x::a,y::b=>by simp only[Op.bytesLess,aAv,tY a b]
theorem aLE{t:TypeId}{tag:Tag}(h:aLD P t=some tag):aS0 P t=false/\∃d,P.underlying t=some d:=by
 unfold aLD at h;unfold aS0
 split at h
 ·rename_i hd;exact⟨by rw[hd],_,hd⟩
 ·rename_i k hd;exact⟨by rw[hd],_,hd⟩
 ·rename_i hd;exact⟨by rw[hd],_,hd⟩
 ·cases h
theorem aQ3{s t:ByteArray}:(s.data.toList==t.data.toList)=(s.toList==t.toList):=by
 rw[ByteArray.toList_eq,ByteArray.toList_eq]
theorem aB8{t:TypeId}{tag:Tag}(ht:aLD P t=some tag){x y:AV}{b:Bool}(h:aAc tag x y=some b){u v:Value}(hx:VRel g x u)(hy:VRel g y v)(d:Nat):
  (Op.equalIn (d+1) t u v).run P w=.ok b w:=by
 unfold aLD at ht;unfold aAc at h
 split at h
 ·cases h;cases hx.bool_inv;cases hy.bool_inv
  split at ht<;>try cases ht
  rename_i hd;exact run_equalIn_bool' w d t _ _ hd
 ·split at h
  ·rename_i e;cases h;subst e;cases hx.int_inv;cases hy.int_inv
   split at ht<;>try cases ht
   rename_i hd;exact run_equalIn_int w d t _ _ _ _ hd
  ·cases h
 ·cases h;obtain⟨s,rfl,hs⟩:=hx.str_inv;obtain⟨t',rfl,ht'⟩:=hy.str_inv
  split at ht<;>try cases ht
  rename_i hd;rw[<- hs,<- ht',aQ3];exact run_equalIn_string w d t _ _ hd
 ·cases h
theorem aAd(d:Nat)(us vs:Array Value):∀(fs:List Field) (i:Nat) (tags:List Tag),qH P i fs=some tags->∀(xs ys:List AV) (b:Bool),
  jQ tags xs ys=some b->(∀(j:Nat) a u,xs[j]? = some a->us[i+j]? = some u->VRel g a u)->(∀(j:Nat) a u,ys[j]? = some a->vs[i+j]? = some u->VRel g a u) ->
  (∀j,j<xs.length->(us[i+j]?).isSome)->(∀j,j<ys.length->(vs[i+j]?).isSome) ->
  (Op.eqFields (d+1) us vs fs).run P w=.ok b w
 | [],i,tags,hp,xs,ys,b,h,_,_,_,_=>by
  simp only[qH,Option.some.injEq]at hp;subst hp;cases xs<;>cases ys<;>simp[jQ]at h;subst h;simp[Op.eqFields]
 |f::fs,i,tags,hp,xs,ys,b,h,hx,hy,hxs,hys=>by
  unfold qH at hp
  split at hp
  ·rename_i t ts ht hts
   split at hp
   ·rename_i hn;simp only[Option.some.injEq]at hp;subst hp;cases xs with
    |nil=>simp[jQ]at h
    |cons x xs=>
     cases ys with
     |nil=>simp[jQ]at h
     |cons y ys=>
      obtain⟨u,hu⟩:=Option.isSome_iff_exists.1 (hxs 0 (by simp))
      obtain⟨v,hv⟩:=Option.isSome_iff_exists.1 (hys 0 (by simp))
      have h1:=hx 0 x u rfl hu;have h2:=hy 0 y v rfl hv;obtain⟨hagg,dd,hdd⟩:=aLE ht;simp only[Nat.add_zero]at hu hv;have p1:(part f.type us f.offset).run P w=.ok u w:=by
       simp only[part,Sem.run_bind,zS hdd,Result.andThen_ok,hagg,hn.2,hu];rfl
      have p2:(part f.type vs f.offset).run P w=.ok v w:=by
       simp only[part,Sem.run_bind,zS hdd,Result.andThen_ok,hagg,hn.2,hv];rfl
      have shift:∀(zs:List AV) (z:AV) (ws:Array Value),(∀j,j<(z::zs).length->(ws[i+j]?).isSome)->∀j,j<zs.length->(ws[i+1+j]?).isSome:=fun zs z ws hh j hj=>by
       have:=hh (j+1) (by simp;omega)
       rwa [show i+(j+1)=i+1+j by omega]at this
      have shiftR:∀(zs:List AV) (z:AV) (ws:Array Value),(∀(j:Nat) a u,(z::zs)[j]? = some a->ws[i+j]? = some u->VRel g a u)->∀(j:Nat) a u,zs[j]? = some a->ws[i+1+j]? = some u->VRel g a u:=fun zs z ws hh j a u ha hu=>
       hh (j+1) a u (by simpa using ha) (by rwa [show i+(j+1)=i+1+j by omega])
      simp only[Op.eqFields,hn.1,ne_eq,not_false_eq_true,if_true,Sem.run_bind,p1,p2,Result.andThen_ok];unfold jQ at h
      split at h
      ·rename_i he;rw[aB8 ht he h1 h2 d];simp only[Result.andThen_ok,BT,Bool.false_eq_true,if_false];exact aAd d us vs fs (i+1) ts hts xs ys b h (shiftR _ _ _ hx) (shiftR _ _ _ hy) (shift _ _ _ hxs) (shift _ _ _ hys)
      ·rename_i he
       split at h
       ·cases h;rw[aB8 ht he h1 h2 d];simp
       ·cases h
      ·cases h
   ·cases hp
  ·cases hp
theorem aDH(t:TypeId):eqK P t≠.iface:=by
 unfold eqK
 split
 ·split
  ·split<;>simp
  ·simp
 all_goals simp
theorem aGj{t:TypeId}{x y:AV}{b:Bool}(h:qD (eqK P t) x y=some b){u v:Value}(hx:VRel g x u)(hy:VRel g y v)(X Y:Operand)(op:BinOp):
  (eqGuard op t X Y u v).run P w=.ok () w/\(Op.equal t u v).run P w=.ok b w/\(binOp .eql t u v=do pure (.bool (<- Op.equal t u v)))/\(binOp .neq t u v=do pure (.bool (!(<- Op.equal t u v)))):=by
 generalize hk:eqK P t=k at h;unfold qD at h
 split at h
 ·cases h;cases hx.bool_inv;cases hy.bool_inv;unfold eqK at hk
  split at hk<;>try cases hk
  ·split at hk<;>try cases hk
   split at hk<;>cases hk
  rename_i hd;exact⟨by simp[eqGuard_at_bool],run_equalIn_bool' w 9999 t _ _ hd,by simp[binOp],by simp[binOp]⟩
 ·rename_i ts xs ys;obtain⟨us,rfl,hus⟩:=hx.agg_list;obtain⟨vs,rfl,hvs⟩:=hy.agg_list;unfold eqK at hk
  split at hk<;>try cases hk
  rename_i fields hd
  split at hk<;>try cases hk
  rename_i ts' hts
  split at hk<;>try cases hk
  rename_i hno;simp only[Bool.or_eq_true,not_or,Bool.not_eq_true]at hno;have hfo:P.fieldsOf t=fields:=by simp[Program.fieldsOf,hd]
  refine⟨run_eqGuard_agg w op t X Y us vs hno.2, ?_,by simp[binOp],by simp[binOp]⟩
  show (Op.equalIn (9999+1) t (.agg us) (.agg vs)).run P w=.ok b w
  rw[run_equalIn_struct w 9999 t us vs (by rw[hfo];exact hd) hno.1,hfo]
  exact aAd 9998 us vs fields.toList 0 ts hts xs ys b h (fun j a z ha hz=>hus.2 j a z ha (by simpa using hz)) (fun j a z ha hz=>hvs.2 j a z ha (by simpa using hz))
   (fun j hj=>by have:=hus.1;simp at this ⊢;omega) (fun j hj=>by have:=hvs.1;simp at this ⊢;omega)
 ·cases h;cases hx;cases hy;unfold eqK at hk
  split at hk<;>try cases hk
  ·split at hk<;>try cases hk
   split at hk<;>cases hk
  rename_i hd;have key:∀d (b:Nat×Array Value×Array Value),(Op.equalIn (d+1) t .nilFunc .nilFunc).run P w=.ok true w/\(Op.equalIn (d+1) t .nilFunc (.func (.func b.1) b.2.1 b.2.2)).run P w=.ok false w:=fun d b=>by simp[Op.equalIn,run_underlying hd]
  exact⟨by simp[eqGuard_at_nilFunc],by first | exact (key 9999 (0,#[],#[])).1 | exact (key 9999 (_,_,_)).2,by simp[binOp],by simp[binOp]⟩
 ·cases h;cases hx;cases hy;unfold eqK at hk
  split at hk<;>try cases hk
  ·split at hk<;>try cases hk
   split at hk<;>cases hk
  rename_i hd;have key:∀d (b:Nat×Array Value×Array Value),(Op.equalIn (d+1) t (.func (.func b.1) b.2.1 b.2.2) .nilFunc).run P w=.ok false w:=fun d b=>by simp[Op.equalIn,run_underlying hd]
  exact⟨by simp[eqGuard_at_func],key 9999 (_,_,_),by simp[binOp],by simp[binOp]⟩
 ·cases h;cases hx;cases hy;unfold eqK at hk
  split at hk<;>try cases hk
  ·split at hk<;>try cases hk
   split at hk<;>cases hk
  rename_i hd;have key:∀d (b:Nat×Array Value×Array Value),(Op.equalIn (d+1) t .nilFunc .nilFunc).run P w=.ok true w/\(Op.equalIn (d+1) t .nilFunc (.func (.func b.1) b.2.1 b.2.2)).run P w=.ok false w:=fun d b=>by simp[Op.equalIn,run_underlying hd]
  exact⟨by simp[eqGuard_at_nilFunc],by first | exact (key 9999 (0,#[],#[])).1 | exact (key 9999 (_,_,_)).2,by simp[binOp],by simp[binOp]⟩
 ·cases h;cases hx;cases hy;unfold eqK at hk
  split at hk<;>try cases hk
  ·split at hk<;>try cases hk
   split at hk<;>cases hk
  rename_i hd;have key:∀d,(Op.equalIn (d+1) t (.pointer none) (.pointer none)).run P w=.ok true w:=fun d=>by simp[Op.equalIn,run_underlying hd]
  exact⟨by simp[eqGuard_at_pointer],key 9999,by simp[binOp],by simp[binOp]⟩
 ·exact absurd hk (aDH t)
 ·exact absurd hk (aDH t)
 ·exact absurd hk (aDH t)
 ·cases h
theorem aFl{t:TypeId}{x y:AV}{b:Bool}(X Y:Operand)(h:qD (aSJ P t X Y) x y=some b){u v:Value}(hx:VRel g x u)(hy:VRel g y v)(op:BinOp):
  (eqGuard op t X Y u v).run P w=.ok () w/\(Op.equal t u v).run P w=.ok b w/\(binOp .eql t u v=do pure (.bool (<- Op.equal t u v)))/\(binOp .neq t u v=do pure (.bool (!(<- Op.equal t u v)))):=by
 unfold aSJ at h
 split at h
 ·rename_i ms hd
  split at h
  ·rename_i hc;have k0:(eqGuard op t X Y .nilIface .nilIface).run P w=.ok () w:=by
    cases X<;>cases Y<;>first | (simp[aIK]at hc;done) | simp[eqGuard]
   have k1:∀d,(Op.equalIn (d+1) t .nilIface .nilIface).run P w=.ok true w:=fun d=>by simp[Op.equalIn,run_underlying hd]
   have k2:∀d s z,(Op.equalIn (d+1) t (.iface s z) .nilIface).run P w=.ok false w:=fun d s z=>by simp[Op.equalIn,run_underlying hd]
   have k3:∀d s z,(Op.equalIn (d+1) t .nilIface (.iface s z)).run P w=.ok false w:=fun d s z=>by simp[Op.equalIn,run_underlying hd]
   unfold qD at h
   split at h<;>first | (rename_i he;cases he;done) | skip
   all_goals (first | (cases h;done) | skip)
   ·cases h;cases hx;cases hy;exact⟨k0,k1 9999,by simp[binOp],by simp[binOp]⟩
   ·cases h;cases hx;cases hy;exact⟨by simp[eqGuard],k2 9999 _ _,by simp[binOp],by simp[binOp]⟩
   ·cases h;cases hx;cases hy;exact⟨by simp[eqGuard],k3 9999 _ _,by simp[binOp],by simp[binOp]⟩
  ·simp[qD]at h
 ·exact aGj h hx hy X Y op
theorem aKz{t:TypeId}{op:BinOp}{x y z:AV}(X Y:Operand)(h:kM op (aSJ P t X Y) x y=some z){u v:Value}(hx:VRel g x u)(hy:VRel g y v):
  ∃c,(eqGuard op t X Y u v).run P w=.ok () w/\(binOp op t u v).run P w=.ok c w/\VRel g z c:=by
 unfold kM at h
 split at h
 ·rename_i k p k' q;cases hx.int_inv;cases hy.int_inv;have fin:∀c,z=c->(∃cv,(binOp op t (.int k p) (.int k' q)).run P w=.ok cv w/\VRel g c cv) ->
    ∃c,(eqGuard op t X Y (.int k p) (.int k' q)).run P w=.ok () w/\(binOp op t (.int k p) (.int k' q)).run P w=.ok c w/\VRel g z c:=by
   rintro c rfl ⟨cv,h1,h2⟩;exact⟨cv,by simp[eqGuard_at_int],h1,h2⟩
  split at h
  all_goals (try (cases h;done))
  all_goals (split at h<;>try (cases h;done))
  all_goals (rename_i hc;cases h)
  all_goals refine fin _ rfl ?_
  ·exact⟨_,by simp only[binOp,Op.shift,hc,if_false];rfl,.int _ _⟩
  ·exact⟨_,by simp only[binOp,Op.shift,hc,if_false];rfl,.int _ _⟩
  ·subst hc;exact⟨_,by simp only[binOp,ne_eq,not_true_eq_false,if_false,Op.intArith];rfl,.int _ _⟩
  ·subst hc;exact⟨_,by simp only[binOp,ne_eq,not_true_eq_false,if_false,Op.intArith];rfl,.int _ _⟩
  ·subst hc;exact⟨_,by simp only[binOp,ne_eq,not_true_eq_false,if_false,Op.intArith];rfl,.int _ _⟩
  ·obtain⟨rfl,hq⟩:=hc;exact⟨_,by simp only[binOp,ne_eq,not_true_eq_false,if_false,Op.intDiv,hq];rfl,.int _ _⟩
  ·obtain⟨rfl,hq⟩:=hc;exact⟨_,by simp only[binOp,ne_eq,not_true_eq_false,if_false,Op.intDiv,hq];rfl,.int _ _⟩
  ·subst hc;exact⟨_,by simp only[binOp,ne_eq,not_true_eq_false,if_false,Op.intBits];rfl,.int _ _⟩
  ·subst hc;exact⟨_,by simp only[binOp,ne_eq,not_true_eq_false,if_false,Op.intBits];rfl,.int _ _⟩
  ·subst hc;exact⟨_,by simp only[binOp,ne_eq,not_true_eq_false,if_false,Op.intBits];rfl,.int _ _⟩
  ·subst hc;exact⟨_,by simp only[binOp,ne_eq,not_true_eq_false,if_false,Op.intCmp];rfl,.bool _⟩
  ·subst hc;exact⟨_,by simp only[binOp,ne_eq,not_true_eq_false,if_false,Op.intCmp];rfl,.bool _⟩
  ·subst hc;exact⟨_,by simp only[binOp,ne_eq,not_true_eq_false,if_false,Op.intCmp];rfl,.bool _⟩
  ·subst hc;exact⟨_,by simp only[binOp,ne_eq,not_true_eq_false,if_false,Op.intCmp];rfl,.bool _⟩
  ·subst hc;exact⟨_,by simp only[binOp,ne_eq,not_true_eq_false,if_false,Op.intCmp];rfl,.bool _⟩
  ·subst hc;exact⟨_,by simp only[binOp,ne_eq,not_true_eq_false,if_false,Op.intCmp];rfl,.bool _⟩
 ·rename_i p q;obtain⟨s,rfl,hs⟩:=hx.str_inv;obtain⟨t',rfl,ht⟩:=hy.str_inv;have fin:∀c,z=c->(∃cv,(binOp op t (.string s) (.string t')).run P w=.ok cv w/\VRel g c cv) ->
    ∃c,(eqGuard op t X Y (.string s) (.string t')).run P w=.ok () w/\(binOp op t (.string s) (.string t')).run P w=.ok c w/\VRel g z c:=by
   rintro c rfl ⟨cv,h1,h2⟩;exact⟨cv,by simp[eqGuard_at_string],h1,h2⟩
  have e1:s.toList=p:=by rw[ByteArray.toList_eq];exact hs
  have e2:t'.toList=q:=by rw[ByteArray.toList_eq];exact ht
  split at h
  ·split at h
   ·rename_i hlen;cases h;refine fin _ rfl ⟨.string (s++t'), ?_, ?_⟩
    ·have:¬(((s.size+t'.size:Nat):Int)>IntKind.i64.max):=by
      have h1:s.size=p.length:=by rw[<- hs,Array.length_toList];rfl
      have h2:t'.size=q.length:=by rw[<- ht,Array.length_toList];rfl
      rw[IntKind.max_i64];omega
     simp only[binOp,Op.stringOp,this,if_false];rfl
    ·have:(s++t').data.toList=p++q:=by rw[ByteArray.data_append,Array.toList_append,hs,ht]
     rw[<- this];exact .str _
   ·cases h
  ·cases h;exact fin _ rfl ⟨_,by simp only[binOp,Op.stringOp,e1,e2];rfl,.bool _⟩
  ·cases h;exact fin _ rfl ⟨_,by simp only[binOp,Op.stringOp,e1,e2];rfl,.bool _⟩
  ·cases h;exact fin _ rfl ⟨_,by simp only[binOp,Op.stringOp,e1,e2,tY];rfl,.bool _⟩
  ·cases h;exact fin _ rfl ⟨_,by simp only[binOp,Op.stringOp,e1,e2,tY];rfl,.bool _⟩
  ·cases h;exact fin _ rfl ⟨_,by simp only[binOp,Op.stringOp,e1,e2,tY];rfl,.bool _⟩
  ·cases h;exact fin _ rfl ⟨_,by simp only[binOp,Op.stringOp,e1,e2,tY];rfl,.bool _⟩
  ·cases h
 ·split at h
  ·obtain⟨b,hb,rfl⟩:=map_some h;obtain⟨h1,h2,h3,_⟩:=aFl (w:=w) X Y hb hx hy .eql;exact⟨.bool b,h1,by rw[h3];simp only[Sem.run_bind,h2,Result.andThen_ok,Sem.run_pure],.bool b⟩
  ·obtain⟨b,hb,rfl⟩:=map_some h;obtain⟨h1,h2,_,h4⟩:=aFl (w:=w) X Y hb hx hy .neq;exact⟨.bool !b,h1,by rw[h4];simp only[Sem.run_bind,h2,Result.andThen_ok,Sem.run_pure],.bool _⟩
  ·cases h
theorem aVU{t yt:TypeId}{op:BinOp}{X Y:Operand}{x y:AOpd}(hx:eO glob X=some x)(hy:eO glob Y=some y){z:AV}
  (h:kM op (aSJ P t X Y) (x.ev ρ) (y.ev ρ)=some z) (hw:WF g H w) (hg:bI P glob g) (hs:aT g ρ a.tmps):
  gW P ⟨dst,.binOp op t X Y yt,type,pos,after,guard⟩ a w (hJ g H w z):=by
 obtain⟨c,h1,h2,h3⟩:=aKz (w:=w) X Y h (aJ hx hg hs) (aJ hy hg hs);exact bE (by simp[execOp,h1,h2]) (.same hw h3)
theorem aY4{t:TypeId}{op:UnOp}{X:Operand}{x:AOpd}(hx:eO glob X=some x){z:AV}(h:unV op (x.ev ρ)=some z)
  (hw:WF g H w) (hg:bI P glob g) (hs:aT g ρ a.tmps):gW P ⟨dst,.unOp op t X,type,pos,after,guard⟩ a w (hJ g H w z):=by
 have hr:=aJ hx hg hs;unfold unV at h
 split at h
 ·rename_i e;rw[e]at hr;have ev:=hr.int_inv
  split at h
  ·cases h;exact bE (by simp only[execOp,ev,Op.unary,Op.intArith];rfl) (.same hw (.int _ _))
  ·cases h;exact bE (by simp only[execOp,ev,Op.unary,Op.intBits];rfl) (.same hw (.int _ _))
  ·cases h
 ·rename_i e;rw[e]at hr;have ev:=hr.bool_inv
  split at h
  ·cases h;exact bE (by simp only[execOp,ev,Op.unary];rfl) (.same hw (.bool _))
  ·cases h
 ·cases h
theorem rY{s:ByteArray}{p:List UInt8}(h:s.data.toList=p):s.size=p.length:=by rw[<- h,Array.length_toList];rfl
theorem aDI{s:ByteArray}{p:List UInt8}(h:s.data.toList=p)(l r:Nat):(s.extract l r).data.toList=(p.take r).drop l:=by
 rw[ByteArray.data_extract,Array.toList_extract,<- h,List.drop_take]
theorem VRel.str'{s:ByteArray}{p:List UInt8}(h:s.data.toList=p):VRel g (.str p) (.string s):=h ▸ .str s
theorem gX{dflt most n y:Nat}{x:Option AV}(h:kS dflt most x=some n)(hm:most<=y){v:Option Value}(hx:∀a,x=some a->∃u,v=some u/\VRel g a u)(hn:x=none->v=none):
  (x=none/\v=none/\n=dflt)∨(x.isSome=true/\n<=most/\∃u,v=some u/\∀code,(Instr.sliceBound u y code).run P w=.ok n w):=by
 unfold kS at h
 split at h
 ·cases h;exact .inl ⟨rfl,hn rfl,rfl⟩
 ·split at h
  ·rename_i k m hc;cases h;obtain⟨u,rfl,hr⟩:=hx _ rfl;cases hr.int_inv;refine .inr ⟨rfl,by omega,_,rfl,fun code => ?_⟩
   have h1:0<=m/\m<=(y:Int):=by omega
   simp[Instr.sliceBound,asIntOf,h1]
  ·cases h
 ·cases h
end
section
variable {P:Program}{glob:Glob}{g:G}{H:List AObj}{w:World}{ρ:List AV}{a:Act}
variable {dst:Option Tmp}{type:TypeId}{pos:String}{after:Array Edge}{guard:Option (Nat×Bool)}
theorem fJ{X:Option Operand}{x:Option AOpd}(hx:uZ glob X=some x)(hg:bI P glob g)(hs:aT g ρ a.tmps):
  (∀y,x.map (AOpd.ev ρ)=some y->∃u,X.map a.eval=some u/\VRel g y u)/\(x.map (AOpd.ev ρ)=none->X.map a.eval=none):=by
 cases X with
 |none=>
  simp only[uZ,Option.some.injEq]at hx;subst hx;exact⟨fun y h=>by simp at h,fun _=>rfl⟩
 |some X=>
  simp only[uZ]at hx;obtain⟨z,hz,rfl⟩:=map_some hx;refine⟨fun y h => ?_,fun h=>by simp at h⟩
  simp at h;subst h;exact⟨_,rfl,aJ hz hg hs⟩
theorem mD{isSlice:Bool}{len cap l h m:Nat}{lo hi mx:Option AV}(hb:dK len lo hi mx=some (l,h,m))(hcap:len<=cap)
  {ulo uhi umx:Option Value} (h1:∀y,lo=some y->∃u,ulo=some u/\VRel g y u) (h1':lo=none->ulo=none)
  (h2:∀y,hi=some y->∃u,uhi=some u/\VRel g y u) (h2':hi=none->uhi=none)
  (h3:∀y,mx=some y->∃u,umx=some u/\VRel g y u) (h3':mx=none->umx=none) (hmh:mx.isSome=true->hi.isSome=true):
  ∃m',(Instr.sliceBounds isSlice len cap ulo uhi umx).run P w=.ok (l,h,m') w/\l<=h/\h<=m/\m<=len/\((mx.isSome=true/\m'=m)∨(mx=none/\m'=cap/\m=len)):=by
 unfold dK at hb
 split at hb
 ·cases hb
 rename_i m0 hm
 split at hb
 ·cases hb
 rename_i h0 hh
 split at hb
 ·cases hb
 rename_i l0 hl;simp only[Option.some.injEq,Prod.mk.injEq]at hb;obtain⟨rfl,rfl,rfl⟩:=hb;have hml:m0<=len:=by
  rcases gX (P:=P) (w:=w) (y:=cap) hm hcap h3 h3' with⟨_,_,e⟩ | ⟨_,e,_⟩<;>omega
 have hhm:h0<=m0:=by
  rcases gX (P:=P) (w:=w) (y:=m0) hh (Nat.le_refl _) h2 h2' with⟨hn,_,e⟩ | ⟨_,e,_⟩
  ·rcases gX (P:=P) (w:=w) (y:=cap) hm hcap h3 h3' with⟨_,_,e'⟩ | ⟨e',_,_⟩
   ·omega
   ·have:=hmh e';simp[hn]at this
  ·exact e
 have hlh:l0<=h0:=by
  rcases gX (P:=P) (w:=w) (y:=h0) hl (Nat.le_refl _) h1 h1' with⟨_,_,e⟩ | ⟨_,e,_⟩<;>omega
 have low:(ulo=none/\l0=0)∨(∃u,ulo=some u/\∀code,(Instr.sliceBound u h0 code).run P w=.ok l0 w):=by
  rcases gX (P:=P) (w:=w) (y:=h0) hl (Nat.le_refl _) h1 h1' with⟨_,e1,e2⟩ | ⟨_,_,u,e1,e2⟩
  ·exact .inl ⟨e1,e2⟩
  ·exact .inr ⟨u,e1,e2⟩
 rcases gX (P:=P) (w:=w) (y:=cap) hm hcap h3 h3' with⟨e1,e2,e3⟩ | ⟨e1,_,um,e2,e3⟩
 ·subst e2;subst e1;refine⟨cap, ?_,hlh,hhm,hml,.inr ⟨rfl,rfl,e3⟩⟩;rcases gX (P:=P) (w:=w) (y:=cap) hh (by omega) h2 h2' with⟨_,e5,e6⟩ | ⟨_,_,uh,e5,e6⟩
  ·subst e5;subst e6;rcases low with⟨l1,l2⟩ | ⟨u,l1,l2⟩<;>subst l1<;>cases isSlice<;>simp[Instr.sliceBounds,l2]
  ·subst e5;rcases low with⟨l1,l2⟩ | ⟨u,l1,l2⟩<;>subst l1<;>cases isSlice<;>simp[Instr.sliceBounds,l2,e6]
 ·subst e2;refine⟨m0, ?_,hlh,hhm,hml,.inl ⟨e1,rfl⟩⟩;rcases gX (P:=P) (w:=w) (y:=m0) hh (Nat.le_refl _) h2 h2' with⟨e4,_,_⟩ | ⟨_,_,uh,e5,e6⟩
  ·have:=hmh e1;simp[e4]at this
  ·subst e5;rcases low with⟨l1,l2⟩ | ⟨u,l1,l2⟩<;>subst l1<;>cases isSlice<;>simp[Instr.sliceBounds,l2,e3,e6]
theorem aNP{t:TypeId}{X:Operand}{LO HI:Option Operand}{x:AOpd}{lo hi:Option AOpd}(hx:eO glob X=some x)(hlo:uZ glob LO=some lo)(hhi:uZ glob HI=some hi)
  (ht:P.underlying t=some .string) {z:AV} (h:evR H ρ (.sliceS x lo hi)=some z)
  (hw:WF g H w) (hg:bI P glob g) (hs:aT g ρ a.tmps):gW P ⟨dst,.slice t X LO HI none,type,pos,after,guard⟩ a w (hJ g H w z):=by
 have hr:=aJ hx hg hs;obtain⟨l1,l2⟩:=fJ hlo hg hs;obtain⟨h1,h2⟩:=fJ hhi hg hs;simp only[evR]at h
 split at h
 ·rename_i s e;rw[e]at hr;obtain⟨bs,es,hbs⟩:=hr.str_inv
  split at h
  ·rename_i l r m hb;cases h;obtain⟨m',hrun,_,_,_,_⟩:=mD (P:=P) (w:=w) (isSlice:=false) (cap:=s.length) (umx:=none) hb (Nat.le_refl _) l1 l2 h1 h2 (fun y hy=>by simp at hy) (fun _=>rfl) (fun h=>by simp at h)
   rw[<- rY hbs]at hrun;refine bE (v:=.string (bs.extract l r)) (w':=w) ?_ (.same hw (.str' (aDI hbs l r)));simp[execOp,Instr.sliceAt,run_underlying ht,Instr.slice,es,hrun]
  ·cases h
 ·cases h
theorem aB9{α:Type}(rows:List α)(l h i:Nat):((rows.take h).drop l)[i]? = if l+i<h then rows[l+i]? else none:=by
 rw[List.getElem?_drop,List.getElem?_take]
theorem aFm{k k':Nat}{rows:List (List AV)}(h:cH k rows=true)(hk:∀row∈rows,row.length=k'):∀row∈rows,row.length=k:=by
 cases rows with
 |nil=>intro row hm;simp at hm
 |cons r rs=>
  simp only[cH,beq_iff_eq]at h;have:=hk r (by simp)
  intro row hm;rw[hk row hm];omega
theorem VRel.sl_inv{full:Bool}{rows:List (List AV)}{x:Value}(hx:VRel g (.sl full rows) x):
  (rows=[]/\x=.slice none 0 0)∨∃b off cap k,x=.slice (some ⟨b,off,none⟩) rows.length cap/\rows.length<=cap/\(full=true->cap=rows.length)/\(∀row∈rows,row.length=k)/\(∀(row:List AV),row∈rows->row.all AV.still=true) /\
   (∀i j,i<rows.length->j<k->(g.perm b (off+i*k+j)).isSome) /\
   ∀(i j:Nat) (row:List AV) a x,rows[i]? = some row->row[j]? = some a->g.perm b (off+i*k+j)=some x->VRel g a x:=by
 cases hx with
 |slNil full=>exact .inl ⟨rfl,rfl⟩
 |sl full rows b off cap k hcap hfull hk hst hp h=>exact .inr ⟨b,off,cap,k,rfl,hcap,hfull,hk,hst,hp,h⟩
theorem vB{t e:TypeId}{k:Nat}(ht:P.underlying t=some (.slice e))(hk:size? P e=some k){A:Option Addr}{len cap l h m:Nat}{lo hi mx:Option Value}
  (hrun:(Instr.sliceBounds true len cap lo hi mx).run P w=.ok (l,h,m) w):
  (Instr.sliceAt t (.slice A len cap) lo hi mx).run P w=.ok (.slice (if m=l then A else A.map (·.add (l*k))) (h - l) (m - l)) w:=by
 simp only[Instr.sliceAt,Sem.run_bind,run_underlying ht,Result.andThen_ok,Instr.slice,hrun,fI hk,Sem.run_pure]
theorem aJJ{t e:TypeId}{k:Nat}{X:Operand}{LO HI MX:Option Operand}{x:AOpd}{lo hi mx:Option AOpd}(hx:eO glob X=some x)(hlo:uZ glob LO=some lo)(hhi:uZ glob HI=some hi)(hmx:uZ glob MX=some mx)
  (ht:P.underlying t=some (.slice e)) (hk:size? P e=some k) {z:AV} (h:evR H ρ (.sliceV k x lo hi mx)=some z)
  (hw:WF g H w) (hg:bI P glob g) (hs:aT g ρ a.tmps):gW P ⟨dst,.slice t X LO HI MX,type,pos,after,guard⟩ a w (hJ g H w z):=by
 have hr:=aJ hx hg hs;obtain⟨l1,l2⟩:=fJ hlo hg hs;obtain⟨h1,h2⟩:=fJ hhi hg hs;obtain⟨m1,m2⟩:=fJ hmx hg hs;simp only[evR]at h
 split at h
 ·rename_i full rows eq;rw[eq]at hr
  split at h
  ·rename_i l r m hb
   split at h
   ·rename_i hc;cases h;simp only[Bool.and_eq_true,Bool.or_eq_true,Bool.not_eq_true']at hc;obtain⟨hhead,hmh⟩:=hc;have hmh':(mx.map (AOpd.ev ρ)).isSome=true->(hi.map (AOpd.ev ρ)).isSome=true:=fun e=>by
     rcases hmh with e' | e'<;>simp_all
    rcases hr.sl_inv with⟨er,ex⟩ | ⟨b,off,cap,k',ex,hcap,hfull,hk',hst,hp,hrel⟩
    ·subst er;obtain⟨m',hrun,hlh,hhm,hml,hm'⟩:=mD (P:=P) (w:=w) (isSlice:=true) (cap:=0) hb (Nat.le_refl _) l1 l2 h1 h2 m1 m2 hmh';simp at hml;subst hml;have e1:r=0:=by omega
     have e2:l=0:=by omega
     have e3:m'=0:=by rcases hm' with⟨_,e⟩ | ⟨_,e,_⟩<;>omega
     subst e1;subst e2;subst e3;refine bE (v:=.slice none 0 0) (w':=w) ?_ (.same hw (.slNil _));have:=vB ht hk (A:=none) (len:=0) hrun;simp only[execOp,ex,Sem.run_bind,this,Result.andThen_ok,Sem.run_pure];rfl
    ·obtain⟨m',hrun,hlh,hhm,hml,hm'⟩:=mD (P:=P) (w:=w) (isSlice:=true) (cap:=cap) hb hcap l1 l2 h1 h2 m1 m2 hmh';have hkk:=aFm hhead hk';have hrunS:=vB ht hk (A:=some ⟨b,off,none⟩) hrun;have hmm:m<=m':=by rcases hm' with⟨_,e⟩ | ⟨_,e,_⟩<;>omega
     have hlen:((rows.take r).drop l).length=r - l:=by simp;omega
     refine bE (w':=w) (by simp only[execOp,ex,Sem.run_bind,hrunS,Result.andThen_ok,Sem.run_pure];rfl) (.same hw ?_)
     rw[<- hlen];have hadd:(if m'=l then some (⟨b,off,none⟩:Addr)else (some (⟨b,off,none⟩:Addr)).map (·.add (l*k)))=some ⟨b,if m'=l then off else off+l*k,none⟩:=by
      split
      ·simp
      ·simp[fP]
     rw[hadd];refine .sl _ _ b _ (m' - l) k (by omega) (fun hf => ?_) (fun row hm => ?_) (fun row hm=>hst row (List.mem_of_mem_take (List.mem_of_mem_drop hm))) (fun i j hi hj => ?_) fun i j row c y hrow hc hy => ?_
     ·simp only[Bool.and_eq_true,decide_eq_true_eq,Bool.or_eq_true]at hf;rw[hlen];rcases hm' with⟨_,e⟩ | ⟨hn,e,e'⟩
      ·omega
      ·rcases hf.2 with hsome | hfu
       ·simp only[Option.map_eq_none_iff]at hn;simp[hn]at hsome
       ·have:=hfull hfu;omega
     ·exact hkk row (List.mem_of_mem_take (List.mem_of_mem_drop hm))
     ·have hne:m'≠l:=by omega
      simp only[hne,if_false];have hrl:l+i<rows.length:=by omega
      have hk'k:k'=k:=by rw[<- hk' rows[l+i] (List.getElem_mem hrl)];exact hkk _ (List.getElem_mem hrl)
      have:=hp (l+i) j hrl (by omega)
      rw[hk'k,Nat.add_mul,<- Nat.add_assoc]at this;exact this
     ·rw[aB9]at hrow
      split at hrow
      ·rename_i hlt;have hne:m'≠l:=by omega
       simp only[hne,if_false]at hy;have hk'k:k'=k:=by rw[<- hk' row (List.mem_of_getElem? hrow)];exact hkk _ (List.mem_of_getElem? hrow)
       refine hrel (l+i) j row c y hrow hc ?_;rw[hk'k,Nat.add_mul,<- Nat.add_assoc];exact hy
      ·cases hrow
   ·cases h
  ·cases h
 ·rename_i o v n eq;rw[eq]at hr
  split at h
  ·cases h
  rename_i hmx0;have hmxn:mx=none:=by simpa using hmx0
  subst hmxn
  split at h
  ·rename_i l r m hb;generalize hX:a.eval X=xv at hr;cases hr with
   |sr o v n lc b cap hl hv hn hc0 hh=>
    obtain⟨m',hrun,hlh,hhm,hml,hm'⟩:=mD (P:=P) (w:=w) (isSlice:=true) (cap:=cap) hb hc0 l1 l2 h1 h2 (fun y hy=>by simp at hy) (fun _=>m2 rfl) (fun e=>by simp at e)
    have hrunS:=vB ht hk (A:=some b) hrun;have hmm:m'=cap/\m=n:=hm'.elim (fun h=>absurd h.1 (by simp)) fun h=>h.2
    obtain⟨rfl,rfl⟩:=hmm;have hadd:(if m'=l then some b else (some b).map (·.add (l*k)))=some (if m'=l then b else b.add (l*k)):=by split<;>rfl
    refine bE (w':=w) (by simp only[execOp,hX,Sem.run_bind,hrunS,Result.andThen_ok,Sem.run_pure];rfl) (.same hw ?_)
    rw[hadd]
    split at h
    ·rename_i hc1;simp only[Bool.and_eq_true,decide_eq_true_eq]at hc1;obtain⟨_,rfl⟩:=hc1;cases h;refine .srw o v _ r lc _ _ hl hv hn hhm fun e1 e2 => ?_;obtain⟨rfl,rfl⟩:=hh e1 e2;exact⟨by simp[fP],by simp⟩
    ·split at h
     ·rename_i hrn;cases h;subst hrn;refine .srv o v _ k l lc _ _ hl hv hn hlh fun e1 e2 => ?_;obtain⟨rfl,rfl⟩:=hh e1 e2
      by_cases hml:lc.cap=l
      ·rw[if_pos hml];exact⟨0,rfl,fun _=>by omega,by omega⟩
      ·rw[if_neg hml];exact⟨l*k,by simp[fP],fun _=>rfl,by omega⟩
     ·cases h
  ·cases h
 ·cases h
theorem aSN{t e:TypeId}{k:Nat}{X:Operand}{LO HI MX:Option Operand}{x:AOpd}{lo:Option AOpd}(hx:eO glob X=some x)(hlo:uZ glob LO=some lo)(hhi:uZ glob HI=some none)(hmx:uZ glob MX=some none)
  (ht:P.underlying t=some (.slice e)) (hk:size? P e=some k) {z:AV} (h:evR H ρ (.view k x lo)=some z)
  (hw:WF g H w) (hg:bI P glob g) (hs:aT g ρ a.tmps):gW P ⟨dst,.slice t X LO HI MX,type,pos,after,guard⟩ a w (hJ g H w z):=by
 have hr:=aJ hx hg hs;obtain⟨l1,l2⟩:=fJ hlo hg hs;obtain⟨h1,h2⟩:=fJ hhi hg hs;obtain⟨m1,m2⟩:=fJ hmx hg hs;simp only[evR]at h
 split at h
 ·rename_i full rows eq;refine aJJ hx hlo hhi hmx ht hk (z:=z) ?_ hw hg hs;simp only[evR,eq,Option.map_none]
  split at h
  ·rename_i l r m hb;simpa using h
  ·cases h
 ·rename_i o v n eq;rw[eq]at hr
  split at h
  ·rename_i v' k2 rows hH
   split at h
   ·rename_i hc;obtain⟨rfl,hlen⟩:=hc
    split at h
    ·rename_i l hbv;cases h;have hb:dK n (lo.map (AOpd.ev ρ)) ((none:Option AOpd).map (AOpd.ev ρ)) ((none:Option AOpd).map (AOpd.ev ρ))=some (l,n,n):=by
      have e1:kS n n none=some n:=rfl;simp only[dK,Option.map_none,e1,hbv]
     generalize hX:a.eval X=xv at hr;cases hr with
     |sr o v n lc b cap hl hv hn hc0 hh=>
      have hst:lc.st=v':=by
       have:=hw.st o _ lc hH hl;simp only[AObj.ver]at this;omega
      obtain⟨h0,hlk,hcap,_,_,_,_⟩:=hw.obj o lc _ ⟨hH,rfl,hl,hst⟩;obtain⟨rfl,rfl⟩:=hh hst (by omega)
      obtain⟨m',hrun,hlh,hhm,hml,hm'⟩:=mD (P:=P) (w:=w) (isSlice:=true) (cap:=lc.cap) hb (by omega) l1 l2 h1 h2 m1 m2 (fun e=>by simp at e)
      have hrunS:=vB ht hk (A:=some ⟨lc.b,0,none⟩) hrun;have hmm:n<=m':=by rcases hm' with⟨_,e⟩ | ⟨_,e,_⟩<;>omega
      refine bE (w':=w) (by simp only[execOp,hX,Sem.run_bind,hrunS,Result.andThen_ok,Sem.run_pure];rfl) (.same hw ?_)
      have hadd:(if m'=l then some (⟨lc.b,0,none⟩:Addr)else (some (⟨lc.b,0,none⟩:Addr)).map (·.add (l*k)))=some ⟨lc.b,if m'=l then 0 else l*k,none⟩:=by
       split
       ·simp
       ·simp[fP]
      rw[hadd];refine .srv o v' n k l lc _ _ hl hv hn hlh fun _ _=>⟨_,rfl,fun hlt=>if_neg (by omega),by omega⟩
    ·cases h
   ·cases h
  ·cases h
 ·cases h
end
end Go.AM
end
