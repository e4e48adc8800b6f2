/- Part 4: lemmas for the last text. -/
import Derived.Test.YtfpndhocfmfgdaaGreatDoorK03
import Derived.Laws.Tables
import Derived.Lib.ConvBytes
set_option linter.unusedVariables false
set_option linter.unusedSimpArgs false
section
namespace Go.AM
open Go
section
variable {P:Program}{glob:Glob}{g:G}{H:List AObj}{w:World}{ρ:List AV}{a:Act}
variable {dst:Option Tmp}{type:TypeId}{pos:String}{after:Array Edge}{guard:Option (Nat×Bool)}
theorem aH8{k:Nat}:∀(n:Nat) (l:List AV) (i:Nat),i<n->(aDC k n l)[i]? = some ((l.drop (i*k)).take k)
 |0,_,i,h=>by omega
 |n+1,l,0,_=>by simp[aDC]
 |n+1,l,i+1,h=>by
  simp only[aDC,List.getElem?_cons_succ];rw[aH8 n (l.drop k) i (by omega),List.drop_drop,show k+i*k=(i+1)*k by rw[Nat.add_mul,Nat.one_mul,Nat.add_comm]]
theorem aH9{k:Nat}:∀(n:Nat) (l:List AV),(aDC k n l).length=n
 |0,_=>rfl
 |n+1,l=>by simp[aDC,aH9 n]
theorem aNQ{t e:TypeId}{n k:Nat}{X:Operand}{LO HI MX:Option Operand}{x:AOpd}{lo hi mx:Option AOpd}(hx:eO glob X=some x)(hlo:uZ glob LO=some lo)(hhi:uZ glob HI=some hi)(hmx:uZ glob MX=some mx)
  (ht:P.underlying t=some (.array n e)) (hk:size? P e=some k) {z:AV} (h:evR H ρ (.sliceA n k x lo hi mx)=some z)
  (hw:WF g H w) (hg:bI P glob g) (hs:aT g ρ a.tmps):gW P ⟨dst,.slice t X LO HI MX,type,pos,after,guard⟩ a w (hJ g H w z):=by
 have hr:=aJ hx hg hs;obtain⟨l1,l2⟩:=fJ hlo hg hs;obtain⟨h1,h2⟩:=fJ hhi hg hs;obtain⟨m1,m2⟩:=fJ hmx hg hs;simp only[evR]at h
 split at h
 ·rename_i row off eq;rw[eq]at hr
  split at h
  ·rename_i hoff
   split at h
   ·rename_i l r m hb
    split at h
    ·rename_i hmh;cases h;simp only[Bool.or_eq_true,Bool.not_eq_true']at hmh;have hmh':(mx.map (AOpd.ev ρ)).isSome=true->(hi.map (AOpd.ev ρ)).isSome=true:=fun e=>by
      rcases hmh with e' | e'<;>simp_all
     generalize hX:a.eval X=xv at hr;cases hr with
     |ep row off b base hst hp hrel=>
      obtain⟨m',hrun,hlh,hhm,hml,hm'⟩:=mD (P:=P) (w:=w) (isSlice:=false) (cap:=n) hb (Nat.le_refl _) l1 l2 h1 h2 m1 m2 hmh';have hmm:m'=m:=by rcases hm' with⟨_,e⟩ | ⟨_,e,e'⟩<;>omega
      subst hmm;have hlen:(((aDC k n (row.drop off)).take r).drop l).length=r - l:=by simp[aH9];omega
      have hrow:∀(i:Nat) (rw':List AV),(((aDC k n (row.drop off)).take r).drop l)[i]? = some rw'->l+i<r/\rw'=(row.drop (off+(l+i)*k)).take k:=fun i rw' hi=>by
       rw[aB9]at hi
       split at hi
       ·rename_i hlt;rw[aH8 n _ (l+i) (by omega),List.drop_drop]at hi
        exact⟨hlt,(Option.some.inj hi).symm⟩
       ·cases hi
      have hin:∀i,l+i<r->off+(l+i)*k+k<=row.length:=fun i hi=>by
       have:(l+i+1)*k<=n*k:=Nat.mul_le_mul_right _ (by omega)
       rw[Nat.add_mul,Nat.one_mul]at this;omega
      refine bE (v:=.slice (some (if m'=l then (⟨b,base+off,none⟩:Addr)else (⟨b,base+off,none⟩:Addr).add (l*k))) (r - l) (m' - l)) (w':=w) ?_ (.same hw ?_)
      ·simp only[execOp,hX,Instr.sliceAt,Sem.run_bind,run_underlying ht,Result.andThen_ok,Instr.sureAddr,Sem.run_pure,hrun,fI hk]
      ·rw[<- hlen];have hadd:(if m'=l then (⟨b,base+off,none⟩:Addr)else (⟨b,base+off,none⟩:Addr).add (l*k))=⟨b,if m'=l then base+off else base+off+l*k,none⟩:=by
        split
        ·rfl
        ·rw[fP]
       rw[hadd];refine .sl _ _ b _ (m' - l) k (by omega) (fun hf => ?_) (fun rw' hm => ?_) (fun rw' hm => ?_) (fun i j hi hj => ?_) fun i j rw' c y hrw hc hy => ?_
       ·simp only[decide_eq_true_eq]at hf;omega
       ·obtain⟨i,hi⟩:=List.mem_iff_getElem?.1 hm;obtain⟨hlt,rfl⟩:=hrow i rw' hi;have:=hin i hlt;simp;omega
       ·obtain⟨i,hi⟩:=List.mem_iff_getElem?.1 hm;obtain⟨hlt,rfl⟩:=hrow i rw' hi;rw[List.all_eq_true]at hst ⊢;exact fun c hc=>hst c (List.mem_of_mem_drop (List.mem_of_mem_take hc))
       ·have hlt:l+i<r:=by omega
        have:=hin i hlt;have hne:m'≠l:=by omega
        simp only[hne,if_false];have:=hp (off+(l+i)*k+j) (by omega)
        rwa [show base+(off+(l+i)*k+j)=base+off+l*k+i*k+j by rw[Nat.add_mul];omega]at this
       ·obtain⟨hlt,rfl⟩:=hrow i rw' hrw;have hj:j<k:=by have:=(List.getElem?_eq_some_iff.1 hc).1;simp at this;omega
        have hne:m'≠l:=by omega
        simp only[hne,if_false]at hy;rw[List.getElem?_take,if_pos hj,List.getElem?_drop]at hc;refine hrel (off+(l+i)*k+j) c y hc ?_;rw[show base+(off+(l+i)*k+j)=base+off+l*k+i*k+j by rw[Nat.add_mul];omega]
        exact hy
    ·cases h
   ·cases h
  ·cases h
 ·cases h
theorem aIL{s:TypeId}{fields:Array Field}{f n:Nat}{fd:Field}(ht:P.underlying s=some (.struct fields))(hf:fields[f]? = some fd)(hk:size? P fd.type=some (n+1))(b:Addr):
  (Instr.fieldAt s (.pointer (some b)) f).run P w=.ok (.pointer (some (b.add fd.offset))) w:=by
 simp only[Instr.fieldAt,Sem.run_bind,run_underlying ht,Result.andThen_ok,hf,Instr.sureAddr,fieldPlace,fI hk,Sem.run_pure];simp
theorem aY5{s:TypeId}{fields:Array Field}{f n:Nat}{fd:Field}{X:Operand}{x:AOpd}(hx:eO glob X=some x)(ht:P.underlying s=some (.struct fields))(hf:fields[f]? = some fd)(hk:size? P fd.type=some (n+1))
  {z:AV} (h:evR H ρ (.fa fd.offset x)=some z) (hw:WF g H w) (hg:bI P glob g) (hs:aT g ρ a.tmps):gW P ⟨dst,.fieldAddr s X f,type,pos,after,guard⟩ a w (hJ g H w z):=by
 have hr:=aJ hx hg hs;have fin:∀b,a.eval X=.pointer (some b)->VRel g z (.pointer (some (b.add fd.offset)))->gW P ⟨dst,.fieldAddr s X f,type,pos,after,guard⟩ a w (hJ g H w z):=fun b e hz=>
  bE (w':=w) (by simp only[execOp,e,Sem.run_bind,aIL ht hf hk,Result.andThen_ok,Sem.run_pure]) (.same hw hz)
 simp only[evR]at h
 split at h
 ·rename_i e;rw[e]at hr;cases h;generalize hX:a.eval X=xv at hr;cases hr with
  |ptr o v off l b hl hv hh=>exact fin b hX (.ptr _ _ _ l _ hl hv fun e1 e2=>by rw[hh e1 e2,fP])
 ·rename_i e;rw[e]at hr;cases h;generalize hX:a.eval X=xv at hr;cases hr with
  |vp o v n k i off l b hl hv hn hh=>exact fin b hX (.vp _ _ _ _ _ _ l _ hl hv hn fun e1 e2=>by rw[hh e1 e2,fP,Nat.add_assoc])
 ·rename_i e;rw[e]at hr;cases h;generalize hX:a.eval X=xv at hr;cases hr with
  |ep row off b base hst hp hh=>exact fin _ hX (by rw[fP,Nat.add_assoc];exact .ep _ _ b base hst hp hh)
 ·cases h
theorem fO.sub{g:G}{cs:List AV}{vs:List Value}(h:fO g cs vs)(off n:Nat):fO g ((cs.drop off).take n) ((vs.drop off).take n):=by
 refine⟨by have:=h.1;simp;omega,fun i a x ha hx => ?_⟩
 rw[List.getElem?_take,List.getElem?_drop]at ha hx
 split at ha
 ·rename_i hi;rw[if_pos hi]at hx;exact h.2 _ a x ha hx
 ·cases ha
theorem aFn{t:TypeId}{n:Nat}{agg:Bool}(hsh:qG P t=some (n,agg)){cs:List AV}{vs:Array Value}(hl:fO g cs vs.toList){off:Nat}(ho:off+n<=cs.length){z:AV}(h:dR agg ((cs.drop off).take n)=some z):
  ∃c,(part t vs off).run P w=.ok c w/\VRel g z c:=by
 obtain⟨h1,h2,⟨d,h3⟩,h4⟩:=yA hsh;have hsz:vs.size=cs.length:=by have:=hl.1;simp at this;omega
 refine⟨_, ?_,vA h (hl.sub off n)⟩;simp only[part,Sem.run_bind,zS h3,Result.andThen_ok,h2];cases agg with
 |true=>
  simp only[if_true,Sem.run_bind,fI h1,Result.andThen_ok,Sem.run_pure];congr 2;apply Array.ext';simp[List.extract]
 |false=>
  have hn1:=h4 rfl;subst hn1;have hlt:off<vs.size:=by omega
  have hd:vs.toList.drop off=vs.toList[off]::vs.toList.drop (off+1):=List.drop_eq_getElem_cons (by simpa using hlt)
  rw[hd];simp[hlt]
theorem aVV{s:TypeId}{fields:Array Field}{f n:Nat}{agg:Bool}{fd:Field}{X:Operand}{x:AOpd}(hx:eO glob X=some x)(ht:P.underlying s=some (.struct fields))(hf:fields[f]? = some fd)(hsh:qG P fd.type=some (n,agg))
  {z:AV} (h:evR H ρ (.fld fd.offset n agg x)=some z) (hw:WF g H w) (hg:bI P glob g) (hs:aT g ρ a.tmps):gW P ⟨dst,.field s X f,type,pos,after,guard⟩ a w (hJ g H w z):=by
 have hr:=aJ hx hg hs;simp only[evR]at h
 split at h
 ·rename_i cs e;rw[e]at hr;obtain⟨vs,ev,hl⟩:=hr.agg_list
  split at h
  ·rename_i ho;obtain⟨c,h1,h2⟩:=aFn (P:=P) (w:=w) hsh hl ho h;refine bE (w':=w) (v:=c) ?_ (.same hw h2);simp[execOp,Instr.field,run_underlying ht,hf,ev,asAgg,h1]
  ·cases h
 ·cases h
theorem aDJ(k:IntKind)(n:Int):(asIntOf (.int k n)).run P w=.ok (k,n) w:=rfl
theorem tZ{t e:TypeId}{k:Nat}(ht:P.underlying t=some (.slice e))(hk:size? P e=some k)(b:Addr)(len cap:Nat)(ik:IntKind)(n:Int)(h0:0<=n)(hn:n<len):
  (Instr.indexAt t (.slice (some b) len cap) (.int ik n)).run P w=.ok (.pointer (some (b.add (n.toNat*k)))) w:=by
 have hc:0<=n/\n<(len:Int):=⟨h0,hn⟩;simp[Instr.indexAt,asIntOf,run_underlying ht,hc,fI hk]
theorem uA{t e:TypeId}{k len:Nat}(ht:P.underlying t=some (.array len e))(hk:size? P e=some k)(b:Addr)(ik:IntKind)(n:Int)(h0:0<=n)(hn:n<len):
  (Instr.indexAt t (.pointer (some b)) (.int ik n)).run P w=.ok (.pointer (some (b.add (n.toNat*k)))) w:=by
 have hc:0<=n/\n<(len:Int):=⟨h0,hn⟩;simp[Instr.indexAt,asIntOf,run_underlying ht,hc,fI hk,Instr.sureAddr]
theorem aVW{t e:TypeId}{k:Nat}{X I:Operand}{x i:AOpd}(hx:eO glob X=some x)(hi:eO glob I=some i)(ht:P.underlying t=some (.slice e))(hk:size? P e=some k)
  {z:AV} (h:evR H ρ (.iaV x i k)=some z) (hw:WF g H w) (hg:bI P glob g) (hs:aT g ρ a.tmps):gW P ⟨dst,.indexAddr t X I,type,pos,after,guard⟩ a w (hJ g H w z):=by
 have hr:=aJ hx hg hs;have hri:=aJ hi hg hs;simp only[evR]at h
 split at h
 ·rename_i full rows ik n e1 e2;rw[e1]at hr;rw[e2]at hri;have ei:=hri.int_inv
  split at h
  ·rename_i h0
   split at h
   ·rename_i row hrow
    split at h
    ·rename_i hlen;cases h;have hlt:n.toNat<rows.length:=(List.getElem?_eq_some_iff.1 hrow).1;rcases hr.sl_inv with⟨er,_⟩ | ⟨b,off,cap,k',ex,hcap,hfull,hk',hst,hp,hrel⟩
     ·subst er;simp at hlt
     ·have hkk:k'=k:=by rw[<- hk' row (List.mem_of_getElem? hrow)];exact hlen
      subst hkk;have hlt':n<(rows.length:Int):=by omega
      refine bE (w':=w) (v:=.pointer (some ⟨b,off+n.toNat*k'+0,none⟩)) ?_ (.same hw (.ep row 0 b (off+n.toNat*k') (hst row (List.mem_of_getElem? hrow)) (fun j hj=>hp n.toNat j hlt (by omega)) fun j c y hc hy=>hrel n.toNat j row c y hrow hc hy))
      simp only[execOp,ex,ei,Sem.run_bind,tZ ht hk _ _ _ _ _ h0 hlt',Result.andThen_ok,Sem.run_pure,fP,Nat.add_zero]
    ·cases h
   ·cases h
  ·cases h
 ·rename_i o v len ik n e1 e2;rw[e1]at hr;rw[e2]at hri;have ei:=hri.int_inv
  split at h
  ·rename_i hn;cases h;generalize hX:a.eval X=xv at hr;cases hr with
   |sr o v n0 l b cap hl hv hn0 hc0 hh=>
    refine bE (w':=w) (v:=.pointer (some (b.add (n.toNat*k)))) ?_ (.same hw (.vp _ _ _ _ _ _ l _ hl hv hn0 fun e1 e2 => ?_))
    ·simp only[execOp,hX,ei,Sem.run_bind,tZ ht hk _ _ _ _ _ hn.1 hn.2,Result.andThen_ok,Sem.run_pure]
    ·rw[(hh e1 e2).1,fP];simp
  ·cases h
 ·cases h
theorem aVX{t e:TypeId}{k len:Nat}{X I:Operand}{x i:AOpd}(hx:eO glob X=some x)(hi:eO glob I=some i)(ht:P.underlying t=some (.array len e))(hk:size? P e=some k)
  {z:AV} (h:evR H ρ (.iaA len k x i)=some z) (hw:WF g H w) (hg:bI P glob g) (hs:aT g ρ a.tmps):gW P ⟨dst,.indexAddr t X I,type,pos,after,guard⟩ a w (hJ g H w z):=by
 have hr:=aJ hx hg hs;have hri:=aJ hi hg hs;simp only[evR]at h
 split at h
 ·rename_i o v off ik n e1 e2;rw[e1]at hr;rw[e2]at hri;have ei:=hri.int_inv
  split at h
  ·rename_i hn;cases h;generalize hX:a.eval X=xv at hr;cases hr with
   |ptr o v off l b hl hv hh=>
    refine bE (w':=w) (v:=.pointer (some (b.add (n.toNat*k)))) (by simp only[execOp,hX,ei,Sem.run_bind,uA ht hk _ _ _ hn.1 hn.2,Result.andThen_ok,Sem.run_pure]) (.same hw (.ptr _ _ _ l _ hl hv fun e1 e2=>by rw[hh e1 e2,fP]))
  ·cases h
 ·rename_i row off ik n e1 e2;rw[e1]at hr;rw[e2]at hri;have ei:=hri.int_inv
  split at h
  ·rename_i hn;cases h;generalize hX:a.eval X=xv at hr;cases hr with
   |ep row off b base hst hp hh=>
    refine bE (w':=w) (v:=.pointer (some (Addr.add ⟨b,base+off,none⟩ (n.toNat*k)))) (by simp only[execOp,hX,ei,Sem.run_bind,uA ht hk _ _ _ hn.1 hn.2,Result.andThen_ok,Sem.run_pure]) (.same hw (by rw[fP,Nat.add_assoc];exact .ep _ _ b base hst hp hh))
  ·cases h
 ·cases h
theorem aVY{t:TypeId}{X I:Operand}{x i:AOpd}(hx:eO glob X=some x)(hi:eO glob I=some i)(ht:P.underlying t=some .string)
  {z:AV} (h:evR H ρ (.ixS x i)=some z) (hw:WF g H w) (hg:bI P glob g) (hs:aT g ρ a.tmps):gW P ⟨dst,.index t X I,type,pos,after,guard⟩ a w (hJ g H w z):=by
 have hr:=aJ hx hg hs;have hri:=aJ hi hg hs;simp only[evR]at h
 split at h
 ·rename_i s ik n e1 e2;rw[e1]at hr;rw[e2]at hri;have ei:=hri.int_inv;obtain⟨bs,ex,hbs⟩:=hr.str_inv
  split at h
  ·rename_i h0
   split at h
   ·rename_i c hc;cases h;have hb:bs[n.toNat]? = some c:=by
     rw[<- hbs]at hc;have hlt:n.toNat<bs.data.toList.length:=(List.getElem?_eq_some_iff.1 hc).1;have hlt':n.toNat<bs.size:=by simpa using hlt
     rw[getElem?_pos bs n.toNat hlt'];rw[List.getElem?_eq_getElem hlt]at hc;simp only[Option.some.injEq]at hc ⊢;rw[<- hc];simp;rfl
    refine bE (w':=w) ?_ (.same hw (.int _ _));simp only[execOp,ex,ei,Instr.index,Sem.run_bind,aDJ,run_underlying ht,Result.andThen_ok,h0,if_true,hb,Sem.run_pure]
   ·cases h
  ·cases h
 ·cases h
theorem aVZ{t e:TypeId}{k len:Nat}{agg:Bool}{X I:Operand}{x i:AOpd}(hx:eO glob X=some x)(hi:eO glob I=some i)(ht:P.underlying t=some (.array len e))(hsh:qG P e=some (k,agg))
  {z:AV} (h:evR H ρ (.ixA len k agg x i)=some z) (hw:WF g H w) (hg:bI P glob g) (hs:aT g ρ a.tmps):gW P ⟨dst,.index t X I,type,pos,after,guard⟩ a w (hJ g H w z):=by
 have hr:=aJ hx hg hs;have hri:=aJ hi hg hs;simp only[evR]at h
 split at h
 ·rename_i cs ik n e1 e2;rw[e1]at hr;rw[e2]at hri;have ei:=hri.int_inv;obtain⟨vs,ev,hl⟩:=hr.agg_list
  split at h
  ·rename_i hn;obtain⟨c,h1,h2⟩:=aFn (P:=P) (w:=w) hsh hl hn.2.2 h;have hc:0<=n/\n<(len:Int):=⟨hn.1,hn.2.1⟩;refine bE (w':=w) (v:=c) ?_ (.same hw h2);simp only[execOp,ev,ei,Instr.index,Sem.run_bind,aDJ,run_underlying ht,Result.andThen_ok,hc,and_self,if_true,fI (yA hsh).1,h1,Sem.run_pure]
  ·cases h
 ·cases h
theorem aSO{t:TypeId}{ty:TypeId}{X:Operand}{x:AOpd}(hx:eO glob X=some x)(ht:P.underlying t=some .string)
  {z:AV} (h:evR H ρ (.lenS x)=some z) (hw:WF g H w) (hg:bI P glob g) (hs:aT g ρ a.tmps):gW P ⟨dst,.call { callee:=.builtin .len,args := #[X],argTypes := #[t] },ty,pos,after,guard⟩ a w (hJ g H w z):=by
 have hr:=aJ hx hg hs;simp only[evR]at h
 split at h
 ·rename_i s e;rw[e]at hr;obtain⟨bs,ex,hbs⟩:=hr.str_inv;cases h;refine bE (w':=w) (v:=.int .i64 bs.size) ?_ (.same hw (by rw[rY hbs];exact .int _ _))
  simp[execOp,resolve,invoke,builtin,Builtin.len_,run_underlying ht,ex,goInt]
 ·cases h
theorem aSP{t e:TypeId}{ty:TypeId}{X:Operand}{x:AOpd}(hx:eO glob X=some x)(ht:P.underlying t=some (.slice e))
  {z:AV} (h:evR H ρ (.lenV x)=some z) (hw:WF g H w) (hg:bI P glob g) (hs:aT g ρ a.tmps):gW P ⟨dst,.call { callee:=.builtin .len,args := #[X],argTypes := #[t] },ty,pos,after,guard⟩ a w (hJ g H w z):=by
 have hr:=aJ hx hg hs;have fin:∀A n c,a.eval X=.slice A n c->z=.int .i64 n->gW P ⟨dst,.call { callee:=.builtin .len,args := #[X],argTypes := #[t] },ty,pos,after,guard⟩ a w (hJ g H w z):=fun A n c ex ez=>
  bE (w':=w) (v:=.int .i64 n) (by simp[execOp,resolve,invoke,builtin,Builtin.len_,run_underlying ht,ex,goInt]) (.same hw (by rw[ez];exact .int _ _))
 simp only[evR]at h
 split at h
 ·rename_i full rows e;rw[e]at hr;cases h;rcases hr.sl_inv with⟨er,ex⟩ | ⟨b,off,cap,k',ex,_⟩
  ·exact fin _ _ _ ex (by rw[er];rfl)
  ·exact fin _ _ _ ex rfl
 ·rename_i o v n e;rw[e]at hr;cases h;generalize hX:a.eval X=xv at hr;cases hr with
  |sr o v n0 l b cap hl hv hn0 hc0 hh=>exact fin _ _ _ hX rfl
 ·rename_i e;rw[e]at hr;cases h;generalize hX:a.eval X=xv at hr;cases hr;exact fin _ _ _ hX rfl
 ·cases h
theorem aSQ{t e:TypeId}{n:Nat}{ty:TypeId}{X:Operand}(ht:P.underlying t=some (.array n e))(hw:WF g H w):
  gW P ⟨dst,.call { callee:=.builtin .len,args := #[X],argTypes := #[t] },ty,pos,after,guard⟩ a w (hJ g H w (.int .i64 n)):=by
 refine bE (w':=w) (v:=.int .i64 n) ?_ (.same hw (.int _ _));simp[execOp,resolve,invoke,builtin,Builtin.len_,run_underlying ht,goInt]
theorem aQ4{X:Operand}{x:AOpd}{t:TypeId}{d:TypeDesc}(hd:P.underlying t=some d)(hn:∀ms,d≠.interface ms)(hx:eO glob X=some x)
  {z:AV} (h:evR H ρ (.mkifc t x)=some z) (hw:WF g H w) (hg:bI P glob g) (hs:aT g ρ a.tmps):gW P ⟨dst,.makeInterface t X,type,pos,after,guard⟩ a w (hJ g H w z):=by
 have hr:=aJ hx hg hs;simp only[evR]at h
 split at h
 ·rename_i hi;cases h;refine bE (w':=w) (v:=.iface t (a.eval X)) ?_ (.same hw (.ifc t _ _ hi hr));cases d<;>first | (exact absurd rfl (hn _)) | simp[execOp,Instr.makeInterface,run_underlying hd]
 ·cases h
theorem aW0{X:Operand}{x:AOpd}{n:Nat}(hx:eO glob X=some x)
  {z:AV} (h:evR H ρ (.ext n x)=some z) (hw:WF g H w) (hg:bI P glob g) (hs:aT g ρ a.tmps):gW P ⟨dst,.extract X n,type,pos,after,guard⟩ a w (hJ g H w z):=by
 have hr:=aJ hx hg hs;simp only[evR]at h
 split at h
 ·rename_i vs e;rw[e]at hr;obtain⟨us,ex,hl⟩:=hr.tup_list;have hlt:n<vs.length:=(List.getElem?_eq_some_iff.1 h).1;have hlt':n<us.size:=by have:=hl.1;simp at this;omega
  refine bE (w':=w) (v:=us[n]) ?_ (.same hw (hl.2 n z _ h (by simp[hlt'])))
  simp[execOp,ex,Instr.extract,hlt']
 ·cases h
end
section
variable {P:Program}{glob:Glob}{g:G}{H:List AObj}{w:World}{ρ:List AV}{a:Act}
variable {dst:Option Tmp}{type:TypeId}{pos:String}{after:Array Edge}{guard:Option (Nat×Bool)}
theorem aHa(off:Nat):∀(l:List Value) (k:Nat) (vs:Array Value),off+k+l.length<=vs.size ->
  ((l.zipIdx k).foldl (fun cs p=>cs.setIfInBounds (off+p.2) p.1) vs).toList=vs.toList.take (off+k)++l++vs.toList.drop (off+k+l.length)
 | [],k,vs,_=>by simp
 |x::l,k,vs,h=>by
  simp only[List.zipIdx_cons,List.foldl_cons];rw[aHa off l (k+1) _ (by simp at h ⊢;omega)]
  simp at h;apply List.ext_getElem?;intro i;simp only[Array.toList_setIfInBounds,List.getElem?_append,List.getElem?_take,List.getElem?_set,List.length_take,List.length_set,Array.length_toList,List.getElem?_drop,List.length_append,List.length_cons]
  by_cases h1:i<off+k
  ·have e1:i<min (off+(k+1)) vs.size+l.length:=by omega
   have e2:i<min (off+(k+1)) vs.size:=by omega
   have e3:i<min (off+k) vs.size+(l.length+1):=by omega
   have e4:i<min (off+k) vs.size:=by omega
   have e5:i<off+(k+1):=by omega
   have e6:¬(off+k=i):=by omega
   simp[e1,e2,e3,e4,e5,e6,h1]
  ·by_cases h2:i=off+k
   ·subst h2;have e1:off+k<min (off+(k+1)) vs.size+l.length:=by omega
    have e2:off+k<min (off+(k+1)) vs.size:=by omega
    have e3:off+k<min (off+k) vs.size+(l.length+1):=by omega
    have e4:¬(off+k<min (off+k) vs.size):=by omega
    have e5:off+k<off+(k+1):=by omega
    have e6:off+k - min (off+k) vs.size=0:=by omega
    have e7:off+k<vs.size:=by omega
    simp[e1,e2,e3,e4,e5,e6,e7]
   ·by_cases h3:i<off+k+1+l.length
    ·have e1:i<min (off+(k+1)) vs.size+l.length:=by omega
     have e2:¬(i<min (off+(k+1)) vs.size):=by omega
     have e3:i<min (off+k) vs.size+(l.length+1):=by omega
     have e4:¬(i<min (off+k) vs.size):=by omega
     have e5:i - min (off+k) vs.size=(i - min (off+(k+1)) vs.size)+1:=by omega
     simp[e1,e2,e3,e4,e5]
    ·have e1:¬(i<min (off+(k+1)) vs.size+l.length):=by omega
     have e3:¬(i<min (off+k) vs.size+(l.length+1)):=by omega
     have e6:off+(k+1)+l.length+(i - (min (off+(k+1)) vs.size+l.length))=i:=by omega
     have e7:off+k+(l.length+1)+(i - (min (off+k) vs.size+(l.length+1)))=i:=by omega
     have e8:¬(off+k=i):=by omega
     simp[e1,e3,e6,e7,e8]
theorem aBa{place:Nat->Option (Nat×Nat)}{cells:Array Value}{i off:Nat}{v:Value}{rest:List (Nat×Value)}(hp:place i=some (off,v.cells.size))(h:off+v.cells.size<=cells.size):
  ∃cells':Array Value,cells'.toList=cells.toList.take off++v.cells.toList++cells.toList.drop (off+v.cells.size)/\Instr.fill place cells ((i,v)::rest)=Instr.fill place cells' rest:=by
 refine⟨v.cells.zipIdx.foldl (fun cs p=>cs.setIfInBounds (off+p.2) p.1) cells, ?_, ?_⟩
 ·have:=aHa off v.cells.toList 0 cells (by simpa using h)
  rw[<- Array.foldl_toList,Array.toList_zipIdx];simpa using this
 ·simp only[Instr.fill,hp];have h1:¬(cells.size<off+v.cells.size):=by omega
  simp[h1]
theorem vC(cells:List AV)(off:Nat)(vs:List AV)(h:off+vs.length<=cells.length)(i:Nat):
  (nB cells off vs)[i]? = if off<=i/\i<off+vs.length then vs[i - off]? else cells[i]? := by
 unfold nB;simp only[List.getElem?_append,List.getElem?_take,List.length_take,List.length_append,List.getElem?_drop]
 by_cases h1:i<off
 ·have e1:i<min off cells.length+vs.length:=by omega
  have e2:i<min off cells.length:=by omega
  have e3:¬(off<=i/\i<off+vs.length):=by omega
  simp[e1,e2,e3,h1]
 ·by_cases h2:i<off+vs.length
  ·have e3:off<=i/\i<off+vs.length:=by omega
   have e4:min off cells.length=off:=by omega
   simp[e3,e4,h1]
  ·have e1:¬(i<min off cells.length+vs.length):=by omega
   have e3:¬(off<=i/\i<off+vs.length):=by omega
   have e4:off+vs.length+(i - (min off cells.length+vs.length))=i:=by omega
   simp[e1,e3,e4]
theorem aAw(cells:List AV)(off:Nat)(vs:List AV)(h:off+vs.length<=cells.length):(nB cells off vs).length=cells.length:=by
 unfold nB;simp;omega
theorem aFo(cells:List Value)(off:Nat)(vs:List Value)(h:off+vs.length<=cells.length)(i:Nat):
  (cells.take off++vs++cells.drop (off+vs.length))[i]? = if off<=i/\i<off+vs.length then vs[i - off]? else cells[i]? := by
 simp only[List.getElem?_append,List.getElem?_take,List.length_take,List.length_append,List.getElem?_drop]
 by_cases h1:i<off
 ·have e1:i<min off cells.length+vs.length:=by omega
  have e2:i<min off cells.length:=by omega
  have e3:¬(off<=i/\i<off+vs.length):=by omega
  simp[e1,e2,e3,h1]
 ·by_cases h2:i<off+vs.length
  ·have e3:off<=i/\i<off+vs.length:=by omega
   have e4:min off cells.length=off:=by omega
   simp[e3,e4,h1]
  ·have e1:¬(i<min off cells.length+vs.length):=by omega
   have e3:¬(off<=i/\i<off+vs.length):=by omega
   have e4:off+vs.length+(i - (min off cells.length+vs.length))=i:=by omega
   simp[e1,e3,e4]
theorem fO.fill{cs:List AV}{xs:List Value}(h:fO g cs xs){vs:List AV}{ys:List Value}(hv:fO g vs ys){off:Nat}(ho:off+vs.length<=cs.length):
  fO g (nB cs off vs) (xs.take off++ys++xs.drop (off+ys.length)):=by
 have h1:=h.1;have h2:=hv.1;refine⟨by rw[aAw _ _ _ ho];simp;omega,fun i c x hc hx => ?_⟩
 rw[vC _ _ _ ho]at hc;rw[aFo _ _ _ (by omega)]at hx
 by_cases hi:off<=i/\i<off+vs.length
 ·rw[if_pos hi]at hc;rw[if_pos (by omega)]at hx
  exact hv.2 _ c x hc hx
 ·rw[if_neg hi]at hc;rw[if_neg (by omega)]at hx
  exact h.2 _ c x hc hx
theorem aBW{place:Nat->Option (Nat×Nat)}:∀(parts:List (Nat×Operand)) (aps:List (Nat×Nat×AOpd)),
  parts.length=aps.length->(∀(j:Nat) i X o s x,parts[j]? = some (i,X)->aps[j]? = some (o,s,x)->place i=some (o,s)/\((x.ev ρ).cells.length=s->(x.ev ρ).cells.all AV.cellOk=true->fO g (x.ev ρ).cells (a.eval X).cells.toList)) ->
  ∀(cs:List AV) (cells:Array Value),fO g cs cells.toList->∀out,gM ρ cs aps=some out ->
  ∃cells':Array Value,Instr.fill place cells (parts.map fun p=>(p.1,a.eval p.2))=some cells'/\fO g out cells'.toList
 | [],aps,hl,_,cs,cells,hr,out,h=>by
  cases aps with
  |nil=>simp only[gM,Option.some.injEq]at h;subst h;exact⟨cells,rfl,hr⟩
  |cons _ _=>simp at hl
 | (i,X)::parts,aps,hl,hp,cs,cells,hr,out,h=>by
  cases aps with
  |nil=>simp at hl
  |cons p aps=>
   obtain⟨o,s,x⟩:=p;simp only[gM]at h
   split at h
   ·rename_i hc;obtain⟨h1,h2⟩:=hp 0 i X o s x rfl rfl;have hv:=h2 hc.1 hc.2.2;have hlv:=hv.1;have hlc:=hr.1;simp only[Array.length_toList]at hlv hlc;obtain⟨cells1,e1,e2⟩:=aBa (place:=place) (cells:=cells) (i:=i) (off:=o) (v:=a.eval X) (rest:=parts.map fun p=>(p.1,a.eval p.2)) (by rw[h1];simp;omega) (by omega)
    have hr1:fO g (nB cs o (x.ev ρ).cells) cells1.toList:=by
     rw[e1];have:=hr.fill hv (off:=o) (by omega)
     simpa using this
    obtain⟨cells',e3,e4⟩:=aBW parts aps (by simpa using hl) (fun j i X o s x h1 h2=>hp (j+1) i X o s x (by simpa using h1) (by simpa using h2)) _ cells1 hr1 out h
    exact⟨cells',by simp only[List.map_cons];rw[e2];exact e3,e4⟩
   ·cases h
theorem zeroCells?_spec{t:TypeId}{zs:List AV}(h:zeroCells? P glob t=some zs):∃i z,P.info? t=some i/\i.zero=some z/\∀g,fO g zs z.cells.toList:=by
 unfold zeroCells? at h;cases hi:P.info? t with
 |none=>simp[hi]at h
 |some i=>
  simp only[hi,Option.bind_some]at h;cases hz:i.zero with
  |none=>simp[hz]at h
  |some z=>simp only[hz,Option.bind_some]at h;exact⟨i,z,rfl,hz,zR h⟩
theorem aDK:∀(l:List Field),(∀f∈l,(size? P f.type).isSome=true) ->
  l.mapM (fun f=>(P.info? f.type).map fun i=>(f.offset,i.size))=some (l.map fun f=>(f.offset,(size? P f.type).getD 0))
 | [],_=>rfl
 |f::l,h=>by
  have ih:=aDK l fun f hf=>h f (List.mem_cons_of_mem _ hf);have h0:=h f (by simp)
  obtain⟨n,hn⟩:=Option.isSome_iff_exists.1 h0;obtain⟨i,hi,hs⟩:=size?_info hn;simp[List.mapM_cons,hi,ih,hn,hs]
theorem aDL{fields:Array Field}:∀{parts:List (Nat×Operand)} {aps:List (Nat×Nat×AOpd)},aFi P glob fields parts=some aps ->
  parts.length=aps.length/\∀(j:Nat) i X o s x,parts[j]? = some (i,X)->aps[j]? = some (o,s,x)->∃f,fields[i]? = some f/\size? P f.type=some s/\o=f.offset/\eO glob X=some x
 | [],aps,h=>by simp only[aFi,Option.some.injEq]at h;subst h;exact⟨rfl,fun j i X o s x h1 _=>by simp at h1⟩
 | (i,X)::r,aps,h=>by
  unfold aFi at h
  split at h
  ·cases h
  ·rename_i f hf
   split at h
   ·rename_i n x r' hn hx hr';cases h;obtain⟨h1,h2⟩:=aDL hr';refine⟨by simp[h1],fun j i' X' o s x' e1 e2 => ?_⟩
    cases j with
    |zero=>simp at e1 e2;obtain⟨rfl,rfl⟩:=e1;obtain⟨rfl,rfl,rfl⟩:=e2;exact⟨f,hf,hn,rfl,hx⟩
    |succ j=>exact h2 j i' X' o s x' (by simpa using e1) (by simpa using e2)
   ·cases h
theorem aDM{n:Nat}:∀{parts:List (Nat×Operand)} {aps:List (Nat×Nat×AOpd)},aFj glob n parts=some aps ->
  parts.length=aps.length/\∀(j:Nat) i X o s x,parts[j]? = some (i,X)->aps[j]? = some (o,s,x)->o=i*n/\s=n/\eO glob X=some x
 | [],aps,h=>by simp only[aFj,Option.some.injEq]at h;subst h;exact⟨rfl,fun j i X o s x h1 _=>by simp at h1⟩
 | (i,X)::r,aps,h=>by
  unfold aFj at h
  split at h
  ·rename_i x r' hx hr';cases h;obtain⟨h1,h2⟩:=aDM hr';refine⟨by simp[h1],fun j i' X' o s x' e1 e2 => ?_⟩
   cases j with
   |zero=>simp at e1 e2;obtain⟨rfl,rfl⟩:=e1;obtain⟨rfl,rfl,rfl⟩:=e2;exact⟨rfl,rfl,hx⟩
   |succ j=>exact h2 j i' X' o s x' (by simpa using e1) (by simpa using e2)
  ·cases h
theorem aLF{t:TypeId}{parts:Array (Nat×Operand)}{zs:List AV}{aps:List (Nat×Nat×AOpd)}(hz:zeroCells? P glob t=some zs)
  (hd:(∃fields:Array Field,P.underlying t=some (.struct fields)/\fields.all (fun f=>(size? P f.type).isSome)=true/\aFi P glob fields parts.toList=some aps) ∨
   (∃n e k,P.underlying t=some (.array n e)/\size? P e=some k/\aFj glob k parts.toList=some aps))
  {av:AV} (h:evR H ρ (.build zs aps)=some av) (hw:WF g H w) (hg:bI P glob g) (hs:aT g ρ a.tmps):
  gW P ⟨dst,.build t parts,type,pos,after,guard⟩ a w (hJ g H w av):=by
 simp only[evR]at h;obtain⟨out,hout,rfl⟩:=map_some h;obtain⟨it,z,hi,hzz,hzr⟩:=zeroCells?_spec hz;have cellsOk:∀(X:Operand) (x:AOpd),eO glob X=some x->(x.ev ρ).cells.all AV.cellOk=true->fO g (x.ev ρ).cells (a.eval X).cells.toList:=fun X x hx hok=>(aJ hx hg hs).cells hok;have key:∃cells:Array Value,P.built t (parts.map fun p=>(p.1,a.eval p.2)).toList=some cells/\fO g out cells.toList:=by
  rcases hd with⟨fields,hu,hall,hp⟩ | ⟨n,e,k,hu,hk,hp⟩
  ·obtain⟨h1,h2⟩:=aDL hp;have hall':∀f∈fields.toList,(size? P f.type).isSome=true:=fun f hf=>by
    rw[Array.all_eq_true_iff_forall_mem]at hall;exact hall f (by simpa using hf)
   obtain⟨cells,e1,e2⟩:=aBW (g:=g) (a:=a) (ρ:=ρ) (place:=fun i=>((fields.toList.map fun f=>(f.offset,(size? P f.type).getD 0)).toArray)[i]?) parts.toList aps h1
    (fun j i X o s x e1 e2=>by
     obtain⟨f,hf,hsz,ho,hx⟩:=h2 j i X o s x e1 e2;refine⟨?_,fun _ hok=>cellsOk X x hx hok⟩;simp[hf,hsz,ho]) zs z.cells (hzr g) out hout
   refine⟨cells, ?_,e2⟩;unfold Program.built;simp only[hi,hu,hzz,aDK fields.toList hall',Array.toList_map];exact e1
  ·obtain⟨h1,h2⟩:=aDM hp;obtain⟨ie,hie,hsz⟩:=size?_info hk;obtain⟨cells,e1,e2⟩:=aBW (g:=g) (a:=a) (ρ:=ρ) (place:=fun i=>some (i*ie.size,ie.size)) parts.toList aps h1
    (fun j i X o s x e1 e2=>by
     obtain⟨ho,hs',hx⟩:=h2 j i X o s x e1 e2;refine⟨?_,fun _ hok=>cellsOk X x hx hok⟩;simp[ho,hs',hsz]) zs z.cells (hzr g) out hout
   refine⟨cells, ?_,e2⟩;unfold Program.built;simp only[hi,hu,hzz,hie,Array.toList_map];exact e1
 obtain⟨cells,e1,e2⟩:=key;refine bE (w':=w) (v:=.agg cells) ?_ (.same hw e2.agg);simp only[execOp,Sem.run_bind,run_build w t _ cells e1,Result.andThen_ok,Sem.run_pure]
end
section
variable {P:Program}{glob:Glob}{g:G}{H:List AObj}{w:World}{ρ:List AV}{a:Act}
variable {dst:Option Tmp}{type:TypeId}{pos:String}{after:Array Edge}{guard:Option (Nat×Bool)}
structure RowsRel(g:G)(k:Nat)(rows:List (List AV))(cells:List Value):Prop where
 len:cells.length=rows.length*k
 row:∀row∈rows,row.length=k
 rel:∀(i j:Nat) (row:List AV) c x,rows[i]? = some row->row[j]? = some c->cells[i*k+j]? = some x->VRel g c x
theorem RowsRel.mono{g g':G}(hg:g.le g'){k:Nat}{rows:List (List AV)}{cells:List Value}(h:RowsRel g k rows cells):RowsRel g' k rows cells:=
 ⟨h.len,h.row,fun i j row c x h1 h2 h3=>(h.rel i j row c x h1 h2 h3).mono hg⟩
theorem eC{i j n k:Nat}(hi:i<n)(hj:j<k):i*k+j<n*k:=by
 have:(i+1)*k<=n*k:=Nat.mul_le_mul_right _ hi;rw[Nat.add_mul,Nat.one_mul]at this;omega
theorem aJK{i j i' j' k:Nat}(hj:j<k)(hj':j'<k)(h:i*k+j=i'*k+j'):i=i'/\j=j':=by
 have h1:(i*k+j) / k=i:=by rw[Nat.mul_comm,Nat.mul_add_div (by omega)];rw[Nat.div_eq_of_lt hj];omega
 have h2:(i'*k+j') / k=i':=by rw[Nat.mul_comm,Nat.mul_add_div (by omega)];rw[Nat.div_eq_of_lt hj'];omega
 have:i=i':=by rw[<- h1,<- h2,h]
 subst this;exact⟨rfl,by omega⟩
theorem RowsRel.set{k:Nat}{rows:List (List AV)}{cells:List Value}(h:RowsRel g k rows cells){i:Nat}(hi:i<rows.length){vs:List AV}{ys:List Value}(hv:fO g vs ys)(hk:vs.length=k):
  RowsRel g k (rows.set i vs) (cells.take (i*k)++ys++cells.drop (i*k+ys.length)):=by
 have hl:=hv.1;have hb:i*k+k<=rows.length*k:=by
  have:(i+1)*k<=rows.length*k:=Nat.mul_le_mul_right _ hi
  rwa [Nat.add_mul,Nat.one_mul]at this
 have hlen:=h.len;refine⟨by simp;omega,fun row hm => ?_,fun i' j row c x h1 h2 h3 => ?_⟩
 ·rcases List.mem_or_eq_of_mem_set hm with hm' | rfl
  ·exact h.row row hm'
  ·exact hk
 ·have hj:j<row.length:=(List.getElem?_eq_some_iff.1 h2).1;rw[aFo _ _ _ (by omega)]at h3
  by_cases e:i'=i
  ·subst e;simp[hi]at h1;subst h1;rw[if_pos (by omega),show i'*k+j - i'*k=j by omega]at h3
   exact hv.2 j c x h2 h3
  ·rw[getElem?_set_ne' _ _ (Ne.symm e)]at h1;have hrk:=h.row row (List.mem_of_getElem? h1);have hjk:j<k:=hrk ▸ hj;clear hrk hj;rw[if_neg (fun hh=>e (aJK (j:=j) (j':=i'*k+j - i*k) hjk (by omega) (by omega)).1)]at h3
   exact h.rel i' j row c x h1 h2 h3
theorem VRel.sl_new{k:Nat}{rows:List (List AV)}{b:Nat}{cells:Array Value}{f:Bool}{cap:Nat}(hst:rows.all (fun r=>r.all AV.still)=true)(hcap:rows.length<=cap)(hf:f=true->cap=rows.length)
  (h:RowsRel (g.addPerm b fun i=>cells[i]?) k rows ((cells.toList).take (rows.length*k))):VRel (g.addPerm b fun i=>cells[i]?) (.sl f rows) (.slice (some ⟨b,0,none⟩) rows.length cap):=by
 have hsz:rows.length*k<=cells.size:=by have:=h.len;simp at this;omega
 refine .sl f rows b 0 cap k hcap hf h.row (List.all_eq_true.1 hst) (fun i j hi hj => ?_) fun i j row c x h1 h2 h3 => ?_
 ·have:=eC hi hj;simp only[G.addPerm,if_true,Nat.zero_add];rw[Array.getElem?_eq_getElem (by omega)];rfl
 ·have hi:i<rows.length:=(List.getElem?_eq_some_iff.1 h1).1;have hj:j<row.length:=(List.getElem?_eq_some_iff.1 h2).1;have hjk:j<k:=by have:=h.row row (List.mem_of_getElem? h1);omega
  have:=eC hi hjk;simp only[G.addPerm,if_true,Nat.zero_add]at h3;refine h.rel i j row c x h1 h2 ?_;rw[List.getElem?_take,if_pos this];simpa using h3
theorem aAx{len:Nat}:∀{parts:List (Nat×Operand)} {aps:List (Nat×AOpd)},aDF glob len parts=some aps ->
  parts.length=aps.length/\∀(j:Nat) i X i' x,parts[j]? = some (i,X)->aps[j]? = some (i',x)->i'=i/\i<len/\eO glob X=some x
 | [],aps,h=>by simp only[aDF,Option.some.injEq]at h;subst h;exact⟨rfl,fun j i X o s h1 _=>by simp at h1⟩
 | (i,X)::r,aps,h=>by
  unfold aDF at h
  split at h
  ·rename_i x r' hx hr'
   split at h
   ·rename_i hi;cases h;obtain⟨h1,h2⟩:=aAx hr';refine⟨by simp[h1],fun j i' X' i2 x' e1 e2 => ?_⟩
    cases j with
    |zero=>simp at e1 e2;obtain⟨rfl,rfl⟩:=e1;obtain⟨rfl,rfl⟩:=e2;exact⟨rfl,hi,hx⟩
    |succ j=>exact h2 j i' X' i2 x' (by simpa using e1) (by simpa using e2)
   ·cases h
  ·cases h
theorem aCG{v:AV}(h:v.still=true):v.cellOk=true:=by cases v<;>simp_all [AV.still,AV.cellOk]
theorem iL{l:List AV}(h:l.all AV.still=true):l.all AV.cellOk=true:=by
 rw[List.all_eq_true]at h ⊢;exact fun v hv=>aCG (h v hv)
theorem uB{rows:List (List AV)}(h:rows.all (fun r=>r.all AV.still)=true):rows.all (fun r=>r.all AV.cellOk)=true:=by
 rw[List.all_eq_true]at h ⊢;exact fun r hr=>iL (h r hr)
theorem aAe{k:Nat}:∀(parts:List (Nat×Operand)) (aps:List (Nat×AOpd)),
  parts.length=aps.length->(∀(j:Nat) i X i' x,parts[j]? = some (i,X)->aps[j]? = some (i',x)->i'=i/\VRel g (x.ev ρ) (a.eval X)) ->
  ∀(rows:List (List AV)) (cells:Array Value),RowsRel g k rows cells.toList->rows.all (fun r=>r.all AV.still)=true->∀out,lG ρ k rows aps=some out ->
  ∃cells':Array Value,Instr.fill (fun i=>some (i*k,k)) cells (parts.map fun p=>(p.1,a.eval p.2))=some cells'/\RowsRel g k out cells'.toList/\out.length=rows.length/\out.all (fun r=>r.all AV.still)=true
 | [],aps,hl,_,rows,cells,hr,hst,out,h=>by
  cases aps with
  |nil=>simp only[lG,Option.some.injEq]at h;subst h;exact⟨cells,rfl,hr,rfl,hst⟩
  |cons _ _=>simp at hl
 | (i,X)::parts,aps,hl,hp,rows,cells,hr,hst,out,h=>by
  cases aps with
  |nil=>simp at hl
  |cons p aps=>
   obtain⟨i',x⟩:=p;simp only[lG]at h
   split at h
   ·rename_i hc;obtain⟨h1,h2⟩:=hp 0 i X i' x rfl rfl;subst h1;have hv:=h2.strip.cells (iL hc.2.2);have hlv:=hv.1;simp only[Array.length_toList]at hlv;have hlen:=hr.len;simp only[Array.length_toList]at hlen;have hb:i'*k+k<=rows.length*k:=by
     have:(i'+1)*k<=rows.length*k:=Nat.mul_le_mul_right _ hc.2.1
     rwa [Nat.add_mul,Nat.one_mul]at this
    obtain⟨cells1,e1,e2⟩:=aBa (place:=fun i=>some (i*k,k)) (cells:=cells) (i:=i') (off:=i'*k) (v:=a.eval X) (rest:=parts.map fun p=>(p.1,a.eval p.2)) (by simp;omega) (by omega)
    have hr1:RowsRel g k (rows.set i' (x.ev ρ).strip.cells) cells1.toList:=by
     rw[e1];have:=hr.set hc.2.1 hv hc.1;simpa using this
    have hst1:(rows.set i' (x.ev ρ).strip.cells).all (fun r=>r.all AV.still)=true:=by
     rw[List.all_eq_true]at hst ⊢;intro r hm;rcases List.mem_or_eq_of_mem_set hm with hm' | rfl
     ·exact hst r hm'
     ·exact hc.2.2
    obtain⟨cells',e3,e4,e5,e6⟩:=aAe parts aps (by simpa using hl) (fun j i X o x h1 h2=>hp (j+1) i X o x (by simpa using h1) (by simpa using h2)) _ cells1 hr1 hst1 out h
    exact⟨cells',by simp only[List.map_cons];rw[e2];exact e3,e4,by rw[e5];simp,e6⟩
   ·cases h
theorem yB{k:Nat}:∀(parts:List (Nat×Operand)) (aps:List (Nat×AOpd)),
  parts.length=aps.length->(∀(j:Nat) i X i' x,parts[j]? = some (i,X)->aps[j]? = some (i',x)->i'=i/\VRel g (x.ev ρ) (a.eval X)) ->
  ∀(rows:List (List AV)) (cells:Array Value),RowsRel g k rows cells.toList->rows.all (fun r=>r.all AV.cellOk)=true->∀out,iY ρ k rows aps=some out ->
  ∃cells':Array Value,Instr.fill (fun i=>some (i*k,k)) cells (parts.map fun p=>(p.1,a.eval p.2))=some cells'/\RowsRel g k out cells'.toList/\out.length=rows.length/\out.all (fun r=>r.all AV.cellOk)=true
 | [],aps,hl,_,rows,cells,hr,hst,out,h=>by
  cases aps with
  |nil=>simp only[iY,Option.some.injEq]at h;subst h;exact⟨cells,rfl,hr,rfl,hst⟩
  |cons _ _=>simp at hl
 | (i,X)::parts,aps,hl,hp,rows,cells,hr,hst,out,h=>by
  cases aps with
  |nil=>simp at hl
  |cons p aps=>
   obtain⟨i',x⟩:=p;simp only[iY]at h
   split at h
   ·rename_i hc;obtain⟨h1,h2⟩:=hp 0 i X i' x rfl rfl;subst h1;have hv:=h2.strip.cells hc.2.2;have hlv:=hv.1;simp only[Array.length_toList]at hlv;have hlen:=hr.len;simp only[Array.length_toList]at hlen;have hb:i'*k+k<=rows.length*k:=by
     have:(i'+1)*k<=rows.length*k:=Nat.mul_le_mul_right _ hc.2.1
     rwa [Nat.add_mul,Nat.one_mul]at this
    obtain⟨cells1,e1,e2⟩:=aBa (place:=fun i=>some (i*k,k)) (cells:=cells) (i:=i') (off:=i'*k) (v:=a.eval X) (rest:=parts.map fun p=>(p.1,a.eval p.2)) (by simp;omega) (by omega)
    have hr1:RowsRel g k (rows.set i' (x.ev ρ).strip.cells) cells1.toList:=by
     rw[e1];have:=hr.set hc.2.1 hv hc.1;simpa using this
    have hst1:(rows.set i' (x.ev ρ).strip.cells).all (fun r=>r.all AV.cellOk)=true:=by
     rw[List.all_eq_true]at hst ⊢;intro r hm;rcases List.mem_or_eq_of_mem_set hm with hm' | rfl
     ·exact hst r hm'
     ·exact hc.2.2
    obtain⟨cells',e3,e4,e5,e6⟩:=yB parts aps (by simpa using hl) (fun j i X o x h1 h2=>hp (j+1) i X o x (by simpa using h1) (by simpa using h2)) _ cells1 hr1 hst1 out h
    exact⟨cells',by simp only[List.map_cons];rw[e2];exact e3,e4,by rw[e5];simp,e6⟩
   ·cases h
theorem aDs{k n:Nat}{zs:List AV}{z:Array Value}(hz:fO g zs z.toList)(hk:zs.length=k):
  RowsRel g k (List.replicate n zs) (((Array.range (n*k)).map (z[· % z.size]!)).toList):=by
 have hzs:z.size=k:=by have:=hz.1;simp at this;omega
 refine⟨by simp,fun row hm=>by rw[(List.mem_replicate.1 hm).2,hk],fun i j row c x h1 h2 h3 => ?_⟩
 have hrow:row=zs:=(List.mem_replicate.1 (List.mem_of_getElem? h1)).2;subst hrow;have hi:i<n:=by have:=(List.getElem?_eq_some_iff.1 h1).1;simpa using this
 have hj:j<k:=by have:=(List.getElem?_eq_some_iff.1 h2).1;omega
 have hlt:=eC hi hj;have hmod:(i*k+j) % k=j:=by rw[Nat.mul_comm,Nat.mul_add_mod,Nat.mod_eq_of_lt hj]
 have hjz:j<z.size:=by omega
 simp[hlt,hzs,hmod]at h3;refine hz.2 j c x h2 ?_;rw[<- h3];simp[hjz]
theorem aHb{v:AV}(h:v.still=true):v.strip1.still=true:=by cases v<;>simp_all [AV.still,AV.strip1]
theorem iM{l:List AV}(h:l.all AV.still=true):(l.map AV.strip1).all AV.still=true:=by
 rw[List.all_eq_true]at h ⊢;intro v hv;obtain⟨u,hu,rfl⟩:=List.mem_map.1 hv;exact aHb (h u hu)
theorem aAf{t e:TypeId}{k n:Nat}{i:TypeInfo}{z:Value}(ht:P.underlying t=some (.slice e))(hi:P.info? e=some i)(hsz:i.size=k)(hz:i.zero=some z)(hn:n*k<=16777216)
  {parts:Array (Nat×Value)} {cells:Array Value} (hf:Instr.fill (fun i=>some (i*k,k)) ((Array.range (n*k)).map (z.cells[· % z.cells.size]!)) parts.toList=some cells):
  (Instr.buildSlice t n parts).run P w=.ok (.slice (some ⟨w.heap.size,0,none⟩) n n) (w.alloc (.cells cells e)):=by
 have:¬(n*k>2 ^ 24):=by simp;omega
 by_cases hz0:n*k=0
 ·have he:((Array.range (n*k)).map fun(x:Nat)=>(#[]:Array Value)[x % (#[]:Array Value).size]!)=((Array.range (n*k)).map (z.cells[· % z.cells.size]!)):=by simp[hz0]
  rw[<- he]at hf;simp only[Instr.buildSlice,Sem.run_bind,run_underlying ht,Result.andThen_ok,sizeOf,typeInfo,run_program,hi,hsz,Sem.run_pure,Sem.run_ite,hz0,if_true];rw[hz0]at hf this;simp only[this,if_false,Sem.run_pure,Result.andThen_ok,hf,newRow,run_newObj,Sem.run_bind,World.alloc_eq]
 ·simp only[Instr.buildSlice,Sem.run_bind,run_underlying ht,Result.andThen_ok,sizeOf,typeInfo,run_program,hi,hsz,Sem.run_pure,Sem.run_ite,zeroValue,hz,hz0,if_false];simp only[this,if_false,Sem.run_pure,Result.andThen_ok,hf,newRow,run_newObj,Sem.run_bind,World.alloc_eq]
theorem aW1{t e:TypeId}{k n:Nat}{parts:Array (Nat×Operand)}{zs:List AV}{aps:List (Nat×AOpd)}(ht:P.underlying t=some (.slice e))(hk:size? P e=some k)(hz:zeroCells? P glob e=some zs)(hp:aDF glob n parts.toList=some aps)
  (hzl:zs.length=k) (hn:n*k<=16777216) (hst:zs.all AV.still=true)
  {av:AV} (h:evR H ρ (.bsl k (zs.map AV.strip1) n aps)=some av) (hw:WF g H w) (hg:bI P glob g) (hs:aT g ρ a.tmps):
  gW P ⟨dst,.buildSlice t n parts,type,pos,after,guard⟩ a w (hJ g H w av):=by
 simp only[evR]at h;obtain⟨out,hout,rfl⟩:=map_some h;obtain⟨it,z,hi,hzz,hzr⟩:=zeroCells?_spec hz;obtain⟨i',hi',hsz⟩:=size?_info hk;rw[hi]at hi';cases hi';obtain⟨h1,h2⟩:=aAx hp;have hz0:RowsRel g k (List.replicate n (zs.map AV.strip1)) (((Array.range (n*k)).map (z.cells[· % z.cells.size]!)).toList):=aDs (hzr g).strip1 (by simpa using hzl)
 obtain⟨cells,e1,e2,e3,e4⟩:=aAe (g:=g) (a:=a) (ρ:=ρ) parts.toList aps h1 (fun j i X i' x e1 e2=>by
  obtain⟨ho,_,hx⟩:=h2 j i X i' x e1 e2;exact⟨ho,aJ hx hg hs⟩) _ _ hz0 (by rw[List.all_eq_true];intro r hm;rw[(List.mem_replicate.1 hm).2];exact iM hst) out hout
 have hlen:out.length=n:=by rw[e3];simp
 have hstep:=Step.allocPerm (w':=w.alloc (.cells cells e)) hw cells e (0,0) rfl;refine bE (v:=.slice (some ⟨w.heap.size,0,none⟩) n n) (w':=w.alloc (.cells cells e)) ?_ ⟨_,hstep, ?_⟩
 ·have hf:Instr.fill (fun i=>some (i*k,k)) ((Array.range (n*k)).map (z.cells[· % z.cells.size]!)) (parts.map fun p=>(p.1,a.eval p.2)).toList=some cells:=by rw[Array.toList_map];exact e1
  simp only[execOp,Sem.run_bind,aAf ht hi hsz hzz hn hf,Result.andThen_ok,Sem.run_pure]
 ·have hr:RowsRel (g.addPerm w.heap.size fun i=>cells[i]?) k out (cells.toList.take (out.length*k)):=by
   have hl:=(e2.mono hstep.le).len;rw[List.take_of_length_le (by omega)]
   exact e2.mono hstep.le
  have:=VRel.sl_new (f:=true) (cap:=n) e4 (by omega) (fun _=>hlen.symm) hr
  rwa [hlen]at this
end
end Go.AM
end
