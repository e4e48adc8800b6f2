/- Part 6. -/
import Derived.Test.YtkhdngmjkokcgaaGreatDoorK02
import Derived.Test.YtkhdngmjkokcgaaGreatDoorK03
import Derived.Test.YtkhdngmjkokcgaaGreatDoorK04
import Derived.Test.YtkhdngmjkokcgaaGreatDoorK05
import Derived.KernelRfl
set_option linter.all false
set_option maxHeartbeats 3200000
set_option maxRecDepth 10000000
open Bool renaming and_eq_true->AI,not_eq_true'->KB,false_ne_true->ED,and_true->Bx,true_and->BR,eq_iff_iff->DS,false_beq->Aa,not_not->PE,true_beq->CE,or_self->IJ,false_eq_true->BX,not_eq_true->GB,or_eq_false_iff->MO,true->Pa,false->Po
open Go.IntKind renaming wrap->GA,i64->AR,bits->LK,signed->KC
open Int renaming natCast_add->KO
open List renaming mem_cons->BD,not_mem_nil->CC,all_eq_true->AO,mem_cons_self->HD,mem_cons_of_mem->BZ,all_cons->ES,all_nil->MB,replicate->AX,getElem?_set_ne->CL,mem_append_left->CZ,mem_append_right->CX,map_cons->BI,getElem?_map->BN,getElem?_eq_getElem->AP,length_append->BA,length_cons->AW,length_nil->AZ,drop_eq_getElem_cons->FD,take_of_length_le->CH,drop_eq_nil_of_le->DH,getElem_mem->AS,take->FW,drop->KW,sizeOf_lt_of_mem->GY,exists_cons_of_ne_nil->ER,range->GZ,cons_append->DO,nil_append->CW,take_succ_cons->AA,getElem_cons_succ->MD,ext_getElem?->HN,getElem?_set_self->BW,isEmpty_cons->NM,length_map->AF,map_append->DQ,set_set->EO,getElem?_append_right->BU,getElem?_append_left->BM,set_append_left->DX,set_comm->JR,append_nil->AJ,length_set->CP,getElem?_range->HQ,append_assoc->CJ,set_append_right->IP,length_replicate->MI,getElem?_replicate->IN,mem_append->AY,nodup_cons->IV,reverse_cons->NN,contains_iff_mem->EH,count_cons->LP,any_cons->Ha,mem_reverse->JW,take_zero->AE,any_eq_false->KH,take_append_drop->IQ,nodup_append->NO,length_pos_iff->MY,length_eq_one_iff->FQ,range'->FM,mem_range'_1->FC,mem_singleton->CG
open Nat renaming le_refl->AQ,le_add_right->EG,le_of_ble_eq_true->MN,le_max_left->GJ,le_max_right->GC,le_of_eq->PM,lt_succ_self->HR,zero_add->BC,add_sub_cancel_left->FL,mul_one->FK,sub_self->GD,zero_le->FF,succ_mul->JS,mul_le_mul_right->BO
open Option renaming elim_some->HC,some->N1,none->N2
open Prod renaming fst->EM,snd->GQ
open UInt8 renaming ofNat->CN,toNat_lt->EC
open Bool renaming not_true->BT,not_false->BF
noncomputable section
namespace Go.AM
open Go
variable {v x:AV}{K:AV->LO->LN->Prop}{b agg q:Bool}{c:Ctx}{op w hh:Int}{args r cs first ay zs:LA}{X:LA->LO}{wr W:LN}{H H' Z:LO}{rows:List LA}{m n k base o i name N h f2 fi f1 L ver ty o2 v2 M:Nat}{I:Nat->LO->Prop}{site:Option Nat}{α:Type}{A:af}{body:ag}{ρ:bN}{J:bN->LO->LN->Prop}{Q:bf->bN->LO->LN->Prop}{fn:bw}{l:List α}{a:α}{p:α->Bool}{enc:α->LA}{P:α->Prop}{e:α->α->Bool}
def tU:List (LA×AV)->aIP
 | [],_,_=>N2
 | (a,v)::r,args,H=>if aT5 (aPG 10) a args=Pa then N1 (v,[],[])else tU r args H
def aGs:∀{tab:List (LA×AV)}{args:LA}{H:LO}{r},tU tab args H=N1 r->∃v,(args,v)∈tab/\r=(v,[],[])
 | [],_,_,_,h=>by cases h
 | (a,v)::t,args,H,r,h=>by
  unfold tU at h;split at h
  .rename_i e;cases h;have:=aEf (aJj 10) _ _ e;subst this;exact⟨v,siT,rfl⟩
  obtain⟨v',h1,h2⟩:=aGs h;exact⟨v',by simp[h1],h2⟩
def aKD{n:Nat}:∀{l:LA},dJ n l=Pa->∀(i:Nat) a,l[i]? = N1 a->a.under n=Pa
 | [],_,i,a,h=>by simp at h
 |v::r,hu,i,a,h=>by
  simp only[dJ,AI]at hu;cases i with
  |zero=>simp at h;subst h;exact hu.1
  |succ i=>exact aKD hu.2 i a uWg
def aGt{P:Program}{ab:cu}(hA:Good P ab A)(B4:∀n row,ab.row n=N1 row->dJ 0 row=Pa){f:Nat}{tab:List (LA×AV)}(hf:∃F,P.funcs[f]? = N1 F/\(F.name == "runtime.NumGoroutine")=Po/\F.body.isNone=Po)(h:∀a v,(a,v)∈tab->v.atomic=Pa/\dJ 0 a=Pa/\aG A f a []=N1 (v,[],[])):gS P ab λf' args H=>if f'=f then (tU tab args H).map (cT H)else none:=by
 refine oC hf λargs H v ws ns hp g w xs hw hg hx=>?_;obtain⟨v',hm,e⟩:=aGs hp;cases e;obtain⟨jk,hu,hc⟩:=h args v hm;obtain⟨n,hc⟩:=oM hc;have od:WF (g.cut 0) [] w:=by
  refine⟨hw.perm,λo l h=>by simp[G.cut]at h,λo l h=>by simp[G.cut]at h,λo x l _ h=>by simp[G.cut]at h,λo l x h=>?_,λo l x h=>?_,λo o' l l' x x' h=>?_,⟨λb y hy=>⟨(hw.whole.blocks b y hy).1,λo l z hz=>?_⟩,hw.whole.io⟩⟩
  all_goals first
   | (have:=h.Pr;simp at this;done)
   | (have:=hz.Pr;simp at this;done)
 have Q6:bM P ab (g.cut 0):=⟨λn row e=>by
  obtain⟨h1,h2⟩:=hg.row n row e;exact⟨h1.cut (by simpa [AV.under]using B4 n row e),h2⟩,hg.code⟩
 have jr:fU (g.cut 0) args xs:=⟨hx.1,λi a x e1 e2=>(hx.2 i a x e1 e2).cut (aKD hu i a e1)⟩;refine (((sU hA n).1 f args [] v [] [] hc (g.cut 0) w xs od Q6 jr).2).mono λe w' he=>?_;cases e with
 |panicked c=>exact he
 |outgrown=>exact he
 |returned x=>
  obtain⟨g',hs,hr⟩:=he;have kh:w'.os=w.os/\w'.output=w.output:=by have e1:=hs.wf.whole.io;have e2:=hs.le.io;have e3:=hw.whole.io;rw[e2]at e1;have e4:(w.os,w.output)=(w'.os,w'.output):=e3.symm.trans e1;exact⟨(congrArg EM e4).symm,(congrArg GQ e4).symm⟩
  refine⟨g,uWJ, ?_⟩;cases v<;>first | (simp[AV.atomic,AV.atom]at jk;done) | exact ai.atomic hr jk
def qH{f:Nat}(h:aE3 A m n f args [] aJi=Pa):aG A f args []=N1 (.bool Pa,[],[]):=by
 obtain⟨v,H',wr,h1,h2⟩:=xG A m n f args [] aJi h;unfold aJi at h2;split at h2
 .exact h1
 cases h2
def aBi:∀n row,aBx.row n=N1 row->dJ 0 row=true:=by intro n row h;simp only[aBx,aZA]at h;split at h<;>cases h<;>rfl
def aLW(Qd:A.fn=fnK)(hyf:A.bq YF=N2)(h295:A.bq 267=N2)(hprim:∀f p,A.bq f=N1 p->aO4 f=N1 p∨gS Go.Proofs.Tryz.prog aBx λf' args H=>if f'=f then (p args H).map (cT H)else N2):Good Go.Proofs.Tryz.prog aBx A where
 mixed:=aRS.mixed
 A5:=⟨(congrFun Qd YF).trans bIv,hyf⟩
 fn:=λf fn h=>by
  rw[Qd]at h;by_cases e:f=267
  .subst e;exact .inr (Go.Proofs.Sa.yu h295 (by rw[Qd];rfl))
  exact .inl (aY0 e h)
 bq:=λf p h=>(hprim f p h).elim (λh=>aRS.bq f p h) id
def bT3:List (Nat×LA×AV):=[(6,[vi0 0],bT2),(4,[bSF,bT2],bSG)]
def bS5:∀r∈bT3,aG AK r.1 r.2.1 [.gone 0]=N1 (r.2.2,[.gone 0],[]):=by
 intro r h;simp only[bT3,BD,CC,or_false]at h;rcases h with rfl|rfl
 .exact bPd bRi
 exact bPd bRj
noncomputable def bRL:Bool:=Option.rec Po (λfn=>kFn (bRg bT3 (aE3 AK 100000 100)) 100000 fn [] [] aJi) (fnK 14)
def bHn:bRL=true:=bIv
def aO6:aG AK 14 [] []=N1 (.bool Pa,[],[]):=by
 have h:=bHn;unfold bRL at h;cases hf:fnK 14 with
 |none=>rw[hf]at h;cases h
 |some fn=>
  rw[hf]at h;have h:kFn (bRg bT3 (aE3 AK 100000 100)) 100000 fn [] [] aJi=true:=h;obtain⟨v,H',wr,h1,h2⟩:=bRh (bS4 (xG AK 100000 100) bS5) (A:=AK) (f:=14) rfT hf h;unfold aJi at h2;split at h2
  .exact h1
  cases h2
def aUE:List (LA×AV):=[([],.bool Pa)]
def aRU:gS Go.Proofs.Tryz.prog aBx λf' args H=>if f'=14 then (tU aUE args H).map (cT H)else none:=by refine aGt aRS aBi ⟨Go.Proofs.Tryz.f14,Go.Proofs.Tryz.func14,bIv,bIv⟩ λa v h=>?_;simp only[aUE,BD,Prod.mk.injEq,or_false,CC]at h;obtain⟨rfl,rfl⟩:=h;exact⟨rfl,rfl,aO6⟩
def aMX(f:Nat):Option aIP:=match f with
 |14=>N1 (tU aUE)
 |f=>aO4 f
noncomputable def AM1:af:=⟨fnK,aMX⟩
def aT6:Good Go.Proofs.Tryz.prog aBx AM1:=aLW rfl bIv rfl λf p h=>by
 have h:aMX f=N1 p:=h;unfold aMX at h;split at h
 .cases h;exact .inr aRU
 exact .inl h
@[go_sem] def aWf{a:AV}:pO (a::r) 0=a:=(rfl)
@[go_sem] def aWg{a:AV}:pO (a::r) (n+1)=pO r n:=(rfl)
@[go_sem] def aXM:pO [] n=.undef:=(rfl)
attribute [go_sem] Option.isSome_some Option.isSome_none BT BF
mutual
def AV.data:AV->Bool
 |.bool _ | .int _ _ | .str _ | .bx | .nilPtr=>Pa
 |.sl f rows => !f&&gG rows
 |.agg cs=>iX cs
 |_=>Po
def iX:LA->Bool
 | []=>Pa
 |v::r=>v.ak&&v.data&&iX r
def gG:List LA->Bool
 | []=>Pa
 |l::r=>iX l&&gG r
end
@[go_sem] def bQ7:AV.data (.bool b)=true:=(rfl)
@[go_sem] def bMM{k:Go.IntKind}{n:Int}:AV.data (.int k n)=true:=(rfl)
@[go_sem] def bQ8{l:List UInt8}:AV.data (.str l)=true:=(rfl)
@[go_sem] def bOL:AV.data (.sl Po rows)=gG rows:=(rfl)
@[go_sem] def bMN:iX []=true:=(rfl)
@[go_sem] def bLb{v:AV}:iX (v::r)=(v.ak&&v.data&&iX r):=(rfl)
mutual
theorem aJa:∀{v:AV}{n:Nat},v.data=Pa->v.under n=Pa
 |.bool _,_,_ | .int _ _,_,_ | .str _,_,_ | .bx,_,_ | .nilPtr,_,_=>rfl
 |.sl f rows,n,h=>by
  simp only[AV.data,AI]at h;simp only[AV.under];exact aA h.2
 |.agg cs,n,h=>by
  simp only[AV.data]at h;simp only[AV.under];exact dC h
 |.undef,_,h | .fn ..,_,h | .ptr ..,_,h | .vp ..,_,h | .ep ..,_,h | .sr ..,_,h | .mp ..,_,h | .own ..,_,h | .tup ..,_,h=>by simp[AV.data]at h
theorem dC:∀{l:LA}{n:Nat},iX l=Pa->dJ n l=Pa
 | [],_,_=>rfl
 |v::r,n,h=>by
  simp only[iX,AI]at h;simp only[dJ,AI];exact⟨aJa h.1.2,dC h.2⟩
theorem aA:∀{l:List LA}{n:Nat},gG l=Pa->eR n l=Pa
 | [],_,_=>rfl
 |v::r,n,h=>by
  simp only[gG,AI]at h;simp only[eR,AI];exact⟨dC h.1,aA h.2⟩
end
theorem tT(h:v.data=Pa):v.aj=v:=by
 cases v<;>try rfl
 rename_i f rows;simp only[AV.data,AI,KB]at h;rw[h.1];rfl
theorem aAm:∀{l:LA},iX l=Pa->∀v∈l,v.data=Pa/\v.ak=Pa
 | [],_,v,hv=>by cases hv
 |a::r,h,v,hv=>by
  simp only[iX,AI]at h;rcases BD.1 hv with rfl|hv
  .grind
  exact aAm h.2 v hv
def aK{l:LA}(h:iX l=Pa):l.map AV.aj=l:=by
 conv=>rhs;rw[<- List.map_id l]
 grind [List.map_congr_left,tT,aAm]
theorem aJb(h:v.data=Pa)(h2:v.ak=Pa):v.still=true:=by cases v<;>first | rfl | exact Vv (show Po=Pa from h2) ED | exact Vv (show Po=Pa from h) ED
theorem bR{l:LA}(h:iX l=Pa):l.all AV.still=true:=by grind [AO,aJb,aAm]
def bID{l:LA}(h:iX l=Pa):l.all AV.ak=true:=by rw[AO];intro v hv;exact (aAm h v hv).2
theorem aBf:∀{l:List LA},gG l=Pa->∀v∈l,iX v=Pa
 | [],_,v,hv=>by cases hv
 |a::r,h,v,hv=>by
  simp only[gG,AI]at h;rcases BD.1 hv with rfl|hv
  .exact h.1
  exact aBf h.2 v hv
def aGl:∀{l:List LA},(∀v∈l,iX v=Pa)->gG l=Pa
 | [],_=>rfl
 |a::r,h=>by
  simp only[gG,AI];exact⟨h a HD,aGl λv hv=>h v (BZ _ hv)⟩
def aT(h:gG rows=Pa):(rows.all λr=>r.all AV.still)=true:=by grind [AO,bR,aBf]
def xH(h:v.data=Pa)(h2:v.ak=Pa):aA2 H v=N1 (v,[]):=by cases v<;>first | rfl | exact Vv (show Po=Pa from h2) ED | exact Vv (show Po=Pa from h) ED
def aS{H:LO}:∀{l:LA},iX l=Pa->aIQ H l=N1 (l,[])
 | [],_=>rfl
 |v::r,h=>by
  simp only[iX,AI]at h;unfold aIQ;rw[xH h.1.2 h.1.1,aS h.2];rfl
def aEb(h:v.under base=Pa)(h2:(wr.all λo=>match H[o]? with | some x=>x.under base | none=>Pa)=Pa):cJ base (v,H,wr)=(v,H.take base,wr):=by
 unfold cJ
 grind
@[go_sem] def xI{x:ah}(h:v.under base=Pa)(h1:H[o]? = N1 x)(h2:x.under base=Pa):cJ base (v,H,[o])=(v,H.take base,[o]):=
 aEb h (by rw[ES,MB,Bx,h1];exact h2)
@[go_sem] def aBg{v:Nat}:ah.under n (.box v cs)=dJ n cs:=(rfl)
@[go_sem] def aWh:AV.under n (.bool b)=true:=(rfl)
@[go_sem] def aPu{k:Go.IntKind}{i:Int}:AV.under n (.int k i)=true:=(rfl)
@[go_sem] def aXN{l:List UInt8}:AV.under n (.str l)=true:=(rfl)
@[go_sem] def aZt{f:Bool}:AV.under n (.sl f rows)=eR n rows:=(rfl)
@[go_sem] def aXO:AV.under n (.agg cs)=dJ n cs:=(rfl)
@[go_sem] def aXP:AV.under n (.tup cs)=dJ n cs:=(rfl)
@[go_sem] def aXQ:AV.under n (.own k rows)=eR n rows:=(rfl)
@[go_sem] def aNX:dJ n []=true:=(rfl)
@[go_sem] def aLO{v:AV}:dJ n (v::r)=(v.under n&&dJ n r):=(rfl)
@[go_sem] def aUn:eR n []=true:=(rfl)
@[go_sem] def aSZ{v:LA}{r:List LA}:eR n (v::r)=(dJ n v&&eR n r):=(rfl)
@[go_sem] def qQ(h:v.under base=Pa):cJ base (v,H,[])=(v,H.take base,[]):=by unfold cJ;simp only[h,MB,Bx,Vu]
def aRz(base:Nat)(rs:List ou)(K:AV->LO->LN->Prop)(tg:Tg K):bf->bN->LO->LN->Prop:=aVI base rs K
section
variable {base:Nat}{ρ:bN}{H:LO}{wr:LN}{K:AV->LO->LN->Prop}{rs:List ou}
@[go_sem] def aZu{t:Tg K}:aRz base rs K t .ret ρ H wr=bnd (iE base rs ρ H wr) λr=>bnd (N1 (cJ base r)) λr=>K r.1 r.2.1 r.2.2:=by unfold aRz aVI;dsimp only;cases iE base rs ρ H wr<;>rfl
@[go_sem] def aUo{t:Tg K}:aRz base rs K t .normal ρ H wr=bnd (iE base rs ρ H wr) λr=>bnd (N1 (cJ base r)) λr=>K r.1 r.2.1 r.2.2:=by unfold aRz aVI;dsimp only;cases iE base rs ρ H wr<;>rfl
@[go_sem] def aUp{t:Nat}:iE base [.tmp t] ρ H wr=match aDR base H (ρ t)with
  |some (v',H',l)=>N1 (v',H',bE base wr l)
  |none=>none:=(rfl)
@[go_sem] def aT0{t:Nat}:iE base [.cell t k agg] ρ H wr=match bC H k (ρ t)with
  |some cs=>match eD agg cs with
   |some v=>match aDR base H v with
    |some (v',H',l)=>N1 (v',H',bE base wr l)
    |none=>N2
   |none=>N2
  |none=>none:=by
 simp only[iE,aEP,aNP];cases bC H k (ρ t)with
 |none=>rfl
 |some cs=>dsimp only;cases eD agg cs<;>rfl
@[go_sem] def aZv{k:Go.IntKind}{n:Int}:aDR base H (.int k n)=N1 (.int k n,H,[]):=(rfl)
@[go_sem] def aXR:aDR base H (.bool b)=N1 (.bool b,H,[]):=(rfl)
@[go_sem] def aZw{l:List UInt8}:aDR base H (.str l)=N1 (.str l,H,[]):=(rfl)
@[go_sem] def bAL{f:Bool}:aDR base H (.sl f rows)=N1 (.sl Po rows,H,[]):=(rfl)
@[go_sem] def aZx:aDR base H (.agg cs)=fix H (.agg cs):=(rfl)
@[go_sem] def aUq{v:Nat}:aDR base H (.sr o v n)=if o<base then N1 (.sr o v n,H,[])else match H[o]? with
  |some (.vec v' k rows)=>if v'=v/\rows.length=n/\base<=o/\rows.all (λr=>r.all AV.still)then N1 (.own k rows,dL H [o],[o])else aA3 H (.sr o v n)
  |_=>none:=(rfl)
@[go_sem] def aT1:(n+i<n)=False:=siT
@[go_sem] def aRA:(n<n)=False:=siT
attribute [go_sem] Nat.le_refl Nat.le_add_right
end
def kN{f:Nat}(hf:A.fn f=N1 fn)(hp:(A.bq f).bind (· args H)=N2)(hN:args.length<=fn.ntmps)(hok:dK fn.ntmps ⟨H.length,fn.sites⟩ fn.body=Pa)(h:wc A fn.ntmps ⟨H.length,fn.sites⟩ fn.body (pO args) (H++AX fn.sites.length (.gone 0)) [] (aRz H.length fn.results K ⟨⟩) ⟨⟩):∃v H' wr,aG A f args H=N1 (v,H',wr)/\K v H' wr:=aE1 hf hp hN hok h
structure Has(A:af)(name:Nat)(fn:bw):Prop where
 fn:A.fn name=N1 fn
 bq:A.bq name=N2
def Has.call(h:Has A name fn)(hw:wc A fn.ntmps ⟨H.length,fn.sites⟩ fn.body (pO args) (H++AX fn.sites.length (.gone 0)) [] (aRz H.length fn.results (λv' H'' ba=>v'=v/\H''=H'/\ba=wr) ⟨⟩) ⟨⟩)(hN:Nat.ble args.length fn.ntmps=true:=by kernel_rfl)(hok:dK fn.ntmps ⟨H.length,fn.sites⟩ fn.body=true:=by kernel_rfl):aG A name args H=N1 (v,H',wr):=by obtain⟨v1,H1,dc,h1,rfl,rfl,rfl⟩:=aE1 (K:=λv' H'' ba=>v'=v/\H''=H'/\ba=wr) h.fn (by rw[h.bq];rfl) (MN hN) hok hw;exact h1
def Has.bp(h:Has A name fn)(hw:wc A fn.ntmps ⟨H.length,fn.sites⟩ fn.body (pO args) (H++AX fn.sites.length (.gone 0)) [] (aRz H.length fn.results K ⟨⟩) ⟨⟩)(hN:Nat.ble args.length fn.ntmps=true:=by kernel_rfl)(hok:dK fn.ntmps ⟨H.length,fn.sites⟩ fn.body=true:=by kernel_rfl):∃v H' wr,aG A name args H=N1 (v,H',wr)/\K v H' wr:=aE1 h.fn (by rw[h.bq];rfl) (MN hN) hok hw
def dY(site:Option Nat)(quiet:Bool)(H:LO):Out->Out
 |none=>N2
 |some (v,H',wr)=>
  if quiet then
   match v with
   |.own k rows=>
    match site with
    |some id=>if id<H'.length then N1 (.sr id (bH H' id) rows.length,make H' id (.vec · k rows),if wr.contains id then wr else id::wr)else N2
    |none=>N1 (.sl Po rows,H',wr)
   |v=>N1 (v,H',wr)
  else if wr.isEmpty&&decide (H'.length=H.length)&&v.atomic then N1 (v,H,[])else N2
@[go_sem] def aHy:dY site q H (N1 (v,H',wr))=(if q then match v with
   |.own k rows=>
    match site with
    |some id=>if id<H'.length then N1 (.sr id (bH H' id) rows.length,make H' id (.vec · k rows),if wr.contains id then wr else id::wr)else N2
    |none=>N1 (.sl Po rows,H',wr)
   |v=>N1 (v,H',wr)
  else if wr.isEmpty&&decide (H'.length=H.length)&&v.atomic then N1 (v,H,[])else N2):=(rfl)
@[go_sem] def aWi{call:Nat->LA->LO->Out}{f:Nat}:cX call H site (.fn f first ay) args = match kA H (first++args++ay)with
  |none=>N2
  |some (args',lent)=>dY site lent.isEmpty H (call f (args'.map AV.strip) (dL H lent)):=by
 show (match kA H (first++args++ay)with
  |none=>N2
  |some (args',lent)=>_)=_
 cases kA H (first++args++ay)with
 |none=>rfl
 |some p=>
  dsimp only;cases call f (p.1.map AV.strip) (dL H p.2)with
  |none=>rfl
  |some r=>obtain⟨v,H',wr⟩:=r;cases v<;>rfl
@[go_sem] def aWj{call:Nat->LA->LO->Out}{f:Nat}:iN call H site (.fn f first ay) args = dY site Pa H (call f (first++args++ay) H):=by
 show (match call f (first++args++ay) H with
  |none=>N2
  |some (v,H',wr)=>_)=_
 cases call f (first++args++ay) H with
 |none=>rfl
 |some r=>obtain⟨v,H',wr⟩:=r;cases v<;>rfl
def kF(ops:List ae):LN:=ops.filterMap ae.dst
def xJ:ag->LN | .region _ ops=>kF ops | .seq a b=>xJ a++xJ b | .cond _ a b=>xJ a++xJ b | .block _ b=>xJ b | .loop b=>xJ b | .frz ts=>ts.map GQ | _=>[]
def dZ(W:LN)(l l':LA):Prop:=∀t,W.contains t=Po->l'[t]? = l[t]?
def dZ.refl{l:LA}:dZ W l l:=λ_ _=>rfl
def dZ.trans{l l' l'':LA}(h1:dZ W l l')(h2:dZ W l' l''):dZ W l l'':=λt ht=>(h2 t ht).trans (h1 t ht)
def dZ.sub{W':LN}{l l':LA}(h:dZ W l l')(hs:∀t∈W,t∈W'):dZ W' l l':=λt ht=>h t (by
 grind)
def pW{o:ae}{l:LA}:dZ (kF [o]) l (bg l o.dst v):=by
 intro t ht
 grind [bg,kF,CL]
def xK{o:ae}{r:List ae}:kF (o::r)=kF [o]++kF r:=by
 unfold kF
 grind
def aCk{call:Nat->LA->LO->Out}{c:Ctx}:∀{ops:List ae}{s s':gp},jL call c ops s=N1 s'->dZ (kF ops) s.ρ s'.ρ
 | [],_,_,h=>by cases h;exact .refl
 |o::r,s,s',h=>by
  rw[xK];unfold jL at h;split at h
  .split at h
   .split at h
    .rename_i v H' wr he;exact (pW.sub λt ht=>CZ _ ht).trans ((aCk h).sub λt ht=>CX _ ht)
    cases h
   exact (pW.sub λt ht=>CZ _ ht).trans ((aCk h).sub λt ht=>CX _ ht)
  cases h
def aAn{call:Nat->LA->LO->Out}{c:Ctx}:∀{ops:List ae}{i:Nat}{s s':gp}{log:Log},nT call c i ops s=N1 (s',log)->dZ (kF ops) s.ρ s'.ρ
 | [],_,_,_,_,h=>by cases h;exact .refl
 |o::r,i,s,s',log,h=>by
  rw[xK];unfold nT at h;split at h
  .split at h
   .split at h
    .rename_i v H' rd wr he;split at h
     .rename_i s1 log1 hr;cases h;exact (pW.sub λt ht=>CZ _ ht).trans ((aAn hr).sub λt ht=>CX _ ht)
     cases h
    cases h
   exact (pW.sub λt ht=>CZ _ ht).trans ((aAn h).sub λt ht=>CX _ ht)
  cases h
def qU{c:Ctx}:∀{ts:List (Nat×Nat)}{s s':gp},nX c s ts=N1 s'->dZ (ts.map GQ) s.ρ s'.ρ
 | [],_,_,h=>by cases h;exact .refl
 | (k+1,t)::r,s,s',h=>by
  have hs:∀u∈r.map GQ,u∈((k+1,t)::r).map GQ:=λu hu=>BZ _ hu;unfold nX at h;split at h
  .exact (qU h).sub hs
  split at h
  .exact (qU h).sub hs
  split at h
  .split at h
   .split at h
    .exact (qU h).sub hs
    cases h
   cases h
  cases h
 | (0,t)::r,s,s',h=>by
  unfold nX at h;split at h
  .rename_i v H' l hf;have h1:=(qU h).sub (W':=((0,t)::r).map GQ) λu hu=>BZ _ hu;refine dZ.trans (λu hu=>?_) h1;refine CL λe=>?_
   grind
  cases h
def eQ{A:af}:∀n (c:Ctx) (x:ag) (s:gp) e s',cY A n c x s=N1 (e,s')->dZ (xJ x) s.ρ s'.ρ
 |0,c,x,s,e,s',h=>by rw[gT]at h;cases h
 |n+1,c,x,s,e,s',h=>by
  cases x with
  |skip=>rw[xB]at h;cases h;exact .refl
  |bad=>rw[qG]at h;cases h
  |region d ops=>
   rw[iS]at h;split at h
   .rename_i s1 hr;cases h;unfold iO at hr;split at hr
    .split at hr
     .split at hr
      .rename_i hd;split at hr
       .cases hr;have h9:=aAn hd;exact h9
       cases hr
      cases hr
     cases hr
    split at hr
    .cases hr
    exact aCk hr
   cases h
  |seq a b=>
   have ha:∀t∈xJ a,t∈xJ (.seq a b):=λt ht=>CZ _ ht;have hb:∀t∈xJ b,t∈xJ (.seq a b):=λt ht=>CX _ ht;rw[iD]at h;split at h
   .rename_i s1 hr;exact ((eQ n _ _ _ _ _ hr).sub ha).trans ((eQ n _ _ _ _ _ h).sub hb)
   exact (eQ n _ _ _ _ _ h).sub ha
  |cond t a b=>
   have ha:∀u∈xJ a,u∈xJ (.cond t a b):=λt ht=>CZ _ ht;have hb:∀u∈xJ b,u∈xJ (.cond t a b):=λt ht=>CX _ ht;rw[iT]at h;split at h
   .exact (eQ n _ _ _ _ _ h).sub ha
   .exact (eQ n _ _ _ _ _ h).sub hb
   cases h
  |block id b=>
   rw[eP]at h;show dZ (xJ b) _ _;split at h
   .rename_i hr;split at h<;>(cases h;exact eQ n _ _ _ _ _ hr)
   exact eQ n _ _ _ _ _ h
  |loop b=>
   rw[gU]at h;show dZ (xJ b) _ _;split at h
   .rename_i s1 hr;have h9:=eQ n _ _ _ _ _ h;exact dZ.trans (eQ n _ _ _ _ _ hr) h9
   exact eQ n _ _ _ _ _ h
  |exit id=>rw[aCb]at h;cases h;exact .refl
  |ret=>rw[aDZ]at h;cases h;exact .refl
  |frz ts=>
   rw[vI]at h;split at h
   .rename_i s1 hr;cases h;exact qU hr
   cases h
  |dz x ps body=>
   rw[iU]at h;split at h
   .split at h
    .split at h
     .split at h
      .split at h
       .cases h;exact .refl
       cases h
      cases h
     cases h
    cases h
   cases h
def dZ.ck{l l':LA}(h:dZ W l l'):∀t,W.contains t=Po->ck l' t=ck l t:=λt ht=>by
 unfold Go.AM.ck;rw[h t ht]
def Wp.bm{x:ag}{Q}(h:Wp A N c x ρ H wr Q):Wp A N c x ρ H wr λe ρ' H' ba=>Q e ρ' H' ba/\∀t,(xJ x).contains t=Po->ρ' t=ρ t:=λl hl he=>by
 obtain⟨n,e,s',h1,h2,h3⟩:=h l hl he;refine⟨n,e,s',h1,h2,h3,λt ht=>?_⟩;rw[<- he];exact (eQ n _ _ _ _ _ h1).ck t ht
abbrev aLP(W:LN)(ρ ρ':bN):Prop:=∀t,W.contains t=Po->ρ' t=ρ t
def aLP.mono{W':LN}{ρ':bN}(h:aLP W ρ ρ')(hs:∀t∈W,t∈W'):aLP W' ρ ρ':=λt ht=>h t (by
 grind)
def aLP.trans{ρ' ρ'':bN}(h1:aLP W ρ ρ')(h2:aLP W ρ' ρ''):aLP W ρ ρ'':=λt ht=>(h2 t ht).trans (h1 t ht)
def aPv{o:ae}:aLP (kF [o]) ρ (zX ρ o.dst v):=by
 intro t ht;cases hd:o.dst with
 |none=>rfl
 |some d=>refine aAk λe=>?_;subst e;simp[kF,hd]at ht
def aCl{call:Nat->LA->LO->Out}{c:Ctx}:∀{ops:List ae}{ρ:bN}{H:LO}{wr:LN}{K K':bN->LO->LN->Prop},(∀ρ' H' ba,K ρ' H' ba->aLP (kF ops) ρ ρ'->K' ρ' H' ba)->aD3 call c ops ρ H wr K->aD3 call c ops ρ H wr K'
 | [],_,_,_,_,_,hk,h=>hk _ _ _ h λ_ _=>rfl
 |o::r,ρ,H,wr,K,K',hk,h=>by
  rw[xK]at hk;have go:∀v,aLP (kF [o]++kF r) ρ (zX ρ o.dst v):=λv=>aPv.mono λt ht=>CZ _ ht;have up:∀t∈kF r,t∈kF [o]++kF r:=λt ht=>CX _ ht;unfold aD3 at h ⊢;split at h
  .cases h
  .exact aCl (λρ' H' ba hh hf=>hk _ _ _ hh ((go _).trans (hf.mono up))) h
  split at h
  .cases h
  exact aCl (λρ' H' ba hh hf=>hk _ _ _ hh ((go _).trans (hf.mono up))) h
def aGm{call:Nat->LA->LO->Out}{c:Ctx}{aq:LN}:∀{ops:List ae}{i:Nat}{ρ:bN}{H:LO}{wr:LN}{K K':bN->LO->LN->Log->Prop},(∀ρ' H' ba log,K ρ' H' ba log->aLP (kF ops) ρ ρ'->K' ρ' H' ba log)->wpD call c aq i ops ρ H wr K->wpD call c aq i ops ρ H wr K'
 | [],_,_,_,_,_,_,hk,h=>hk _ _ _ _ h λ_ _=>rfl
 |o::r,i,ρ,H,wr,K,K',hk,h=>by
  rw[xK]at hk;have go:∀v,aLP (kF [o]++kF r) ρ (zX ρ o.dst v):=λv=>aPv.mono λt ht=>CZ _ ht;have up:∀t∈kF r,t∈kF [o]++kF r:=λt ht=>CX _ ht;unfold wpD at h ⊢;split at h
  .cases h
  .exact aGm (λρ' H' ba log hh hf=>hk _ _ _ _ hh ((go _).trans (hf.mono up))) h
  split at h
  .cases h
  refine aGm (λρ' H' ba log hh hf=>?_) h;split at hh
  .rename_i hc;rw[Vx hc];grind
  grind
def xL{c:Ctx}:∀{ts:List (Nat×Nat)}{ρ:bN}{H:LO}{wr:LN}{K K':bN->LO->LN->Prop},(∀ρ' H' ba,K ρ' H' ba->aLP (ts.map GQ) ρ ρ'->K' ρ' H' ba)->aD5 c ts ρ H wr K->aD5 c ts ρ H wr K'
 | [],_,_,_,_,_,hk,h=>hk _ _ _ h λ_ _=>rfl
 | (k+1,t)::r,ρ,H,wr,K,K',hk,h=>by
  have up:∀u∈r.map GQ,u∈((k+1,t)::r).map GQ:=λu hu=>BZ _ hu;unfold aD5 at h ⊢;split at h
  .rename_i hc;rw[Vx hc];exact xL (λρ' H' ba hh hf=>hk _ _ _ hh (hf.mono up)) h
  rename_i hc;rw[Vw hc];split at h
  .exact xL (λρ' H' ba hh hf=>hk _ _ _ hh (hf.mono up)) h
  cases h
 | (0,t)::r,ρ,H,wr,K,K',hk,h=>by
  have up:∀u∈r.map GQ,u∈((0,t)::r).map GQ:=λu hu=>BZ _ hu;have go:∀v,aLP (((0,t)::r).map GQ) ρ (upd ρ t v):=λv u hu=>aAk λe=>by subst e;simp at hu
  unfold aD5 at h ⊢;split at h
  .exact xL (λρ' H' ba hh hf=>hk _ _ _ hh ((go _).trans (hf.mono up))) h
  cases h
def iF{A:af}{N:Nat}{c:Ctx}:∀{x:ag}{ρ:bN}{H:LO}{wr:LN}{Q Q':bf->bN->LO->LN->Prop},(∀e ρ' H' ba,Q e ρ' H' ba->aLP (xJ x) ρ ρ'->Q' e ρ' H' ba)->wpc A N c x ρ H wr Q->wpc A N c x ρ H wr Q'
 |.skip,ρ,H,wr,Q,Q',hq,h=>hq _ _ _ _ h λ_ _=>rfl
 |.bad,_,_,_,_,_,_,h=>h.elim
 |.region Po ops,ρ,H,wr,Q,Q',hq,h=>by
  exact aCl (λρ' H' ba hh hf=>hq _ _ _ _ hh hf) h
 |.region Pa ops,ρ,H,wr,Q,Q',hq,h=>by
  rw[wpc]at h ⊢;split at h
  .exact aGm (λρ' H' ba log hh hf=>⟨hh.1,hq _ _ _ _ hh.2 hf⟩) h
  exact h.elim
 |.seq a b,ρ,H,wr,Q,Q',hq,h=>by
  have ha:∀t∈xJ a,t∈xJ (.seq a b):=λt ht=>CZ _ ht;have hb:∀t∈xJ b,t∈xJ (.seq a b):=λt ht=>CX _ ht;rw[wpc]at h ⊢;refine iF (λe ρ' H' ba hh hf=>?_) h;cases e with
  |normal=>exact iF (λe ρ2 H2 en h2 cq=>hq _ _ _ _ h2 ((hf.mono ha).trans (cq.mono hb))) hh
  |ret=>exact hq _ _ _ _ hh (hf.mono ha)
  |exit id=>exact hq _ _ _ _ hh (hf.mono ha)
 |.cond t a b,ρ,H,wr,Q,Q',hq,h=>by
  have ha:∀u∈xJ a,u∈xJ (.cond t a b):=λt ht=>CZ _ ht;have hb:∀u∈xJ b,u∈xJ (.cond t a b):=λt ht=>CX _ ht;rw[wpc]at h ⊢;split at h
  .exact iF (λe ρ' H' ba hh hf=>hq _ _ _ _ hh (hf.mono ha)) h
  .exact iF (λe ρ' H' ba hh hf=>hq _ _ _ _ hh (hf.mono hb)) h
  exact h.elim
 |.block id b,ρ,H,wr,Q,Q',hq,h=>by
  refine iF (x:=b) (λe ρ' H' ba hh hf=>?_) h;cases e with
  |normal=>exact hq _ _ _ _ hh hf
  |ret=>exact hq _ _ _ _ hh hf
  |exit id'=>
   dsimp only at hh ⊢;split at hh
   .rename_i hc;rw[Vx hc];exact hq _ _ _ _ hh hf
   rename_i hc;rw[Vw hc];exact hq _ _ _ _ hh hf
 |.loop b,ρ,H,wr,Q,Q',hq,h=>by
  exact h.bm.mono λe ρ' H' ba hh=>hq _ _ _ _ hh.1 hh.2
 |.dz x ps b,ρ,H,wr,Q,Q',hq,h=>by
  exact h.bm.mono λe ρ' H' ba hh=>hq _ _ _ _ hh.1 hh.2
 |.exit id,ρ,H,wr,Q,Q',hq,h=>hq _ _ _ _ h λ_ _=>rfl
 |.ret,ρ,H,wr,Q,Q',hq,h=>hq _ _ _ _ h λ_ _=>rfl
 |.frz ts,ρ,H,wr,Q,Q',hq,h=>by
  exact xL (λρ' H' ba hh hf=>hq _ _ _ _ hh hf) h
def aZy(P:bN->LO->LN->Prop)(tg:Tg P):bf->bN->LO->LN->Prop:=λe ρ H wr=>match e with
 |.normal=>P ρ H wr
 |_=>False
@[go_sem] def aUr{P:bN->LO->LN->Prop}{t:Tg P}:aZy P t .normal ρ H wr=P ρ H wr:=(rfl)
def aPw{x:ag}{tg}(P:bN->LO->LN->Prop)(hW:xJ x=W)(h1:wc A N c x ρ H wr (aZy P ⟨⟩) ⟨⟩)(h2:∀ρ' H' ba,P ρ' H' ba->(∀t,W.contains t=Po->ρ' t=ρ t)->Q .normal ρ' H' ba):wc A N c x ρ H wr Q tg:=by
 subst hW;refine iF (λe ρ' H' ba hh hf=>?_) h1;cases e with
 |normal=>exact h2 _ _ _ hh hf
 |ret=>exact hh.elim
 |exit id=>exact hh.elim
def aUs(I:Nat->bN->LO->LN->Prop)(M i:Nat)(Q:bf->bN->LO->LN->Prop)(tg:Tg (I,Q)):bf->bN->LO->LN->Prop:=λe ρ H wr=>match e with
 |.normal=>i<M/\I (i+1) ρ H wr
 |e=>Q e ρ H wr
section
variable {A:af}{N:Nat}{c:Ctx}{ρ ρ':bN}{H H':LO}{wr ba:LN}{Q:bf->bN->LO->LN->Prop}{I:Nat->bN->LO->LN->Prop}{M i:Nat}
@[go_sem] def aUt{t:Tg (I,Q)}:aUs I M i Q t .normal ρ H wr=(i<M/\I (i+1) ρ H wr):=(rfl)
@[go_sem] def aZz{t:Tg (I,Q)}:aUs I M i Q t .ret ρ H wr=Q .ret ρ H wr:=(rfl)
@[go_sem] def aXS{t:Tg (I,Q)}{id:Nat}:aUs I M i Q t (.exit id) ρ H wr=Q (.exit id) ρ H wr:=(rfl)
def aKt{b:ag}{tg:Tg (A,N,c,b,Q)}(I:Nat->bN->LO->LN->Prop) M (hok:dK N c b=Pa) (hW:xJ b=W) (h0:I 0 ρ H wr) (hs:∀i ρ1 H1 dc,i<=M->I i ρ1 H1 dc->(∀t,W.contains t=Po->ρ1 t=ρ t)->wc A N c b ρ1 H1 dc (aUs I M i Q ⟨⟩) ⟨⟩):wl A N c b ρ H wr Q tg:=by
 have key:∀k i ρ1 H1 dc,i+k=M->I i ρ1 H1 dc->(∀t,W.contains t=Po->ρ1 t=ρ t)->Wp A N c (.loop b) ρ1 H1 dc Q:=by
  intro k
  induction k with
  |zero=>
   intro i ρ1 H1 dc hk hI hf l hl he;obtain⟨n,e,s',h1,h2,h3⟩:=kM (hs i ρ1 H1 dc omT hI hf) hok l hl he;by_cases hn:e=.normal
   .subst hn;exact Vv h3.1 omT
   refine⟨n+1,e,s', ?_,h2, ?_⟩
   .rw[gU,h1]
    grind
   cases e<;>first | exact h3 | grind
  |succ k ih=>
   intro i ρ1 H1 dc hk hI hf l hl he;obtain⟨n,e,s',h1,h2,h3⟩:=kM (hs i ρ1 H1 dc omT hI hf) hok l hl he;by_cases hn:e=.normal
   .subst hn;have cq:∀t,W.contains t=Po->ck s'.ρ t=ρ t:=λt ht=>by
     have:=(eQ n _ _ _ _ _ h1).ck t uWa
     simp_all
    obtain⟨m,e',s'',g1,g2,g3⟩:=ih (i+1) _ _ _ omT h3.2 cq s'.ρ h2 rfl;refine⟨max n m+1,e',s'', ?_,g2,g3⟩;rw[gU,eJ (GJ n m) _ _ _ _ h1];exact eJ (GC n m) _ _ _ _ g1
   refine⟨n+1,e,s', ?_,h2, ?_⟩
   .rw[gU,h1]
    grind
   cases e<;>first | exact h3 | grind
 exact key M 0 ρ H wr omT h0 λ_ _=>rfl
def aNY(id:Nat)(J:bN->LO->LN->Prop)(Q:bf->bN->LO->LN->Prop)(tg:Tg (J,Q)):bf->bN->LO->LN->Prop:=λe ρ H wr=>match e with
 |.exit id'=>if id'=id then J ρ H wr else Q (.exit id') ρ H wr
 |e=>Q e ρ H wr
@[go_sem] def aWk{id:Nat}{t:Tg (J,Q)}:aNY id J Q t (.exit id) ρ H wr=J ρ H wr:=by unfold aNY;dsimp only;rw[Vx rfl]
@[go_sem] def aXT{id:Nat}{t:Tg (J,Q)}:aNY id J Q t .ret ρ H wr=Q .ret ρ H wr:=(rfl)
def bJ{b:ag}{tg:Tg (A,N,c,b,Q)}{id:Nat}(I:Nat->bN->LO->LN->Prop)(M:Nat)(J:bN->LO->LN->Prop)(hok:dK N c b=Pa)(hW:xJ b=W)(h0:I 0 ρ H wr)(hs:∀i ρ1 H1 dc,i<=M->I i ρ1 H1 dc->(∀t,W.contains t=Po->ρ1 t=ρ t)->wc A N c b ρ1 H1 dc (aUs I M i (aNY id J Q ⟨⟩) ⟨⟩) ⟨⟩)(hQ:∀ρ' H' ba,J ρ' H' ba->(∀t,W.contains t=Po->ρ' t=ρ t)->Q (.exit id) ρ' H' ba):wl A N c b ρ H wr Q tg:=by
 refine aKt I M hok hW h0 λi ρ1 H1 dc hi hI hf=>?_;refine iF (λe ρ' H' ba hh xb=>?_) (hs i ρ1 H1 dc hi hI hf);cases e with
 |normal=>exact hh
 |ret=>exact hh
 |exit id'=>
  by_cases he:id'=id
  .subst he;simp only[aUs,aNY,Vu]at hh;exact hQ _ _ _ hh λt ht=>(xb t (by rw[hW];exact ht)).trans (hf t ht)
  simp only[aUs,aNY,Vw he]at hh;exact hh
end
abbrev Str:=List UInt8
variable {ps:List (UInt8×Str)}{t s T T':Str}{f:UInt8->Option Str}
structure mr where
 gg:Int
 text:Str
 deriving DecidableEq
inductive Expr where
 |mk (op n:Int) (kids:List Expr)
structure Shape where
 kind:Int
 points:List (Int×Int)
 deriving DecidableEq
structure ct where
 step:Int
 length:Int
 alter:Int
 deriving DecidableEq
structure Block where
 kind:Int
 runs:List mr
 expr:Expr
 dn:Int
 eg:List Int
 cd:List (List Str)
 w:Int
 h:Int
 aw:List Shape
 bo:List (List (List ct))
 lines:List Str
structure Fact where
 kind:Int
 block:Int
 a:Int
 b:Int
 deriving DecidableEq
structure Question where
 kind:Int
 lk:List mr
 options:List Str
 cy:List Int
 key:Str
 points:Int
 dv:List Str
 deriving DecidableEq
structure Item where
 name:Str
 blocks:List Block
 facts:List Fact
 ask:List Question
structure jm where
 title:Str
 items:List Item
def aN(s:Str):LA:=[.str s]
def bF(n:Int):LA:=[vi n]
def cZ(r:mr):LA:=[vi r.gg,.str r.text]
mutual
def aF:Expr->LA
 |.mk op n kids=>[vi op,vi n,.sl Po (gO kids)]
def gO:List Expr->List LA
 | []=>[]
 |e::r=>aF e::gO r
end
def bL(p:Int×Int):LA:=[vi p.1,vi p.2]
def aH(s:Shape):LA:=[vi s.kind,.sl Po (s.points.map bL)]
def bV(n:ct):LA:=[vi n.step,vi n.length,vi n.alter]
def gH(l:List ct):LA:=[.sl Po (l.map bV)]
def bS(l:List (List ct)):LA:=[.sl Po (l.map gH)]
def bY(l:List Str):LA:=[.sl Po (l.map aN)]
def aE(b:Block):LA:=[vi b.kind,.sl Po (b.runs.map cZ)]++aF b.expr++[vi b.dn,.sl Po (b.eg.map bF),.sl Po (b.cd.map bY),vi b.w,vi b.h,.sl Po (b.aw.map aH),.sl Po (b.bo.map bS),.sl Po (b.lines.map aN)]
def aI(f:Fact):LA:=[vi f.kind,vi f.block,vi f.a,vi f.b]
def gR(q:Question):LA:=[vi q.kind,.sl Po (q.lk.map cZ),.sl Po (q.options.map aN),.sl Po (q.cy.map bF),.str q.key,vi q.points,.sl Po (q.dv.map aN)]
def aO(x:Item):LA:=[.str x.name,.sl Po (x.blocks.map aE),.sl Po (x.facts.map aI),.sl Po (x.ask.map gR)]
def dE(x:jm):AV:=.agg [.str x.title,.sl Po (x.items.map aO)]
def aC{α:Type}{f:α->LA}(h:∀a,iX (f a)=Pa):∀l:List α,gG (l.map f)=Pa
 | []=>rfl
 |a::r=>by simp only[BI,gG,h a,aC h r,Bool.and_self]
section
attribute [local simp] iX AV.data AV.ak vi
def bO(s:Str):iX (aN s)=true:=by simp[aN]
def aU(s:Int):iX (bF s)=true:=by simp[bF]
def cA(s:mr):iX (cZ s)=true:=by simp[cZ]
mutual
def aV:∀e:Expr,iX (aF e)=Pa
 |.mk op n kids=>by
  unfold aF;simp[aIp kids]
def aIp:∀l:List Expr,gG (gO l)=Pa
 | []=>rfl
 |e::r=>by
  unfold gO gG;rw[aV e,aIp r];rfl
end
def aIq(s:Int×Int):iX (bL s)=true:=by simp[bL]
def bW(s:Shape):iX (aH s)=true:=by simp[aH,aC aIq]
def aD9(s:ct):iX (bV s)=true:=by simp[bV]
def aFA(s:List ct):iX (gH s)=true:=by simp[gH,aC aD9]
def bLc(s:List (List ct)):iX (bS s)=true:=by simp[bS,aC aFA]
def cU(s:List Str):iX (bY s)=true:=by simp[bY,aC bO]
def aEW:∀{a b:LA},iX (a++b)=(iX a&&iX b)
 | [],b=>by simp
 |x::a,b=>by simp[aEW (a:=a) (b:=b),Bool.and_assoc]
def bG(s:Block):iX (aE s)=true:=by simp only[aE,aEW,aV];simp[aC cA,aC aU,aC cU,aC bW,aC bLc,aC bO]
def eL(s:Fact):iX (aI s)=true:=by simp[aI]
def aBI(s:Question):iX (gR s)=true:=by simp[gR,aC cA,aC bO,aC aU]
def dV(s:Item):iX (aO s)=true:=by simp[aO,aC bG,aC eL,aC aBI]
end
abbrev eA(n:Int):Prop := -9223372036854775808<=n/\n<=9223372036854775807
abbrev lI(s:Str):Prop:=s.length<=1000
structure mr.Ok(r:mr):Prop where
 gg:eA r.gg
 text:lI r.text
mutual
def gY:Expr->Nat
 |.mk _ _ kids=>cP kids+1
def cP:List Expr->Nat
 | []=>0
 |e::r=>gY e+cP r
end
inductive Expr.Ok:Expr->Prop where
 |mk (op n:Int) (kids:List Expr):eA op->eA n->kids.length<=16->(∀e∈kids,Expr.Ok e)->Expr.Ok (.mk op n kids)
structure Shape.Ok(s:Shape):Prop where
 kind:eA s.kind
 len:s.points.length<=16
 points:∀p∈s.points,eA p.1/\eA p.2
structure ct.Ok(n:ct):Prop where
 step:eA n.step
 length:eA n.length
 alter:eA n.alter
structure Block.Ok(b:Block):Prop where
 kind:eA b.kind
 vw:b.runs.length<=16
 runs:∀r∈b.runs,r.Ok
 expr:b.expr.Ok
 size:gY b.expr<=1000
 dn:eA b.dn
 tj:b.eg.length<=16
 eg:∀n∈b.eg,eA n
 uu:b.cd.length<=16
 cd:∀r∈b.cd,r.length<=16/\∀s∈r,lI s
 w:eA b.w
 h:eA b.h
 fg:b.aw.length<=16
 aw:∀s∈b.aw,s.Ok
 uv:b.bo.length<=16
 bo:∀h∈b.bo,h.length<=16/\∀l∈h,l.length<=16/\∀n∈l,n.Ok
 vz:b.lines.length<=16
 lines:∀s∈b.lines,lI s
structure Fact.Ok(f:Fact):Prop where
 kind:eA f.kind
 block:eA f.block
 a:eA f.a
 b:eA f.b
structure Question.Ok(q:Question):Prop where
 kind:eA q.kind
 fg:q.lk.length<=16
 lk:∀r∈q.lk,r.Ok
 lenO:q.options.length<=16
 options:∀s∈q.options,lI s
 Q4:q.cy.length<=16
 cy:∀n∈q.cy,eA n
 key:lI q.key
 points:eA q.points
 vw:q.dv.length<=16
 dv:∀s∈q.dv,lI s
structure Item.Ok(x:Item):Prop where
 name:lI x.name
 zq:x.blocks.length<=16
 blocks:∀b∈x.blocks,b.Ok
 B1:x.facts.length<=16
 facts:∀f∈x.facts,f.Ok
 tj:x.ask.length<=16
 ask:∀q∈x.ask,q.Ok
structure jm.Ok(x:jm):Prop where
 title:lI x.title
 G8:x.items.length<=16
 items:∀i∈x.items,i.Ok
def getElem?_map_of{β:Type}{f:α->β}(h:i<l.length):(l.map f)[i]? = N1 (f l[i]):=by rw[BN,AP h];rfl
def dW{i:Nat}(h:i<4611686018427387904):GA .i64 ((i:Int)+1)=((i+1:Nat):Int):=by rw[wrap_i64 omT omT];rfl
def dec(n:Nat):Str:=if n<10 then [CN (48+n)] else dec (n / 10)++[CN (48+n % 10)]
decreasing_by omega
def aGn:∀(k n:Nat),n<10 ^ (k+1)->(dec n).length<=k+1
 |0,n,h=>by
  unfold dec;rw[Vx omT];exact AQ _
 |k+1,n,h=>by
  unfold dec;split
  .simp
  have:=aGn k (n / 10) (by rw[Nat.pow_succ]at h;omega);simp only[BA,AW,AZ];omega
abbrev aJc(A:af):Prop:=∀(n:Nat)(H:LO),n<1000000->aG A 99 [vi n] H=N1 (.str (dec n),H,[])
def dT{f:Nat}(h:(A.bq f).bind (· args H)=N1 (v,[],[])):aG A f args H=N1 (v,H,[]):=
 oL (n:=0) (by unfold dD qL;rw[h];simp[cT,eU])
def eqL{α:Type}(e:α->α->Bool):List α->List α->Bool
 | [],[]=>Pa
 |a::x,b::y=>e a b&&eqL e x y
 |_,_=>Po
def aJd{α:Type}{e:α->α->Bool}:∀{x y:List α},x.length≠y.length->eqL e x y=Po
 | [],[],h=>Vv rfl h
 | [],_::_,_=>rfl
 |_::_,[],_=>rfl
 |a::x,b::y,h=>by
  unfold eqL;rw[aJd uWg,Bool.and_false]
def aBh{x y:List α}(hx:i<x.length)(hy:i<y.length):eqL e (x.drop i) (y.drop i)=(e x[i] y[i]&&eqL e (x.drop (i+1)) (y.drop (i+1))):=by rw[FD hx,FD hy];rfl
def asV(agg:Bool)(cs:LA):AV:=if agg then .agg cs else cs.headD .undef
abbrev aXU(k:Nat)(agg:Bool)(ek:vd):ag:=
 qS [qb 14 .lss 13 12] <|.seq (qC 14 (.skip)
  (.exit 0)) <|.seq (.block 1 (qS [qm 15 13,
   qm 5 15] <|.seq (.region Pa [qm 16 0,
 qm 17 5,⟨N1 18,oi 16 17 k,N2,[0,1]⟩,⟨N1 19,.load k agg (u 18),N2,[2,0,1]⟩,
 qm 20 1,
 qm 21 5,⟨N1 22,oi 20 21 k,N2,[4,5]⟩,⟨N1 23,.load k agg (u 22),N2,[6,4,5]⟩,⟨N1 24,.bin .neq ek (u 19) (u 23),N2,[3,2,0,1,7,6,4,5]⟩]) <|
  qC 24 (qS [qmc 4 (.bool Po)] <|.ret)
   (.skip))) <|.region Po [qbi 25 .add 13 1,
  qm 13 25]
def oE(k:Nat)(agg:Bool)(ek:vd):bw:=⟨26,[],[.tmp 4],
 qS [qmc 4 (.bool Po)] <|.seq (qS [qm 6 0,
  qn 7 6,
  qm 8 1,
  qn 9 8,
  qb 10 .neq 7 9] <|
 qC 10 (qS [qmc 4 (.bool Po)] <|.ret)
  (.skip)) <|.seq (qS [qm 11 0,
  qn 12 11,
  qmc 13 z0] <|.block 0 (.loop (aXU k agg ek))) <|
 qS [qmc 4 (.bool Pa)] <|.ret⟩
def aPx{α:Type}(A:af)(f:Nat)(enc:α->LA)(e:α->α->Bool):Prop:=
 ∀(x y:List α)(H:LO),x.length<4611686018427387904->aG A f [.sl Po (x.map enc),.sl Po (y.map enc)] H=N1 (.bool (eqL e x y),H,[])
def vO{f:Nat}{ek:vd}(hf:A.fn f=N1 (oE k agg ek))(hp:A.bq f=N2)(hk:∀a,(enc a).length=k)(ho:∀a,eD agg (enc a)=N1 (asV agg (enc a)))(hbin:∀a b,kJ .neq ek (asV agg (enc a)) (asV agg (enc b))=N1 (.bool !(e a b))):aPx A f enc e:=by
 intro x y H hx;obtain⟨v1,H1,dc,h1,rfl,rfl,rfl⟩:=kN (args:=[.sl Po (x.map enc),.sl Po (y.map enc)]) (H:=H) (K:=λv' H'' ba=>v'=.bool (eqL e x y)/\H''=H/\ba=[]) hf (by rw[hp];rfl) (by simp[oE]) rfT (by
  simp only[oE];simp only[go_sem,seval];refine aD (λhb=>?_) (λhb=>?_)
  .have bl:x.length≠y.length:=uWa
   simp only[go_sem,seval,aJd bl]
  have hxy:x.length=y.length:=uWa
  simp only[go_sem,seval];refine aKt (λi ρ1 H1 wr=>wr=[]/\ρ1 13=vi i/\H1=H/\eqL e x y=eqL e (x.drop i) (y.drop i)) x.length rfT rfl ⟨rfl,rfl,uWa,rfl⟩ ?_;rintro i ρ1 H1 dc mg ⟨rfl,h13,rfl,hi⟩ hf;have f0:ρ1 0=.sl Po (x.map enc):=by rw[hf 0 rfl];simp only[go_sem,seval]
  have f1:ρ1 1=.sl Po (y.map enc):=by rw[hf 1 rfl];simp only[go_sem,seval]
  have f12:ρ1 12=vi x.length:=by rw[hf 12 rfl];simp only[go_sem,seval]
  simp only[go_sem,seval,f12,h13];refine aD (λhb=>?_) (λhb=>?_)
  .have hlt:i<x.length:=uWe
   have sf:i<y.length:=omT;simp only[go_sem,seval,h13];refine aY (aq:=[]) rfT rfT ?_;simp only[go_sem,seval,f0,f1,hlt,getElem?_map_of hlt,getElem?_map_of sf,hk,ho,hbin,CH];refine aD (λhb=>?_) (λhb=>?_)
   .have he:e x[i] y[i]=false:=uWe
    simp only[go_sem,seval,hi,aBh hlt sf,he]
   have he:e x[i] y[i]=true:=uWe
   simp only[go_sem,seval,h13];rw[dW omT];exact⟨hlt,rfl,uXb⟩
  have hlt:i=x.length:=uWa
  subst hlt;rw[DH (AQ _),DH omT]at hi;simp only[go_sem,seval,hi,eqL])
 exact h1
abbrev bCh(k:Nat)(zs:LA):ag:=
 qS [qb 18 .lss 17 16] <|.seq (qC 18 (.skip)
  (.exit 0)) <|.seq (.block 1 (qS [qm 19 17,
   qi 20 15 17 k,
   qla 21 k 20,
   qq 8 (.alloc zs),
   qm 7 19,
   qs k 8 21] <|
  qS [qm 22 1,
   qm 23 7,
   qi 24 22 23 k,
   qla 25 k 24,
   qq 9 (.alloc zs),
   qs k 9 25] <|
  qS [qm 26 2,
   qla 27 k 8,
   qla 28 k 9,
   qq 29 (.dm (u 26) [(.tmp 27),(.tmp 28)]),
   qq 30 (.un .not (u 29))] <|
  qC 30 (qS [qmc 6 (.bool Po)] <|.ret)
   (.skip))) <|.region Po [qbi 31 .add 17 1,
  qm 17 31]
def aLQ(k:Nat)(zs:LA):bw:=⟨32,[8,9],[.tmp 6],
 qS [qmc 6 (.bool Po)] <|.seq (qS [qm 10 0,
  qn 11 10,
  qm 12 1,
  qn 13 12,
  qb 14 .neq 11 13] <|
 qC 14 (qS [qmc 6 (.bool Po)] <|.ret)
  (.skip)) <|.seq (qS [qm 15 0,
  qn 16 15,
  qmc 17 z0] <|.block 0 (.loop (bCh k zs))) <|
 qS [qmc 6 (.bool Pa)] <|.ret⟩
abbrev bAM:ag:=qS [qb 18 .lss 17 16]<|.seq (qC 18 (.skip) (.exit 0))<|.seq (.block 1 (qS [qm 19 17,qi 20 15 17 1,ql 21 1 20,qm 7 19,qm 8 21]<|qS [qm 22 1,qm 23 7,qi 24 22 23 1,ql 25 1 24,qm 9 25]<|qS [qm 26 2,qm 27 8,qm 28 9,qq 29 (.dm (u 26) [(.tmp 27),(.tmp 28)]),qq 30 (.un .not (u 29))]<|qC 30 (qS [qmc 6 (.bool Po)]<|.ret) (.skip)))<|.region Po [qbi 31 .add 17 1,qm 17 31]
def aGo:bw:=⟨32,[],[.tmp 6],qS [qmc 6 (.bool Po)]<|.seq (qS [qm 10 0,qn 11 10,qm 12 1,qn 13 12,qb 14 .neq 11 13]<|qC 14 (qS [qmc 6 (.bool Po)]<|.ret) (.skip))<|.seq (qS [qm 15 0,qn 16 15,qmc 17 z0]<|.block 0 (.loop bAM))<|qS [qmc 6 (.bool Pa)]<|.ret⟩
def aLR{α:Type}(A:af)(f:Nat)(v:α->AV)(e:α->α->Bool)(P:α->Prop):Prop:=∀(a b:α)(H:LO),P a->aG A f [v a,v b] H=N1 (.bool (e a b),H,[])
def aJe{α:Type}(A:af)(f h:Nat)(enc:α->LA)(e:α->α->Bool)(P:α->Prop):Prop:=
 ∀(x y:List α)(H:LO),x.length<4611686018427387904->(∀a∈x,P a)->aG A f [.sl Po (x.map enc),.sl Po (y.map enc),.fn h [] []] H=N1 (.bool (eqL e x y),H,[])
def aRB{f:Nat}(hf:A.fn f=N1 (aLQ k zs))(hp:A.bq f=N2)(hz:zs.length=k)(hk:∀a,(enc a).length=k)(hd:∀a,iX (enc a)=Pa)(hc:aLR A h (λa=>.agg (enc a)) e P):aJe A f h enc e P:=by
 intro x y H hx hP;obtain⟨v1,H1,dc,h1,rfl,rfl,rfl⟩:=kN (args:=[.sl Po (x.map enc),.sl Po (y.map enc),.fn h [] []]) (H:=H) (K:=λv' H'' ba=>v'=.bool (eqL e x y)/\H''=H/\ba=[]) hf (by rw[hp];rfl) (by simp[aLQ]) rfT (by
  simp only[aLQ];simp only[go_sem,seval];refine aD (λhb=>?_) (λhb=>?_)
  .have bl:x.length≠y.length:=uWa
   simp only[go_sem,seval,aJd bl]
  have hxy:x.length=y.length:=uWa
  simp only[go_sem,seval];refine aKt (λi ρ1 H1 wr=>wr=[]/\ρ1 17=vi i/\(∃o1 o2,H1=H++[o1,o2])/\eqL e x y=eqL e (x.drop i) (y.drop i)) x.length rfT rfl ⟨rfl,uWc,⟨_,_,rfl⟩,rfl⟩ ?_;rintro i ρ1 H1 dc mg ⟨rfl,h17,⟨o1,o2,rfl⟩,hi⟩ hf;have f1:ρ1 1=.sl Po (y.map enc):=by rw[hf 1 rfl];simp only[go_sem,seval]
  have f2:ρ1 2=.fn h [] []:=by rw[hf 2 rfl];simp only[go_sem,seval]
  have f15:ρ1 15=.sl Po (x.map enc):=by rw[hf 15 rfl];simp only[go_sem,seval]
  have f16:ρ1 16=vi x.length:=by rw[hf 16 rfl];simp only[go_sem,seval]
  simp only[go_sem,seval,f16,h17];refine aD (λhb=>?_) (λhb=>?_)
  .have hlt:i<x.length:=uWe
   have sf:i<y.length:=omT;have X7:=λH=>hc x[i] y[i] H (hP _ (AS hlt));have pk:∀a,FW k (enc a)=enc a:=λa=>CH uWa;have sh:KW k zs=[]:=List.drop_of_length_le uWa;simp only[go_sem,seval,f1,f2,f15,h17,hlt,getElem?_map_of hlt,getElem?_map_of sf,hk,hz,pk,sh,aS (hd _),aK (hd _),bID (hd _),X7];refine aD (λhb=>?_) (λhb=>?_)
   .have he:e x[i] y[i]=false:=uWe
    simp only[go_sem,seval,hi,aBh hlt sf,he]
   have he:e x[i] y[i]=true:=uWe
   simp only[go_sem,seval,h17];rw[dW omT];exact⟨hlt,rfl,⟨_,_,rfl⟩,uXb⟩
  have hlt:i=x.length:=uWa
  subst hlt;rw[DH (AQ _),DH omT]at hi;simp only[go_sem,seval,hi,eqL])
 exact h1
def aPy{f:Nat}{v:α->AV}(hf:A.fn f=N1 (aGo))(hp:A.bq f=N2)(hv:∀a,enc a=[v a])(hd:∀a,(v a).data=Pa)(O9:∀a,(v a).ak=Pa)(hc:aLR A h v e P):aJe A f h enc e P:=by
 intro x y H hx hP;obtain⟨v1,H1,dc,h1,rfl,rfl,rfl⟩:=kN (args:=[.sl Po (x.map enc),.sl Po (y.map enc),.fn h [] []]) (H:=H) (K:=λv' H'' ba=>v'=.bool (eqL e x y)/\H''=H/\ba=[]) hf (by rw[hp];rfl) (by simp[aGo]) rfT (by
  simp only[aGo];simp only[go_sem,seval];refine aD (λhb=>?_) (λhb=>?_)
  .have bl:x.length≠y.length:=uWa
   simp only[go_sem,seval,aJd bl]
  have hxy:x.length=y.length:=uWa
  simp only[go_sem,seval];refine aKt (λi ρ1 H1 wr=>wr=[]/\ρ1 17=vi i/\H1=H/\eqL e x y=eqL e (x.drop i) (y.drop i)) x.length rfT rfl ⟨rfl,uWc,uWa,rfl⟩ ?_;rintro i ρ1 H1 dc mg ⟨rfl,h17,rfl,hi⟩ hf;have f1:ρ1 1=.sl Po (y.map enc):=by rw[hf 1 rfl];simp only[go_sem,seval]
  have f2:ρ1 2=.fn h [] []:=by rw[hf 2 rfl];simp only[go_sem,seval]
  have f15:ρ1 15=.sl Po (x.map enc):=by rw[hf 15 rfl];simp only[go_sem,seval]
  have f16:ρ1 16=vi x.length:=by rw[hf 16 rfl];simp only[go_sem,seval]
  simp only[go_sem,seval,f16,h17];refine aD (λhb=>?_) (λhb=>?_)
  .have hlt:i<x.length:=uWe
   have sf:i<y.length:=omT;have X7:=λH=>hc x[i] y[i] H (hP _ (AS hlt));have bd:∀a,(v a).strip=v a:=λa=>by
    have h1:=tT (hd a);cases hva:v a<;>first | rfl | skip
    all_goals first | (rw[hva]at h1;exact h1)|(have:=O9 a;rw[hva]at this;cases this)
   have hle:∀a (H:LO),dw H (v a)=N1 (v a,[]):=λa H=>by
    have h1:=xH (H:=H) (hd a) (O9 a);cases hva:v a<;>first | rfl | skip
    all_goals first | (rw[hva]at h1;exact h1)|(have:=O9 a;rw[hva]at this;cases this)
   simp only[go_sem,seval,f1,f2,f15,h17,hlt,getElem?_map_of hlt,getElem?_map_of sf,hv,bd,hle,X7];refine aD (λhb=>?_) (λhb=>?_)
   .have he:e x[i] y[i]=false:=uWe
    simp only[go_sem,seval,hi,aBh hlt sf,he]
   have he:e x[i] y[i]=true:=uWe
   simp only[go_sem,seval,h17];rw[dW omT];exact⟨hlt,rfl,uXb⟩
  have hlt:i=x.length:=uWa
  subst hlt;rw[DH (AQ _),DH omT]at hi;simp only[go_sem,seval,hi,eqL])
 exact h1
def qV:=(.mk _:bb 163 bTx).x
def sW:=(.mk _:bb 157 bTx).x
def sX:=(.mk _:bb 159 bTx).x
def zG:=(.mk _:bb 110 bTx).x
noncomputable def eqv{α:Type}(a b:α):Bool:=@decide (a=b) (Classical.propDecidable _)
def fO{b:α}:eqv a b=Pa↔a=b:=by unfold eqv;simp
def aRC:eqv a a=true:=fO.2 rfl
def aKu{b:α}(h:a≠b):eqv a b=false:=by unfold eqv;simp[h]
def aEc[BEq α][LawfulBEq α]{b:α}:(a==b)=eqv a b:=by rw[DS,fO];simp
def aKv{a b:Int}:(a==b)=eqv a b:=aEc
def aLS{α:Type}:∀{x y:List α},eqL eqv x y=eqv x y
 | [],[]=>aRC.symm
 | [],_::_=>by rw[aKu siT];rfl
 |_::_,[]=>by rw[aKu siT];rfl
 |a::x,b::y=>by
  unfold eqL;rw[aLS,DS,AI,fO,fO,fO];simp
def aUu{a b:mr}:eqv a b=(eqv a.gg b.gg&&eqv a.text b.text):=by rw[DS,AI,fO,fO,fO];cases a;cases b;simp
def aPz{a b:Int×Int}:eqv a b=(eqv a.1 b.1&&eqv a.2 b.2):=by rw[DS,AI,fO,fO,fO];grind
def aKw{a b:Shape}:eqv a b=(eqv a.kind b.kind&&eqv a.points b.points):=by rw[DS,AI,fO,fO,fO];cases a;cases b;simp
def aRD{a b:ct}:eqv a b=(eqv a.step b.step&&(eqv a.length b.length&&eqv a.alter b.alter)):=by rw[DS];simp only[AI,fO];cases a;cases b;simp
def aRE{a b:Fact}:eqv a b=(eqv a.kind b.kind&&(eqv a.block b.block&&(eqv a.a b.a&&eqv a.b b.b))):=by rw[DS];simp only[AI,fO];cases a;cases b;simp
def pX{α:Type}(A:af)(f:Nat)(v:α->AV)(P:α->Prop):Prop:=aLR A f v eqv P
abbrev aEd{α:Type}(A:af)(f:Nat)(enc:α->LA):Prop:=∀(x y:List α)(H:LO),x.length<4611686018427387904->aG A f [.sl Po (x.map enc),.sl Po (y.map enc)] H=N1 (.bool (eqv x y),H,[])
abbrev aJf{α:Type}(A:af)(f h:Nat)(enc:α->LA)(P:α->Prop):Prop:=
 ∀(x y:List α)(H:LO),x.length<4611686018427387904->(∀a∈x,P a)->aG A f [.sl Po (x.map enc),.sl Po (y.map enc),.fn h [] []] H=N1 (.bool (eqv x y),H,[])
def aPx.eqv{f:Nat}(h:aPx A f enc eqv):aEd A f enc:=λx y H hx=>by rw[h x y H hx,aLS]
def aJe.eqv{f:Nat}(h:aJe A f f2 enc eqv P):aJf A f f2 enc P:=λx y H hx hP=>by rw[h x y H hx hP,aLS]
def aXV{f:Nat}(hf:A.fn f=N1 (oE 1 Po .no))(hp:A.bq f=N2):aEd A f bF:=
 (vO hf hp (λ_=>rfl) (λ_=>rfl) (λa b=>by rw[<- aEc];simp[asV,bF,aUi,bne])).eqv
def aT2{f:Nat}(hf:A.fn f=N1 (oE 1 Po .no))(hp:A.bq f=N2):aEd A f aN:=
 (vO hf hp (λ_=>rfl) (λ_=>rfl) (λa b=>by rw[<- aEc];simp[asV,aN,aRy,bne])).eqv
def aGp{ts:List Tag}{x y:LA}(h:lP ts x y=N1 b):kJ .neq (.cells ts) (.agg x) (.agg y)=N1 (.bool !b):=by simp[kJ,tN,h]
def aXW{f:Nat}(hf:A.fn f=N1 (oE 2 Pa (.cells [.int,.str])))(hp:A.bq f=N2):aEd A f cZ:=
 (vO hf hp (λ_=>rfl) (λ_=>rfl) (λa b=>aGp (by
  rw[aUu];simp only[cZ,lP,aCO,Vu,aEc]
  grind))).eqv
def aRF{f:Nat}(hf:A.fn f=N1 (oE 2 Pa (.cells [.int,.int])))(hp:A.bq f=N2):aEd A f bL:=
 (vO hf hp (λ_=>rfl) (λ_=>rfl) (λa b=>aGp (by
  rw[aPz];simp only[bL,lP,aCO,Vu,aEc]
  grind))).eqv
def aUv{f:Nat}(hf:A.fn f=N1 (oE 3 Pa (.cells [.int,.int,.int])))(hp:A.bq f=N2):aEd A f bV:=
 (vO hf hp (λ_=>rfl) (λ_=>rfl) (λa b=>aGp (by
  rw[aRD];simp only[bV,lP,aCO,Vu,aEc]
  grind))).eqv
def aJg{f:Nat}{v:α->AV}(hf:A.fn f=N1 aGo)(hp:A.bq f=N2)(hv:∀a,enc a=[v a])(hd:∀a,(v a).data=Pa)(O9:∀a,(v a).ak=Pa)(hc:pX A h v P):aJf A f h enc P:=(aPy hf hp hv hd O9 hc).eqv
def aPA{f:Nat}(hf:A.fn f=N1 (aLQ k zs))(hp:A.bq f=N2)(hz:zs.length=k)(hk:∀a,(enc a).length=k)(hd:∀a,iX (enc a)=Pa)(hc:pX A h (λa=>.agg (enc a)) P):aJf A f h enc P:=(aRB hf hp hz hk hd hc).eqv
abbrev Len{α:Type}(l:List α):Prop:=l.length<4611686018427387904
def aZ:∀l:List Expr,gO l=l.map aF
 | []=>rfl
 |e::r=>by rw[gO,aZ r];rfl
def cF(b:Block):(aE b).length=13:=by obtain⟨_,_,⟨_,_,_⟩,_,_,_,_,_,_,_,_⟩:=b;rfl
def dP(e:Expr):(aF e).length=3:=by cases e;rfl
def aJh(h:Has A 163 qV)(hf:A.fn 252=N1 (aLQ 3 [.int .i64 0,.int .i64 0,.sl Pa []]))(hp:A.bq 252=N2):pX A 163 (λe=>.agg (aF e)) Expr.Ok:=by
 have key:∀n:Nat,pX A 163 (λe=>.agg (aF e)) (λe=>Expr.Ok e/\SizeOf.sizeOf e<n):=by
  intro n
  induction n with
  |zero=>intro a b H ha;grind
  |succ n ih=>
   intro a b H ha;have hk:=aPA (enc:=aF) hf hp rfl dP aV ih;obtain⟨op,n1,kids⟩:=a;obtain⟨op',n1',kids'⟩:=b;obtain⟨⟨_,_,_,_,_,hl,E7⟩,gd⟩:=ha;have pt:=λH=>hk kids kids' H omT (λe he=>⟨E7 e he,by
    have:=GY he
    grind⟩)
   have hE:eqv (Expr.mk op n1 kids) (Expr.mk op' n1' kids')=(eqv op op'&&(eqv n1 n1'&&eqv kids kids')):=by rw[DS];simp only[AI,fO];simp
   refine h.call ?_;simp only[qV,aF,aZ];cases e1:eqv op op' with
   |false=>simp only[go_sem,seval,aKv,hE,e1]
   |true=>cases e2:eqv n1 n1' with
    |false=>simp only[go_sem,seval,aKv,hE,e1,e2]
    |true=>simp only[go_sem,seval,aKv,hE,e1,e2,pt]
 intro a b H ha;exact key (SizeOf.sizeOf a+1) a b H ⟨ha,omT⟩
structure X0(A:af):Prop where
 block:Has A 110 zG
 xy:Has A 157 sW
 xz:Has A 159 sX
 expr:Has A 163 qV
 Yk:Has A 166 (aLQ 2 [z0,(.sl Pa [])])
 K9:Has A 252 (aLQ 3 [z0,z0,(.sl Pa [])])
 L0:Has A 160 aGo
 B3:Has A 167 aGo
 L4:Has A 164 aGo
 L5:Has A 158 (oE 2 Pa (.cells [.int,.int]))
 note:Has A 161 (oE 3 Pa (.cells [.int,.int,.int]))
 run:Has A 162 (oE 2 Pa (.cells [.int,.str]))
 int:Has A 45 (oE 1 Po .no)
 str:Has A 165 (oE 1 Po .no)
section
variable {A:af}(h:X0 A)
include h
def aNZ:pX A 157 (λs=>.agg (aH s)) Shape.Ok:=by
 intro a b H ha;have hP:=aRF h.L5.fn h.L5.bq;have hp:=λH=>hP a.points b.points H (by have:=ha.len;omega);refine h.xy.call ?_;simp only[sW,aH];cases e1:eqv a.kind b.kind with
 |false=>simp only[go_sem,seval,aKv,aKw,e1]
 |true=>simp only[go_sem,seval,aKv,aKw,e1,hp]
def aRG:pX A 161 (λl:List ct=>.sl Po (l.map bV)) (λl=>l.length<=16):=by intro a b H ha;exact aUv h.note.fn h.note.bq a b H omT
def aPB:pX A 159 (λl:List (List ct)=>.sl Po (l.map gH)) (λl=>l.length<=16/\∀b∈l,b.length<=16):=by intro a b H ha;have hE:=aJg (enc:=gH) h.L0.fn h.L0.bq (λ_=>rfl) (λ_=>aC aD9 _) (λ_=>rfl) (aRG h);have hp:=λH=>hE a b H uWa ha.2;refine h.xz.call ?_;simp only[sX];simp only[go_sem,seval,hp]
def aRH:pX A 165 (λl:List Str=>.sl Po (l.map aN)) (λl=>l.length<=16):=by intro a b H ha;exact aT2 h.str.fn h.str.bq a b H omT
end
section
variable {A:af}(h:X0 A)
include h
def aO0:pX A 110 (λq=>.agg (aE q)) Block.Ok:=by
 intro a b H ha;have h1:=λH=>aXW h.run.fn h.run.bq a.runs b.runs H (by have:=ha.vw;omega);have h2:=λH=>aJh h.expr h.K9.fn h.K9.bq a.expr b.expr H ha.expr;have h3:=λH=>aXV h.int.fn h.int.bq a.eg b.eg H (by have:=ha.tj;omega);have h4:=λH=>(aJg (enc:=bY) h.L4.fn h.L4.bq (λ_=>rfl) (λ_=>aC bO _) (λ_=>rfl) (aRH h)) a.cd b.cd H (by have:=ha.uu;omega) (λr hr=>(ha.cd r hr).1);have h5:=λH=>(aPA (enc:=aH) h.Yk.fn h.Yk.bq rfl (λ_=>rfl) bW (aNZ h)) a.aw b.aw H (by have:=ha.fg;omega) ha.aw;have h6:=λH=>(aJg (enc:=bS) h.B3.fn h.B3.bq (λ_=>rfl) (λ_=>aC aFA _) (λ_=>rfl) (aPB h)) a.bo b.bo H (by have:=ha.uv;omega)
  (λr hr=>⟨(ha.bo r hr).1,λl hl=>((ha.bo r hr).2 l hl).1⟩)
 have h7:=λH=>aT2 h.str.fn h.str.bq a.lines b.lines H (by have:=ha.vz;omega);have hE:eqv a b=(eqv a.kind b.kind&&(eqv a.runs b.runs&&(eqv a.expr b.expr&&(eqv a.dn b.dn&&(eqv a.eg b.eg&&(eqv a.cd b.cd&&(eqv a.w b.w&&(eqv a.h b.h&&(eqv a.aw b.aw&&(eqv a.bo b.bo&&eqv a.lines b.lines)))))))))):=by rw[DS];simp only[AI,fO];cases a;cases b;simp
 cases hae:a.expr with | mk op n kids=>
 cases nz:b.expr with | mk op' n' kids'=>
 rw[hae,nz]at h2;rw[hae,nz]at hE;simp only[aF,aZ]at h2;refine h.block.call ?_;simp only[zG,aE,hae,nz,aF,aZ];cases e1:eqv a.kind b.kind with
 |false=>simp only[go_sem,seval,aKv,hE,e1]
 |true=>
  cases e2:eqv a.runs b.runs with
  |false=>simp only[go_sem,seval,aKv,hE,e1,h1,e2]
  |true=>
   cases e3:eqv (Expr.mk op n kids) (Expr.mk op' n' kids')with
   |false=>simp only[go_sem,seval,aKv,hE,e1,h1,e2,h2,e3]
   |true=>
    cases e4:eqv a.dn b.dn with
    |false=>simp only[go_sem,seval,aKv,hE,e1,h1,e2,h2,e3,e4]
    |true=>
     cases e5:eqv a.eg b.eg with
     |false=>simp only[go_sem,seval,aKv,hE,e1,h1,e2,h2,e3,e4,h3,e5]
     |true=>
      cases e6:eqv a.cd b.cd with
      |false=>simp only[go_sem,seval,aKv,hE,e1,h1,e2,h2,e3,e4,h3,e5,h4,e6]
      |true=>
       cases e7:eqv a.w b.w with
       |false=>simp only[go_sem,seval,aKv,hE,e1,h1,e2,h2,e3,e4,h3,e5,h4,e6,e7]
       |true=>
        cases e8:eqv a.h b.h with
        |false=>simp only[go_sem,seval,aKv,hE,e1,h1,e2,h2,e3,e4,h3,e5,h4,e6,e7,e8]
        |true=>
         cases e9:eqv a.aw b.aw with
         |false=>simp only[go_sem,seval,aKv,hE,e1,h1,e2,h2,e3,e4,h3,e5,h4,e6,e7,e8,h5,e9]
         |true=>
          cases e10:eqv a.bo b.bo with
          |false=>simp only[go_sem,seval,aKv,hE,e1,h1,e2,h2,e3,e4,h3,e5,h4,e6,e7,e8,h5,e9,h6,e10]
          |true=>simp only[go_sem,seval,aKv,hE,e1,h1,e2,h2,e3,e4,h3,e5,h4,e6,e7,e8,h5,e9,h6,e10,h7]
end
def xM:=(.mk _:bb 67 bTx).x
def wi(n a b:Int):Bool:=decide (n ≥ a)&&decide (n<=b)
abbrev eO(A:af):Prop:=∀(n a b:Int)(H:LO),aG A 67 [vi n,vi a,vi b] H=N1 (.bool (wi n a b),H,[])
def kO(h:Has A 67 xM):eO A:=by
 intro n a b H;refine h.call ?_;simp only[xM];cases e1:decide (n ≥ a)with
 |false=>simp only[go_sem,↓aB,seval,e1,wi,Aa]
 |true=>simp only[go_sem,↓aB,seval,e1,wi]
structure mv{α:Type}(k:Nat)(agg:Bool)(enc:α->LA):Prop where
 len:∀a,(enc a).length=k
 data:∀a,iX (enc a)=Pa
 one:agg=Po->k=1
section
variable {α:Type}{k:Nat}{agg:Bool}{enc:α->LA}
def mv.of(h:mv k agg enc)(a:α):eD agg (enc a)=N1 (asV agg (enc a)):=by
 cases agg with
 |true=>rfl
 |false=>
  have h1:=(h.len a).trans (h.one rfl)
  match he:enc a,h1 with
  | [v],_=>rfl
def mv.dw(h:mv k agg enc)(a:α)(H:LO):dw H (asV agg (enc a))=N1 (asV agg (enc a),[]):=by
 cases agg with
 |true=>show dw H (.agg (enc a))=_;rw[aRx,aS (h.data a)];rfl
 |false=>
  have h1:=(h.len a).trans (h.one rfl);have h2:=h.data a
  match he:enc a,h1 with
  | [v],_=>rw[he]at h2;simp only[iX,AI]at h2;have:=xH (H:=H) h2.1.2 h2.1.1;show dw H v=N1 (v,[]);cases v<;>first | exact this | exact Vv h2.1.1 ED
def mv.strip(h:mv k agg enc)(a:α):(asV agg (enc a)).strip=asV agg (enc a):=by
 cases agg with
 |true=>show AV.agg ((enc a).map AV.aj)=_;rw[aK (h.data a)];rfl
 |false=>
  have h1:=(h.len a).trans (h.one rfl);have h2:=h.data a
  match he:enc a,h1 with
  | [v],_=>rw[he]at h2;simp only[iX,AI]at h2;have:=tT h2.1.2;show v.strip=v;cases v<;>first | exact this | exact Vv h2.1.1 ED
def mv.take(h:mv k agg enc)(a:α):(enc a).take k=enc a:=CH (by rw[h.len];grind)
def mv.still(h:mv k agg enc)(a:α):(enc a).all AV.still=true:=bR (h.data a)
def mv.ga(h:mv k agg enc)(a:α):(enc a).map AV.aj=enc a:=aK (h.data a)
end
structure jc(ay:LA):Prop where
 dw:∀H,kA H ay=N1 (ay,[])
 strip:ay.map AV.strip=ay
 aj:ay.map AV.aj=ay
 still:ay.all AV.still=Pa
def bIJ:jc []:=⟨λ_=>rfl,rfl,rfl,rfl⟩
def jc.ep(h:jc ay)(row:LA)(off:Nat):jc (.ep row off::ay):=by
 refine⟨λH=>?_, ?_, ?_, ?_⟩
 .show (match kA H ay with | none=>N2 | some (r',l')=>N1 (AV.ep row off::r',[]++l'))=_;rw[h.dw];rfl
 .rw[BI,h.strip];rfl
 .rw[BI,h.aj];rfl
 rw[ES,h.still];rfl
def jc.ptr(h:jc ay)(o v off:Nat):jc (.ptr o v off::ay):=by
 refine⟨λH=>?_, ?_, ?_, ?_⟩
 .show (match kA H ay with | none=>N2 | some (r',l')=>N1 (AV.ptr o v off::r',[]++l'))=_;rw[h.dw];rfl
 .rw[BI,h.strip];rfl
 .rw[BI,h.aj];rfl
 rw[ES,h.still];rfl
def aMW{α:Type}(p:α->Bool)(l:List α):Int:=match l.findIdx? p with
 |some i=>(i:Int)
 |none => -1
def aLT(h:i<l.length)(hp:p l[i]=Pa)(hn:∀j (hj:j<i),p (l[j]'omT)=Po):aMW p l=i:=by grind [aMW,List.findIdx?_eq_some_iff_getElem]
def aGq(hn:∀j (hj:j<l.length),p l[j]=Po):aMW p l = -1:=by
 unfold aMW;rw[List.findIdx?_eq_none_iff.2 λx hx=>by
  obtain⟨j,hj,rfl⟩:=List.getElem_of_mem hx;exact hn j hj]
def aLU:decide (aMW p l ≥ 0)=l.any p:=by
 unfold aMW
 grind
abbrev bCi(k:Nat)(agg:Bool):ag:=
 qS [qb 9 .lss 8 7] <|.seq (qC 9 (.skip)
  (.exit 0)) <|.seq (.block 1 (qS [qm 10 8,
   qm 5 10] <|
  qS [qm 11 1,
   qm 12 0,
   qm 13 5,
   qi 14 12 13 k,
   qq 15 (.load k agg (u 14)),
   qq 16 (.dm (u 11) [(.tmp 15)])] <|
  qC 16 (qS [qm 17 5,
    qm 4 17] <|.ret)
   (.skip))) <|.region Po [qbi 18 .add 8 1,
  qm 8 18]
def aKx(k:Nat)(agg:Bool):bw:=⟨19,[],[.tmp 4],
 qS [qmc 4 z0] <|.seq (qS [qm 6 0,
  qn 7 6,
  qmc 8 z0] <|.block 0 (.loop (bCi k agg))) <|
 qS [qmc 4 (.int .i64 (-1))] <|.ret⟩
def aLV(fi:Nat):bw:=⟨9,[],[.tmp 4],
 qS [qmc 4 (.bool Po)] <|
 qS [qm 5 0,
  qm 6 1,
  qc 7 fi [u 5,u 6],
  qbi 8 .geq 7 0,
  qm 4 8] <|.ret⟩
def aRI(fw fc f1:Nat):bw:=⟨20,[],[.tmp 8],
 qS [qx 7 1 3,
  qmc 8 (.bool Po)] <|
 qS [qm 9 0,
  qn 10 9,
  qm 11 1,
  qm 12 2,
  qc 13 fw [u 10,u 11,u 12],
  qm 14 13,
  qT 15 14 (om 0),
  qT 16 14 (.mkf f1 [] [(.tmp 7)]),
  qT 17 14 (oc fc [u 15,u 16]),
  qT 18 14 (.un .not (u 17)),
  qp 19 14 18,
  qm 8 19] <|.ret⟩
def aRJ(k:Nat):bw:=⟨8,[],[.tmp 3],
 qS [qx 2 k 0,
  qmc 3 (.bool Po)] <|
 qS [ql 4 1 1,
  qla 5 k 2,
  qq 6 (.dm (u 4) [(.tmp 5)]),
  qq 7 (.un .not (u 6)),
  qm 3 7] <|.ret⟩
def aRK:bw:=⟨8,[],[.tmp 3],qS [qmc 3 (.bool Po)]<|qS [ql 4 1 1,qm 5 0,qq 6 (.dm (u 4) [(.tmp 5)]),qq 7 (.un .not (u 6)),qm 3 7]<|.ret⟩
section
variable {α:Type}{A:af}{k:Nat}{agg:Bool}{enc:α->LA}{ay:LA}{q:α->Bool}{l:List α}{H:LO}{f1:Nat}
abbrev aRL{α:Type}(l:List α):Prop:=l.length<4611686018427387904
abbrev aUw(A:af)(f1:Nat)(ay:LA)(v:α->AV)(q:α->Bool)(l:List α)(H:LO):Prop:=∀a∈l,aG A f1 (v a::ay) H=N1 (.bool (q a),H,[])
def aDa{f:Nat}(hf:A.fn f=N1 (aKx k agg))(hp:A.bq f=N2)(he:mv k agg enc)(hc:jc ay)(hl:aRL l)(h:aUw A f1 ay (λa=>asV agg (enc a)) q l H):aG A f [.sl Po (l.map enc),.fn f1 [] ay] H=N1 (vi (aMW q l),H,[]):=by
 obtain⟨v1,H1,dc,h1,rfl,rfl,rfl⟩:=kN (args:=[.sl Po (l.map enc),.fn f1 [] ay]) (H:=H) (K:=λv' H'' ba=>v'=vi (aMW q l)/\H''=H/\ba=[]) hf (by rw[hp];rfl) (by simp[aKx]) rfT (by
  simp only[aKx];simp only[go_sem,↓aB,seval];refine bJ (id:=0) (λi ρ1 H1 wr=>wr=[]/\H1=H/\ρ1 8=vi i/\∀j (hj:j<i) (hl:j<l.length),q l[j]=Po) l.length
   (λρ1 H1 wr=>wr=[]/\H1=H/\∀j (hl:j<l.length),q l[j]=Po)
   rfT rfl ⟨rfl,siT,rfl,λj hj=>omT⟩ ?_ ?_
  .rintro i ρ1 H1 dc mg ⟨rfl,rfl,e8,hn⟩ hf;have e0:ρ1 0=.sl Po (l.map enc):=hf 0 rfl;have e1:ρ1 1=.fn f1 [] ay:=hf 1 rfl;have e7:ρ1 7=vi l.length:=hf 7 rfl;simp only[go_sem,↓aB,seval,e8,e7];refine aD (λhb=>?_) (λhb=>?_)
   .have hlt:i<l.length:=uWe
    have hg:(l.map enc)[i]? = N1 (enc l[i]):=getElem?_map_of hlt;have gq:(0:Int)<=(i:Int):=omT;have kx:((i:Int)).toNat=i:=omT;have Qe:=wS (i:=i) omT;have az:=h l[i] (AS hlt);cases hq:q l[i]with
    |true=>rw[hq]at az;simp only[go_sem,↓aB,seval,e0,e1,e8,hg,gq,kx,he.len,he.take,he.of,he.dw,he.strip,hc.dw,hc.strip,az];exact (aLT (p:=q) hlt hq λj hj=>hn j hj omT).symm ▸ rfl
    |false=>
     rw[hq]at az;simp only[go_sem,↓aB,seval,e0,e1,e8,hg,gq,kx,he.len,he.take,he.of,he.dw,he.strip,hc.dw,hc.strip,az,Qe]
     grind
   have hi:i=l.length:=uWa
   subst hi;simp only[go_sem,seval]
   grind
  rintro ρ' H' ba ⟨rfl,rfl,hn⟩ hf;simp only[go_sem,↓aB,seval,aGq (p:=q) hn])
 exact h1
def aGr{f:Nat}(hf:A.fn f=N1 (aLV fi))(hp:A.bq f=N2)(hc:jc ay)(hi:aG A fi [.sl Po (l.map enc),.fn f1 [] ay] H=N1 (vi (aMW q l),H,[])):aG A f [.sl Po (l.map enc),.fn f1 [] ay] H=N1 (.bool (l.any q),H,[]):=by
 obtain⟨v1,H1,dc,h1,rfl,rfl,rfl⟩:=kN (args:=[.sl Po (l.map enc),.fn f1 [] ay]) (H:=H) (K:=λv' H'' ba=>v'=.bool (l.any q)/\H''=H/\ba=[]) hf (by rw[hp];rfl) (by simp[aLV]) rfT (by
  simp only[aLV];simp only[go_sem,↓aB,seval,hi,aLU])
 exact h1
def aO1{f:Nat}(hf:A.fn f=N1 (aRJ k))(hp:A.bq f=N2)(he:mv k Pa enc)(hc:jc ay)(h:aUw A f2 ay (λa=>.agg (enc a)) q l H):aUw A f [.ep [.fn f2 [] ay] 0] (λa=>.agg (enc a)) (λa => !q a) l H:=by
 intro a ha;obtain⟨v1,H1,dc,h1,rfl,rfl,rfl⟩:=kN (args:=[.agg (enc a),.ep [.fn f2 [] ay] 0]) (H:=H) (K:=λv' H'' ba=>v'=.bool (!q a)/\H''=H/\ba=[]) hf (by rw[hp];rfl) (by simp[aRJ]) rfT (by
  have hl:=he.dw a H;have bd:=he.strip a;simp only[asV,Vu]at hl bd;have az:=h a ha;simp only[aRJ];simp only[go_sem,↓aB,seval,he.len,he.take,he.still,hl,bd,hc.dw,hc.strip,az])
 exact h1
def aO2{f:Nat}(hf:A.fn f=N1 aRK)(hp:A.bq f=N2)(he:mv 1 Po enc)(hc:jc ay)(h:aUw A f2 ay (λa=>asV Po (enc a)) q l H):aUw A f [.ep [.fn f2 [] ay] 0] (λa=>asV Po (enc a)) (λa => !q a) l H:=by
 intro a ha;obtain⟨v1,H1,dc,h1,rfl,rfl,rfl⟩:=kN (args:=[asV Po (enc a),.ep [.fn f2 [] ay] 0]) (H:=H) (K:=λv' H'' ba=>v'=.bool (!q a)/\H''=H/\ba=[]) hf (by rw[hp];rfl) (by simp[aRK]) rfT (by
  have az:=h a ha;simp only[aRK];simp only[go_sem,↓aB,seval,he.dw,he.strip,hc.dw,hc.strip,az])
 exact h1
def aPC{α:Type}{q:α->Bool}{l:List α}:l.any (λa => !q a) = !l.all q:=uWa
def aPD{f fc g1:Nat}(hf:A.fn f=N1 (aRI 67 fc g1))(hp:A.bq f=N2)(hw:eO A){lo hi:Int}(hl:aRL l)(h:wi l.length lo hi=Pa->aG A fc [.sl Po (l.map enc),.fn g1 [] [.ep [.fn f1 [] ay] 0]] H=N1 (.bool (l.any λa => !q a),H,[])):aG A f [.sl Po (l.map enc),vi lo,vi hi,.fn f1 [] ay] H=N1 (.bool (wi l.length lo hi&&l.all q),H,[]):=by
 obtain⟨v1,H1,dc,h1,rfl,rfl,rfl⟩:=kN (args:=[.sl Po (l.map enc),vi lo,vi hi,.fn f1 [] ay]) (H:=H) (K:=λv' H'' ba=>v'=.bool (wi l.length lo hi&&l.all q)/\H''=H/\ba=[]) hf (by rw[hp];rfl) (by simp[aRI]) rfT (by
  simp only[aRI];have dy:=hw l.length lo hi;cases e:wi l.length lo hi with
  |false=>rw[e]at dy;simp only[go_sem,↓aB,seval,dy,Aa]
  |true=>
   rw[e]at dy;have hh:=h e;rw[aPC]at hh;simp only[go_sem,↓aB,seval,dy,hh,PE])
 exact h1
end
structure fe(A:af)(k:Nat)(agg:Bool)(fa:Nat):Prop where
 ex:∃fc fi f1,(A.fn fa=N1 (aRI 67 fc f1)/\A.bq fa=N2)/\(A.fn fc=N1 (aLV fi)/\A.bq fc=N2)/\(A.fn fi=N1 (aKx k agg)/\A.bq fi=N2) /\
  (A.fn f1=N1 (if agg then aRJ k else aRK)/\A.bq f1=N2)
def fe.spec{fa:Nat}(h:fe A k agg fa)(hw:eO A)(he:mv k agg enc)(hc:jc ay)(hl:aRL l){q:α->Bool}{lo hi:Int}(hs:wi l.length lo hi=Pa->aUw A f1 ay (λa=>asV agg (enc a)) q l H):aG A fa [.sl Po (l.map enc),vi lo,vi hi,.fn f1 [] ay] H=N1 (.bool (wi l.length lo hi&&l.all q),H,[]):=by
 obtain⟨fc,fi,g1,⟨a1,a2⟩,⟨b1,b2⟩,⟨c1,c2⟩,⟨d1,d2⟩⟩:=h.ex;refine aPD a1 a2 hw hl λe=>aGr b1 b2 (bIJ.ep _ _) (aDa c1 c2 he (bIJ.ep _ _) hl ?_);cases agg with
 |true=>exact aO1 d1 d2 he hc (hs e)
 |false=>have:=he.one rfl;subst this;exact aO2 d1 d2 he hc (hs e)
def xN:=(.mk _:bb 47 bTx).x
def nK:=(.mk _:bb 66 bTx).x
def aCm:=(.mk _:bb 120 bTx).x
def xO:=(.mk _:bb 178 bTx).x
abbrev aFf:=bTw 70 (bJ6 11)
abbrev mE:LN:=[]
def xP:=(.mk _:bb 70 (bIC [(11,.region Pa aFf)])).x
def kP:=(.mk _:bb 106 bTx).x
def nL:=(.mk _:bb 107 bTx).x
def xQ:=(.mk _:bb 188 bTx).x
def tV:=(.mk _:bb 122 bTx).x
def mF:=(.mk _:bb 182 bTx).x
@[go_sem] def aZB{l:List UInt8}:pT H .s2b (.str l)=if l.length<=1099511627776 then N1 (.sl Po (aJ l))else none:=(rfl)
@[go_sem] def aZC{f:Nat}{a b:LA}:AV.under n (.fn f a b)=(dJ n a&&dJ n b):=(rfl)
@[go_sem] def aZD:AV.under n (.ep r o)=dJ n r:=(rfl)
@[go_sem] def bAZ{f:Nat}{a b:LA}:aDR base H (.fn f a b)=N1 (.fn f a b,H,[]):=(rfl)
@[go_sem] def aUF{t u:Nat}:iE base [.tmp t,.tmp u] ρ H wr=match aBv H [ρ t,ρ u]with
  |some (vs',H',l)=>N1 (.tup vs',H',bE base wr l)
  |none=>none:=by
 simp only[iE,aEP,aNP];rfl
attribute [go_sem] aBv
def aRV(b:UInt8):LA:=[.int .u8 b.toNat]
def aMY:mv 1 Po aRV:=⟨λ_=>rfl,λ_=>rfl,λ_=>rfl⟩
def aLX:mv 1 Po bF:=⟨λ_=>rfl,aU,λ_=>rfl⟩
def aUG:mv 1 Po aN:=⟨λ_=>rfl,bO,λ_=>rfl⟩
def aUH:mv 1 Po bY:=⟨λ_=>rfl,cU,λ_=>rfl⟩
def aLY:mv 1 Po gH:=⟨λ_=>rfl,aFA,λ_=>rfl⟩
def aJk:mv 1 Po bS:=⟨λ_=>rfl,bLc,λ_=>rfl⟩
def aUI:mv 2 Pa cZ:=⟨λ_=>rfl,cA,λh=>by cases h⟩
def aGu:mv 2 Pa bL:=⟨λ_=>rfl,aIq,λh=>by cases h⟩
def aKE:mv 2 Pa aH:=⟨λ_=>rfl,bW,λh=>by cases h⟩
def aMZ:mv 3 Pa bV:=⟨λ_=>rfl,aD9,λh=>by cases h⟩
def lF:mv 4 Pa aI:=⟨λ_=>rfl,eL,λh=>by cases h⟩
def aY1:mv 7 Pa gR:=⟨λ_=>rfl,aBI,λh=>by cases h⟩
def aJl:mv 4 Pa aO:=⟨λ_=>rfl,dV,λh=>by cases h⟩
def bT:mv 13 Pa aE:=⟨cF,bG,λh=>by cases h⟩
def dX:mv 3 Pa aF:=⟨dP,aV,λh=>by cases h⟩
def chB(c:UInt8):Bool:=decide ((c.toNat:Int) ≥ 32)&&decide ((c.toNat:Int)<=126)
def aUJ(c:UInt8):Bool:=decide ((c.toNat:Int) ≥ 97)&&decide ((c.toNat:Int)<=122)
def aKF(c:UInt8):Bool:=aUJ c || (decide ((c.toNat:Int) ≥ 48)&&decide ((c.toNat:Int)<=57))
def vP(lo hi:Int)(s:Str):Bool:=wi s.length lo hi&&s.all chB
def aO7:Str->Bool
 | []=>Po
 |c::r=>aUJ c&&(wi ((c::r).length:Nat) 1 16&&(c::r).all aKF)
def aGv(n:ct):Bool:=wi n.step (-1) 48&&wi n.length 0 4&&wi n.alter (-1) 1
def aKG(p:Int×Int):Bool:=wi p.1 0 1000&&wi p.2 0 1000
def vQ(s:Shape):Bool:=wi s.kind 0 2&&(wi s.points.length 1 12&&s.points.all aKG)
section
variable {A:af}
def aUK(h:Has A 66 nK)(c:UInt8)(H:LO):aG A 66 [.int .u8 c.toNat] H=N1 (.bool (chB c),H,[]):=by
 refine h.call ?_;simp only[nK,chB];cases e1:decide ((c.toNat:Int) ≥ 32)with
 |false=>simp only[go_sem,↓aB,seval,e1,Aa]
 |true=>simp only[go_sem,↓aB,seval,e1]
abbrev aFB(A:af):Prop:=∀(s:Str)(lo hi:Int)(H:LO),s.length<=1000000->aG A 47 [.str s,vi lo,vi hi] H=N1 (.bool (vP lo hi s),H,[])
def qW(h:Has A 47 xN)(h1:Has A 66 nK)(ha:fe A 1 Po 65)(hw:eO A):aFB A:=by intro s lo hi H hs;refine h.call ?_;have hc:=ha.spec hw aMY bIJ (l:=s) (H:=H) (f1:=66) (q:=chB) (lo:=lo) (hi:=hi) uWa λ_ c _=>aUK h1 c H;simp only[xN];simp only[go_sem,↓aB,seval,show s.length<=1099511627776 by omega];rw[show aJ s=s.map aRV from rfl,hc];simp only[go_sem,↓aB,seval,vP]
def aDb(h:Has A 120 aCm)(lo hi:Int)(H:LO):aG A 120 [vi lo,vi hi] H=N1 (.fn 178 [] [.ep [vi lo] 0,.ep [vi hi] 0],H,[]):=by refine h.call ?_;simp only[aCm];simp only[go_sem,↓aB,seval]
def aO8(h:Has A 178 xO)(ht:aFB A)(s:Str)(lo hi:Int)(H:LO)(hs:s.length<=1000000):aG A 178 [.str s,.ep [vi lo] 0,.ep [vi hi] 0] H=N1 (.bool (vP lo hi s),H,[]):=by refine h.call ?_;simp only[xO];simp only[go_sem,↓aB,seval,ht s lo hi H hs]
def aN0(h:Has A 106 kP)(c:UInt8)(H:LO):aG A 106 [.int .u8 c.toNat] H=N1 (.bool (aUJ c),H,[]):=by
 refine h.call ?_;simp only[kP,aUJ];cases e1:decide ((c.toNat:Int) ≥ 97)with
 |false=>simp only[go_sem,↓aB,seval,e1,Aa]
 |true=>simp only[go_sem,↓aB,seval,e1]
def aLZ(h:Has A 107 nL)(hl:Has A 106 kP)(c:UInt8){v:Nat}(ho:H[o]? = N1 (.box v [.fn 106 [] []])):aG A 107 [.int .u8 c.toNat,.ptr o v 0] H=N1 (.bool (aKF c),H,[]):=by
 refine h.call ?_;have hc:=aN0 hl c H;simp only[nL,aKF];cases e0:aUJ c with
 |true=>rw[e0]at hc;simp only[go_sem,↓aB,seval,ho,hc,CE]
 |false=>
  rw[e0]at hc;cases e1:decide ((c.toNat:Int) ≥ 48)with
  |false=>simp only[go_sem,↓aB,seval,ho,hc,e1,Aa]
  |true=>simp only[go_sem,↓aB,seval,ho,hc,e1]
def aGw(h:Has A 70 xP)(h1:Has A 106 kP)(h2:Has A 107 nL)(ha:fe A 1 Po 65)(hw:eO A)(s:Str)(H:LO)(hs:s.length<=1000000):aG A 70 [.str s] H=N1 (.bool (aO7 s),H,[]):=by
 refine h.call ?_;simp only[xP];simp only[go_sem,↓aB,seval];refine aY (aq:=mE) rfT rfT ?_;by_cases h0:s=[]
 .subst h0;simp only[go_sem,↓aB,seval,mE,aO7,Aa,bne]
 obtain⟨c,r,hcr⟩:=ER h0;have bl:(s != ([]:Str))=true:=by rw[hcr];rfl
 have hg:s[0]? = N1 c:=by rw[hcr];rfl
 have yh:aO7 s=(aUJ c&&(wi s.length 1 16&&s.all aKF)):=by rw[hcr];rfl
 have hl:=aN0 h1 c (H++[.box 1 [.fn 106 [] []]]);have hc:=ha.spec hw aMY (bIJ.ptr H.length 1 0) (l:=s) (H:=H++[.box 1 [.fn 106 [] []]]) (f1:=107) (q:=aKF) (lo:=1) (hi:=16) uWa
  λ_ c _=>aLZ h2 h1 c (o:=H.length) (v:=1) siT
 have ax:s.length<=1099511627776:=omT;have cn:aJ s=s.map aRV:=rfl;rw[yh];cases e:aUJ c with
 |false=>rw[e]at hl;simp only[go_sem,↓aB,seval,mE,hl,bl,hg,Aa]
 |true=>rw[e]at hl;simp only[go_sem,↓aB,seval,mE,hl,bl,hg,ax,cn,hc]
def aM0(h:Has A 188 xQ)(hw:eO A)(n:ct)(H:LO):aG A 188 [.agg (bV n)] H=N1 (.bool (aGv n),H,[]):=by
 refine h.call ?_;simp only[xQ,aGv];have h1:=λH=>hw n.step (-1) 48 H;have h2:=λH=>hw n.length 0 4 H;have h3:=λH=>hw n.alter (-1) 1 H;cases e1:wi n.step (-1) 48 with
 |false=>simp only[go_sem,↓aB,seval,bV,h1,e1,Aa]
 |true=>cases e2:wi n.length 0 4 with
  |false=>simp only[go_sem,↓aB,seval,bV,h1,h2,e1,e2,Aa]
  |true=>simp only[go_sem,↓aB,seval,bV,h1,h2,h3,e1,e2]
def aKH(h:Has A 182 mF)(hw:eO A)(p:Int×Int)(H:LO):aG A 182 [.agg (bL p)] H=N1 (.bool (aKG p),H,[]):=by
 refine h.call ?_;simp only[mF,aKG];have h1:=λH=>hw p.1 0 1000 H;have h2:=λH=>hw p.2 0 1000 H;cases e1:wi p.1 0 1000 with
 |false=>simp only[go_sem,↓aB,seval,bL,h1,e1,Aa]
 |true=>simp only[go_sem,↓aB,seval,bL,h1,h2,e1]
def aKI(h:Has A 122 tV)(h1:Has A 182 mF)(ha:fe A 2 Pa 181)(hw:eO A)(s:Shape)(hs:s.points.length<=1000000)(H:LO):aG A 122 [.agg (aH s)] H=N1 (.bool (vQ s),H,[]):=by
 refine h.call ?_;simp only[tV,vQ];have hk:=λH=>hw s.kind 0 2 H;have hc:=ha.spec hw aGu bIJ (l:=s.points) (H:=H) (f1:=182) (q:=aKG) (lo:=1) (hi:=12) uWa λ_ p _=>aKH h1 hw p H;cases e1:wi s.kind 0 2 with
 |false=>simp only[go_sem,↓aB,seval,aH,hk,e1,Aa]
 |true=>simp only[go_sem,↓aB,seval,aH,hk,hc,e1]
end
abbrev aFg:=bTw 112 (bJ6 2661)
abbrev mH:LN:=[]
abbrev aFh:=bTw 112 (bIF 37 [(83,.region Pa aFg)])
def xR:=(.mk _:bb 112 (bIC [(37,aFh)])).x
def nM:=(.mk _:bb 169 bTx).x
def aBJ:=(.mk _:bb 170 (bIF 13 [])).x
def xS:=(.mk _:bb 170 (bIC [(13,aBJ)])).x
def zH:=(.mk _:bb 113 (bIF 27 [])).x
abbrev aFi:=bTw 113 (bJ6 39)
abbrev gL:LN:=[17,21]
abbrev aFj:=bTw 113 (bIF 607 [])
def xT:=(.mk _:bb 113 (bIC [(27,zH),(39,.region Pa aFi),(607,aFj)])).x
def aAp:=(.mk _:bb 123 bTx).x
def vR:=(.mk _:bb 184 bTx).x
def qX:=(.mk _:bb 186 bTx).x
section
variable {A:af}
def sY(l:List mr)(i:Nat):Int:=((l[i]?).map mr.gg).getD 0
def aWm(l:List mr):Bool:=(GZ (l.length - 1)).all λi=>sY l (i+1) != sY l i
def aUL(r:mr):Bool:=wi r.gg 0 1&&vP 1 200 r.text
def aGx(l:List mr):Bool:=aWm l&&(wi l.length 1 8&&l.all aUL)
def aIs{l:List mr}(h:i<l.length):sY l i=l[i].gg:=by unfold sY;grind
def aRW(h:Has A 169 nM)(hw:eO A)(ht:aFB A)(r:mr)(hr:r.text.length<=1000000)(H:LO):aG A 169 [.agg (cZ r)] H=N1 (.bool (aUL r),H,[]):=by
 refine h.call ?_;simp only[nM,aUL];have h1:=λH=>hw r.gg 0 1 H;have h2:=λH=>ht r.text 1 200 H hr;cases e1:wi r.gg 0 1 with
 |false=>simp only[go_sem,↓aB,seval,cZ,h1,e1,Aa]
 |true=>simp only[go_sem,↓aB,seval,cZ,h1,h2,e1]
def aGy(h:Has A 112 xR)(h1:Has A 169 nM)(ha:fe A 2 Pa 168)(hw:eO A)(ht:aFB A)(l:List mr)(hl:l.length<=1000000)(hr:∀r∈l,r.text.length<=1000000)(H:LO):aG A 112 [.sl Po (l.map cZ)] H=N1 (.bool (aGx l),H,[]):=by
 refine h.call ?_;have hc:=ha.spec hw aUI bIJ (l:=l) (H:=H) (f1:=169) (q:=aUL) (lo:=1) (hi:=8) uWa λ_ r hm=>aRW h1 hw ht r (hr r hm) H;simp only[xR];simp only[go_sem,↓aB,seval];refine bJ (id:=0) (λi ρ1 H1 wr=>wr=[]/\H1=H/\ρ1 6=vi i/\∀j,j+1<i->sY l (j+1)≠sY l j) l.length
  (λρ1 H1 wr=>wr=[]/\H1=H/\∀j,j+1<l.length->sY l (j+1)≠sY l j)
  bIv rfl ⟨rfl,siT,rfl,λj hj=>omT⟩ ?_ ?_
 .rintro i ρ1 H1 dc mg ⟨rfl,rfl,e6,hn⟩ hf;have e0:ρ1 0=.sl Po (l.map cZ):=hf 0 rfl;have e5:ρ1 5=vi l.length:=hf 5 rfl;simp only[go_sem,↓aB,seval,e6,e5];refine aD (λhb=>?_) (λhb=>?_)
  .have hlt:i<l.length:=uWe
   have Qe:=wS (i:=i) omT;have hgi:(l.map cZ)[i]? = N1 [vi (sY l i),.str l[i].text]:=by rw[getElem?_map_of hlt,aIs hlt];rfl
   simp only[go_sem,↓aB,seval];refine aY (aq:=mH) rfT rfT ?_;cases i with
   |zero=>
    simp only[go_sem,↓aB,seval,mH,e6,Aa,Int.ofNat_zero]
    grind
   |succ i=>
    have V8:decide (((i+1:Nat):Int)>0)=true:=uWa
    have dy:AR.wrap (((i+1:Nat):Int) - 1)=(i:Int):=by rw[wrap_i64 omT omT];omega
    have hgj:(l.map cZ)[i]? = N1 [vi (sY l i),.str (l[i]'omT).text]:=by rw[getElem?_map_of omT,aIs omT];rfl
    have gq:(0:Int)<=((i+1:Nat):Int):=omT;have lx:(0:Int)<=(i:Int):=omT;have kx:(((i+1:Nat):Int)).toNat=i+1:=omT;have zt:((i:Int)).toNat=i:=omT;cases hq:(sY l (i+1)==sY l i)with
    |true=>
     have hb:aGx l=false:=by
      have:aWm l=false:=by
       rw[Bool.eq_false_iff];intro hc;unfold aWm at hc
       grind
      unfold aGx
      grind
     simp only[go_sem,↓aB,seval,mH,e0,e6,V8,hgi,hgj,gq,lx,kx,zt,dy,hq,hb]
    |false=>
     simp only[go_sem,↓aB,seval,mH,e0,e6,V8,hgi,hgj,gq,lx,kx,zt,dy,hq,Qe]
     grind
  have hi:i=l.length:=uWa
  subst hi;simp only[go_sem,seval]
  grind
 rintro ρ' H' ba ⟨rfl,rfl,hn⟩ hf;have e0:ρ' 0=.sl Po (l.map cZ):=hf 0 rfl;have hadj:aWm l=true:=by grind [aWm,AO]
 simp only[go_sem,↓aB,seval,e0,hc,aGx,hadj]
def aAq(op:Int):Int:=if op=0 then 999999 else if op=1 then 25 else 0
def aCn(op:Int):Nat:=if op=0∨op=1 then 0 else if op=2∨op=8 then 1 else 2
def aPI(h:Has A 170 xS)(op:Int)(H:LO):aG A 170 [vi op] H=N1 (vi (aCn op),H,[]):=by
 refine h.call ?_;simp only[xS,aBJ,aCn];by_cases e0:op=0
 .subst e0;simp only[go_sem,↓aB,seval,true_or]
 by_cases e1:op=1
 .subst e1;simp only[go_sem,↓aB,seval,or_true]
 have n0:(op==0)=false:=uWE
 have n1:(op==1)=false:=uWh
 by_cases e2:op=2
 .subst e2;simp only[go_sem,↓aB,seval,or_self,true_or]
 by_cases e8:op=8
 .subst e8;simp only[go_sem,↓aB,seval,or_self,or_true]
 have n2:(op==2)=false:=uWp
 have n8:(op==8)=false:=by simpa using e8
 simp only[go_sem,↓aB,seval,n0,n1,n2,n8,e0,e1,e2,e8,or_self]
mutual
def exS:Expr->Int->Nat×Bool
 |.mk op n ks,d=>if ((decide (d>16) || !wi op 0 10) || !wi n 0 (aAq op)) || ((ks.length:Int) != (aCn op:Int))then (0,Po)else match exL ks (d+1) 1 with
  |some s=>(s,decide ((s:Int)<=256))
  |none=>(0,Po)
def exL:List Expr->Int->Nat->Option Nat
 | [],_,s=>N1 s
 |k::r,d,s=>match exS k d with
  | (m,Pa)=>exL r d (s+m)
  | (_,Po)=>N2
end
theorem aT7{e:Expr}{d:Int}(h:(exS e d).2=Pa):(exS e d).1<=256:=by
 obtain⟨op,n,ks⟩:=e;unfold exS at h ⊢
 grind
mutual
theorem aN1:∀(e:Expr)(d:Int),(exS e d).2=Pa->(exS e d).1=gY e
 |.mk op n ks,d,h=>by
  unfold exS at h ⊢;split at h
  .cases h
  rename_i hc;rw[Vw hc];cases hx:exL ks (d+1) 1 with
  |none=>rw[hx]at h;cases h
  |some s=>have:=aN2 ks (d+1) 1 s hx;show s=cP ks+1;omega
theorem aN2:∀(l:List Expr)(d:Int)(s t:Nat),exL l d s=N1 t->t=s+cP l
 | [],d,s,t,h=>by
  unfold exL at h;cases h;rfl
 |k::r,d,s,t,h=>by
  unfold exL at h;split at h
  .rename_i m hm;have h1:=aN2 r d _ _ h;have h2:=aN1 k d (by rw[hm]);rw[hm]at h2;have h2:m=gY k:=h2;show t=s+(gY k+cP r);omega
  cases h
end
def aN3(op:Int):aCn op<=2:=by unfold aCn;grind
def aM1(h:Has A 113 xT)(hk:Has A 170 xS)(hw:eO A):∀(n:Nat)(e:Expr)(d:Int)(H:LO),SizeOf.sizeOf e<n->e.Ok->0<=d->d<=1000000 ->aG A 113 [.agg (aF e),vi d] H=N1 (.tup [vi (exS e d).1,.bool (exS e d).2],H,[]):=by
 intro n
 induction n with
 |zero=>grind
 |succ n ih=>
  intro e d H hs he hd0 hd1;obtain⟨op,m,ks⟩:=e;obtain⟨_,_,_,_,_,zp,E7⟩:=he;refine h.call ?_;simp only[xT];have gd:∀k∈ks,SizeOf.sizeOf k<n:=λk hm=>by
   have:=GY hm
   grind
  simp only[go_sem,↓aB,seval,aF,aZ];refine aPw (W:=[15,14,6,17,16,6]) (λρ' H' ba=>ba=[]/\H'=H++[.gone 0]/\ρ' 6=vi (aAq op)) rfT ?_ ?_
  .simp only[zH];by_cases e0:op=0
   .subst e0;simp only[go_sem,↓aB,seval];rfl
   have n0:(op==0)=false:=uWE
   by_cases e1:op=1
   .subst e1;simp only[go_sem,↓aB,seval];rfl
   have n1:(op==1)=false:=uWh
   simp only[go_sem,↓aB,seval,n0,n1];unfold aAq
   grind
  rintro ρ H' ba ⟨rfl,rfl,r6⟩ hf;have r1:ρ 1=vi d:=hf 1 rfl;have r2:ρ 2=.ep [vi op,vi m,.sl Po (ks.map aF)] 0:=hf 2 rfl;have k1:=λH=>hw op 0 10 H;have k2:=λH=>hw m 0 (aAq op) H;have k3:=λH=>aPI hk op H;have pt:=aN3 op;simp only[go_sem,seval];refine aY (aq:=gL) rfT rfT ?_;have hx:exS (.mk op m ks) d=if ((decide (d>16) || !wi op 0 10) || !wi m 0 (aAq op)) || ((ks.length:Int) != (aCn op:Int))then (0,Po)else match exL ks (d+1) 1 with
   |some s=>(s,decide ((s:Int)<=256))
   |none=>(0,Po):=by conv=>lhs;unfold exS
  cases e1:decide (d>16)with
  |true=>rw[e1]at hx;simp only[go_sem,↓aB,seval,gL,r1,e1,CE,hx]
  |false=>
  rw[e1]at hx;cases e2:wi op 0 10 with
  |false=>rw[e2]at hx;simp only[go_sem,↓aB,seval,gL,r1,r2,e1,e2,k1,CE,hx]
  |true=>
  rw[e2]at hx;cases e3:wi m 0 (aAq op)with
  |false=>rw[e3]at hx;simp only[go_sem,↓aB,seval,gL,r1,r2,r6,e1,e2,e3,k1,k2,CE,hx]
  |true=>
  rw[e3]at hx;cases e4:((ks.length:Int) != (aCn op:Int))with
  |true=>rw[e4]at hx;simp only[go_sem,↓aB,seval,gL,eH,dG,r1,r2,r6,e1,e2,e3,e4,k1,k2,k3,aL,hx]
  |false=>
  rw[e4]at hx;simp only[BT,IJ,BX,Vt]at hx;have ax:ks.length<=2:=uWa
  simp only[go_sem,↓aB,seval,gL,eH,dG,r1,r2,r6,e1,e2,e3,e4,k1,k2,k3,aL];refine bJ (id:=1) (λi ρ1 H1 wr=>wr=[]/\ρ1 45=vi i/\(∃o1,H1=H++[o1])/\∃s:Nat,ρ1 7=vi s/\s<=1+256*i/\exL ks (d+1) 1=exL (ks.drop i) (d+1) s) ks.length
   (λρ1 H1 wr=>wr=[]/\(∃o1,H1=H++[o1])/\∃s:Nat,ρ1 7=vi s/\s<=1000/\exL ks (d+1) 1=N1 s)
   bIv rfl ⟨rfl,rfl,⟨_,rfl⟩,1,rfl,omT,rfl⟩ ?_ ?_
  .rintro i ρ1 H1 dc mg ⟨rfl,e45,⟨o1,rfl⟩,s,e7,lq,n9⟩ cq;have f1:ρ1 1=vi d:=(cq 1 rfl).trans r1;have f43:ρ1 43=.sl Po (ks.map aF):=cq 43 rfl;have f44:ρ1 44=vi ks.length:=cq 44 rfl;simp only[go_sem,↓aB,seval,e45,f44];refine aD (λhb=>?_) (λhb=>?_)
   .have hlt:i<ks.length:=uWe
    have hg:(ks.map aF)[i]? = N1 (aF ks[i]):=getElem?_map_of hlt;have gq:(0:Int)<=(i:Int):=omT;have kx:((i:Int)).toNat=i:=omT;have Qe:=wS (i:=i) omT;have F3:AR.wrap (d+1)=d+1:=by rw[wrap_i64 omT omT]
    have tk:=AS hlt;have az:=λH=>ih ks[i] (d+1) H (gd _ tk) (E7 _ tk) omT uWa;have bn:exL (ks.drop i) (d+1) s=match exS ks[i] (d+1)with
      | (k,Pa)=>exL (ks.drop (i+1)) (d+1) (s+k)
      | (_,Po)=>none:=by rw[FD hlt];conv=>lhs;unfold exL
    have hle:=aT7 (e:=ks[i]) (d:=d+1);cases C9:exS ks[i] (d+1)with
    |mk k b=>
     rw[C9]at bn hle;simp only[C9]at az;cases b with
     |false=>
      have sc:exS (.mk op m ks) d=(0,Po):=uWa
      simp only[go_sem,↓aB,seval,f1,f43,e45,hg,gq,kx,F3,dP,CH (PM (dP ks[i])),bID (aV ks[i]),aS (aV ks[i]),aK (aV ks[i]),az,sc]
     |true=>
      have z8:k<=256:=hle rfl;have zh:AR.wrap ((s:Int)+(k:Int))=((s+k:Nat):Int):=by rw[wrap_i64 omT omT];omega
      simp only[go_sem,↓aB,seval,f1,f43,e45,e7,hg,gq,kx,F3,dP,CH (PM (dP ks[i])),bID (aV ks[i]),aS (aV ks[i]),aK (aV ks[i]),az,Qe,zh]
      grind
   have hi:i=ks.length:=uWa
   subst hi;simp only[go_sem,seval];exact⟨⟨_,rfl⟩,s,e7,omT,by rw[n9,DH (AQ _)];rfl⟩
  rintro ρ' H' ba ⟨rfl,⟨o1,rfl⟩,s,e7,lq,n9⟩ cq;rw[n9]at hx;simp only[go_sem,↓aB,seval,e7,hx]
end
def aKJ(h:n<256):(CN n).toNat=n:=soT
def bRM:∀n:Nat,dec n≠[]:=λn=>by
 unfold dec;split<;>simp
def lev(op:Int):Nat:=if op=3∨op=4 then 1 else if op=5∨op=6 then 2 else if op=2∨op=7 then 3 else if op=9∨op=10 then 0 else 4
def sg(op:Int):UInt8:=if op=3 then 43 else if op=4 then 45 else if op=5 then 42 else if op=6 then 47 else if op=9 then 61 else 60
def bB1:Expr->Nat
 |.mk op _ _=>lev op
def par(e:Expr)(L:Nat)(s:Str):Str:=if bB1 e<L then 40::(s++[41])else s
def wX:Expr->Str
 |.mk op n []=>if op=0 then dec n.toNat else [CN (97+n.toNat)]
 |.mk op n [a]=>if op=2 then 45::par a 3 (wX a)else 82::40::(par a 1 (wX a)++[41])
 |.mk op n [a,b]=>if op=7 then par a 4 (wX a)++94::par b 3 (wX b)else par a (max 1 (lev op)) (wX a)++sg op::par b (lev op+1) (wX b)
 |.mk _ _ (_::_::_::_)=>[]
inductive Rt:Bool->Expr->Prop where
 |num (r:Bool) (n:Int):0<=n->n<=999999->Rt r (.mk 0 n [])
 |var (r:Bool) (n:Int):0<=n->n<=25->Rt r (.mk 1 n [])
 |un (r:Bool) (op:Int) (a:Expr):op=2∨op=8->Rt Po a->Rt r (.mk op 0 [a])
 |bin (r:Bool) (op:Int) (a b:Expr):3<=op->op<=7->Rt Po a->Rt Po b->Rt r (.mk op 0 [a,b])
 |cmp (op:Int) (a b:Expr):op=9∨op=10->Rt Po a->Rt Po b->Rt Pa (.mk op 0 [a,b])
def aY2{e:Expr}(h:bB1 e<L):par e L s=40::(s++[41]):=Vx h
def aT8{e:Expr}(h:L<=bB1 e):par e L s=s:=Vw omT
def aUM(h1:3<=op)(h2:op<=7):op=3∨op=4∨op=5∨op=6∨op=7:=omT
def sb(sep:Str):List Str->Str
 | []=>[]
 | [s]=>s
 |s::t::r=>s++sep++sb sep (t::r)
def esc(M:UInt8->Bool)(s:Str):Str:=s.flatMap λc=>if M c then [126,c] else [c]
def aFC(M:UInt8->Bool)(c:UInt8)(s:Str):esc M (c::s)=(if M c then [126,c] else [c])++esc M s:=rfl
def mL(c:UInt8):Bool:=c==126
def aPJ(l:List Str):Str:=sb [126,124] (l.map (esc mL))
def mG(c:UInt8):Bool:=c==126 || c==124 || c==59
def aRX(l:List (List Str)):Str:=sb [59] (l.map λr=>sb [124] (r.map (esc mG)))
def aUN:List Int->Str
 | []=>[]
 |n::r=>32::dec n.toNat++aUN r
def aWn(op:Int)(l:List Int):Str:=sg op::aUN l
def aPK(k:Nat):UInt8:=([99,100,101,102,103,97,98]:List UInt8).getD k 0
def aBy(n:ct):Str:=(if n.step<0 then [114] else [aPK (n.step % 7).toNat])++((if n.alter=1 then [35] else if n.alter = -1 then [95] else [])++((if 0<=n.step then [CN (48+(n.step / 7).toNat)] else [])++[CN (48+n.length.toNat)]))
def aO9(l:List ct):Str:=sb [32] (l.map aBy)
def aJm(l:List (List (List ct))):Str:=sb [47] (l.map λh=>sb [124] (h.map aO9))
def aHA:Int->List mr->Str
 |_,[]=>[]
 |p,r::l=>(if r.gg=p then [] else [126,124])++(esc mL r.text++aHA r.gg l)
def aKK(b:Block):Block:=⟨b.kind,if b.kind=0 then b.runs else [],if b.kind=1 then b.expr else .mk 0 0 [],if b.kind=2 then b.dn else 0,if b.kind=2 then b.eg else [],if b.kind=3 then b.cd else [],
 if b.kind=4 then b.w else 0,if b.kind=4 then b.h else 0,if b.kind=4 then b.aw else [],if b.kind=5 then b.bo else [],if b.kind=6 then b.lines else []⟩
def wB(b:Block):Str:=if b.kind=0 then aHA 0 b.runs else if b.kind=1 then wX b.expr else if b.kind=2 then aWn b.dn b.eg else if b.kind=3 then aRX b.cd else if b.kind=5 then aJm b.bo else aPJ b.lines
def iG:=(.mk _:bb 114 bTx).x
abbrev vS:=bTw 171 (bIF 37 [])
def gP:=(.mk _:bb 171 (bIC [(37,vS)])).x
def aBK:=(.mk _:bb 111 (bIF 27 [])).x
def aCo:=(.mk _:bb 111 (bIC [(27,aBK)])).x
section
variable {A:af}
def aT9(l:List ct):Bool:=wi l.length 1 16&&l.all aGv
def aKL(n:Nat)(l:List (List ct)):Bool:=((l.length:Int)==(n:Int))&&(wi l.length 1 32&&l.all aT9)
def aUO(l:List (List (List ct))):Bool:=wi l.length 1 2&&l.all (aKL (l.headD []).length)
structure si(A:af):Prop where
 mel:Has A 123 aAp
 mel1:Has A 184 vR
 mel2:Has A 186 qX
 note:Has A 188 xQ
 allH:fe A 1 Po 183
 sj:fe A 1 Po 185
 allN:fe A 3 Pa 187
def aOa(h:si A)(hw:eO A)(l:List ct)(hl:l.length<=16)(H:LO):aG A 186 [.sl Po (l.map bV)] H=N1 (.bool (aT9 l),H,[]):=by refine h.mel2.call ?_;have hc:=h.allN.spec hw aMZ bIJ (l:=l) (H:=H) (f1:=188) (q:=aGv) (lo:=1) (hi:=16) (by show l.length<_;omega) λ_ n _=>aM0 h.note hw n H;simp only[qX];simp only[go_sem,↓aB,seval,hc,aT9]
def aM2(h:si A)(hw:eO A){l0:List (List ct)}{ls:List (List (List ct))}(l:List (List ct))(hl:l.length<=16)(hb:∀b∈l,b.length<=16)(H:LO):aG A 184 [.sl Po (l.map gH),.ep [.sl Po ((l0::ls).map bS)] 0] H=N1 (.bool (aKL l0.length l),H,[]):=by
 refine h.mel1.call ?_;have hc:=h.sj.spec hw aLY bIJ (l:=l) (H:=H) (f1:=186) (q:=aT9) (lo:=1) (hi:=32) (by show l.length<_;omega) λ_ b hm=>aOa h hw b (hb b hm) H;simp only[vR,aKL];cases e:((l.length:Int)==(l0.length:Int))with
 |false=>simp only[go_sem,↓aB,seval,bS,e,Aa]
 |true=>simp only[go_sem,↓aB,seval,bS,e,hc]
def aJn(h:si A)(hw:eO A)(l:List (List (List ct)))(hl:l.length<=16)(hb:∀x∈l,x.length<=16/\∀b∈x,b.length<=16)(H:LO):aG A 123 [.agg [.sl Po (l.map bS)]] H=N1 (.bool (aUO l),H,[]):=by
 refine h.mel.call ?_;have hc:=h.allH.spec hw aJk (bIJ.ep [.sl Po (l.map bS)] 0) (l:=l) (H:=H) (f1:=184) (q:=aKL (l.headD []).length) (lo:=1) (hi:=2) (by show l.length<_;omega) λ_ x hm=>by
  cases l with
  |nil=>cases hm
  |cons l0 ls=>exact aM2 h hw x (hb x hm).1 (hb x hm).2 H
 simp only[aAp];simp only[go_sem,↓aB,seval,hc,aUO]
def aM3(h:Has A 171 gP)(l:List Int)(s:Int)(hl:l.length<=1000000000)(H:LO):aG A 171 [.sl Po (l.map bF),vi s] H=N1 (vi (aMW (λx=>s==x) l),H,[]):=by
 refine h.call ?_;simp only[gP];simp only[go_sem,↓aB,seval];refine bJ (id:=0) (λi ρ1 H1 wr=>wr=[]/\H1=H/\ρ1 8=vi i/\∀j (hj:j<i) (hl:j<l.length),(s==l[j])=Po) l.length
  (λρ1 H1 wr=>wr=[]/\H1=H/\∀j (hl:j<l.length),(s==l[j])=Po)
  bIv rfl ⟨rfl,siT,rfl,λj hj=>omT⟩ ?_ ?_
 .rintro i ρ1 H1 dc mg ⟨rfl,rfl,e8,hn⟩ hf;have e0:ρ1 0=.sl Po (l.map bF):=hf 0 rfl;have e1:ρ1 1=vi s:=hf 1 rfl;have e7:ρ1 7=vi l.length:=hf 7 rfl;simp only[go_sem,↓aB,seval,e8,e7];refine aD (λhb=>?_) (λhb=>?_)
  .have hlt:i<l.length:=uWe
   have hg:(l.map bF)[i]? = N1 [vi l[i]]:=getElem?_map_of hlt;have gq:(0:Int)<=(i:Int):=omT;have kx:((i:Int)).toNat=i:=omT;have Qe:=wS (i:=i) omT;cases hc:(s==l[i])with
   |true=>simp only[go_sem,↓aB,seval,e0,e1,e8,hg,gq,kx,hc];exact (aLT (p:=λx=>s==x) hlt hc λj hj=>hn j hj omT).symm ▸ rfl
   |false=>
    simp only[go_sem,↓aB,seval,e0,e1,e8,hg,gq,kx,hc,Qe];refine⟨hlt,λj hj mo=>?_⟩;by_cases e:j=i
    .subst e;exact hc
    exact hn j omT mo
  have hi:i=l.length:=by simp at hb;omega
  subst hi;simp only[go_sem,seval];exact λj hj=>hn j hj hj
 rintro ρ' H' ba ⟨rfl,rfl,hn⟩ hf;simp only[go_sem,↓aB,seval,aGq (p:=λx=>s==x) hn]
def aHB(h:Has A 114 iG)(hi:Has A 171 gP)(l:List Int)(s:Int)(hl:l.length<=1000000000)(H:LO):aG A 114 [.sl Po (l.map bF),vi s] H=N1 (.bool (l.any λx=>s==x),H,[]):=by refine h.call ?_;simp only[iG];simp only[go_sem,↓aB,seval,aM3 hi l s hl,aLU]
def aKM(h:Has A 111 aCo)(b:Block)(H:LO):aG A 111 [.agg (aE b)] H=N1 (.agg (aE (aKK b)),H,[]):=by
 refine h.call ?_;obtain⟨kind,runs,⟨op,n,ks⟩,dn,eg,cd,w,hh,aw,bo,lines⟩:=b;simp only[aCo,aBK,aE,aF,aZ,aKK,DO,CW];have ur:∀n,eR n (runs.map cZ)=true:=λ_=>aA (aC cA runs);have ue:∀n,eR n (ks.map aF)=true:=λ_=>aA (aC aV ks);have ua:∀n,eR n (eg.map bF)=true:=λ_=>aA (aC aU eg);have ug:∀n,eR n (cd.map bY)=true:=λ_=>aA (aC cU cd);have us:∀n,eR n (aw.map aH)=true:=λ_=>aA (aC bW aw);have uh:∀n,eR n (bo.map bS)=true:=λ_=>aA (aC bLc bo);have ul:∀n,eR n (lines.map aN)=true:=λ_=>aA (aC bO lines);by_cases e0:kind=0
 .subst e0;simp only[go_sem,↓aB,seval,aF,aZ,ur]
 have n0:(kind==0)=false:=uWE
 by_cases e1:kind=1
 .subst e1;simp only[go_sem,↓aB,seval,aF,aZ,ue]
 have n1:(kind==1)=false:=uWh
 by_cases e2:kind=2
 .subst e2;simp only[go_sem,↓aB,seval,aF,aZ,ua]
 have n2:(kind==2)=false:=uWp
 by_cases e3:kind=3
 .subst e3;simp only[go_sem,↓aB,seval,aF,aZ,ug]
 have n3:(kind==3)=false:=uWf
 by_cases e4:kind=4
 .subst e4;simp only[go_sem,↓aB,seval,aF,aZ,us]
 have n4:(kind==4)=false:=uXf
 by_cases e5:kind=5
 .subst e5;simp only[go_sem,↓aB,seval,aF,aZ,uh]
 have n5:(kind==5)=false:=uWt
 by_cases e6:kind=6
 .subst e6;simp only[go_sem,↓aB,seval,aF,aZ,ul]
 have n6:(kind==6)=false:=uWD
 simp only[go_sem,↓aB,seval,aF,aZ,e0,e1,e2,e3,e4,e5,e6,n0,n1,n2,n3,n4,n5,n6]
end
abbrev aEg:=bTw 72 (bJ6 9)
abbrev vT:LN:=[0,2]
abbrev aEh:=bTw 72 (bJ6 1310699)
abbrev vU:LN:=[1,2]
def vV:=(.mk _:bb 72 (bIF 27 [(81918,.region Pa aEh)])).x
def aBL:=(.mk _:bb 72 (bIC [(9,.region Pa aEg),(27,vV)])).x
def zI:=(.mk _:bb 116 bTx).x
def zJ:=(.mk _:bb 118 bTx).x
section
variable {A:af}
def aUP(n:Int):Bool:=wi n 0 999999
def aUQ(n:Nat)(r:List Str):Bool:=((r.length:Int)==(n:Int))&&(wi r.length 1 12&&r.all (vP 0 20))
noncomputable def xU(b:Block):Bool:=
 if b.kind=0 then aGx b.runs
 else if b.kind=1 then (exS b.expr 1).2
 else if b.kind=2 then ([3,4,5,6]:List Int).any (λx=>b.dn==x)&&(wi b.eg.length 1 8&&b.eg.all aUP)
 else if b.kind=3 then wi b.cd.length 1 12&&b.cd.all (aUQ (b.cd.headD []).length)
 else if b.kind=4 then (wi b.w 1 1000&&wi b.h 1 1000)&&(wi b.aw.length 1 8&&b.aw.all vQ)
 else if b.kind=5 then aUO b.bo
 else if b.kind=6 then wi b.lines.length 1 64&&b.lines.all (vP 0 80)
 else Po
noncomputable def dQ(b:Block):Bool:=eqv b (aKK b)&&xU b
structure kb(A:af):Prop where
 block:Has A 72 aBL
 xy:Has A 116 zI
 xz:Has A 118 zJ
 only:Has A 111 aCo
 runs:Has A 112 xR
 L8:Has A 169 nM
 expr:Has A 113 xT
 kids:Has A 170 xS
 Sb:Has A 120 aCm
 upTo1:Has A 178 xO
 shape:Has A 122 tV
 shape1:Has A 182 mF
 within:Has A 67 xM
 text:Has A 47 xN
 wg:Has A 66 nK
 con:Has A 114 iG
 ind:Has A 171 gP
 mel:si A
 same:X0 A
 sj:fe A 1 Po 65
 allR:fe A 2 Pa 168
 allI:fe A 1 Po 115
 allL:fe A 1 Po 117
 allS:fe A 1 Po 119
 allF:fe A 2 Pa 121
 allP:fe A 2 Pa 181
def aRY(h:kb A)(n:Int)(H:LO):aG A 116 [vi n] H=N1 (.bool (aUP n),H,[]):=by refine h.xy.call ?_;have hw:=kO h.within n 0 999999;simp only[zI,aUP];simp only[go_sem,↓aB,seval,hw]
def aBj(h:kb A)(l:List Str)(hl:l.length<=16)(ht:∀s∈l,s.length<=1000000)(a b lo hi:Int)(H:LO):aG A 119 [.sl Po (l.map aN),vi lo,vi hi,.fn 178 [] [.ep [vi a] 0,.ep [vi b] 0]] H=N1 (.bool (wi l.length lo hi&&l.all (vP a b)),H,[]):=
 have hw:=kO h.within
 h.allS.spec hw aUG ((bIJ.ep [vi b] 0).ep [vi a] 0) uWa λ_ s hm=>aO8 h.upTo1 (qW h.text h.wg h.sj hw) s a b H (ht s hm)
def aKN(h:kb A){r0:List Str}{rs:List (List Str)}{c0 c1 c2 c3 c4 c5 c6 c8 c9 c10 c11 c12:AV}(r:List Str)(hl:r.length<=16)(ht:∀s∈r,s.length<=1000000)(H:LO):aG A 118 [.sl Po (r.map aN),.ep [c0,c1,c2,c3,c4,c5,c6,.sl Po ((r0::rs).map bY),c8,c9,c10,c11,c12] 0] H=N1 (.bool (aUQ r0.length r),H,[]):=by
 refine h.xz.call ?_;have hu:=λH=>aDb h.Sb 0 20 H;have hc:=aBj h r hl ht 0 20 1 12 H;simp only[zJ,aUQ];cases e:((r.length:Int)==(r0.length:Int))with
 |false=>simp only[go_sem,↓aB,seval,bY,e,Aa]
 |true=>simp only[go_sem,↓aB,seval,bY,e,hu,hc]
def aEX(h:kb A)(b:Block)(hb:b.Ok)(H:LO):aG A 72 [.agg (aE b)] H=N1 (.bool (dQ b),H,[]):=by
 refine h.block.call ?_;have hw:=kO h.within;have ht:=qW h.text h.wg h.sj hw;have hon:=aKM h.only b H;have hsm:=aO0 h.same b (aKK b) H hb;have tx:∀{s:Str},lI s->s.length<=1000000:=λh=>by have:_<=1000:=h;omega
 have h0:=aGy h.runs h.L8 h.allR hw ht b.runs (by have:=hb.vw;omega) (λr hr=>tx (hb.runs r hr).text) H;have h1:=aM1 h.expr h.kids hw _ b.expr 1 H (HR _) hb.expr deT deT;have h2:=aHB h.con h.ind [3,4,5,6] b.dn deT H;have zc:=h.allI.spec hw aLX bIJ (l:=b.eg) (H:=H) (f1:=116) (q:=aUP) (lo:=1) (hi:=8) (by have:=hb.tj;show b.eg.length<_;omega) λ_ n _=>aRY h n H;have h4:=h.allF.spec hw aKE bIJ (l:=b.aw) (H:=H) (f1:=122) (q:=vQ) (lo:=1) (hi:=8) (by have:=hb.fg;show b.aw.length<_;omega)
  λ_ s hm=>aKI h.shape h.shape1 h.allP hw s (by have:=(hb.aw s hm).len;omega) H
 have h4w:=λH=>hw b.w 1 1000 H;have h4h:=λH=>hw b.h 1 1000 H;have h5:=aJn h.mel hw b.bo hb.uv (λx hx=>⟨(hb.bo x hx).1,λl hl=>((hb.bo x hx).2 l hl).1⟩) H;have h6:=aBj h b.lines hb.vz (λs hs=>tx (hb.lines s hs)) 0 80 1 64 H;have h6u:=λH=>aDb h.Sb 0 80 H;have G3:=hb.uu;have hgr:=hb.cd;have jy:∃c0 c1 c2 c3 c4 c5 c6 c8 c9 c10 c11 c12,aE b=[c0,c1,c2,c3,c4,c5,c6,.sl Po (b.cd.map bY),c8,c9,c10,c11,c12]:=by obtain⟨_,_,⟨_,_,_⟩,_,_,_,_,_,_,_,_⟩:=b;exact⟨_,_,_,_,_,_,_,_,_,_,_,_,rfl⟩
 have h3:aG A 117 [.sl Po (b.cd.map bY),vi 1,vi 12,.fn 118 [] [.ep (aE b) 0]] H=N1 (.bool (wi b.cd.length 1 12&&b.cd.all (aUQ (b.cd.headD []).length)),H,[]):=by
  obtain⟨c0,c1,c2,c3,c4,c5,c6,c8,c9,c10,c11,c12,e⟩:=jy;rw[e];refine h.allL.spec hw aUH (bIJ.ep _ 0) (l:=b.cd) (by show b.cd.length<_;omega) λ_ r hm=>?_;cases xg:b.cd with
  |nil=>rw[xg]at hm;cases hm
  |cons r0 rs=>have:=aKN h (r0:=r0) (rs:=rs) (c0:=c0) (c1:=c1) (c2:=c2) (c3:=c3) (c4:=c4) (c5:=c5) (c6:=c6) (c8:=c8) (c9:=c9) (c10:=c10) (c11:=c11) (c12:=c12) r (hgr r hm).1 (λs hs=>tx ((hgr r hm).2 s hs)) H;exact this
 simp only[aBL];simp only[go_sem,↓aB,seval,cF,bT.still,bT.ga];refine aY (aq:=vT) rfT rfT ?_;simp only[go_sem,↓aB,seval,vT,eH,dG,aL,cF,bT.take,aS (bG b),aS (bG (aKK b)),aK (bG b),aK (bG (aKK b)),hon,hsm];cases e:eqv b (aKK b)with
 |false=>simp only[go_sem,↓aB,seval,dQ,e]
 |true=>
  have hbb:dQ b=xU b:=by unfold dQ;rw[e,BR]
  rw[hbb];obtain⟨op,n,ks,mn⟩:∃op n ks,b.expr=Expr.mk op n ks:=by cases b.expr;exact⟨_,_,_,rfl⟩
  have Ra:aF b.expr=[vi op,vi n,.sl Po (ks.map aF)]:=uXm
  have ig:aE b=[vi b.kind,.sl Po (b.runs.map cZ),vi op,vi n,.sl Po (ks.map aF),vi b.dn,.sl Po (b.eg.map bF),.sl Po (b.cd.map bY),vi b.w,vi b.h,.sl Po (b.aw.map aH),.sl Po (b.bo.map bS),.sl Po (b.lines.map aN)]:=by unfold aE;rw[Ra];rfl
  rw[Ra]at h1;rw[ig]at h3;simp only[go_sem,↓aB,seval,ig];simp only[vV];unfold xU;by_cases e0:b.kind=0
  .rw[e0];simp only[go_sem,↓aB,seval,h0]
  have n0:(b.kind==0)=false:=uWE
  rw[Vw e0];by_cases e1:b.kind=1
  .rw[e1];simp only[go_sem,↓aB,seval,h1]
  have n1:(b.kind==1)=false:=uWh
  rw[Vw e1];by_cases e2:b.kind=2
  .rw[e2];simp only[BI,List.map_nil,bF]at h2;cases k:([3,4,5,6]:List Int).any (λx=>b.dn==x)with
   |false=>rw[k]at h2;simp only[go_sem,↓aB,seval,h2,Aa]
   |true=>rw[k]at h2;simp only[go_sem,↓aB,seval,h2,zc]
  have n2:(b.kind==2)=false:=uWp
  rw[Vw e2];by_cases e3:b.kind=3
  .rw[e3]at h3 ⊢;simp only[go_sem,↓aB,seval,h3]
  have n3:(b.kind==3)=false:=uWf
  rw[Vw e3];by_cases e4:b.kind=4
  .rw[e4];cases k1:wi b.w 1 1000 with
   |false=>simp only[go_sem,↓aB,seval,h4w,k1,Aa]
   |true=>cases k2:wi b.h 1 1000 with
    |false=>simp only[go_sem,↓aB,seval,h4w,h4h,k1,k2,Aa]
    |true=>simp only[go_sem,↓aB,seval,h4w,h4h,k1,k2,h4]
  have n4:(b.kind==4)=false:=uXf
  rw[Vw e4];by_cases e5:b.kind=5
  .rw[e5];simp only[go_sem,↓aB,seval,h5]
  have n5:(b.kind==5)=false:=uWt
  rw[Vw e5];by_cases e6:b.kind=6
  .rw[e6];simp only[go_sem,↓aB,seval];refine aY (aq:=vU) rfT rfT ?_;simp only[go_sem,↓aB,seval,vU,eH,dG,aL,h6u,h6]
  have n6:(b.kind==6)=false:=uWD
  rw[Vw e6];simp only[go_sem,↓aB,seval,n0,n1,n2,n3,n4,n5,n6]
end
def sgI(op:Int):Int:=if op=0∨op=1 then 0 else if op=2 then 45 else if op=3 then 43 else if op=4 then 45 else if op=5 then 42 else if op=6 then 47 else if op=7 then 94 else if op=8 then 82 else if op=9 then 61 else 60
def aAr(op:Int):LA:=[vi (aCn op),vi (aAq op),vi (lev op),.int .u8 (sgI op)]
def hD(h0:0<=op)(h1:op<11):(aRZ.drop (op.toNat*4)).take 4=aAr op/\op.toNat*4+4<=aRZ.length:=by have:op=0∨op=1∨op=2∨op=3∨op=4∨op=5∨op=6∨op=7∨op=8∨op=9∨op=10:=omT;rcases this with rfl|rfl|rfl|rfl|rfl|rfl|rfl|rfl|rfl|rfl|rfl<;>exact⟨rfl,deT⟩
def xV:=(.mk _:bb 196 bTx).x
def qY:=(.mk _:bb 270 bTx).x
abbrev aGz:=bTw 194 (bIF 75 [])
def aAs:=(.mk _:bb 194 (bIC [(75,aGz)])).x
abbrev aFk:=bTw 195 (bIF 75 [])
def xW:=(.mk _:bb 195 (bIC [(75,aFk)])).x
def zK:=(.mk _:bb 138 (bIF 5 [])).x
def aDc:=(.mk _:bb 138 (bIC [(5,zK)])).x
mutual
def aBM:Expr->Nat
 |.mk _ _ ks=>mN ks+1
def mN:List Expr->Nat
 | []=>0
 |k::r=>max (aBM k) (mN r)
end
mutual
def aPL:∀e:Expr,aBM e<=gY e
 |.mk _ _ ks=>by unfold aBM gY;have:=aEi ks;omega
def aEi:∀l:List Expr,mN l<=cP l
 | []=>AQ _
 |k::r=>by unfold mN cP;have:=aPL k;have:=aEi r;omega
end
def aGA:∀(l:List Expr)(i:Nat),cP (l.take i)<=cP l
 | [],i=>by simp
 |k::r,0=>by simp[cP]
 |k::r,i+1=>by simp only[AA,cP];have:=aGA r i;omega
def aGB:∀(l:List Expr)(i:Nat)(h:i<l.length),cP (l.take (i+1))=cP (l.take i)+gY l[i]
 |k::r,0,h=>by simp[cP]
 |k::r,i+1,h=>by
  simp only[AA,cP,MD];rw[aGB r i uWg];omega
def aEY:∀(l:List Expr)(i:Nat)(h:i<l.length),mN (l.take (i+1))=max (mN (l.take i)) (aBM l[i])
 |k::r,0,h=>by simp[mN]
 |k::r,i+1,h=>by
  simp only[AA,mN,MD];rw[aEY r i uWg];omega
def aIt{l:List Expr}{k:Expr}(h:k∈l):gY k<=cP l:=by
 induction l with
 |nil=>cases h
 |cons a r ih=>
  unfold cP
  grind
def aEj:∀l:List Expr,l.length<=cP l
 | []=>AQ _
 |k::r=>by
  have:=aEj r;have:1<=gY k:=by cases k;unfold gY;omega
  simp only[AW,cP];omega
section
variable {A:af}
def aPM(h:Has A 194 aAs):∀(n:Nat)(e:Expr)(H:LO),SizeOf.sizeOf e<n->gY e<=1000->aG A 194 [.agg (aF e)] H=N1 (vi (gY e),H,[]):=by
 intro n
 induction n with
 |zero=>grind
 |succ n ih=>
  intro e H hs he;obtain⟨op,m,ks⟩:=e;refine h.call ?_;have gd:∀k∈ks,SizeOf.sizeOf k<n:=λk hm=>by
   have:=GY hm
   grind
  unfold gY at he;have ax:=aEj ks;simp only[aAs];simp only[go_sem,↓aB,seval,aF,aZ];refine bJ (id:=0) (λi ρ1 H1 wr=>wr=[]/\ρ1 9=vi i/\(∃o1,H1=H++[o1])/\ρ1 3=vi ((cP (ks.take i)+1:Nat):Int)) ks.length
   (λρ1 H1 wr=>wr=[]/\(∃o1,H1=H++[o1])/\ρ1 3=vi ((cP ks+1:Nat):Int))
   bIv rfl ⟨rfl,rfl,⟨_,rfl⟩,rfl⟩ ?_ ?_
  .rintro i ρ1 H1 dc mg ⟨rfl,e9,⟨o1,rfl⟩,e3⟩ cq;have f7:ρ1 7=.sl Po (ks.map aF):=cq 7 rfl;have f8:ρ1 8=vi ks.length:=cq 8 rfl;simp only[go_sem,↓aB,seval,e9,f8];refine aD (λhb=>?_) (λhb=>?_)
   .have hlt:i<ks.length:=uWe
    have hg:(ks.map aF)[i]? = N1 (aF ks[i]):=getElem?_map_of hlt;have gq:(0:Int)<=(i:Int):=omT;have kx:((i:Int)).toNat=i:=omT;have Qe:=wS (i:=i) omT;have tk:=AS hlt;have hsm:=aIt tk;have az:=λH=>ih ks[i] H (gd _ tk) omT;have hsn:=aGB ks i hlt;have pk:=aGA ks i;have zh:AR.wrap (((cP (ks.take i)+1:Nat):Int)+(gY ks[i]:Int))=((cP (ks.take (i+1))+1:Nat):Int):=by rw[wrap_i64 omT omT];omega
    simp only[go_sem,↓aB,seval,f7,e9,e3,hg,gq,kx,dP,dX.take,bID (aV ks[i]),aS (aV ks[i]),aK (aV ks[i]),az,Qe,zh]
    grind
   have hi:i=ks.length:=uWa
   subst hi;simp only[go_sem,seval]
   grind
  rintro ρ' H' ba ⟨rfl,⟨o1,rfl⟩,e3⟩ cq;simp only[go_sem,↓aB,seval,e3,gY]
def aOb(h:Has A 195 xW):∀(n:Nat)(e:Expr)(H:LO),SizeOf.sizeOf e<n->gY e<=1000->aG A 195 [.agg (aF e)] H=N1 (vi (aBM e),H,[]):=by
 intro n
 induction n with
 |zero=>grind
 |succ n ih=>
  intro e H hs he;obtain⟨op,m,ks⟩:=e;refine h.call ?_;have gd:∀k∈ks,SizeOf.sizeOf k<n:=λk hm=>by
   have:=GY hm
   grind
  unfold gY at he;have ax:=aEj ks;have Ik:=aEi ks;simp only[xW];simp only[go_sem,↓aB,seval,aF,aZ];refine bJ (id:=0) (λi ρ1 H1 wr=>wr=[]/\ρ1 9=vi i/\(∃o1,H1=H++[o1])/\ρ1 3=vi (mN (ks.take i))) ks.length
   (λρ1 H1 wr=>wr=[]/\(∃o1,H1=H++[o1])/\ρ1 3=vi (mN ks))
   bIv rfl ⟨rfl,rfl,⟨_,rfl⟩,rfl⟩ ?_ ?_
  .rintro i ρ1 H1 dc mg ⟨rfl,e9,⟨o1,rfl⟩,e3⟩ cq;have f7:ρ1 7=.sl Po (ks.map aF):=cq 7 rfl;have f8:ρ1 8=vi ks.length:=cq 8 rfl;simp only[go_sem,↓aB,seval,e9,f8];refine aD (λhb=>?_) (λhb=>?_)
   .have hlt:i<ks.length:=uWe
    have hg:(ks.map aF)[i]? = N1 (aF ks[i]):=getElem?_map_of hlt;have gq:(0:Int)<=(i:Int):=omT;have kx:((i:Int)).toNat=i:=omT;have Qe:=wS (i:=i) omT;have tk:=AS hlt;have hsm:=aIt tk;have az:=λH=>ih ks[i] H (gd _ tk) omT;have hmax:(if mN (ks.take i)<aBM ks[i] then (aBM ks[i]:Int)else (mN (ks.take i):Int))=((mN (ks.take (i+1)):Nat):Int):=by rw[aEY ks i hlt];grind
    simp only[go_sem,↓aB,seval,f7,e9,e3,hg,gq,kx,dP,dX.take,bID (aV ks[i]),aS (aV ks[i]),aK (aV ks[i]),az,Qe]
    grind
   have hi:i=ks.length:=uWa
   subst hi;simp only[go_sem,seval]
   grind
  rintro ρ' H' ba ⟨rfl,⟨o1,rfl⟩,e3⟩ cq;have dy:AR.wrap ((mN ks:Int)+1)=((mN ks+1:Nat):Int):=by rw[wrap_i64 omT omT];omega
  simp only[go_sem,↓aB,seval,e3,aBM,dy]
mutual
def aBN:Bool->Expr->Bool
 |r,.mk op n ks => !(decide (op<0) || decide (op ≥ 11))&&(!((((((ks.length:Int) != (aCn op:Int)) || decide (n<0)) || decide (n>aAq op)) || ((((lev op:Nat):Int)==0) && !r)))&&aEZ ks)
def aEZ:List Expr->Bool
 | []=>Pa
 |k::r=>aBN Po k&&aEZ r
end
def aIu:∀l:List Expr,aEZ l=l.all (aBN Po)
 | []=>rfl
 |k::r=>by unfold aEZ;rw[aIu r];rfl
def aOc(h:Has A 196 xV)(h1:Has A 270 qY)(hc:A.fn 269=N1 (aLV fi)/\A.bq 269=N2)(hi:A.fn fi=N1 (aKx 3 Pa)/\A.bq fi=N2):∀(n:Nat)(e:Expr)(r:Bool)(H:LO),SizeOf.sizeOf e<n->e.Ok->aG A 196 [.agg (aF e),.bool r] H=N1 (.bool (aBN r e),H,[]):=by
 intro n
 induction n with
 |zero=>grind
 |succ n ih=>
  intro e r H hs he;obtain⟨op,m,ks⟩:=e;obtain⟨_,_,_,_,_,zp,E7⟩:=he;refine h.call ?_;have gd:∀k∈ks,SizeOf.sizeOf k<n:=λk hm=>by
   have:=GY hm
   grind
  have po:∀H,aG A 269 [.sl Po (ks.map aF),.fn 270 [] []] H=N1 (.bool (!aEZ ks),H,[]):=λH=>by
   have lq:aUw A 270 [] (λk=>.agg (aF k)) (λk => !aBN Po k) ks H:=λk hk=>by
    have:=ih k Po H (gd k hk) (E7 k hk);refine h1.call ?_;simp only[qY];simp only[go_sem,↓aB,seval,dP,dX.take,dX.still,dX.ga,aS (aV k),this]
   have:=aGr hc.1 hc.2 bIJ (aDa hi.1 hi.2 dX bIJ uWa lq);rw[this,aPC,aIu]
  have hx:aBN r (.mk op m ks)=(!(decide (op<0) || decide (op ≥ 11))&&(!((((((ks.length:Int) != (aCn op:Int)) || decide (m<0)) || decide (m>aAq op)) || ((((lev op:Nat):Int)==0) && !r)))&&aEZ ks)):=by conv=>lhs;unfold aBN
  simp only[xV];cases e1:decide (op<0)with
  |true=>rw[e1]at hx;simp only[go_sem,↓aB,seval,aF,aZ,e1,hx,CE]
  |false=>
  cases e2:decide (op ≥ 11)with
  |true=>rw[e1,e2]at hx;simp only[go_sem,↓aB,seval,aF,aZ,e1,e2,hx]
  |false=>
  rw[e1,e2]at hx;simp only[IJ,BF,BR]at hx;have o0:0<=op:=uWa
  have o1:op<11:=uWa
  simp only[go_sem,↓aB,seval,aF,aZ,e1,e2,o0,o1,(hD o0 o1).1,(hD o0 o1).2,aAr];cases e3:((ks.length:Int) != (aCn op:Int))with
  |true=>rw[e3]at hx;simp only[go_sem,↓aB,seval,hx,CE]
  |false=>
  cases e4:decide (m<0)with
  |true=>rw[e3,e4]at hx;simp only[go_sem,↓aB,seval,e4,hx,CE]
  |false=>
  cases e5:decide (m>aAq op)with
  |true=>rw[e3,e4,e5]at hx;simp only[go_sem,↓aB,seval,e4,e5,hx,CE]
  |false=>
  rw[e3,e4,e5]at hx;simp only[IJ,Bool.false_or]at hx;cases e6:(((lev op:Nat):Int)==0)with
  |false=>rw[e6]at hx;simp only[go_sem,↓aB,seval,e4,e5,e6,hx,po,PE]
  |true=>
   rw[e6]at hx;cases r with
   |true=>simp only[go_sem,↓aB,seval,e4,e5,e6,hx,po,PE]
   |false=>simp only[go_sem,↓aB,seval,e4,e5,e6,hx]
end
inductive ew(id k:Nat):List LA->AV->ah->Prop
 |nil (o:ah):ew id k [] (.sl Pa []) o
 |obj (ver:Nat) (rows:List LA):ew id k rows (.sr id ver rows.length) (.vec ver k rows)
section
variable {id k:Nat}{rows:List LA}{v:AV}{o:ah}
def ew.ak(h:ew id k rows v o):v.ak=true:=by cases h<;>rfl
def ew.aj(h:ew id k rows v o):v.cells=[v]:=by cases h<;>rfl
theorem getElem?_lt(h:l[i]? = N1 a):i<l.length:=by
 rcases Nat.lt_or_ge i l.length with h1|h1
 .exact h1
 rw[List.getElem?_eq_none h1]at h;cases h
def aJo(h:l[i]? = N1 a):l.set i a=l:=by
 apply HN;intro j;by_cases e:i=j
 .subst e;rw[BW (getElem?_lt h),h]
 rw[CL e]
def ew.app(h:ew id k rows v o){new:List LA}{bytes:Nat}(hn:new≠[])(hk:dF k new=Pa)(hr:(rows.length+new.length)*(bytes+1)<=1099511627776):∃v' o',ew id k (rows++new) v' o'/\∀H f,H[id]? = N1 o->eX H (N1 id) k bytes v (.sl f new)=N1 (v',H.set id o',[id]):=by
 obtain⟨a,l,rfl⟩:=ER hn;have ed:bP (rows.length+(a::l).length) bytes=true:=by unfold bP;simpa using hr
 cases h with
 |nil=>refine⟨.sr id (o.ver+1) (a::l).length,.vec (o.ver+1) k (a::l),ew.obj _ _,λH f ho=>?_⟩;unfold eX;simp only[bIz,dO,hk];simp only[NM,dF,BT,BX,Vt,BR,AZ,BC];simp only[AZ,BC]at ed;rw[Vx (by rw[ed]),Vx (getElem?_lt ho)];simp only[bH,make,ho,HC,CW]
 |obj ver=>refine⟨.sr id ver (rows++a::l).length,.vec ver k (rows++a::l),ew.obj _ _,λH f ho=>?_⟩;unfold eX;simp only[bIz,dO,hk];simp only[BT,BX,Vt,ho,ed,and_self,Vu,NM,BA]
def ew.dw(h:ew id k rows v o)(hd:gG rows=Pa):∃f l o',(∀H,H[id]? = N1 o->aA2 H v=N1 (.sl f rows,l))/\(∀H,H[id]? = N1 o->dL H l=H.set id o')/\(∀b wr,b<=id->bE b wr l=wr):=by
 cases h with
 |nil=>exact⟨Pa,[],o,λH _=>rfl,λH ho=>by rw[aJo ho];rfl,λ_ _ _=>rfl⟩
 |obj ver=>
  refine⟨Po,[id],.gone ver,λH ho=>?_,λH ho=>?_,λb wr hb=>?_⟩
  .show (match H[id]? with
    |some (.vec v' _ bt)=>if v'=ver/\bt.length=rows.length/\bt.all (λr=>r.all AV.still)then N1 (AV.sl Po bt,[id])else N2
    |_=>N2)=_
   rw[ho];simp only[aT hd,and_self,Vu]
  .simp only[dL,ho];rfl
  unfold bE;rw[Vw omT];rfl
end
abbrev aHC:=bTw 276 (bJ6 75)
abbrev aBO:LN:=[2,3]
abbrev aHD:=bTw 276 (bJ6 10199)
abbrev aBP:LN:=[2,4,6]
abbrev aHE:=bTw 276 (bJ6 40919)
abbrev aBQ:LN:=[2,4,6]
abbrev aHF:=bTw 276 (bJ6 163799)
abbrev aBR:LN:=[5,7,9,11]
def gV:=(.mk _:bb 276 (bIF 55 [(318,.region Pa aHD),(1278,.region Pa aHE),(5118,.region Pa aHF)])).x
abbrev aHG:=bTw 276 (bJ6 47)
abbrev aBS:LN:=[8,10,12,14,16,18]
def dN:=(.mk _:bb 276 (bIC [(75,.region Pa aHC),(55,gV),(47,.region Pa aHG)])).x
def aF0:=(.mk _:bb 213 bTx).x
def vW:=(.mk _:bb 317 bTx).x
abbrev rb(s:Str):List LA:=s.map aRV
def aJp(s:Str):gG (rb s)=true:=aC (λb=>rfl) s
def aEk(s:Str):dF 1 (rb s)=true:=by cases s<;>rfl
def kG(s:Str):(rb s).length=s.length:=AF ..
inductive Buf(H:LO):Str->AV->Prop where
 |nil:Buf H [] (.sl Pa [])
 |obj (id ver:Nat) (s:Str):H[id]? = N1 (.vec ver 1 (rb s))->Buf H s (.sr id ver s.length)
def oX(H:LO)(t s:Str):AV->Out
 |.sr id ver _=>N1 (.sr id ver (t.length+s.length),H.set id (.vec ver 1 (rb (t++s))),[id])
 |_=>N1 (.own 1 (rb s),H,[])
def fY(A:af)(f:Nat)(args:LA)(s:Str):Prop:=∀(H:LO)(t:Str)(v:AV),Buf H t v->t.length+s.length<=1000000->aG A f (v::args) H=oX H t s v
structure At(H:LO)(i:Nat)(t:Str)(v:AV)(L:LO)(o ver:Nat):Prop where
 place:o=H.length+i∨o<H.length
 lt:o<(H++L).length
 fin:∀(L':LO)(s:Str),L'.length=L.length->(match aDR H.length ((H++L').set o (.vec ver 1 (rb (t++s)))) (.sr o ver (t++s).length)with
  |some (v',H',l)=>N1 (cJ H.length (v',H',bE H.length (bE H.length [] [o]) l))
  |none=>N2)=oX H t s v
def vX(a b:Str):rb (a++b)=rb a++rb b:=DQ ..
def aS0{L:LO}{x:ah}(h:o<H.length):((H++L).set o x).take H.length=H.set o x:=uWa
def aPN{L:LO}{x:ah}:((H++L).set (H.length+i) x).take H.length=H:=uWa
def At.own{L:LO}(hi:i<L.length):At H i [] (.sl Pa []) L (H.length+i) ver:=by
 refine⟨.inl rfl,soT,λL' s hl=>?_⟩;have h1:((H++L').set (H.length+i) (.vec ver 1 (rb s)))[H.length+i]? = N1 (.vec ver 1 (rb s)):=BW soT;have bd:=aT (aJp s);simp only[CW,aDR,h1,Nat.not_lt.2 (EG H.length i),Vt,kG,EG,bd,and_self,Vu,oX];have hg:dL ((H++L').set (H.length+i) (.vec ver 1 (rb s))) [H.length+i]=(H++L').set (H.length+i) (.gone ver):=by simp only[dL,h1,HC,ah.ver,EO]
 have hw:bE H.length (bE H.length [] [H.length+i]) [H.length+i]=[]:=by simp[bE,show ¬(H.length+i<H.length)by omega]
 rw[hg,hw,qQ (by show eR H.length (rb s)=Pa;exact aA (aJp s)),aPN]
def At.old{L:LO}{id:Nat}(h:H[id]? = N1 (.vec ver 1 (rb t))):At H i t (.sr id ver t.length) L id ver:=by
 have hid:=getElem?_lt h;refine⟨.inr hid,soT,λL' s hl=>?_⟩;have h1:((H++L').set id (.vec ver 1 (rb (t++s))))[id]? = N1 (.vec ver 1 (rb (t++s))):=BW soT;have hw:bE H.length [] [id]=[id]:=by simp[bE,hid]
 have gn:bE H.length [id] []=[id]:=rfl;simp only[aDR,hid,Vu,hw,gn,oX,BA];rw[xI (by simp[AV.under,hid]) h1 (by show eR H.length (rb (t++s))=Pa;exact aA (aJp _)),aS0 hid]
@[go_sem] def aUR{b:Nat}:bE b (bE b [] [o]) [o]=bE b [] [o]:=by by_cases h:o<b<;>simp[bE,h]
def Buf.app{L:LO}(hb:Buf H t v)(ht:t.length<=1000000)(hi:i<L.length)(new:Str)(hn:new≠[])(hl:new.length<=1000000):∃o ver,At H i t v L o ver /\ ∀f,eX (H++L) (N1 (H.length+i)) 1 1 v (.sl f (rb new))=N1 (.sr o ver (t++new).length,(H++L).set o (.vec ver 1 (rb (t++new))),[o]):=by
 have bl:(rb new).isEmpty=false:=uWY
 cases hb with
 |nil=>
  refine⟨H.length+i,((L[i]?).elim 0 ah.ver)+1,.own hi,λf=>?_⟩;have hr:bP (rb new).length 1=true:=by unfold bP;rw[kG];simp;omega
  have pw:bP (0+(rb new).length) 1=true:=by rw[BC];exact hr
  have hlt:H.length+i<(H++L).length:=soT;have hv:bH (H++L) (H.length+i)=((L[i]?).elim 0 ah.ver)+1:=by unfold bH;rw[BU omT,FL]
  unfold eX;simp only[bIz,dO,aEk,bl,BT,BX,Vt,BR,show dF 1 []=Pa from rfl,AZ,Vu,hlt,hv,CW,BC];unfold make;rw[BU omT,FL];rw[kG]at hr ⊢;rw[Vx hr]
 |obj id ver t h=>
  refine⟨id,ver,.old h,λf=>?_⟩;have hid:=getElem?_lt h;have h1:(H++L)[id]? = N1 (.vec ver 1 (rb t)):=by rw[BM hid];exact h
  have hr:bP (t.length+(rb new).length) 1=true:=by unfold bP;rw[kG];simp;omega
  unfold eX;simp only[bIz,dO,aEk,bl,BT,BX,Vt,h1,kG,vX,BA];rw[Vx];rw[kG]at hr;exact⟨trivial,trivial,trivial,hr⟩
def Buf.call{f:Nat}{L:LO}{v:AV}(hb:Buf H t v)(ht:t.length+s.length<=1000000)(hi:i<L.length)(hf:fY A f args s):∃o ver,At H i t v L o ver /\ dY (N1 (H.length+i)) Pa (H++L) (aG A f (v::args) (H++L))=N1 (.sr o ver (t++s).length,(H++L).set o (.vec ver 1 (rb (t++s))),[o]):=by
 cases hb with
 |nil=>
  refine⟨H.length+i,((L[i]?).elim 0 ah.ver)+1,.own hi, ?_⟩;rw[hf (H++L) [] (.sl Pa []) .nil ht];have hlt:H.length+i<(H++L).length:=soT;have hv:bH (H++L) (H.length+i)=((L[i]?).elim 0 ah.ver)+1:=by unfold bH;rw[BU omT,FL]
  simp only[oX,dY,Vu,hlt,hv,kG,CW,List.contains_nil,BX,Vt];unfold make;rw[BU omT,FL]
 |obj id ver t h=>
  refine⟨id,ver,.old h, ?_⟩;have hid:=getElem?_lt h;have h1:(H++L)[id]? = N1 (.vec ver 1 (rb t)):=by rw[BM hid];exact h
  rw[hf (H++L) t _ (.obj id ver t h1) ht];simp only[oX,dY,Vu,BA]
def aN4{new:Str}{f:Bool}(ho:o<Z.length)(hn:new≠[])(hl:t.length+new.length<=10000000):eX (Z.set o (.vec ver 1 (rb t))) site 1 1 (.sr o ver t.length) (.sl f (rb new))=N1 (.sr o ver (t++new).length,Z.set o (.vec ver 1 (rb (t++new))),[o]):=by
 have bl:(rb new).isEmpty=false:=uWY
 have h1:(Z.set o (.vec ver 1 (rb t)))[o]? = N1 (.vec ver 1 (rb t)):=BW ho;have hr:bP (t.length+(rb new).length) 1=true:=by unfold bP;rw[kG];simp;omega
 unfold eX;simp only[bIz,dO,aEk,bl,BT,BX,Vt,h1,kG,vX,BA,EO];rw[Vx];rw[kG]at hr;exact⟨trivial,trivial,trivial,hr⟩
def aGC{f:Nat}{o ver:Nat}(ho:o<Z.length)(ht:t.length+s.length<=1000000)(hf:fY A f args s):aG A f (.sr o ver t.length::args) (Z.set o (.vec ver 1 (rb t)))=N1 (.sr o ver (t++s).length,Z.set o (.vec ver 1 (rb (t++s))),[o]):=by rw[hf (Z.set o (.vec ver 1 (rb t))) t _ (.obj o ver t (BW ho)) ht];simp only[oX,BA,EO]
def At.done{L:LO}(a:At H i t v L o ver){L':LO}(hl:L'.length=L.length)(s:Str):bnd (match (if o<H.length then N1 (AV.sr o ver (t.length+s.length),(H++L').set o (.vec ver 1 (rb (t++s))),[])else match ((H++L').set o (.vec ver 1 (rb (t++s))))[o]? with
    |some (.vec v' k rows)=>if v'=ver/\rows.length=t.length+s.length/\H.length<=o/\(rows.all λr=>r.all AV.still)=Pa then
      N1 (.own k rows,(H++L').set o (.gone ((((H++L').set o (.vec ver 1 (rb (t++s))))[o]?).elim 0 ah.ver)),[o])else aA3 ((H++L').set o (.vec ver 1 (rb (t++s)))) (.sr o ver (t.length+s.length))
    |_=>N2)with
   |some (v',H',l)=>N1 (v',H',bE H.length (bE H.length [] [o]) l)
   |none=>N2) λr=>bnd (N1 (cJ H.length r)) λr=>N1 (r.1,r.2.1,r.2.2)=oX H t s v:=by
 have h:=a.fin L' s hl;rw[BA,aUq]at h;simp only[dL,EO]at h;generalize (if o<H.length then N1 (AV.sr o ver (t.length+s.length),(H++L').set o (.vec ver 1 (rb (t++s))),[])else match ((H++L').set o (.vec ver 1 (rb (t++s))))[o]? with
    |some (.vec v' k rows)=>if v'=ver/\rows.length=t.length+s.length/\H.length<=o/\(rows.all λr=>r.all AV.still)=Pa then
      N1 (.own k rows,(H++L').set o (.gone ((((H++L').set o (.vec ver 1 (rb (t++s))))[o]?).elim 0 ah.ver)),[o])else aA3 ((H++L').set o (.vec ver 1 (rb (t++s)))) (.sr o ver (t.length+s.length))
    |_=>N2)=z at h ⊢
 cases z with
 |none=>dsimp only at h;cases v<;>cases h
 |some r=>obtain⟨v',H',l⟩:=r;exact h
def kQ op:(aAr op).length=4:=rfl
def oF op:(aAr op).all AV.ak=true:=rfl
def kS op:((aAr op).drop 2).take 1=[vi (lev op)]:=rfl
def aOd op:((aAr op).drop 3).take 1=[.int .u8 (sgI op)]:=rfl
theorem aPO(op n:Int)(a:Expr):wX (.mk op n [a])=if op=2 then 45::par a 3 (wX a)else 82::40::(par a 1 (wX a)++[41]):=by conv=>lhs;unfold wX
theorem aN5(op n:Int)(a b:Expr):wX (.mk op n [a,b])=if op=7 then par a 4 (wX a)++94::par b 3 (wX b)else par a (max 1 (lev op)) (wX a)++sg op::par b (lev op+1) (wX b):=by conv=>lhs;unfold wX
section
variable {A:af}
abbrev ry(op:Int):LO:=[.box 1 (aAr op),.gone 0,.gone 0,.gone 0,.gone 0,.gone 0,.gone 0,.gone 0]
def aUS(h:Has A 276 dN)(hi:∀n:Int,0<=n->n<=999999->fY A 317 [vi n,vi 10] (dec n.toNat)){n:Int}(h0:0<=n)(h9:n<=999999)(eo:op=0)(hL:L<=lev op):fY A 276 [.agg (aF (.mk op n [])),vi L] (wX (.mk op n [])):=by
 intro H t v hb ht;obtain⟨v1,H1,dc,h1,h2⟩:=h.bp (args:=[v,.agg (aF (.mk op (n) [])),vi L]) (H:=H) (K:=λv' H'' ba=>N1 (v',H'',ba)=oX H t (wX (.mk op (n) [])) v) (by
  have pq:decide (lev op<L)=false:=uWa
  have o0:0<=op:=omT;have o1:op<11:=omT;simp only[dN];simp only[go_sem,↓aB,seval,aF,aZ,o0,o1,(hD o0 o1).1,(hD o0 o1).2,kQ,oF,kS,pq];subst eo;have hw:wX (.mk 0 n [])=dec n.toNat:=by unfold wX;rfl
  rw[hw]at ht ⊢;obtain⟨o,ver,jk,kq⟩:=hb.call (L:=ry 0) (i:=2) ht deT (hi n h0 h9);simp only[gV];simp only[go_sem,↓aB,seval,kq];exact jk.done rfl _)
 rw[h1,h2]
def aUT(h:Has A 276 dN){n:Int}(h0:0<=n)(h1:n<=25)(eo:op=1)(hL:L<=lev op):fY A 276 [.agg (aF (.mk op n [])),vi L] (wX (.mk op n [])):=by
 intro H t v hb ht;obtain⟨v1,H1,dc,h1,h2⟩:=h.bp (args:=[v,.agg (aF (.mk op (n) [])),vi L]) (H:=H) (K:=λv' H'' ba=>N1 (v',H'',ba)=oX H t (wX (.mk op (n) [])) v) (by
  have pq:decide (lev op<L)=false:=uWa
  have o0:0<=op:=omT;have o1:op<11:=omT;simp only[dN];simp only[go_sem,↓aB,seval,aF,aZ,o0,o1,(hD o0 o1).1,(hD o0 o1).2,kQ,oF,kS,pq];subst eo;have hw:wX (.mk 1 n [])=[CN (97+n.toNat)]:=by unfold wX;rfl
  rw[hw]at ht ⊢;obtain⟨o,ver,jk,kq⟩:=hb.app (L:=ry 1) (i:=3) uWa deT [CN (97+n.toNat)] siT siT;have kq:eX (H++ry 1) (N1 (H.length+3)) 1 1 v (.sl Pa [[.int .u8 ((CN (97+n.toNat)).toNat:Nat)]])=_:=kq Pa;have hc:IntKind.u8.wrap (AR.wrap (97+n))=(((CN (97+n.toNat)).toNat:Nat):Int):=by
   rw[aKJ omT,wrap_i64 omT omT]
   grind [GA,LK,KC]
  simp only[gV];simp only[go_sem,↓aB,seval,pT,hc,kq];exact jk.done rfl _)
 rw[h1,h2]
def aUU(h:Has A 276 dN){a:Expr}(ia:∀L:Nat,L<=4->fY A 276 [.agg (aF a),vi L] (par a L (wX a)))(eo:op=2)(hL:L<=lev op):fY A 276 [.agg (aF (.mk op (0) [a])),vi L] (wX (.mk op (0) [a])):=by
 intro H t v hb ht;obtain⟨v1,H1,dc,h1,h2⟩:=h.bp (args:=[v,.agg (aF (.mk op (0) [a])),vi L]) (H:=H) (K:=λv' H'' ba=>N1 (v',H'',ba)=oX H t (wX (.mk op (0) [a])) v) (by
  have pq:decide (lev op<L)=false:=uWa
  have o0:0<=op:=omT;have o1:op<11:=omT;simp only[dN];simp only[go_sem,↓aB,seval,aF,aZ,o0,o1,(hD o0 o1).1,(hD o0 o1).2,kQ,oF,kS,pq];subst eo;have hw:wX (.mk 2 0 [a])=45::par a 3 (wX a):=aPO 2 0 a;rw[hw]at ht ⊢;have hl:t.length+(1+(par a 3 (wX a)).length)<=1000000:=uWa
  obtain⟨o,ver,jk,db⟩:=hb.app (L:=ry 2) (i:=4) omT deT [45] siT siT;have db:eX (H++ry 2) (N1 (H.length+4)) 1 1 v (.sl Pa [[.int .u8 45]])=_:=db Pa;have az:aG A 276 [.sr o ver (t++[45]).length,.agg (aF a),vi 3] _=_:=aGC (t:=t++[45]) (ver:=ver) jk.lt soT (ia 3 deT);simp only[BA,AW,AZ,BC]at db az;have hd:=jk.done (L':=ry 2) rfl (45::par a 3 (wX a));rw[show t++45::par a 3 (wX a)=t++[45]++par a 3 (wX a)by simp,show t.length+(45::par a 3 (wX a)).length=t.length+1+(par a 3 (wX a)).length by simp;omega]at hd;simp only[gV];simp only[go_sem,↓aB,seval];refine aY (aq:=aBP) rfT rfT ?_;simp only[go_sem,↓aB,seval,aBP,eH,dG,aL,db,az,dP,dX.take];exact hd)
 rw[h1,h2]
def aS1(h:Has A 276 dN){a:Expr}(ia:∀L:Nat,L<=4->fY A 276 [.agg (aF a),vi L] (par a L (wX a)))(eo:op=8)(hL:L<=lev op):fY A 276 [.agg (aF (.mk op (0) [a])),vi L] (wX (.mk op (0) [a])):=by
 intro H t v hb ht;obtain⟨v1,H1,dc,h1,h2⟩:=h.bp (args:=[v,.agg (aF (.mk op (0) [a])),vi L]) (H:=H) (K:=λv' H'' ba=>N1 (v',H'',ba)=oX H t (wX (.mk op (0) [a])) v) (by
  have pq:decide (lev op<L)=false:=uWa
  have o0:0<=op:=omT;have o1:op<11:=omT;simp only[dN];simp only[go_sem,↓aB,seval,aF,aZ,o0,o1,(hD o0 o1).1,(hD o0 o1).2,kQ,oF,kS,pq];subst eo;have hw:wX (.mk 8 0 [a])=82::40::(par a 1 (wX a)++[41]):=aPO 8 0 a;rw[hw]at ht ⊢;have hl:t.length+(3+(par a 1 (wX a)).length)<=1000000:=uWa
  obtain⟨o,ver,jk,db⟩:=hb.app (L:=ry 8) (i:=5) omT deT [82,40] siT siT;have db:eX (H++ry 8) (N1 (H.length+5)) 1 1 v (.sl Pa [[.int .u8 82],[.int .u8 40]])=_:=db Pa;have az:aG A 276 [.sr o ver (t++[82,40]).length,.agg (aF a),vi 1] _=_:=aGC (t:=t++[82,40]) (ver:=ver) jk.lt soT (ia 1 deT);have ll:∀site,eX _ site 1 1 _ (.sl Pa [[.int .u8 41]])=_:=λsite=>aN4 (Z:=H++ry 8) (ver:=ver) (t:=t++[82,40]++par a 1 (wX a)) (new:=[41]) (f:=Pa) (site:=site) jk.lt siT soT;simp only[BA,AW,AZ,BC,Nat.reduceAdd]at db az ll;have hd:=jk.done (L':=ry 8) rfl (82::40::(par a 1 (wX a)++[41]));rw[show t++82::40::(par a 1 (wX a)++[41])=t++[82,40]++par a 1 (wX a)++[41] by simp,show t.length+(82::40::(par a 1 (wX a)++[41])).length=t.length+2+(par a 1 (wX a)).length+1 by simp;omega]at hd;simp only[gV];simp only[go_sem,↓aB,seval];refine aY (aq:=aBQ) rfT rfT ?_;simp only[go_sem,↓aB,seval,aBQ,eH,dG,aL,db,az,ll,dP,dX.take];exact hd)
 rw[h1,h2]
def aUV(h:Has A 276 dN){a b:Expr}(ia:∀L:Nat,L<=4->fY A 276 [.agg (aF a),vi L] (par a L (wX a)))(ib:∀L:Nat,L<=4->fY A 276 [.agg (aF b),vi L] (par b L (wX b)))(eo:op=7)(hL:L<=lev op):fY A 276 [.agg (aF (.mk op (0) [a,b])),vi L] (wX (.mk op (0) [a,b])):=by
 intro H t v hb ht;obtain⟨v1,H1,dc,h1,h2⟩:=h.bp (args:=[v,.agg (aF (.mk op (0) [a,b])),vi L]) (H:=H) (K:=λv' H'' ba=>N1 (v',H'',ba)=oX H t (wX (.mk op (0) [a,b])) v) (by
  have pq:decide (lev op<L)=false:=uWa
  have o0:0<=op:=omT;have o1:op<11:=omT;simp only[dN];simp only[go_sem,↓aB,seval,aF,aZ,o0,o1,(hD o0 o1).1,(hD o0 o1).2,kQ,oF,kS,pq];subst eo;have hw:wX (.mk 7 0 [a,b])=par a 4 (wX a)++94::par b 3 (wX b):=aN5 7 0 a b;rw[hw]at ht ⊢;have hl:t.length+((par a 4 (wX a)).length+(1+(par b 3 (wX b)).length))<=1000000:=uWa
  obtain⟨o,ver,jk,kq⟩:=hb.call (L:=ry 7) (i:=6) omT deT (ia 4 deT);have kq:dY (N1 (H.length+6)) Pa (H++ry 7) (aG A 276 [v,.agg (aF a),vi 4] (H++ry 7))=_:=kq;have ll:∀site,eX _ site 1 1 _ (.sl Pa [[.int .u8 94]])=_:=λsite=>aN4 (Z:=H++ry 7) (ver:=ver) (t:=t++par a 4 (wX a)) (new:=[94]) (f:=Pa) (site:=site) jk.lt siT soT;have az:aG A 276 [.sr o ver (t++par a 4 (wX a)++[94]).length,.agg (aF b),vi 3] _=_:=aGC (t:=t++par a 4 (wX a)++[94]) (ver:=ver) jk.lt soT (ib 3 deT);simp only[BA,AW,AZ,BC]at kq az ll;have hd:=jk.done (L':=ry 7) rfl (par a 4 (wX a)++94::par b 3 (wX b));rw[show t++(par a 4 (wX a)++94::par b 3 (wX b))=t++par a 4 (wX a)++[94]++par b 3 (wX b)by simp,show t.length+(par a 4 (wX a)++94::par b 3 (wX b)).length=t.length+(par a 4 (wX a)).length+1+(par b 3 (wX b)).length by simp;omega]at hd;simp only[gV];simp only[go_sem,↓aB,seval];refine aY (aq:=aBR) rfT rfT ?_;simp only[go_sem,↓aB,seval,aBR,eH,dG,aL,kq,az,ll,dP,dX.take];exact hd)
 rw[h1,h2]
def aGD(h:Has A 276 dN)(ho:op=3∨op=4∨op=5∨op=6∨op=9∨op=10){a b:Expr}(ia:∀L:Nat,L<=4->fY A 276 [.agg (aF a),vi L] (par a L (wX a)))(ib:∀L:Nat,L<=4->fY A 276 [.agg (aF b),vi L] (par b L (wX b)))(hL:L<=lev op):fY A 276 [.agg (aF (.mk op (0) [a,b])),vi L] (wX (.mk op (0) [a,b])):=by
 intro H t v hb ht;obtain⟨v1,H1,dc,h1,h2⟩:=h.bp (args:=[v,.agg (aF (.mk (op) (0) [a,b])),vi L]) (H:=H) (K:=λv' H'' ba=>N1 (v',H'',ba)=oX H t (wX (.mk (op) (0) [a,b])) v) (by
  have pq:decide (lev (op)<L)=false:=uWa
  have o0:0<=op:=omT;have o1:op<11:=omT;simp only[dN];simp only[go_sem,↓aB,seval,aF,aZ,o0,o1,(hD o0 o1).1,(hD o0 o1).2,kQ,oF,kS,pq];have hw:wX (.mk op 0 [a,b])=par a (max 1 (lev op)) (wX a)++sg op::par b (lev op+1) (wX b):=by rw[aN5,Vw omT]
  rw[hw]at ht ⊢;have hl:t.length+((par a (max 1 (lev op)) (wX a)).length+(1+(par b (lev op+1) (wX b)).length))<=1000000:=uWa
  have hl4:lev op<=2:=by have:op=3∨op=4∨op=5∨op=6∨op=9∨op=10:=omT;rcases this with rfl|rfl|rfl|rfl|rfl|rfl<;>decide
  have ot:sgI op=(((sg op).toNat:Nat):Int):=by have:op=3∨op=4∨op=5∨op=6∨op=9∨op=10:=omT;rcases this with rfl|rfl|rfl|rfl|rfl|rfl<;>decide
  obtain⟨o,ver,jk,kq⟩:=hb.call (L:=ry op) (i:=7) omT uWa (ia (max 1 (lev op)) omT);have kq:dY (N1 (H.length+7)) Pa (H++ry op) (aG A 276 [v,.agg (aF a),vi ((max 1 (lev op):Nat):Int)] (H++ry op))=_:=kq;have ll:∀site,eX _ site 1 1 _ (.sl Pa [[.int .u8 (((sg op).toNat:Nat):Int)]])=_:=λsite=>aN4 (Z:=H++ry op) (ver:=ver) (t:=t++par a (max 1 (lev op)) (wX a)) (new:=[sg op]) (f:=Pa) (site:=site) jk.lt siT soT;have az:aG A 276 [.sr o ver (t++par a (max 1 (lev op)) (wX a)++[sg op]).length,.agg (aF b),vi ((lev op+1:Nat):Int)] _=_:=aGC (t:=t++par a (max 1 (lev op)) (wX a)++[sg op]) (ver:=ver) jk.lt soT (ib (lev op+1) omT);simp only[BA,AW,AZ,BC]at kq az ll;have hd:=jk.done (L':=ry op) rfl (par a (max 1 (lev op)) (wX a)++sg op::par b (lev op+1) (wX b));rw[show t++(par a (max 1 (lev op)) (wX a)++sg op::par b (lev op+1) (wX b))=t++par a (max 1 (lev op)) (wX a)++[sg op]++par b (lev op+1) (wX b)by simp,show t.length+(par a (max 1 (lev op)) (wX a)++sg op::par b (lev op+1) (wX b)).length=t.length+(par a (max 1 (lev op)) (wX a)).length+1+(par b (lev op+1) (wX b)).length by simp;omega]at hd;have n0:(op==0)=false:=soT;have n1:(op==1)=false:=soT;have n2:(op==2)=false:=soT;have n7:(op==7)=false:=soT;have n8:(op==8)=false:=soT;have E1:(if ((lev op:Nat):Int)>1 then ((lev op:Nat):Int)else 1)=((max 1 (lev op):Nat):Int):=uWa
  have L9:AR.wrap (((lev op:Nat):Int)+1)=((lev op+1:Nat):Int):=by rw[wrap_i64 omT omT];omega
  have bl:o≠H.length:=by rcases jk.place with h|h<;>omega
  have cj:∀x,((H++ry op).set o x)[H.length]? = N1 (.box 1 (aAr op)):=λx=>by
   grind
  have hbq:(H.length==o)=false:=uWa
  simp only[gV];simp only[go_sem,↓aB,seval,n0,n1,n2,n7,n8];refine aY (aq:=aBS) rfT rfT ?_;simp only[go_sem,↓aB,seval,aBS,eH,dG,aL,kq,az,ll,ot,E1,L9,cj,hbq,kQ,kS,aOd,dP,dX.take];exact hd)
 rw[h1,h2]
end
def cO:=(.mk _:bb 130 bTx).x
def gW:=(.mk _:bb 83 bTx).x
def iY:=(.mk _:bb 129 bTx).x
@[go_sem] def aTa:iE base [] ρ H wr=N1 (.tup [],H,wr):=(rfl)
@[go_sem] def aUW:AV.under n .ar=true:=(rfl)
@[go_sem] def aUX:aDR base H .bj=N1 (.bj,H,[]):=(rfl)
def aBT{tB tP v:Nat}(h:H[o]? = N1 (.cw v ty [.ptr o v 0,x])):fB tB tP [.ptr o v 0] H=N1 (.tup [],[],[]):=by simp[fB,h]
def PSt(H:LO)(ty o v o2 v2:Nat)(T:Str):LO:=(H.set o (.cw v ty [.ptr o v 0,.sr o2 v2 T.length])).set o2 (.oz v2 5 1 (rb T))
structure gf(n o o2:Nat):Prop where
 lo:o<n
 lo2:o2<n
 ne:o≠o2
section
variable {H L:LO}{ty o v o2 v2:Nat}{T S:Str}
def iZ:(PSt H ty o v o2 v2 T).length=H.length:=by unfold PSt;simp
def tW(c:gf H.length o o2):(PSt H ty o v o2 v2 T)[o]? = N1 (.cw v ty [.ptr o v 0,.sr o2 v2 T.length]):=by unfold PSt;rw[CL (Ne.symm c.ne),BW c.lo]
def aM4(c:gf H.length o o2):(PSt H ty o v o2 v2 T)[o2]? = N1 (.oz v2 5 1 (rb T)):=by unfold PSt;rw[BW (by have:=c.lo2;simpa using this)]
def aEl(c:gf H.length o o2):PSt H ty o v o2 v2 T++L=PSt (H++L) ty o v o2 v2 T:=by unfold PSt;rw[<- DX _ _ (by have:=c.lo2;simpa using this),<- DX _ _ c.lo]
def aM5(c:gf H.length o o2){x:ah}(hx:x=.oz v2 5 1 (rb S)):((PSt H ty o v o2 v2 T).set o2 x).set o (.cw v ty [.ptr o v 0,.sr o2 v2 S.length])=PSt H ty o v o2 v2 S:=by subst hx;unfold PSt;rw[EO,JR _ _ (Ne.symm c.ne),EO]
def aKO(c:gf H.length o o2):(PSt H ty o v o2 v2 T).set o (.cw v ty [.ptr o v 0,.sr o2 v2 T.length])=PSt H ty o v o2 v2 T:=aJo (tW c)
def gf.mono(c:gf n o o2)(h:n<=m):gf m o o2:=⟨by have:=c.lo;omega,by have:=c.lo2;omega,c.ne⟩
def aS2(c:gf H.length o o2):(PSt (H++L) ty o v o2 v2 T).take H.length=PSt H ty o v o2 v2 T:=by rw[<- aEl c,<- iZ (H:=H) (ty:=ty) (o:=o) (v:=v) (o2:=o2) (v2:=v2) (T:=T)];exact List.take_left' rfl
end
abbrev Wr2(o o2:Nat)(wr:LN):Prop:=∀x∈wr,x=o∨x=o2
def bZ{o o2 b:Nat}:∀{l wr:LN},Wr2 o o2 wr->Wr2 o o2 l->Wr2 o o2 (bE b wr l)
 | [],wr,h,_=>h
 |x::r,wr,h,hl=>by
  unfold bE;split
  .refine bZ (λy hy=>?_) λy hy=>hl y (BZ _ hy);rcases BD.1 hy with rfl|hy
   .exact hl _ HD
   exact h y hy
  exact bZ h λy hy=>hl y (BZ _ hy)
def kT:Wr2 o o2 []:=λx h=>by cases h
def aM6{L:LO}{v:Nat}{res:AV}(c:gf H.length o o2)(hres:res.under H.length=Pa)(ma:Wr2 o o2 wr):cJ H.length (res,PSt (H++L) ty o v o2 v2 T,wr)=(res,PSt H ty o v o2 v2 T,wr):=by
 have c':=c.mono (m:=(H++L).length) siT;rw[aEb hres,aS2 c];rw[AO];intro x hx;rcases ma x hx with rfl|rfl
 .rw[tW c'];have:=c.lo;have:=c.lo2;simp[ah.under,dJ,AV.under, *]
 rw[aM4 c'];show eR H.length (rb T)=Pa;exact aA (aJp T)
section
variable {A:af}
def aS3(h:Has A 129 iY){v:Nat}(c:gf H.length o o2):aG A 129 [.ptr o v 0] (PSt H ty o v o2 v2 T)=N1 (vi T.length,PSt H ty o v o2 v2 T,[]):=by refine h.call ?_;have hb:=tW (ty:=ty) (v:=v) (v2:=v2) (T:=T) c;have hl:=iZ (H:=H) (ty:=ty) (o:=o) (v:=v) (o2:=o2) (v2:=v2) (T:=T);simp only[iY];simp only[go_sem,↓aB,seval,hb]
def aN6{v:Nat}(c:gf H.length o o2)(hl:T.length+s.length<=100000000):∃Z w,vB (PSt H ty o v o2 v2 T) site 5 1 1 (.sr o2 v2 T.length) (.str s)=N1 (.sr o2 v2 (T++s).length,Z,w)/\Wr2 o o2 w/\Z.set o (.cw v ty [.ptr o v 0,.sr o2 v2 (T++s).length])=PSt H ty o v o2 v2 (T++s)/\Z[o]? = N1 (.cw v ty [.ptr o v 0,.sr o2 v2 T.length])/\Z.length=H.length:=by
 have h1:=aM4 (ty:=ty) (v:=v) (v2:=v2) (T:=T) c;have hr:bP (T.length+s.length) 1=true:=by unfold bP;simp;omega
 have tz:dF 1 (aJ s)=true:=aEk s;have ax:(aJ s).length=s.length:=kG s;cases s with
 |nil=>refine⟨PSt H ty o v o2 v2 T,[], ?_,kT,by rw[AJ];exact aKO c,tW c,iZ⟩;unfold vB;simp only[bIz,tz,BT,BX,Vt,h1,kG,ax,hr,and_self,Vu];simp[aJ]
 |cons a r=>have bl:(aJ (a::r)).isEmpty=false:=rfl;refine⟨(PSt H ty o v o2 v2 T).set o2 (.oz v2 5 1 (rb T++aJ (a::r))),[o2], ?_,λx hx=>by simp at hx;exact .inr hx,aM5 c (by rw[vX];rfl),by rw[CL (Ne.symm c.ne)];exact tW c,by rw[CP];exact iZ⟩;unfold vB;simp only[bIz,tz,BT,BX,Vt,h1,kG,ax,hr,and_self,Vu,bl,BA]
def vY(h:Has A 130 cO){tB tP:Nat}(hp:A.bq 136=N1 (fB tB tP)){v:Nat}(c:gf H.length o o2)(hl:T.length+s.length<=100000000):∃wr,aG A 130 [.ptr o v 0,.str s] (PSt H ty o v o2 v2 T)=N1 (.tup [vi s.length,.bj],PSt H ty o v o2 v2 (T++s),wr)/\Wr2 o o2 wr:=by
 have c1:=c.mono (m:=(H++[ah.gone 0]).length) siT;obtain⟨v1,H1,dc,h1,h2,h3,h4⟩:=h.bp (args:=[.ptr o v 0,.str s]) (H:=PSt H ty o v o2 v2 T) (K:=λv' H'' ba=>v'=.tup [vi s.length,.bj]/\H''=PSt H ty o v o2 v2 (T++s)/\Wr2 o o2 ba) (by
  have X7:aG A 136 [.ptr o v 0] (PSt (H++[.gone 0]) ty o v o2 v2 T)=N1 (.tup [],PSt (H++[.gone 0]) ty o v o2 v2 T,[]):=by refine dT ?_;rw[hp];show fB tB tP [.ptr o v 0] _=_;exact aBT (tW c1)
  have hb:=tW (ty:=ty) (v:=v) (v2:=v2) (T:=T) c1;have Qk:=iZ (H:=H) (ty:=ty) (o:=o) (v:=v) (o2:=o2) (v2:=v2) (T:=T);obtain⟨Z,w,e1,e2,e3,e4,e5⟩:=aN6 (site:=N1 H.length) (ty:=ty) (v:=v) (v2:=v2) (s:=s) c1 hl;simp only[cO];simp only[go_sem,↓aB,seval,Qk,aEl c,X7,hb,e1,e4];rw[BA]at e3;have hw:Wr2 o o2 (bE H.length (bE H.length [] w) [o]):=bZ (bZ kT e2) λx hx=>by simp at hx;exact .inl hx
  rw[e3,aM6 c rfl hw];exact⟨rfl,rfl,hw⟩)
 subst h2 h3;exact⟨dc,h1,h4⟩
def tX(h:Has A 83 gW){tB tP:Nat}(hp:A.bq 136=N1 (fB tB tP)){v:Nat}{b:UInt8}(c:gf H.length o o2)(hl:T.length+1<=100000000):∃wr,aG A 83 [.ptr o v 0,.int .u8 b.toNat] (PSt H ty o v o2 v2 T)=N1 (.bj,PSt H ty o v o2 v2 (T++[b]),wr)/\Wr2 o o2 wr:=by
 have c1:=c.mono (m:=(H++[ah.gone 0]).length) siT;obtain⟨v1,H1,dc,h1,h2,h3,h4⟩:=h.bp (args:=[.ptr o v 0,.int .u8 b.toNat]) (H:=PSt H ty o v o2 v2 T) (K:=λv' H'' ba=>v'=.bj/\H''=PSt H ty o v o2 v2 (T++[b])/\Wr2 o o2 ba) (by
  have X7:aG A 136 [.ptr o v 0] (PSt (H++[.gone 0]) ty o v o2 v2 T)=N1 (.tup [],PSt (H++[.gone 0]) ty o v o2 v2 T,[]):=by refine dT ?_;rw[hp];show fB tB tP [.ptr o v 0] _=_;exact aBT (tW c1)
  have hb:=tW (ty:=ty) (v:=v) (v2:=v2) (T:=T) c1;have Qk:=iZ (H:=H) (ty:=ty) (o:=o) (v:=v) (o2:=o2) (v2:=v2) (T:=T);obtain⟨Z,w,e1,e2,e3,e4,e5⟩:=aN6 (site:=N1 H.length) (ty:=ty) (v:=v) (v2:=v2) (s:=[b]) c1 hl;have e1:vB (PSt (H++[.gone 0]) ty o v o2 v2 T) (N1 H.length) 5 1 1 (.sr o2 v2 T.length) (.sl Pa [[.int .u8 b.toNat]])=N1 (.sr o2 v2 (T++[b]).length,Z,w):=e1;simp only[gW];simp only[go_sem,↓aB,seval,Qk,aEl c,X7,hb,e1,e4];rw[BA]at e3;have hw:Wr2 o o2 (bE H.length (bE H.length [] w) [o]):=bZ (bZ kT e2) λx hx=>by simp at hx;exact .inl hx
  simp only[AW,AZ,BC]at e3;rw[e3,aM6 c rfl hw];exact⟨rfl,rfl,hw⟩)
 subst h2 h3;exact⟨dc,h1,h4⟩
end
@[go_sem] def aZE{v f:Nat}:aDR base H (.ptr o v f)=N1 (.ptr o v f,H,[]):=(rfl)
@[go_sem] def aY3{v f:Nat}:AV.tn (.ptr o v f)=true:=(rfl)
@[go_sem] def aZF{t:Nat}:aDR base H (.ifc t x)=N1 (.ifc t x,H,[]):=(rfl)
@[go_sem] def aUY{v f:Nat}:cJ base (.ptr (base+i) v f,H,wr)=(.ptr (base+i) v f,H,wr):=by unfold cJ;dsimp only;rw[Vw];have:decide (base+i<base)=false:=siT;simp[AV.under,this]
@[go_sem] def aUZ{v f t:Nat}:cJ base (.ifc t (.ptr (base+i) v f),H,wr)=(.ifc t (.ptr (base+i) v f),H,wr):=by unfold cJ;dsimp only;rw[Vw];have:decide (base+i<base)=false:=siT;simp[AV.under,this]
def aBU:LA:=AX 257 .ar
def aPP:LA:=AX 256 (.int .u8 0)
def aEm(f:UInt8->Option Str)(i:Nat):AV:=match f (CN i)with
 |some l=>.sl Po (aJ l)
 |none=>.ar
def bsr(f:UInt8->Option Str)(x:AV):LA:=(GZ 256).map (aEm f)++[x]
def pH:(bsr f x).length=257:=by simp[bsr]
def aV0(h:i<256):(bsr f x)[i]? = N1 (aEm f i):=by simp_all [bsr,BM,BN,HQ]
def aN7{L:List α}(h:L[i]? = N1 a):(L.drop i).take 1=[a]:=by grind [getElem?_lt,AP,FD]
def aGE(c:UInt8):((bsr f x).drop c.toNat).take 1=[aEm f c.toNat]:=aN7 (aV0 (EC c))
def aJq:((bsr f x).drop 256).take 1=[x]:=aN7 (by unfold bsr;grind)
def aJr{L:LA}(h:i<L.length):L.take i++[v]++L.drop (i+1)=L.set i v:=by rw[List.set_eq_take_append_cons_drop,Vx h,CJ];rfl
def aV1(c:UInt8)(s:Str):(bsr f x).take c.toNat++[.sl Po (aJ s)]++(bsr f x).drop (c.toNat+1)=bsr (λd=>if d=c then N1 s else f d) x:=by
 have hc:=EC c;rw[aJr (by rw[pH];omega)];unfold bsr;rw[DX _ _ uWu];congr 1;apply HN;intro j;by_cases hj:j<256
 .by_cases e:c.toNat=j
  .subst e
   simp_all [BW,BN,HQ,aEm]
  rw[CL e,BN,BN,HQ hj];have:¬(CN j=c):=λh=>e (by rw[<- h];simp;omega);simp[aEm,this]
 grind
def aM7{y:AV}:(bsr f x).take 256++[y]++(bsr f x).drop 257=bsr f y:=by simp_all [aJr,pH,bsr,IP,siT]
def aIv:aBU.length=257:=MI
def aGF:aBU.drop 257=[]:=DH (by rw[aIv];grind)
def aS4:aBU.take 256++[x]=bsr (λ_=>N2) x:=by
 rw[show aBU.take 256++[x]=aBU.take 256++[x]++aBU.drop (256+1)by rw[aGF,AJ],aJr (by simp[aBU])];unfold bsr aBU;apply HN;intro j;by_cases hj:j<256
 .rw[CL omT,BM uWQ,BN,HQ hj,IN,Vx omT];rfl
 by_cases e:256=j
 all_goals grind
def aY4(hx:x.ak=Pa):(bsr f x).all AV.ak=true:=by
 rw[AO];intro a ha;unfold bsr at ha;rw[AY,List.mem_map]at ha;rcases ha with⟨i,_,rfl⟩ | ha
 .unfold aEm;split<;>rfl
 grind
def fP(ps:List (UInt8×Str)):List LA:=ps.flatMap λp=>[[.str [p.1]],[.str p.2]]
def gI:List (UInt8×Str)->UInt8->Option Str
 | [],_=>N2
 |p::r,c=>if c=p.1 then N1 p.2 else gI r c
def aGG:∀ps:List (UInt8×Str),(fP ps).length=2*ps.length
 | []=>rfl
 |p::r=>by
  have:=aGG r;unfold fP at this ⊢
  grind
def aGH:∀(ps:List (UInt8×Str)) j (h:j<ps.length),(fP ps)[2*j]? = N1 [.str [ps[j].1]]/\(fP ps)[2*j+1]? = N1 [.str ps[j].2]
 |p::r,0,h=>⟨rfl,rfl⟩
 |p::r,j+1,h=>by
  have:=aGH r j uWg;exact this
def aGI:∀{ps:List (UInt8×Str)}{c:UInt8},c∉ps.map EM->gI ps c=N2
 | [],_,_=>rfl
 |p::r,c,h=>by
  simp only[BI,BD,not_or]at h;unfold gI;rw[Vw h.1,aGI h.2]
def jA:=(.mk _:bb 131 bTx).x
abbrev tY:=bTw 268 (bJ6 75)
abbrev tZ:=bTw 268 (bIF 303 [])
abbrev uA:=bTw 268 (bIF 9567 [])
abbrev uB:=bTw 268 (bIF 19295 [])
abbrev uC:=bTw 268 (bIF 2431 [])
def bIW:bw:=⟨132,[94,11],[.tmp 2],qS [qmc 2 .bj]<|qS [qm 15 0,qq 16 (.cz (u 15)),qf 17 4 16,ql 18 1 17,qm 3 18]<|.seq (qS [qm 19 3,qn 20 19,qbi 21 .eql 20 2,qm 22 21,qT 23 22 (om 3),qT 24 22 (.iaV (u 23) (ui 0) 1),qT 25 22 (ol 1 24),qT 26 22 (.fg (u 25)),qT 27 22 (obi .gtr 26 1),qp 28 22 27]<|qC 28 (.seq (.region Pa tY)<|.ret) (.skip))<|qS [qmc 4 (.bool Pa)]<|.seq (qS [qmc 5 z0]<|.block 0 (.loop tZ))<|.seq (qS [qm 59 4]<|qC 59 (qS [qq 60 (.build aPP []),qq 6 (.alloc aPP),qs 256 6 60]<|.seq (qS [qmc 61 z0]<|.block 2 (.loop uA))<|.seq (qS [qm 69 3,qn 70 69,qbi 71 .sub 70 2,qm 8 71]<|.block 4 (.loop uB))<|qS [qq 90 (.km 428 (u 6)),qm 2 90]<|.ret) (.skip))<|qS [qm 91 3,qn 92 91,qbi 93 .quo 92 2,qq 94 (.mks 1 16 [(.str [])] (ui 0) (u 93)),qq 95 (.build aBU [(256,1,(.tmp 94))]),qq 11 (.alloc aBU),qs 257 11 95]<|.seq (qS [qm 96 3,qn 97 96,qbi 98 .sub 97 2,qm 12 98]<|.block 6 (.loop uC))<|qS [qq 131 (.km 432 (u 11)),qm 2 131]<|.ret⟩
def gJ:=(.mk _:bb 192 bTx).x
section
variable {A:af}
def zL(h:Has A 131 jA)(ps:List (UInt8×Str))(h0:ps≠[])(h1:ps.length<=1000)(H:LO):aG A 131 [.sl Po (fP ps)] H = N1 (.ptr (H.length+1) 1 0,H++[.vec 1 1 (fP ps),.box 1 [.int .u32 0,.int .i32 0,.int .u32 0,.bj,.sr H.length 1 (fP ps).length]],[]):=by
 refine h.call ?_;have hl:=aGG ps;obtain⟨p,r,rfl⟩:=ER h0;have bl:(fP (p::r)).isEmpty=false:=rfl;have tz:dF 1 (fP (p::r))=true:=rfl;have hr:bP (fP (p::r)).length 16=true:=by unfold bP;grind
 have zu:∀ek,kJ .rem ek (vi ((fP (p::r)).length:Nat)) (vi 2)=N1 (vi 0):=λek=>by
  rw[tS deT,hl]
  grind
 simp only[jA];simp only[go_sem,↓aB,seval,zu,eX,bl,tz,hr]
def aOe(h:Has A 268 bIW)(ps:List (UInt8×Str))(h0:2<=ps.length)(h1:ps.length<=1000)(hd:(ps.map EM).Nodup)(hp:∀p∈ps,p.2.length≠1/\p.2.length<=1000){v o1 v1:Nat}{a b c d:AV}(ho:H[o]? = N1 (.box v [a,b,c,d,.sr o1 v1 (fP ps).length]))(zw:H[o1]? = N1 (.vec v1 1 (fP ps))):aG A 268 [.ptr o v 0] H=N1 (.ifc 432 (.ptr (H.length+1) 1 0),H++[.vec 1 1 (ps.reverse.map λp=>[.str [p.1]]),.box 1 (bsr (gI ps) (.sr H.length 1 ps.length))],[]):=by
 refine h.call ?_;have gr:=getElem?_lt ho;have hlo1:=getElem?_lt zw;have go:∀L,(H++L)[o]? = N1 (.box v [a,b,c,d,.sr o1 v1 (fP ps).length]):=λL=>by rw[BM gr];exact ho
 have go1:∀L,(H++L)[o1]? = N1 (.vec v1 1 (fP ps)):=λL=>by rw[BM hlo1];exact zw
 have hl:=aGG ps;have hne2:(((fP ps).length:Int)==2)=false:=by rw[hl];simp;omega
 simp only[bIW];simp only[go_sem,↓aB,seval,go,hne2,Aa];refine bJ (id:=0) (λi ρ1 H1 wr=>wr=[]/\H1=H++[.gone 0,.gone 0]/\ρ1 5=vi ((2*i:Nat):Int)/\ρ1 4=.bool (i==0)) ps.length
  (λρ1 H1 wr=>wr=[]/\H1=H++[.gone 0,.gone 0]/\ρ1 4=.bool Po)
  bIv rfl ⟨rfl,rfl,rfl,rfl⟩ ?_ ?_
 .rintro i ρ1 H1 dc mg ⟨rfl,rfl,e5,e4⟩ hf;have e3:ρ1 3=.sr o1 v1 (fP ps).length:=hf 3 rfl;simp only[go_sem,↓aB,seval,e5,e3];refine aD (λhb=>?_) (λhb=>?_)
  .have hlt:i<ps.length:=by simp at hb;omega
   obtain⟨Q6,hg1⟩:=aGH ps i hlt;obtain⟨q1,q2⟩:=hp _ (AS hlt);have gq:(0:Int)<=((2*i:Nat):Int):=omT;have cr:((2*i:Nat):Int)<(((fP ps).length:Nat):Int):=by rw[hl];omega
   have kx:(((2*i:Nat):Int)).toNat=2*i:=omT;have dy:AR.wrap (((2*i:Nat):Int)+1)=((2*i+1:Nat):Int):=by rw[wrap_i64 omT omT];omega
   have lx:(0:Int)<=((2*i+1:Nat):Int):=omT;have Ql:((2*i+1:Nat):Int)<(((fP ps).length:Nat):Int):=by rw[hl];omega
   have zt:(((2*i+1:Nat):Int)).toNat=2*i+1:=omT;have gn:AR.wrap (((2*i:Nat):Int)+2)=((2*(i+1):Nat):Int):=by rw[wrap_i64 omT omT];omega
   have hne1:((((ps[i].2).length:Nat):Int) != 1)=true:=soT;simp only[go_sem,↓aB,seval,e5,e3,gq,cr,kx,dy,lx,Ql,zt,go1,Q6,hg1,hne1,gn];exact hlt
  have hi:i=ps.length:=by simp at hb;omega
  subst hi;simp only[go_sem,seval];rw[e4,show (ps.length==0)=Po from by rw[beq_eq_false_iff_ne];omega]
 rintro ρ' H' ba ⟨rfl,rfl,e4⟩ hf;have e3:ρ' 3=.sr o1 v1 (fP ps).length:=hf 3 rfl;have hq:∀ek,kJ .quo ek (.int .i64 (((fP ps).length:Nat):Int)) (vi 2)=N1 (vi (ps.length:Nat)):=λek=>by
  rw[aAl deT,hl];have:(((2*ps.length:Nat):Int)).tdiv 2=(ps.length:Int):=by rw[Int.natCast_mul];exact Int.mul_tdiv_cancel_left _ deT
  rw[this,wrap_i64 omT omT]
 have hm0:¬((0:Int)=(ps.length:Int)):=omT;have V9:(0:Int)<(ps.length:Int):=omT;have hrm:bP ps.length 16=true:=by unfold bP;simp;omega
 have gn:AR.wrap ((((fP ps).length:Nat):Int) - 2)=2*((ps.length:Int) - 1 - (0:Nat)):=by rw[hl,wrap_i64 omT omT];omega
 simp only[go_sem,↓aB,seval,e4,e3,hq,hm0,V9,hrm,pH,aS4,aIv,aGF,aY4,gn];refine bJ (id:=6) (λi ρ1 H1 wr=>wr=[]/\ρ1 12=vi (2*((ps.length:Int) - 1 - (i:Nat)))/\H1=H++[.vec 1 1 ((ps.drop (ps.length - i)).reverse.map λp=>[.str [p.1]]),.box 1 (bsr (gI (ps.drop (ps.length - i))) (.sr H.length 1 i))]) ps.length
  (λρ1 H1 wr=>wr=[]/\H1=H++[.vec 1 1 (ps.reverse.map λp=>[.str [p.1]]),.box 1 (bsr (gI ps) (.sr H.length 1 ps.length))])
  bIv rfl ⟨rfl,rfl,by rw[Nat.sub_zero,DH (AQ _)];rfl⟩ ?_ ?_
 .rintro i ρ1 H1 dc mg ⟨rfl,e12,rfl⟩ cq;have f3:ρ1 3=.sr o1 v1 (fP ps).length:=(cq 3 rfl).trans e3;have f11:ρ1 11=.ptr (H.length+1) 1 0:=cq 11 rfl;simp only[go_sem,↓aB,seval,e12];refine aD (λhb=>?_) (λhb=>?_)
  .obtain⟨k,hk⟩:∃k,ps.length=i+1+k:=⟨ps.length - 1 - i,by simp at hb;omega⟩;have hlt:k<ps.length:=omT;have ek:2*((ps.length:Int) - 1 - (i:Nat))=((2*k:Nat):Int):=omT;rw[ek]at e12;rw[show ps.length - i=k+1 by omega];obtain⟨Q6,hg1⟩:=aGH ps k hlt;obtain⟨q1,q2⟩:=hp _ (AS hlt);have gq:(0:Int)<=((2*k:Nat):Int):=omT;have cr:((2*k:Nat):Int)<(((fP ps).length:Nat):Int):=by rw[hl];omega
   have kx:(((2*k:Nat):Int)).toNat=2*k:=omT;have dy:AR.wrap (((2*k:Nat):Int)+1)=((2*k+1:Nat):Int):=by rw[wrap_i64 omT omT];omega
   have lx:(0:Int)<=((2*k+1:Nat):Int):=omT;have Ql:((2*k+1:Nat):Int)<(((fP ps).length:Nat):Int):=by rw[hl];omega
   have zt:(((2*k+1:Nat):Int)).toNat=2*k+1:=omT;have pr:AR.wrap (((2*k:Nat):Int) - 2)=2*((ps.length:Int) - 1 - ((i+1:Nat):Int)):=by rw[wrap_i64 omT omT];omega
   have hdk:ps.drop k=ps[k]::ps.drop (k+1):=FD hlt;generalize hpk:ps[k]=p at *;obtain⟨c,s⟩:=p;have hcn:c∉(ps.drop (k+1)).map EM:=by
    have h1:((ps.drop k).map EM).Nodup:=by rw[List.map_drop];exact hd.sublist (List.drop_sublist _ _)
    rw[hdk,BI,IV]at h1;exact h1.1
   have bc:aEm (gI (ps.drop (k+1))) c.toNat=.ar:=by unfold aEm;rw[show CN c.toNat=c by simp,aGI hcn]
   have jg:(0:Int)<=((c.toNat:Nat):Int):=omT;have mj:((c.toNat:Nat):Int)<256:=by have:=EC c;omega
   have D2:(((c.toNat:Nat):Int)).toNat=c.toNat:=omT;have nc:c.toNat+1<=257:=by have:=EC c;omega
   have ax:((ps.drop (k+1)).reverse.map λp=>[AV.str [p.1]]).length=i:=soT;have hrm:bP (i+1) 16=true:=by unfold bP;simp;omega
   have hby:∀H:LO,pT H .b2s (.sl Pa [[.int .u8 ((c.toNat:Nat):Int)]])=N1 (.str [c]):=λH=>by
    simp[pT,dO,cM]
   have nu:s.length<=1099511627776:=by have:s.length<=1000:=q2;omega
   simp only[go_sem,↓aB,seval,e12,f3,f11,go1,gq,cr,kx,dy,lx,Ql,zt,Q6,hg1,jg,mj,D2,nc,FK,pH,aGE,aJq,bc,hby,eX,ax,hrm,aM7,aV1,nu,pr];refine⟨omT, ?_⟩;rw[show ps.length - (i+1)=k by omega,hdk,NN,DQ];rfl
  have hi:i=ps.length:=by simp at hb;omega
  subst hi;simp only[go_sem,seval];rw[GD,List.drop_zero]
 rintro ρ2 H2 en ⟨rfl,rfl⟩ cq;have f11:ρ2 11=.ptr (H.length+1) 1 0:=cq 11 rfl;simp only[go_sem,↓aB,seval,f11]
def mY{x:ah}(h1:H[o]? = N1 x)(h2:x.under base=Po):cJ base (v,H,[o])=(v,H,[o]):=by
 unfold cJ
 grind
def aEn{a b c d:AV}:dJ n [a,b,c,.ifc 432 (.ptr (n+k) 1 0),d]=false:=by have:decide (n+k<n)=false:=siT;simp[dJ,AV.under,this]
def aHH(h:Has A 192 gJ)(hb:Has A 268 bIW)(ps:List (UInt8×Str))(h0:2<=ps.length)(h1:ps.length<=1000)(hd:(ps.map EM).Nodup)(hp:∀p∈ps,p.2.length≠1/\p.2.length<=1000){v o1 v1:Nat}{a b c d:AV}(ho:H[o]? = N1 (.box v [a,b,c,d,.sr o1 v1 (fP ps).length]))(zw:H[o1]? = N1 (.vec v1 1 (fP ps))):aG A 192 [.ptr o v 0] H=N1 (.tup [],H.set o (.box v [a,b,c,.ifc 432 (.ptr (H.length+1) 1 0),.sl Pa []])++[.vec 1 1 (ps.reverse.map λp=>[.str [p.1]]),.box 1 (bsr (gI ps) (.sr H.length 1 ps.length))],[o]):=by
 refine h.call ?_;have gr:=getElem?_lt ho;have go:∀L,(H++L)[o]? = N1 (.box v [a,b,c,d,.sr o1 v1 (fP ps).length]):=λL=>by rw[BM gr];exact ho
 have go2:∀L x,((H++L).set o x)[o]? = N1 x:=λL x=>BW soT;have ss:=aOe hb ps h0 h1 hd hp ho zw;simp only[gJ];simp only[go_sem,↓aB,seval,ss,go,go2];rw[nJ gr,vN,mY (go2 _ _) (by rw[aBg];exact aEn),DX _ _ gr];exact⟨rfl,rfl,rfl⟩
end
section
variable {A:af}
def aPQ(h:Has A 267 nI){F:Nat}{v:Nat}{d e d' e':AV}(ho:H[o]? = N1 (.box v [.int .u32 0,.int .i32 0,.int .u32 0,d,e]))(hc:aG A F [.ptr o v 0] (H.set o (.box v [.int .u32 0,.int .i32 1,.int .u32 0,d,e]))=N1 (.tup [],H',[o]))(z7:H'[o]? = N1 (.box v [.int .u32 0,.int .i32 1,.int .u32 0,d',e']))(hu:dJ H.length [d',e']=Po)(ax:H.length<=H'.length):aG A 267 [.ptr o v 0,.fn F [.ptr o v 0] []] H=N1 (.tup [],H'.set o (.box v [.int .u32 1,.int .i32 0,.int .u32 0,d',e']),[o]):=by
 have gr:=getElem?_lt ho;have hlo':=getElem?_lt z7;refine h.call ?_;simp only[nI,aRp,aWZ,aX0,aTS];have g1:∀x,(H.set o x)[o]? = N1 x:=λx=>BW gr;have g2:∀x,(H'.set o x)[o]? = N1 x:=λx=>BW hlo';simp only[go_sem,↓aB,seval,ho,hc,z7,g2,nJ gr];have Rz:ah.under H.length (.box v [.int .u32 1,.int .i32 0,.int .u32 0,d',e'])=false:=by rw[aBg];simpa only[aLO,aPu,BR,aNX]using hu
 rw[mY (g2 _) Rz];exact⟨rfl,rfl,rfl⟩
def aAt:=(.mk _:bb 191 bTx).x
def iH:bw:=⟨17,[],[.tmp 4],qS [qmc 4 (.str [])]<|qS [qm 5 0,qq 6 (.cz (u 5)),qf 7 0 6,qm 8 0,qq 9 (.mkf 192 [(.tmp 8)] []),qc 10 191 [u 7,u 9]]<|qS [qm 11 0,qq 12 (.cz (u 11)),qf 13 3 12,ql 14 1 13,qm 15 1,qq 16 (.Rd [(224,132),(422,413),(424,416),(428,420),(432,422)] (u 14) [(.tmp 15)]),qm 4 16]<|.ret⟩
structure mh(A:af):Prop where
 build:Has A 268 bIW
 zx:Has A 192 gJ
 slow:Has A 267 nI
 load:A.bq 266=N1 aAi
 once:Has A 191 aAt
 repl:Has A 132 iH
def aIw(v o1 v1 n:Nat):ah:=.box v [.int .u32 0,.int .i32 0,.int .u32 0,.bj,.sr o1 v1 n]
def qZ(v b:Nat):ah:=.box v [.int .u32 1,.int .i32 0,.int .u32 0,.ifc 432 (.ptr b 1 0),.sl Pa []]
def uD(ps:List (UInt8×Str))(k:Nat):LO:=[.vec 1 1 (ps.reverse.map λp=>[.str [p.1]]),.box 1 (bsr (gI ps) (.sr k 1 ps.length))]
def aKP(F:mh A){v:Nat}{n:Int}(ho:H[o]? = N1 (.box v (.int .u32 n::r))):aG A 266 [.ptr o v 0] H=N1 (.bool (n != 0),H,[]):=by
 refine dT ?_;rw[F.load];simp only[Option.bind_some,aAi];have:bC H 1 (.ptr o v 0)=N1 [.int .u32 n]:=by unfold bC;simp[ho]
 rw[this]
def aOf(F:mh A){v b:Nat}{f:AV}(ho:H[o]? = N1 (qZ v b)):aG A 191 [.ptr o v 0,f] H=N1 (.tup [],H,[]):=by refine F.once.call ?_;have hl:=aKP F ho;rw[show ((1:Int) != 0)=Pa from rfl]at hl;simp only[aAt];simp only[go_sem,↓aB,seval,hl]
def aOg(F:mh A)(ps:List (UInt8×Str))(h0:2<=ps.length)(h1:ps.length<=1000)(hd:(ps.map EM).Nodup)(hp:∀p∈ps,p.2.length≠1/\p.2.length<=1000){v o1 v1:Nat}(ho:H[o]? = N1 (aIw v o1 v1 (fP ps).length))(zw:H[o1]? = N1 (.vec v1 1 (fP ps))):aG A 191 [.ptr o v 0,.fn 192 [.ptr o v 0] []] H=N1 (.tup [],H.set o (qZ v (H.length+1))++uD ps H.length,[o]):=by
 have gr:=getElem?_lt ho;have bl:o≠o1:=λe=>by subst e;rw[ho]at zw;cases zw
 refine F.once.call ?_;have hl:=aKP F ho;rw[show ((0:Int) != 0)=Po from rfl]at hl;have g1:∀x,(H.set o x)[o]? = N1 x:=λx=>BW gr;have hb:=aHH F.zx F.build ps h0 h1 hd hp (a:=.int .u32 0) (b:=.int .i32 1) (c:=.int .u32 0) (d:=.bj) (v:=v) (o:=o) (g1 _) (by rw[CL bl];exact zw);have hs:=aPQ F.slow ho hb (by rw[BM uWC,EO,g1]) (by
  have:decide (H.length+1<H.length)=false:=siT;simp[dJ,AV.under,this]) siT
 rw[DX _ _ uWC,EO,EO,CP]at hs;simp only[aAt];simp only[go_sem,↓aB,seval,hl,hs];rw[nJ gr,vN,mY (x:=qZ v (H.length+1)) (by rw[BM uWC,g1];rfl) (by unfold qZ;rw[aBg];exact aEn)];exact⟨rfl,rfl,rfl⟩
def nS(f:UInt8->Option Str)(s:Str):Str:=s.flatMap λc=>match f c with
 |some t=>t
 |none=>[c]
def aM8(A:af)(n:Nat)(ps:List (UInt8×Str)):Prop:=∀(H:LO)(b k:Nat)(s:Str),H[b]? = N1 (.box 1 (bsr (gI ps) (.sr k 1 ps.length)))->H[k]? = N1 (.vec 1 1 (ps.reverse.map λp=>[.str [p.1]]))->s.length<=1000 ->
 aG A n [.ptr b 1 0,.str s] H=N1 (.str (nS (gI ps) s),H,[])
def aY5:List.lookup (432:Nat) [((224:Nat),(132:Nat)),(422,413),(424,416),(428,420),(432,422)]=N1 422:=rfl
def aJs(F:mh A)(hB:aM8 A 422 ps){v b:Nat}(hs:s.length<=1000)(ho:H[o]? = N1 (qZ v b))(hb:H[b]? = N1 (.box 1 (bsr (gI ps) (.sr k 1 ps.length))))(hk:H[k]? = N1 (.vec 1 1 (ps.reverse.map λp=>[.str [p.1]]))):aG A 132 [.ptr o v 0,.str s] H=N1 (.str (nS (gI ps) s),H,[]):=by refine F.repl.call ?_;have h1:∀f,aG A 191 [.ptr o v 0,f] H=N1 (.tup [],H,[]):=λf=>aOf F ho;have h2:=hB H b k s hb hk hs;unfold qZ at ho;simp only[iH];simp only[go_sem,↓aB,seval,h1,h2,ho,aY5]
def aDd(F:mh A)(hB:aM8 A 422 ps)(h0:2<=ps.length)(h1:ps.length<=1000)(hd:(ps.map EM).Nodup)(hp:∀p∈ps,p.2.length≠1/\p.2.length<=1000){v o1 v1:Nat}(hs:s.length<=1000)(ho:H[o]? = N1 (aIw v o1 v1 (fP ps).length))(zw:H[o1]? = N1 (.vec v1 1 (fP ps))):aG A 132 [.ptr o v 0,.str s] H=N1 (.str (nS (gI ps) s),H.set o (qZ v (H.length+1))++uD ps H.length,[o]):=by
 have gr:=getElem?_lt ho;refine F.repl.call ?_;have hO:=aOg F ps h0 h1 hd hp ho zw;have g1:(H.set o (qZ v (H.length+1))++uD ps H.length)[o]? = N1 (qZ v (H.length+1)):=by rw[BM uWC];exact BW gr
 have g2:(H.set o (qZ v (H.length+1))++uD ps H.length)[H.length+1]? = N1 (.box 1 (bsr (gI ps) (.sr H.length 1 ps.length))):=by rw[BU siT,CP];simp[uD]
 have g3:(H.set o (qZ v (H.length+1))++uD ps H.length)[H.length]? = N1 (.vec 1 1 (ps.reverse.map λp=>[.str [p.1]])):=by rw[BU siT,CP];simp[uD]
 have h2:=hB _ _ _ s g2 g3 hs;generalize hH':(H.set o (qZ v (H.length+1))++uD ps H.length)=H' at *;have g1':H'[o]? = N1 (.box v [.int .u32 1,.int .i32 0,.int .u32 0,.ifc 432 (.ptr (H.length+1) 1 0),.sl Pa []]):=g1;simp only[iH];simp only[go_sem,↓aB,seval,hO,h2,g1',aY5];rw[nJ gr,vN,mY g1 (by unfold qZ;rw[aBg];exact aEn)];exact⟨rfl,rfl,rfl⟩
end
def xX{x1 x2 bML:ag}{t1 t2 t3 tg}(P:bN->LO->LN->Prop)(hW:xJ x1++xJ x2=W)(h1:b=Pa->wc A N c x1 ρ H wr (aZy P ⟨⟩) ⟨⟩)(h2:b=Po->wc A N c x2 ρ H wr (aZy P ⟨⟩) ⟨⟩)(hr:∀ρ' H' ba,P ρ' H' ba->(∀t,W.contains t=Po->ρ' t=ρ t)->wc A N c bML ρ' H' ba Q ⟨⟩):zF b (wc A N c x1 ρ H wr (aNW A N c bML Q t1) t2) (wc A N c x2 ρ H wr (aNW A N c bML Q t1) t3) tg:=by
 have sub:∀(V:LN)(ρ':bN),(∀t∈V,t∈W)->(∀t,V.contains t=Po->ρ' t=ρ t)->∀t,W.contains t=Po->ρ' t=ρ t:=λV ρ' hs h t ht=>h t (by
  rw[<- GB,EH]at ht ⊢;exact λhm=>ht (hs t hm))
 refine aD (λhb=>?_) (λhb=>?_)
 .exact aPw (W:=xJ x1) P rfl (h1 hb) λρ' H' ba hP hf=>hr ρ' H' ba hP (sub _ ρ' (λt ht=>by rw[<- hW];exact CZ _ ht) hf)
 exact aPw (W:=xJ x2) P rfl (h2 hb) λρ' H' ba hP hf=>hr ρ' H' ba hP (sub _ ρ' (λt ht=>by rw[<- hW];exact CX _ ht) hf)
theorem aDe:∀(e:Expr)(r:Bool),aBN r e=Pa->Rt r e
 |.mk op n ks,r,h=>by
  unfold aBN at h;simp only[AI,KB,MO,decide_eq_false_iff_not,bne_eq_false_iff_eq,Bool.and_eq_false_iff,beq_eq_false_iff_ne]at h;obtain⟨⟨h1,h2⟩,⟨⟨⟨h3,h4⟩,h5⟩,h6⟩,h7⟩:=h;have h3:ks.length=aCn op:=omT;have:op=0∨op=1∨op=2∨op=3∨op=4∨op=5∨op=6∨op=7∨op=8∨op=9∨op=10:=omT;have two:aCn op=2->(op=9∨op=10->r=Pa)->(op≠9/\op≠10->3<=op/\op<=7)->aAq op=0->Rt r (.mk op n ks):=λhk hr ho hm=>by
   rw[hk]at h3
   match ks,h3 with
   | [a,b],_=>
    simp only[aEZ,AI]at h7;have ra:=aDe a Po h7.1;have rb:=aDe b Po h7.2.1;have hn:n=0:=omT;subst hn;by_cases hc:op=9∨op=10
    .have:=hr hc;subst this;exact .cmp op a b hc ra rb
    have:=ho ⟨λh=>hc (.inl h),λh=>hc (.inr h)⟩;exact .bin r op a b this.1 this.2 ra rb
  have one:aCn op=1->(op=2∨op=8)->aAq op=0->Rt r (.mk op n ks):=λhk ho hm=>by
   rw[hk]at h3
   match ks,h3 with
   | [a],_=>simp only[aEZ,AI]at h7;have ra:=aDe a Po h7.1;have hn:n=0:=omT;subst hn;exact .un r op a ho ra
  have nil:aCn op=0->ks=[]:=λhk=>by grind
  have root:((lev op:Nat):Int)=0->r=true:=λhl=>by
   grind
  rcases this with rfl|rfl|rfl|rfl|rfl|rfl|rfl|rfl|rfl|rfl|rfl
  .rw[nil rfl];exact .num r n omT (by have:aAq 0=999999:=rfl;omega)
  .rw[nil rfl];exact .var r n omT (by have:aAq 1=25:=rfl;omega)
  .exact one rfl (.inl rfl) rfl
  .exact two rfl omT omT rfl
  .exact two rfl omT omT rfl
  .exact two rfl omT omT rfl
  .exact two rfl omT omT rfl
  .exact two rfl omT omT rfl
  .exact one rfl (.inr rfl) rfl
  .exact two rfl (λ_=>root rfl) omT rfl
  exact two rfl (λ_=>root rfl) omT rfl
def uE{e:Expr}:(par e L s).length<=s.length+2:=by unfold par;split<;>simp
def aIx:∀{e:Expr}{r:Bool},Rt r e->(wX e).length<=10*gY e
 |_,_,.num _ n h0 h9=>by
  have h1:wX (.mk 0 n [])=dec n.toNat:=by unfold wX;rfl
  have h2:=aGn 5 n.toNat omT;rw[h1];simp only[gY,cP];omega
 |_,_,.var _ n h0 h1=>by
  grind [wX,CN,gY,cP,AW,AZ]
 |_,_,.un _ op a ho ha=>by
  have ih:=aIx ha;have h3:=uE (e:=a) (L:=3) (s:=wX a);have h1:=uE (e:=a) (L:=1) (s:=wX a)
  grind [aPO,gY,cP,AW,BA,AZ]
 |_,_,.bin _ op a b h1 h2 ha hb=>by
  have ia:=aIx ha;have ib:=aIx hb;have k1:=uE (e:=a) (L:=4) (s:=wX a);have k2:=uE (e:=a) (L:=max 1 (lev op)) (s:=wX a);have k3:=uE (e:=b) (L:=3) (s:=wX b);have k4:=uE (e:=b) (L:=lev op+1) (s:=wX b)
  grind [aN5,gY,cP,AW,BA]
 |_,_,.cmp op a b ho ha hb=>by
  have ia:=aIx ha;have ib:=aIx hb;have k1:=uE (e:=a) (L:=4) (s:=wX a);have k2:=uE (e:=a) (L:=max 1 (lev op)) (s:=wX a);have k3:=uE (e:=b) (L:=3) (s:=wX b);have k4:=uE (e:=b) (L:=lev op+1) (s:=wX b)
  grind [aN5,gY,cP,AW,BA]
section
variable {A:af}
def aPR(h:Has A 276 dN){n:Int}{ks:List Expr}(o0:0<=op)(o1:op<11)(h0:fY A 276 [.agg (aF (.mk op n ks)),vi 0] (wX (.mk op n ks)))(hL:lev op<L):fY A 276 [.agg (aF (.mk op n ks)),vi L] (40::(wX (.mk op n ks)++[41])):=by
 intro H t v hb ht;obtain⟨v1,H1,dc,h1,h2⟩:=h.bp (args:=[v,.agg (aF (.mk op n ks)),vi L]) (H:=H) (K:=λv' H'' ba=>N1 (v',H'',ba)=oX H t (40::(wX (.mk op n ks)++[41])) v) (by
  have pq:decide (lev op<L)=true:=by simpa using hL
  have hl:t.length+(2+(wX (.mk op n ks)).length)<=1000000:=uWa
  obtain⟨o,ver,jk,db⟩:=hb.app (L:=ry op) (i:=1) omT uWa [40] siT siT;have db:eX (H++ry op) (N1 (H.length+1)) 1 1 v (.sl Pa [[.int .u8 40]])=_:=db Pa;have az:aG A 276 [.sr o ver (t++[40]).length,.agg (aF (.mk op n ks)),vi 0] _=_:=aGC (t:=t++[40]) (ver:=ver) jk.lt soT h0;have ll:∀site,eX _ site 1 1 _ (.sl Pa [[.int .u8 41]])=_:=λsite=>aN4 (Z:=H++ry op) (ver:=ver) (t:=t++[40]++wX (.mk op n ks)) (new:=[41]) (f:=Pa) (site:=site) jk.lt siT soT;simp only[BA,AW,AZ,BC,aF,aZ]at db az ll;have hd:=jk.done (L':=ry op) rfl (40::(wX (.mk op n ks)++[41]));rw[show t++40::(wX (.mk op n ks)++[41])=t++[40]++wX (.mk op n ks)++[41] by simp,show t.length+(40::(wX (.mk op n ks)++[41])).length=t.length+1+(wX (.mk op n ks)).length+1 by simp;omega]at hd;simp only[dN];simp only[go_sem,↓aB,seval,aF,aZ,o0,o1,(hD o0 o1).1,(hD o0 o1).2,kQ,oF,kS,pq];refine aY (aq:=aBO) rfT rfT ?_;simp only[go_sem,↓aB,seval,aBO,eH,dG,aL,db,az,ll];exact hd)
 rw[h1,h2]
abbrev aBk(A:af):Prop:=∀n:Int,0<=n->n<=999999->fY A 317 [vi n,vi 10] (dec n.toNat)
def aS5(h:Has A 276 dN)(hi:aBk A):∀{e:Expr}{r:Bool},Rt r e->∀L:Nat,L<=4->fY A 276 [.agg (aF e),vi L] (par e L (wX e)):=by
 have fin:∀{op n:Int}{ks:List Expr},0<=op->op<11->(∀L:Nat,L<=lev op->fY A 276 [.agg (aF (.mk op n ks)),vi L] (wX (.mk op n ks))) ->
   ∀L:Nat,L<=4->fY A 276 [.agg (aF (.mk op n ks)),vi L] (par (.mk op n ks) L (wX (.mk op n ks))):=λ{op n ks} o0 o1 hh L hL=>by
  by_cases hl:lev op<L
  .rw[aY2 (e:=.mk op n ks) hl];exact aPR h o0 o1 (hh 0 (FF _)) hl
  rw[aT8 (e:=.mk op n ks) (Nat.le_of_not_lt hl)]
  grind
 intro e r hr
 induction hr with
 |num _ n h0 h9=>exact fin deT deT λL hL=>aUS h hi h0 h9 rfl hL
 |var _ n h0 h1=>exact fin deT deT λL hL=>aUT h h0 h1 rfl hL
 |un _ op a ho ha ih=>
  rcases ho with rfl|rfl
  .exact fin deT deT λL hL=>aUU h ih rfl hL
  exact fin deT deT λL hL=>aS1 h ih rfl hL
 |bin _ op a b h1 h2 ha hb ia ib=>
  refine fin omT omT λL hL=>?_;rcases aUM h1 h2 with h3|h3|h3|h3|h3
  .exact aGD h omT ia ib hL
  .exact aGD h omT ia ib hL
  all_goals simp_all [aGD,omT,aUV]
 |cmp op a b ho ha hb ia ib=>exact fin omT omT λL hL=>aGD h omT ia ib hL
def aBV(e:Expr):Int:=if decide ((gY e:Int)>256) || decide ((aBM e:Int)>16)then 4 else if aBN Pa e then 0 else 1
structure lu(A:af):Prop where
 valid:Has A 138 aDc
 size:Has A 194 aAs
 depth:Has A 195 xW
 right:Has A 196 xV
 right1:Has A 270 qY
 con:∃fi,(A.fn 269=N1 (aLV fi)/\A.bq 269=N2)/\(A.fn fi=N1 (aKx 3 Pa)/\A.bq fi=N2)
 put:Has A 276 dN
 text:Has A 213 aF0
def aCp(h:lu A)(e:Expr)(he:e.Ok)(hs:gY e<=1000)(H:LO):aG A 138 [.agg (aF e)] H=N1 (vi (aBV e),H,[]):=by
 refine h.valid.call ?_;have h1:=λH=>aPM h.size _ e H (HR _) hs;have h2:=λH=>aOb h.depth _ e H (HR _) hs;obtain⟨fi,c1,c2⟩:=h.con;have h3:=λH=>aOc h.right h.right1 c1 c2 _ e Pa H (HR _) he;simp only[aDc,zK];unfold aBV;cases e1:decide ((gY e:Int)>256)with
 |true=>simp only[go_sem,↓aB,seval,dP,dX.take,dX.still,dX.ga,aS (aV e),h1,e1,CE]
 |false=>cases e2:decide ((aBM e:Int)>16)with
  |true=>simp only[go_sem,↓aB,seval,dP,dX.take,dX.still,dX.ga,aS (aV e),h1,h2,e1,e2]
  |false=>cases e3:aBN Pa e with
   |true=>simp only[go_sem,↓aB,seval,dP,dX.take,dX.still,dX.ga,aS (aV e),h1,h2,h3,e1,e2,e3,IJ]
   |false=>simp only[go_sem,↓aB,seval,dP,dX.take,dX.still,dX.ga,aS (aV e),h1,h2,h3,e1,e2,e3,IJ]
def aKQ{e:Expr}(h:aBV e=0):Rt Pa e:=by grind [aBV,aDe]
def oO:∀s:Str,cM (rb s)=N1 s
 | []=>rfl
 |c::r=>by
  show (cM (rb r)).map (CN ((c.toNat:Int).toNat) :: ·)=_;rw[oO r];simp
def aJt(h:lu A)(hi:aBk A)(e:Expr)(he:e.Ok)(hs:gY e<=1000)(hv:aBV e=0)(H:LO):aG A 213 [.agg (aF e)] H=N1 (.str (wX e),H,[]):=by refine h.text.call ?_;have h1:=aCp h e he hs;rw[hv]at h1;have hr:=aKQ hv;have hl:=aIx hr;have h2:=aS5 h.put hi hr 0 deT;rw[aT8 (FF _)]at h2;have h3:∀H,aG A 276 [.sl Pa [],.agg (aF e),vi 0] H=N1 (.own 1 (rb (wX e)),H,[]):=λH=>h2 H [] (.sl Pa []) .nil soT;simp only[aF0];simp only[go_sem,↓aB,seval,dP,dX.take,dX.still,dX.ga,aS (aV e),h1,h3,pT,oO]
end
section
variable {call:Nat->LA->LO->Out}{c:Ctx}{aq:LN}{n0:Nat}{ρ:bN}{H:LO}{wr:LN}{L:bN->LO->LN->Log->Prop}{p:LN}{r:List ae}
@[go_sem] def bC3{k:Nat}{x v:aa}{d:Option Nat}{t:Tg (call,c,aq,⟨d,.cpy k x v,N2,p⟩::r,L)}:wd call c aq n0 (⟨d,.cpy k x v,N2,p⟩::r) ρ H wr L t=bnd (oB call (c.site d) ρ H (.cpy k x v)) λt=>aU0 (aq.contains n0) (wd call c aq (n0+1) r (zX ρ d t.1) t.2.1 (bE c.base wr (t.2.2.2.getD [])) (aVK n0 t.2.2.1 t.2.2.2 L ⟨⟩) ⟨⟩) (wd call c aq (n0+1) r (zX ρ d t.1) t.2.1 (bE c.base wr (t.2.2.2.getD [])) L ⟨⟩) ⟨⟩:=aRs
@[go_sem] def aY6{x v:aa}{s:Option Nat}:oB call s ρ H (.cpy k x v)=oD H (aD0 call H ρ s (.cpy k x v)):=(rfl)
end
def aS6:nS f []=[]:=rfl
def xY(a b:Str):nS f (a++b)=nS f a++nS f b:=List.flatMap_append
def aFD{c:UInt8}(h:f c=N1 t):nS f [c]=t:=by simp[nS,h]
def aEo{c:UInt8}(h:f c=N2):nS f [c]=[c]:=by simp[nS,h]
def aAu(c:UInt8)(s:Str):nS f (c::s)=nS f [c]++nS f s:=xY [c] s
def aGJ{f:UInt8->Option Str}:∀{s:Str},(∀c∈s,f c=N2)->nS f s=s
 | [],_=>rfl
 |c::s,h=>by rw[aAu,aEo (h c siT),aGJ λd hd=>h d (by simp[hd])];rfl
def aDf{f:UInt8->Option Str}{M:Nat}(h:∀c t,f c=N1 t->t.length<=M)(hM:1<=M):∀s:Str,(nS f s).length<=M*s.length
 | []=>by simp[nS]
 |c::s=>by
  rw[aAu,BA,AW,Nat.mul_succ];have:=aDf h hM s;cases e:f c with
  |none=>rw[aEo e];simp;omega
  |some t=>rw[aFD e];grind
def vZ{p:UInt8×Str}{c:UInt8}:∀{l:List (UInt8×Str)},p.1∉l.map EM->gI (l++[p]) c=if c=p.1 then N1 p.2 else gI l c
 | [],_=>rfl
 |q::l,h=>by
  simp only[BI,BD,not_or]at h;have:=vZ (c:=c) h.2;show (if c=q.1 then N1 q.2 else gI (l++[p]) c)=_;rw[this];by_cases e:c=q.1
  .subst e;rw[Vx rfl,Vw (λe=>h.1 e.symm)];show _=(if q.1=q.1 then _ else _)
   grind
  rw[Vw e];by_cases e2:c=p.1
  .grind
  rw[Vw e2,Vw e2];show _=(if c=q.1 then _ else _);rw[Vw e]
def aN8{c:UInt8}:∀{l:List (UInt8×Str)},(l.map EM).Nodup->gI l.reverse c=gI l c
 | [],_=>rfl
 |p::l,h=>by
  rw[BI,IV]at h;rw[NN,vZ uWa,aN8 h.2];rfl
def aDg{c:UInt8}{t:Str}:∀{l:List (UInt8×Str)},gI l c=N1 t->(c,t)∈l
 | [],h=>by cases h
 |p::l,h=>by
  unfold gI at h;split at h
  .grind
  exact BZ _ (aDg h)
def aKR{c:UInt8}{t:Str}{r:List (UInt8×Str)}:∀{l:List (UInt8×Str)},gI l c=N1 t->gI (l++r) c=N1 t
 | [],h=>by cases h
 |p::l,h=>by
  show (if c=p.1 then N1 p.2 else gI (l++r) c)=N1 t;unfold gI at h;split at h
  .grind
  rename_i e;rw[Vw e];exact aKR h
def aKS{l:List (UInt8×Str)}{p:UInt8×Str}(h:p.1∉l.map EM):∀s:Str,((nS (gI (l++[p])) s).length:Int)=(nS (gI l) s).length+(s.count p.1:Nat)*((p.2.length:Int) - 1)
 | []=>by simp[nS]
 |c::s=>by
  have ih:=aKS h s;rw[aAu c s,aAu c s,BA,BA,KO,KO,ih,LP];by_cases e:c=p.1
  .subst e;rw[aFD (by rw[vZ h,Vx rfl]),aEo (aGI h),Vx siT];simp only[AW,AZ,KO,Int.add_mul];omega
  have e2:(c==p.1)=false:=by simpa using e
  have:nS (gI (l++[p])) [c]=nS (gI l) [c]:=by unfold nS;simp[vZ h,e]
  rw[this,e2];simp only[BX,Vt,Nat.add_zero];omega
def aN9{l:List (UInt8×Str)}{p:UInt8×Str}(h:p.1∉l.map EM):∀s:Str,(s.any λc=>(gI (l++[p]) c).isSome)=((s.any λc=>(gI l c).isSome) || (s.count p.1 != 0))
 | []=>by simp
 |c::s=>by
  rw[Ha,aN9 h s,Ha,LP,vZ h]
  grind
def oG(h:i<l.length):l.take (i+1)=l.take i++[l[i]]:=uWl
abbrev lQ:=bTw 422 (bJ6 321111)
abbrev fK:LN:=[]
abbrev lR:=bTw 422 (bIF 599 [(627,.region Pa lQ)])
abbrev lS:=bTw 422 (bIF 631 [])
abbrev lT:=bTw 422 (bJ6 182655)
abbrev fM:LN:=[]
abbrev lU:=bTw 422 (bIF 2431 [(89,.region Pa lT)])
def dB:=(.mk _:bb 422 (bIC [(599,lR),(631,lS),(2431,lU)])).x
def aEp{c:UInt8}(h:f c=N1 t):aEm f c.toNat=.sl Po (aJ t):=by unfold aEm;simp_all
def aIy{c:UInt8}(h:f c=N2):aEm f c.toNat=.ar:=by unfold aEm;simp_all
def rA(t:Str):(aJ t).length=t.length:=AF ..
def zM(c:UInt8)(t:Str):aJ (c::t)=[.int .u8 ((c.toNat:Nat):Int)]::aJ t:=rfl
section
variable {A:af}
def aNa(h:Has A 422 dB)(hg:422=422)(hc:A.bq 344=N1 aE7)(ps:List (UInt8×Str))(h0:2<=ps.length)(h1:ps.length<=1000)(hd:(ps.map EM).Nodup)(hp:∀p∈ps,2<=p.2.length/\p.2.length<=1000):aM8 A 422 ps:=by
 intro H b k s hb hk hs;rw[<- hg];have P0:=getElem?_lt hb;have ow:=getElem?_lt hk;have gb:∀L,(H++L)[b]? = N1 (.box 1 (bsr (gI ps) (.sr k 1 ps.length))):=λL=>by rw[BM P0];exact hb
 have gk:∀L,(H++L)[k]? = N1 (.vec 1 1 (ps.reverse.map λp=>[.str [p.1]])):=λL=>by rw[BM ow];exact hk
 have hcount:∀(c:UInt8)(H:LO),aG A 344 [.str s,.str [c]] H=N1 (vi (s.count c:Nat),H,[]):=λc H=>dT (by rw[hc];rfl);have htM:∀c t,gI ps c=N1 t->2<=t.length/\t.length<=1000:=λc t e=>hp _ (aDg e);have hEL:∀u:Str,(nS (gI ps) u).length<=1000*u.length:=aDf (λc t e=>(htM c t e).2) omT;have H8:((ps.reverse.map λp=>[AV.str [p.1]])).length=ps.length:=siT;have hw8:AR.wrap ((ps.length:Int)*8)=(ps.length:Int)*8:=wrap_i64 omT omT;refine h.call ?_;simp only[dB];simp only[go_sem,↓aB,seval,gb,pH,aJq,hw8];refine xX (W:=[27,28,29,30,31,32,33,34,35,8,36,37,38,9,39,40,41,42,43,44,45,46,47,48,49,50,51,52,53,5,6,54,32,10,55,56,57,58,61,62,63,11,64,65,66,67,68,69,70,71,72,73,74,75,76,77,78,79,80,5,6,59,60,10])
  (λρ' H' ba=>ba=[]/\H'=H++[.gone 0]/\ρ' 5=vi ((nS (gI ps) s).length:Nat)/\ρ' 6=.bool (s.any λc=>(gI ps c).isSome)) rfT (λfo=>?_) (λfo=>?_) ?_
 .let qs:=ps.reverse
  have hqn:(qs.map EM).Nodup:=by show (ps.reverse.map EM).Nodup;rw[List.map_reverse];exact (List.reverse_perm _).nodup_iff.2 hd
  have hql:qs.length=ps.length:=List.length_reverse;have Lh:∀i (hi:i<ps.length),qs[i]'omT∈ps:=λi hi=>JW.1 (AS (by omega:i<qs.length));have hqt:∀c,gI qs c=gI ps c:=λc=>aN8 hd;have hqM:∀i u,(nS (gI (qs.take i)) u).length<=1000*u.length:=λi u=>aDf (λc t e=>(hp _ (JW.1 (List.mem_of_mem_take (aDg e)))).2) omT u;simp only[go_sem,↓aB,seval,gb,pH,aJq];refine bJ (id:=0) (λi ρ1 H1 wr=>wr=[]/\H1=H++[.gone 0]/\ρ1 32=vi ((i:Nat):Int)/\ρ1 5=vi ((nS (gI (qs.take i)) s).length:Nat)/\ρ1 6=.bool (s.any λc=>(gI (qs.take i) c).isSome)) ps.length
   (λρ1 H1 wr=>wr=[]/\H1=H++[.gone 0]/\ρ1 5=vi ((nS (gI ps) s).length:Nat)/\ρ1 6=.bool (s.any λc=>(gI ps c).isSome))
   bIv rfl ⟨rfl,rfl,rfl,by rw[AE,aGJ (f:=gI []) λc _=>rfl];rfl,by
    rw[AE,show (s.any λc=>(gI [] c).isSome)=Po from by rw[KH];intro c _;simp[gI]];rfl⟩ ?_ ?_
  .rintro i ρ1 H1 dc mg ⟨rfl,rfl,e32,e5,e6⟩ hf;have e30:ρ1 30=.sr k 1 ps.length:=hf 30 rfl;have e31:ρ1 31=vi (ps.length:Nat):=hf 31 rfl;have e1:ρ1 1=.str s:=hf 1 rfl;have e0:ρ1 0=.ptr b 1 0:=hf 0 rfl;simp only[go_sem,↓aB,seval,e32,e31];refine aD (λhb=>?_) (λhb=>?_)
   .have hlt:i<ps.length:=by simp at hb;omega
    have hlq:i<qs.length:=omT;obtain⟨m1,m2⟩:=hp _ (Lh i hlt);have hni:qs[i].1∉(qs.take i).map EM:=by have:=hqn;rw[<- IQ (i+1) qs,oG hlq,DQ,DQ]at this;have h2:=(NO.1 (NO.1 this).1).2.2;intro hm;exact h2 _ hm _ siT rfl
    have cn:((ps.reverse.map λp=>[AV.str [p.1]]))[i]? = N1 [.str [qs[i].1]]:=by rw[BN,AP uWv];rfl
    have gq:(0:Int)<=(i:Int):=omT;have lx:(i:Int)<(ps.length:Int):=omT;have kx:((i:Int)).toNat=i:=omT;have dy:=wS (i:=i) omT;have mb:=aKS hni s;have mw:=aN9 hni s;rw[<- oG hlq]at mb mw;have hM1:=hqM (i+1) s;have hM0:=hqM i s;have hcn:s.count qs[i].1<=s.length:=List.count_le_length;have bc:aEm (gI ps) qs[i].1.toNat=.sl Po (aJ qs[i].2):=aEp (by
     rw[<- hqt];have:gI (qs.take (i+1)) qs[i].1=N1 qs[i].2:=by rw[oG hlq,vZ hni,Vx rfl]
     have:=aKR (r:=qs.drop (i+1)) this
     rwa [IQ]at this)
    generalize qs[i]=q at *;obtain⟨c,t⟩:=q;dsimp only at mb mw hcn m1 m2 hni cn bc;have jg:(0:Int)<=((c.toNat:Nat):Int):=omT;have mj:((c.toNat:Nat):Int)<256:=by have:=EC c;omega
    have D2:(((c.toNat:Nat):Int)).toNat=c.toNat:=omT;have nc:c.toNat+1<=257:=by have:=EC c;omega
    simp only[go_sem,↓aB,seval,e32,e30,e1,gq,lx,kx,gk,H8,cn,hcount];refine aD (λdp=>?_) (λdp=>?_)
    .have bl:s.count c≠0:=by simpa using dp
     have X7:(s.count c:Int)*((t.length:Int) - 1)<=1000000:=by
      have a1:(s.count c:Int)*((t.length:Int) - 1)=((nS (gI (qs.take (i+1))) s).length:Int) - (nS (gI (qs.take i)) s).length:=by rw[mb];omega
      rw[a1];omega
     have hcc0:0<=(s.count c:Int)*((t.length:Int) - 1):=Int.mul_nonneg omT omT;have gn:AR.wrap ((t.length:Int) - 1)=(t.length:Int) - 1:=wrap_i64 omT omT;have pr:AR.wrap ((s.count c:Int)*((t.length:Int) - 1))=(s.count c:Int)*((t.length:Int) - 1):=wrap_i64 omT omT;have hw4:AR.wrap (((nS (gI (qs.take i)) s).length:Int)+(s.count c:Int)*((t.length:Int) - 1))=((nS (gI (qs.take (i+1))) s).length:Int):=by rw[<- mb];exact wrap_i64 omT omT
     simp only[go_sem,seval];refine aY (aq:=fK) (H0:=_) (by simp only[go_sem,seval,cS];rfl) rfT ?_;simp only[go_sem,↓aB,seval,fK,e32,e5,e0,gb,pH,aGE,jg,mj,D2,nc,bc,rA,dy,gn,pr,hw4,FK];exact⟨hlt,by rw[mw];simp[bl]⟩
    have bl:s.count c=0:=by simpa using dp
    rw[bl]at mb mw;simp only[go_sem,↓aB,seval,e32,e5,e6,dy];refine⟨hlt, ?_,by rw[mw];simp⟩;rw[mb];simp
   have hi:i=ps.length:=by simp at hb;omega
   subst hi;simp only[go_sem,seval];rw[e5,e6,show qs.take ps.length=qs from CH omT,show gI qs=gI ps from funext hqt];exact⟨rfl,rfl⟩
  rintro ρ' H' ba ⟨rfl,rfl,e5,e6⟩ hf;simp only[go_sem,seval,e5,e6]
 .simp only[go_sem,↓aB,seval];refine bJ (id:=2) (λi ρ1 H1 wr=>wr=[]/\H1=H++[.gone 0]/\ρ1 10=vi ((i:Nat):Int)/\ρ1 5=vi (((s.length:Nat):Int)+((nS (gI ps) (s.take i)).length:Nat) - (i:Nat))/\ρ1 6=.bool ((s.take i).any λc=>(gI ps c).isSome)) s.length
   (λρ1 H1 wr=>wr=[]/\H1=H++[.gone 0]/\ρ1 5=vi ((nS (gI ps) s).length:Nat)/\ρ1 6=.bool (s.any λc=>(gI ps c).isSome))
   bIv rfl ⟨rfl,rfl,rfl,by
    rw[AE,aS6];show vi ((s.length:Nat):Int)=_;congr 1,rfl⟩ ?_ ?_
  .rintro i ρ1 H1 dc mg ⟨rfl,rfl,e10,e5,e6⟩ hf;have e1:ρ1 1=.str s:=hf 1 rfl;have e0:ρ1 0=.ptr b 1 0:=hf 0 rfl;simp only[go_sem,↓aB,seval,e10,e1];refine aD (λhb=>?_) (λhb=>?_)
   .have hlt:i<s.length:=by simp at hb;omega
    have gq:(0:Int)<=(i:Int):=omT;have lx:(i:Int)<(s.length:Int):=omT;have kx:((i:Int)).toNat=i:=omT;have dy:=wS (i:=i) omT;have cj:s[i]? = N1 s[i]:=AP hlt;have hL:=hEL (s.take i);rw[List.length_take]at hL;have mb:nS (gI ps) (s.take (i+1))=nS (gI ps) (s.take i)++nS (gI ps) [s[i]]:=by rw[oG hlt,xY]
    have mw:((s.take (i+1)).any λc=>(gI ps c).isSome)=(((s.take i).any λc=>(gI ps c).isSome) || (gI ps s[i]).isSome):=by rw[oG hlt,List.any_append];simp
    generalize s[i]=c at *;have jg:(0:Int)<=((c.toNat:Nat):Int):=omT;have mj:((c.toNat:Nat):Int)<256:=by have:=EC c;omega
    have D2:(((c.toNat:Nat):Int)).toNat=c.toNat:=omT;have nc:c.toNat+1<=257:=by have:=EC c;omega
    cases e:gI ps c with
    |none=>rw[e]at mw;rw[aEo e]at mb;have bc:=aIy e;simp only[go_sem,↓aB,seval,e10,e1,e0,gq,kx,cj,gb,pH,aGE,jg,mj,D2,nc,bc,FK,dy,e5,e6];refine⟨hlt, ?_,by rw[mw];simp⟩;rw[mb,BA];congr 1;simp;omega
    |some t=>
     rw[e]at mw;rw[aFD e]at mb;have bc:=aEp e;obtain⟨m1,m2⟩:=htM c t e;obtain⟨x,r,rfl⟩:=ER (show t≠[] from λe=>by rw[e]at m1;simp at m1);rw[zM]at bc;have gn:AR.wrap ((((r.length+1:Nat)):Int) - 1)=(r.length:Int):=by simp at m2;rw[wrap_i64 omT omT];omega
     have pr:AR.wrap (((s.length:Nat):Int)+((nS (gI ps) (s.take i)).length:Nat) - (i:Nat)+(r.length:Int))=((s.length:Nat):Int)+((nS (gI ps) (s.take (i+1))).length:Nat) - ((i+1:Nat):Nat):=by rw[mb,BA,AW];simp at m2;rw[wrap_i64 omT omT];omega
     simp only[go_sem,↓aB,seval,e10,e1,e0,gq,kx,cj,gb,pH,aGE,jg,mj,D2,nc,bc,FK,dy,e5,rA,gn,pr];exact⟨hlt,by rw[mw];simp⟩
   have hi:i=s.length:=by simp at hb;omega
   subst hi;simp only[go_sem,seval];rw[e5,e6,List.take_length];refine⟨?_,rfl⟩;congr 1;omega
  rintro ρ' H' ba ⟨rfl,rfl,e5,e6⟩ hf;simp only[go_sem,seval,e5,e6]
 rintro ρ' H' ba ⟨rfl,rfl,e5,e6⟩ hf;have e1:ρ' 1=.str s:=hf 1 rfl;have e0:ρ' 0=.ptr b 1 0:=hf 0 rfl;cases ea:s.any λc=>(gI ps c).isSome with
 |false=>
  have hs:nS (gI ps) s=s:=aGJ λc hm=>by
   rw[KH]at ea;simpa using ea c hm
  rw[ea]at e6;simp only[go_sem,↓aB,seval,e6,e1,hs]
 |true=>
  rw[ea]at e6;generalize hN:(nS (gI ps) s).length=N at *;have hNb:N<=1000000:=by have:=hEL s;omega
  have hrm:bP N 1=true:=by unfold bP;simp;omega
  have hN0:(0:Int)<=(N:Int):=omT;have hNt:((N:Nat):Int).toNat=N:=omT;simp only[go_sem,↓aB,seval,e6,e5,hN0,hNt,hrm];refine bJ (id:=4) (λi ρ1 H1 wr=>wr=[]/\H1=H++[.vec 1 1 (rb (nS (gI ps) (s.take i))++AX (N - (nS (gI ps) (s.take i)).length) [.int .u8 0])]/\ρ1 14=vi ((i:Nat):Int)/\ρ1 13=vi ((nS (gI ps) (s.take i)).length:Nat)) s.length
   (λρ1 H1 wr=>wr=[]/\H1=H++[.vec 1 1 (rb (nS (gI ps) s))])
   bIv rfl ⟨rfl,rfl,rfl,rfl⟩ ?_ ?_
  .rintro i ρ1 H1 dc mg ⟨rfl,rfl,e14,e13⟩ cq;have f1:ρ1 1=.str s:=(cq 1 rfl).trans e1;have f0:ρ1 0=.ptr b 1 0:=(cq 0 rfl).trans e0;have f12:ρ1 12=.sr H.length 1 N:=cq 12 rfl;simp only[go_sem,↓aB,seval,e14,f1];refine aD (λhb=>?_) (λhb=>?_)
   .have hlt:i<s.length:=by simp at hb;omega
    have gq:(0:Int)<=(i:Int):=omT;have lx:(i:Int)<(s.length:Int):=omT;have kx:((i:Int)).toNat=i:=omT;have dy:=wS (i:=i) omT;have cj:s[i]? = N1 s[i]:=AP hlt;have mb:nS (gI ps) (s.take (i+1))=nS (gI ps) (s.take i)++nS (gI ps) [s[i]]:=by rw[oG hlt,xY]
    have H9:(nS (gI ps) (s.take (i+1))).length<=N:=by rw[<- hN];have:=congrArg List.length (xY (f:=gI ps) (s.take (i+1)) (s.drop (i+1)));rw[IQ,BA]at this;omega
    generalize s[i]=c at *;have jg:(0:Int)<=((c.toNat:Nat):Int):=omT;have mj:((c.toNat:Nat):Int)<256:=by have:=EC c;omega
    have D2:(((c.toNat:Nat):Int)).toNat=c.toNat:=omT;have nc:c.toNat+1<=257:=by have:=EC c;omega
    generalize hu:nS (gI ps) (s.take i)=u at *;have hmk:∀L:LO,(H++.vec 1 1 (rb u++AX (N - u.length) [.int .u8 0])::L)[H.length]? = N1 (.vec 1 1 (rb u++AX (N - u.length) [.int .u8 0])):=λL=>by
     rw[BU (AQ _),GD];rfl
    have Si:u.length<=N->u.length+(AX (N - u.length) [AV.int .u8 0]).length=N:=λh=>by rw[MI];omega
    have hbd:u.length<=N->iL 0 N (N1 (vi u.length))=N1 u.length:=λh=>by
     unfold iL vi;dsimp only;rw[Vx ⟨omT,omT⟩];rfl
    cases e:gI ps c with
    |none=>
     rw[aEo e]at mb;have bc:=aIy e;rw[mb,BA,AW,AZ]at H9;have hu0:(0:Int)<=(u.length:Int):=omT;have yw:u.length<=N:=omT;have hgz:(rb u++AX (N - u.length) [AV.int .u8 0])[u.length]? = N1 [.int .u8 0]:=by rw[BU (by rw[kG];exact AQ _),kG,GD,IN,Vx omT]
     have lg:(rb u++AX (N - u.length) [AV.int .u8 0]).set u.length [AV.int .u8 (c.toNat:Nat)]=rb (u++[c])++AX (N - (u.length+1)) [.int .u8 0]:=by rw[IP _ _ (by rw[kG];exact AQ _),kG,GD,vX,CJ];rw[show N - u.length=(N - (u.length+1))+1 by omega];rfl
     have Au:AR.wrap ((u.length:Int)+1)=((u.length+1:Nat):Int):=by rw[wrap_i64 omT omT];omega
     have hu1:(u.length:Int)<(N:Int):=omT;have hut:((u.length:Int)).toNat=u.length:=omT;simp only[go_sem,↓aB,seval,e14,f1,f0,gq,kx,cj,gb,pH,aGE,jg,mj,D2,nc,bc,FK,dy,f12,e13,hu0,hu1,hut,Au,Si yw,hgz];refine⟨hlt, ?_⟩;rw[mb,BA,lg];exact⟨rfl,rfl⟩
    |some t=>
     rw[aFD e]at mb;have bc:=aEp e;obtain⟨m1,m2⟩:=htM c t e;rw[mb,BA]at H9;have yw:u.length<=N:=omT;obtain⟨x,r,rfl⟩:=ER (show t≠[] from λe=>by rw[e]at m1;simp at m1);rw[zM]at bc;rw[AW]at H9 m2;have hle:u.length+(r.length+1)<=N:=H9;have hlenH:∀a b:ah,(H++[a]).length=(H++[b]).length:=λa b=>by simp
     have Au:AR.wrap ((u.length:Int)+((r.length+1:Nat):Int))=((u.length+(r.length+1):Nat):Int):=by rw[wrap_i64 omT omT];omega
     have hcpy:FW u.length (rb u++AX (N - u.length) [AV.int .u8 0])++[AV.int .u8 (x.toNat:Nat)]::aJ r++KW (u.length+(r.length+1)) (rb u++AX (N - u.length) [AV.int .u8 0])=rb (u++x::r)++AX (N - (u.length+(r.length+1))) [.int .u8 0]:=by rw[List.take_append_of_le_length (by rw[kG];exact AQ _),CH (by rw[kG];exact AQ _),List.drop_append,kG,DH (by rw[kG];omega),CW,List.drop_replicate,vX];rw[show N - u.length - (u.length+(r.length+1) - u.length)=N - (u.length+(r.length+1))by omega];rfl
     simp only[go_sem,↓aB,seval,e14,f1,f0,gq,kx,cj,gb,pH,aGE,jg,mj,D2,nc,bc,FK];refine aY (aq:=fM) (H0:=_) (by simp only[go_sem,seval,cS];rfl) rfT ?_;simp only[go_sem,↓aB,seval,fM,e14,f0,gb,pH,aGE,jg,mj,D2,nc,bc,FK,f12,e13,Si yw,hbd yw,rA,hle,Au,dy];refine⟨hlt, ?_⟩;rw[mb,BA,AW,hcpy];exact⟨rfl,rfl⟩
   have hi:i=s.length:=by simp at hb;omega
   subst hi;simp only[go_sem,seval];rw[hN,GD];simp
  rintro ρ2 H2 en ⟨rfl,rfl⟩ cq;have f12:ρ2 12=.sr H.length 1 N:=cq 12 rfl;have hconv:pT (H++[.vec 1 1 (rb (nS (gI ps) s))]) .b2s (.sr H.length 1 N)=N1 (.str (nS (gI ps) s)):=by
   unfold pT dO;dsimp only;rw[BU (AQ _),GD];show (match (if 1=1/\(rb (nS (gI ps) s)).length=N then N1 (rb (nS (gI ps) s))else N2)with
    |some rows=>(cM rows).map AV.str
    |none=>N2)=_
   rw[Vx ⟨rfl,by rw[kG,hN]⟩];show (cM (rb _)).map AV.str=_;rw[oO];rfl
  simp only[go_sem,↓aB,seval,f12,hconv]
end
section
variable {H X:LO}{ty o v o2 v2 i:Nat}{T:Str}{x:ah}
def aTb(c:gf H.length o o2):(PSt X ty o v o2 v2 T)[H.length+i]? = X[H.length+i]? := by unfold PSt;rw[CL (by have:=c.lo2;omega),CL (by have:=c.lo;omega)]
def mO(c:gf H.length o o2):(PSt X ty o v o2 v2 T)[H.length]? = X[H.length]? := aTb (i:=0) c
def aM9(c:gf H.length o o2):(PSt X ty o v o2 v2 T).set (H.length+i) x=PSt (X.set (H.length+i) x) ty o v o2 v2 T:=by unfold PSt;have h1:=c.lo;have h2:=c.lo2;rw[JR (i:=o2) _ _ omT,JR (i:=o) _ _ omT]
def aFE(c:gf H.length o o2):(PSt X ty o v o2 v2 T).set H.length x=PSt (X.set H.length x) ty o v o2 v2 T:=aM9 (i:=0) c
end
def aNb(A:af)(f:Nat)(args:LA)(M:Nat):Prop:=∀(H:LO)(ty o v o2 v2:Nat)(T:Str),gf H.length o o2->T≠[]->T.length+M<=100000000 ->
 ∃T' wr,T'≠[]/\T'.length<=T.length+M/\aG A f (.ptr o v 0::args) (PSt H ty o v o2 v2 T)=N1 (.tup [],PSt H ty o v o2 v2 T',wr)/\Wr2 o o2 wr
def aNb.mono{f:Nat}{M':Nat}(h:aNb A f args M)(hm:M<=M'):aNb A f args M':=by
 intro H ty o v o2 v2 T c hT hb;obtain⟨T',wr,h1,h2,h3⟩:=h H ty o v o2 v2 T c hT omT
 grind
def bB2(H:LO)(ty o v o2 v2 N:Nat)(e:bf)(ρ:bN)(H1:LO)(wr:LN):Prop:=
 e=.normal/\∃L T',T'≠[]/\T'.length<=N/\H1=PSt (H++L) ty o v o2 v2 T'/\Wr2 o o2 wr
def Has.prt(h:Has A name fn)(hres:fn.results=[])(hN:args.length+1<=fn.ntmps)(hok:∀n,dK fn.ntmps ⟨n,fn.sites⟩ fn.body=Pa)(hw:∀(H:LO)(ty o v o2 v2:Nat)(T:Str),gf H.length o o2->T≠[]->T.length+M<=100000000 ->wc A fn.ntmps ⟨H.length,fn.sites⟩ fn.body (pO (.ptr o v 0::args)) (PSt (H++AX fn.sites.length (.gone 0)) ty o v o2 v2 T) [] (bB2 H ty o v o2 v2 (T.length+M)) ⟨⟩):aNb A name args M:=by
 intro H ty o v o2 v2 T c hT hb;have hl:=iZ (H:=H) (ty:=ty) (o:=o) (v:=v) (o2:=o2) (v2:=v2) (T:=T);obtain⟨r,H',wr,h1,h2,T',h3,h4,h5,h6⟩:=h.bp (args:=.ptr o v 0::args) (H:=PSt H ty o v o2 v2 T) (K:=λr H' wr=>r=.tup []/\∃T',T'≠[]/\T'.length<=T.length+M/\H'=PSt H ty o v o2 v2 T'/\Wr2 o o2 wr) (hN:=Nat.ble_eq_true_of_le (by simpa using hN)) (hok:=hok _) (by
  rw[aEl c,hl,hres];refine iF (λe ρ H1 wr hh hf=>?_) (hw H ty o v o2 v2 T c hT hb);obtain⟨rfl,L,T',h1,h2,rfl,h3⟩:=hh;simp only[go_sem,↓aB,seval];rw[aM6 c rfl h3]
  grind)
 grind
def bI{f:Nat}(hp:aNb A f args M){X:LO}{o v:Nat}{H2:LO}{k:AV×LO×LN->Prop}{tg}(c:gf X.length o o2)(hT:T≠[])(hb:T.length+M<=100000000)(hk:∀T' wr,T'≠[]->T'.length<=T.length+M->Wr2 o o2 wr->bnd (dY site q H2 (N1 (.tup [],PSt X ty o v o2 v2 T',wr))) k):aCi (dY site q H2 (aG A f (.ptr o v 0::args) (PSt X ty o v o2 v2 T))) k tg:=by obtain⟨T',wr,h1,h2,h3,h4⟩:=hp X ty o v o2 v2 T c hT hb;rw[h3];exact hk T' wr h1 h2 h4
section
variable {A:af}
def jB:=(.mk _:bb 77 bTx).x
def mP:=(.mk _:bb 79 bTx).x
abbrev uG:=bTw 81 (bIF 9 [])
def kB:=(.mk _:bb 81 (bIC [(9,uG)])).x
def mR:=(.mk _:bb 78 bTx).x
abbrev zY:=bTw 133 (bIF 9 [])
abbrev zZ:LN:=[9,10,11,5,12,13,14,15,16,17,18,19,20,21,22,23,8]
def jC:=(.mk _:bb 133 (bIC [(9,zY)])).x
structure OutFns(A:af)(tB tP:Nat):Prop where
 ws:Has A 130 cO
 wb:Has A 83 gW
 len:Has A 129 iY
 cc:A.bq 136=N1 (fB tB tP)
 itoa:A.bq 99=N1 sC
 line:Has A 77 jB
 word:Has A 79 mP
 numbers:Has A 81 kB
 text:Has A 78 mR
variable {tB tP:Nat}
def jX{L:LO}{v:Nat}(h1:T'≠[])(h2:T'.length<=N)(h3:Wr2 o o2 wr):bB2 H ty o v o2 v2 N .normal ρ (PSt (H++L) ty o v o2 v2 T') wr:=⟨rfl,L,T',h1,h2,rfl,h3⟩
def aCq{v:Nat}(h1:T'≠[])(h2:T'.length<=N)(h3:Wr2 o o2 wr):bB2 H ty o v o2 v2 N .normal ρ (PSt H ty o v o2 v2 T') wr:=⟨rfl,[],T',h1,h2,by rw[AJ],h3⟩
def aPS(h:T≠[]):T++s≠[]:=λe=>h (List.append_eq_nil_iff.1 e).1
def pY(F:OutFns A tB tP)(s:Str)(hs:s.length<=1000000):aNb A 79 [.str s] (s.length+1):=by refine F.word.prt rfl (by simp[mP]) (λn=>bIv) ?_;intro H ty o v o2 v2 T c hT hb;simp only[mP];obtain⟨wr,h1,h2⟩:=vY F.ws F.cc (ty:=ty) (v:=v) (v2:=v2) (T:=T) (s:=32::s) c soT;have ha:kJ .add .no (.str [32]) (.str s)=N1 (.str (32::s)):=kE soT;simp only[go_sem,↓aB,seval,ha,h1];exact aCq (aPS hT) siT (bZ kT h2)
def fQ(F:OutFns A tB tP)(s:Str)(hs:s.length<=10000):aNb A 77 [.str s] (s.length+1):=by refine F.line.prt rfl (by simp[jB]) (λn=>bIv) ?_;intro H ty o v o2 v2 T c hT hb;have hl:=aS3 F.len (ty:=ty) (v:=v) (v2:=v2) (T:=T) c;obtain⟨wr,h1,h2⟩:=tX F.wb F.cc (ty:=ty) (v:=v) (v2:=v2) (T:=T) (b:=10) c omT;obtain⟨ba,h3,h4⟩:=vY F.ws F.cc (ty:=ty) (v:=v) (v2:=v2) (T:=T++[10]) (s:=s) c soT;have hp:0<T.length:=MY.2 hT;have h1:aG A 83 [.ptr o v 0,.int .u8 10] (PSt H ty o v o2 v2 T)=N1 (.bj,PSt H ty o v o2 v2 (T++[10]),wr):=h1;have hd:decide ((0:Int)<(T.length:Int))=true:=soT;simp only[jB];simp only[go_sem,↓aB,seval,hl,hd,h1,h3];exact aCq (aPS (aPS hT)) siT (bZ (bZ kT h2) h4)
def aPT(h:A.bq 99=N1 sC){n:Int}(h0 : -1000000<n)(h1:n<1000000):∃s:Str,s.length<=8/\∀H,aG A 99 [vi n] H=N1 (.str s,H,[]):=by
 have nl:∀k m,(nC k m).length<=k:=by
  intro k
  induction k with
  |zero=>intro m;exact AQ _
  |succ k ih=>grind [nC]
 by_cases hn:0<=n
 .refine⟨nC 7 n.toNat,uWa,λH=>dT ?_⟩
  simp_all [sC,Vx]
 refine⟨45::nC 7 (-n).toNat,uWa,λH=>dT ?_⟩
 simp_all [sC,Vw,Vx,omT]
def aKT(h:m<100):(nC (k+2) m).length<=2:=by
 unfold nC;split
 .simp
 unfold nC
 grind
def aOh(h:A.bq 99=N1 sC){n:Int}(h0 : -100<n)(h1:n<100):∃s:Str,s.length+1<=4/\∀H,aG A 99 [vi n] H=N1 (.str s,H,[]):=by
 by_cases hn:0<=n
 .refine⟨nC 7 n.toNat,by have:(nC 7 n.toNat).length<=2:=aKT (k:=5) omT;omega,λH=>dT ?_⟩;rw[h];show sC [.int .i64 n] H=_;simp only[sC]
  grind
 refine⟨45::nC 7 (-n).toNat,by have:(nC 7 (-n).toNat).length<=2:=aKT (k:=5) omT;simp;omega,λH=>dT ?_⟩;rw[h];show sC [.int .i64 n] H=_;simp only[sC]
 grind
def aF1(F:OutFns A tB tP)(l:List Int)(b:Bool)(M:Nat)(hM:M<=9)(hl:l.length<=10000)(hs:∀n∈l,∃s:Str,s.length+1<=M/\∀H,aG A 99 [vi n] H=N1 (.str s,H,[])):aNb A 81 [.sl b (l.map λn=>[vi n])] (l.length*M):=by
 refine F.numbers.prt rfl (by simp[kB]) (λn=>bIv) ?_;intro H ty o v o2 v2 T c hT hb;have ax:(l.map λn=>[vi n]).length=l.length:=AF ..;simp only[kB];simp only[go_sem,↓aB,seval,ax];refine bJ (id:=0) (λi ρ1 H1 wr=>∃T',H1=PSt H ty o v o2 v2 T'/\T'≠[]/\T'.length<=T.length+i*M/\Wr2 o o2 wr/\ρ1 8=vi ((i:Nat):Int)) l.length
  (λρ1 H1 wr=>∃T',H1=PSt H ty o v o2 v2 T'/\T'≠[]/\T'.length<=T.length+l.length*M/\Wr2 o o2 wr)
  bIv rfl ⟨T,rfl,hT,omT,kT,rfl⟩ ?_ ?_
 .rintro i ρ1 H1 dc mg ⟨T1,rfl,g1,g2,g3,e8⟩ hf;have e6:ρ1 6=.sl b (l.map λn=>[vi n]):=hf 6 rfl;have e7:ρ1 7=vi (l.length:Nat):=hf 7 rfl;have e0:ρ1 0=.ptr o v 0:=hf 0 rfl;simp only[go_sem,↓aB,seval,e8,e7];refine aD (λhb=>?_) (λhb=>?_)
  .have hlt:i<l.length:=uWa
   have gq:(0:Int)<=(i:Int):=omT;have lx:(i:Int)<(l.length:Int):=omT;have kx:((i:Int)).toNat=i:=omT;have dy:=wS (i:=i) omT;have cj:(l.map λn=>[vi n])[i]? = N1 [vi l[i]]:=uWa
   obtain⟨s,lq,nu⟩:=hs _ (AS hlt);have hmul:i*M+M<=l.length*M:=by rw[<- JS];exact BO _ hlt
   simp only[go_sem,↓aB,seval,e8,e6,e0,gq,kx,cj,nu];refine bI ((pY F s omT).mono (M':=M) omT) c g1 omT ?_;rintro T2 en k1 k2 k3;simp only[go_sem,↓aB,seval,e8,dy];exact⟨hlt,T2,rfl,k1,uWa,bZ g3 k3⟩
  have hi:i=l.length:=uWa
  subst hi;simp only[go_sem,seval]
  grind
 rintro ρ' H' ba ⟨T1,rfl,g1,g2,g3⟩ hf;simp only[go_sem,seval];exact aCq g1 g2 g3
def mS(F:OutFns A tB tP)(l:List Int)(b:Bool)(hl:l.length<=10000)(hs:∀n∈l,-1000000<n/\n<1000000):aNb A 81 [.sl b (l.map λn=>[vi n])] (l.length*9):=
 aF1 F l b 9 (AQ _) hl λn hn=>by
  obtain⟨s,h1,h2⟩:=aPT F.itoa (hs n hn).1 (hs n hn).2
  grind
def mQ:List (UInt8×Str):=[(92,[92,92]),(34,[92,34])]
structure TextFns(A:af)(tB tP:Nat) extends OutFns A tB tP where
 newR:Has A 131 jA
 rep:mh A
 bsr:Has A 422 dB
 num:422=422
 cnt:A.bq 344=N1 aE7
def aPU:∀p∈mQ,2<=p.2.length/\p.2.length<=1000:=deT
def aY7(s:Str):(nS (gI mQ) s).length<=2*s.length:=aDf (λc t e=>by
 have:=aDg e;have h2:∀p∈mQ,p.2.length<=2:=deT
 grind) omT s
def sZ(F:TextFns A tB tP)(s:Str)(hs:s.length<=1000):aNb A 78 [.str s] (2*s.length+3):=by
 refine F.text.prt rfl (by simp[mR]) (λn=>bIv) ?_;intro H ty o v o2 v2 T c hT hb;have hX:=iZ (H:=H) (ty:=ty) (o:=o) (v:=v) (o2:=o2) (v2:=v2) (T:=T);have h1:=zL F.newR mQ deT deT (PSt H ty o v o2 v2 T);have hB:=aNa F.bsr F.num F.cnt mQ deT deT deT aPU;have ho:(PSt H ty o v o2 v2 T++[.vec 1 1 (fP mQ),.box 1 [.int .u32 0,.int .i32 0,.int .u32 0,.bj,.sr (PSt H ty o v o2 v2 T).length 1 (fP mQ).length]])[H.length+1]? = N1 (aIw 1 (PSt H ty o v o2 v2 T).length 1 (fP mQ).length):=by rw[<- hX,BU omT,show (PSt H ty o v o2 v2 T).length+1 - (PSt H ty o v o2 v2 T).length=1 by omega];rfl
 have zw:(PSt H ty o v o2 v2 T++[.vec 1 1 (fP mQ),.box 1 [.int .u32 0,.int .i32 0,.int .u32 0,.bj,.sr (PSt H ty o v o2 v2 T).length 1 (fP mQ).length]])[(PSt H ty o v o2 v2 T).length]? = N1 (.vec 1 1 (fP mQ)):=uWa
 have h2:=aDd F.rep hB deT deT deT (λp hp=>⟨by have:=(aPU p hp).1;omega,(aPU p hp).2⟩) hs ho zw;rw[hX]at h1 h2;rw[aEl c]at h1 h2;have cn:[[AV.str [92]],[AV.str [92,92]],[AV.str [34]],[AV.str [92,34]]]=fP mQ:=rfl;rw[aM9 c,aEl (c.mono siT),eS,CJ]at h2;generalize hL1:[ah.vec 1 1 (fP mQ),ah.box 1 [.int .u32 0,.int .i32 0,.int .u32 0,.bj,.sr H.length 1 (fP mQ).length]]=L1 at h1 h2;generalize yx:(L1.set 1 _++uD mQ _)=L2 at h2;clear ho zw;generalize hu:nS (gI mQ) s=u at *;have hul:u.length<=2*s.length:=by rw[<- hu];exact aY7 s
 have ha:kJ .add .no (.str [34]) (.str u)=N1 (.str (34::u)):=kE soT;have dp:kJ .add .no (.str (34::u)) (.str [34])=N1 (.str (34::u++[34])):=kE soT;simp only[mR];simp only[go_sem,↓aB,seval,cn,h1,h2,ha,dp];refine bI (pY F.toOutFns (34::(u++[34])) soT) (c.mono siT) hT soT ?_;rintro T2 en k1 k2 k3;simp only[AW,BA,AZ]at k2;have od:bE H.length [] [H.length+1]=[]:=aKs (i:=1);simp only[go_sem,↓aB,seval];exact jX k1 omT (bZ kT k3)
end
abbrev aF2(id id2 ic lc c1 c2:Nat)(body:ag):ag:=
 qS [⟨N1 c1,.bin .lss .no (.tmp ic) (.tmp lc),N2,[]⟩] <|.seq (.cond (.tmp c1) .skip (.exit id)) <|.seq (.block id2 body) <|.region Po [⟨N1 c2,.bin .add .no (.tmp ic) (.const (vi 1)),N2,[]⟩,⟨N1 ic,.mov (.tmp c2),N2,[]⟩]
def bCl(P:LO->LN->Prop)(H:LO)(ty o v o2 v2 N:Nat)(e:bf)(ρ:bN)(H1:LO)(wr:LN):Prop:=
 e=.normal/\∃L T',P L wr/\T'≠[]/\T'.length<=N/\H1=PSt (H++L) ty o v o2 v2 T'
def kU{L:LO}{v:Nat}(P:LO->LN->Prop)(id id2 ic lc c1 c2 n m:Nat){tg:Tg (A,N,c,aF2 id id2 ic lc c1 c2 body,Q)}(hW:xJ (aF2 id id2 ic lc c1 c2 body)=W)(hok:dK N c (aF2 id id2 ic lc c1 c2 body)=Pa)(hs:(W.contains lc || (xJ body).contains ic || (ic==c1) || (lc==c1))=Po)(hi:ρ ic=vi 0)(hl:ρ lc=vi n)(hn:n<=1000000)(hT:T≠[])(hP:P L wr)(gh:∀i ρ1 L1 T1 dc,i<n->ρ1 ic=vi i->(∀t,W.contains t=Po->ρ1 t=ρ t)->P L1 dc->T1≠[]->T1.length<=T.length+i*m ->wc A N c body ρ1 (PSt (H++L1) ty o v o2 v2 T1) dc (bCl P H ty o v o2 v2 (T1.length+m)) ⟨⟩)(hQ:∀ρ' L' T' ba,P L' ba->T'≠[]->T'.length<=T.length+n*m->(∀t,W.contains t=Po->ρ' t=ρ t)->Q (.exit id) ρ' (PSt (H++L') ty o v o2 v2 T') ba):wl A N c (aF2 id id2 ic lc c1 c2 body) ρ (PSt (H++L) ty o v o2 v2 T) wr Q tg:=by
 simp only[MO,beq_eq_false_iff_ne]at hs;obtain⟨⟨⟨s1,s2⟩,s3⟩,s4⟩:=hs;refine bJ (id:=id) (W:=W) (λi ρ1 H1 wr=>∃L1 T1,H1=PSt (H++L1) ty o v o2 v2 T1/\P L1 wr/\T1≠[]/\T1.length<=T.length+i*m/\ρ1 ic=vi i) n
  (λρ1 H1 wr=>∃L1 T1,H1=PSt (H++L1) ty o v o2 v2 T1/\P L1 wr/\T1≠[]/\T1.length<=T.length+n*m)
  hok hW ⟨L,T,rfl,hP,hT,omT,hi⟩ ?_ ?_
 .rintro i ρ1 H1 dc mg ⟨L1,T1,rfl,g0,g1,g2,e8⟩ hf;have e7:ρ1 lc=vi n:=uWa
  simp only[go_sem,↓aB,seval,e8,e7];refine aD (λhb=>?_) (λhb=>?_)
  .have hlt:i<n:=uWa
   have dy:=wS (i:=i) omT;have hx:∀x,upd ρ1 c1 x ic=vi i:=λx=>by rw[aAk s3];exact e8
   have Pw:∀x t,W.contains t=Po->upd ρ1 c1 x t=ρ t:=λx t ht=>by
    grind [aAk,xJ,kF]
   simp only[go_sem,seval];refine iF (λe ρ' H' ba hh xb=>?_) (gh i _ L1 T1 dc hlt (hx _) (Pw _) g0 g1 g2);obtain⟨rfl,L2,T2,k0,k1,k2,rfl⟩:=hh;have e9:ρ' ic=vi i:=uWa
   simp only[go_sem,↓aB,seval,e9,dy]
   grind
  have hi:i=n:=uWa
  subst hi;simp only[go_sem,seval]
  grind
 grind
def bCm(H:LO)(ty o v o2 v2 k N:Nat)(e:bf)(ρ:bN)(H1:LO)(wr:LN):Prop:=
 e=.normal/\∃L T',L.length=k/\T'≠[]/\T'.length<=N/\H1=PSt (H++L) ty o v o2 v2 T'/\Wr2 o o2 wr
def pZ{L:LO}{v:Nat}(id id2 ic lc c1 c2 n m:Nat){tg:Tg (A,N,c,aF2 id id2 ic lc c1 c2 body,Q)}(hW:xJ (aF2 id id2 ic lc c1 c2 body)=W)(hok:dK N c (aF2 id id2 ic lc c1 c2 body)=Pa)(hs:(W.contains lc || (xJ body).contains ic || (ic==c1) || (lc==c1))=Po)(hi:ρ ic=vi 0)(hl:ρ lc=vi n)(hn:n<=1000000)(hT:T≠[])(ma:Wr2 o o2 wr)(gh:∀i ρ1 L1 T1 dc,i<n->ρ1 ic=vi i->(∀t,W.contains t=Po->ρ1 t=ρ t)->L1.length=L.length->T1≠[]->T1.length<=T.length+i*m->Wr2 o o2 dc ->wc A N c body ρ1 (PSt (H++L1) ty o v o2 v2 T1) dc (bCm H ty o v o2 v2 L.length (T1.length+m)) ⟨⟩)(hQ:∀ρ' L' T' ba,L'.length=L.length->T'≠[]->T'.length<=T.length+n*m->Wr2 o o2 ba->(∀t,W.contains t=Po->ρ' t=ρ t)->Q (.exit id) ρ' (PSt (H++L') ty o v o2 v2 T') ba):wl A N c (aF2 id id2 ic lc c1 c2 body) ρ (PSt (H++L) ty o v o2 v2 T) wr Q tg:=by
 refine kU (λL1 dc=>L1.length=L.length/\Wr2 o o2 dc) id id2 ic lc c1 c2 n m hW hok hs hi hl hn hT ⟨rfl,ma⟩ ?_ ?_
 .rintro i ρ1 L1 T1 dc hlt h1 h2 ⟨h3,h6⟩ h4 h5;refine iF (λe ρ' H' ba hh xb=>?_) (gh i ρ1 L1 T1 dc hlt h1 h2 h3 h4 h5 h6);obtain⟨rfl,L2,T2,k0,k1,k2,rfl,k3⟩:=hh;exact⟨rfl,L2,T2,⟨k0,k3⟩,k1,k2,rfl⟩
 rintro ρ' L' T' ba ⟨h1,h4⟩ h2 h3 hf;exact hQ ρ' L' T' ba h1 h2 h3 h4 hf
abbrev xZ:=bTw 135 (bIF 2569113 [])
abbrev yA:LN:=[29,30,31,9,32,33,34,35,36,37,38,39,40,41,28]
abbrev yB:=bTw 135 (bIF 5017 [(627,xZ)])
abbrev yC:LN:=[21,22,23,7,24,25,26,27,28,29,30,31,9,32,33,34,35,36,37,38,39,40,41,28,42,20]
abbrev yD:=bTw 135 (bIF 9 [(627,yB)])
abbrev yE:LN:=[13,14,15,5,16,17,18,19,20,21,22,23,7,24,25,26,27,28,29,30,31,9,32,33,34,35,36,37,38,39,40,41,28,42,20,43,12]
def hJ:=(.mk _:bb 135 (bIC [(9,yD)])).x
def wA:=(.mk _:bb 134 (bIF 13 [])).x
abbrev aEq:=bTw 134 (bIF 151 [])
def uH:=(.mk _:bb 134 (bIC [(13,wA),(151,aEq)])).x
section
variable {A:af}{tB tP:Nat}
def aSn(h:i<n):i*m+m<=n*m:=by rw[<- JS];exact BO _ h
def aNc(F:TextFns A tB tP)(h:Has A 133 jC)(l:List mr)(m:Nat)(hl:l.length<=16)(hr:∀r∈l,(r.text.length<=200 /\ -1000000<r.gg/\r.gg<1000000)/\2*r.text.length+20<=m):aNb A 133 [.sl Po (l.map cZ)] (l.length*m):=by
 refine h.prt rfl (by simp[jC]) (λn=>bIv) ?_;intro H ty o v o2 v2 T c hT hb;have ax:(l.map cZ).length=l.length:=AF ..;simp only[jC];simp only[go_sem,↓aB,seval,ax];refine pZ 0 1 8 7 9 23 l.length m (W:=zZ) (L:=[.gone 0]) rfT bIv rfl rfl rfl omT hT kT ?_ ?_
 .rintro i ρ1 L1 T1 dc hlt e8 hf hL g1 g2 g3;obtain⟨x,rfl⟩:=FQ.1 hL;have e6:ρ1 6=.sl Po (l.map cZ):=hf 6 rfl;have e0:ρ1 0=.ptr o v 0:=hf 0 rfl;have gq:(0:Int)<=(i:Int):=omT;have lx:(i:Int)<(l.length:Int):=omT;have kx:((i:Int)).toNat=i:=omT;have cj:=mgE cZ hlt;obtain⟨⟨q1,q2,q3⟩,q4⟩:=hr _ (AS hlt);generalize l[i]=r at *;have dp:=aSn (m:=m) hlt;simp only[go_sem,↓aB,seval,e8,e6,e0,gq,kx,cj,cZ,mO c,aFE c,iZ];have c':∀y:ah,gf (H++[y]).length o o2:=λy=>c.mono siT;have I0:=mS F.toOutFns [r.gg] Po siT soT;refine bI (fQ F.toOutFns [114,117,110] deT) (c' _) g1 uWa ?_;rintro T2 en k1 k2 k3;simp only[go_sem,↓aB,seval,e0,mO c];refine bI I0 (c' _) k1 uWa ?_;rintro T3 wr3 m1 m2 m3;simp only[go_sem,↓aB,seval,e0,mO c];refine bI (sZ F r.text omT) (c' _) m1 uWa ?_;rintro T4 wr4 n1 n2 n3;simp only[go_sem,↓aB,seval];refine⟨rfl,_,T4, ?_,n1, ?_,rfl,bZ (bZ (bZ g3 k3) m3) n3⟩
  .rfl
  grind
 rintro ρ' L' T' ba k0 k1 k2 k3 hf;simp only[go_sem,seval];exact jX k1 k2 k3
def aPW(F:TextFns A tB tP)(h:Has A 135 hJ)(l:List (List (List ct)))(m k:Nat)(hl:l.length<=16)(hb:∀x∈l,x.length<=16/\5+x.length*k<=m/\∀b∈x,(b.length<=16/\∀n∈b,aGv n=Pa)/\4+b.length*12<=k):aNb A 135 [.sl Po (l.map bS)] (l.length*m):=by
 refine h.prt rfl (by simp[hJ]) (λn=>bIv) ?_;intro H ty o v o2 v2 T c hT hbT;have ax:(l.map bS).length=l.length:=AF ..;have c':∀y:ah,gf (H++[y]).length o o2:=λy=>c.mono siT;simp only[hJ];simp only[go_sem,↓aB,seval,ax];refine pZ 0 1 12 11 13 43 l.length m (W:=yE) (L:=[.gone 0]) rfT bIv rfl rfl rfl omT hT kT ?_ ?_
 .rintro i ρ1 L1 T1 dc hlt e8 hf hL g1 g2 g3;obtain⟨x,rfl⟩:=FQ.1 hL;have e10:ρ1 10=.sl Po (l.map bS):=hf 10 rfl;have e0:ρ1 0=.ptr o v 0:=hf 0 rfl;have gq:(0:Int)<=(i:Int):=omT;have lx:(i:Int)<(l.length:Int):=omT;have kx:((i:Int)).toNat=i:=omT;have cj:=mgE bS hlt;obtain⟨q1,q3,q2⟩:=hb _ (AS hlt);generalize l[i]=hd at *;have gz:(hd.map gH).length=hd.length:=AF ..;have dp:=aSn (m:=m) hlt;simp only[go_sem,↓aB,seval,e8,e10,e0,gq,kx,cj,bS];refine bI (fQ F.toOutFns [104,97,110,100] deT) (c' _) g1 uWa ?_;rintro T2 en k1 k2 k3;have k2:T2.length<=T1.length+5:=k2;simp only[go_sem,↓aB,seval,gz];refine pZ 2 3 20 19 21 42 hd.length k (W:=yC) (L:=[x]) rfT bIv rfl rfl rfl omT k1 (bZ g3 k3) ?_ ?_
  .rintro j ρ2 L2 T3 wr3 jlt f20 cq yx m1 m2 m3;obtain⟨x2,rfl⟩:=FQ.1 yx;have f18:ρ2 18=.sl Po (hd.map gH):=cq 18 rfl;have f0:ρ2 0=.ptr o v 0:=(cq 0 rfl).trans e0;have jn0:(0:Int)<=(j:Int):=omT;have jn1:(j:Int)<(hd.length:Int):=omT;have jto:((j:Int)).toNat=j:=omT;have fh:=mgE gH jlt;obtain⟨⟨r1,r2⟩,r3⟩:=q2 _ (AS jlt);generalize hd[j]=bar at *;have hlen3:(bar.map bV).length=bar.length:=AF ..;have D3:=aSn (m:=k) jlt;simp only[go_sem,↓aB,seval,f20,f18,f0,jn0,jto,fh,gH];refine bI (fQ F.toOutFns [98,97,114] deT) (c' _) m1 uWa ?_;rintro T4 wr4 p1 p2 p3;have p2:T4.length<=T3.length+4:=p2;simp only[go_sem,↓aB,seval,hlen3];refine pZ 4 5 28 27 29 41 bar.length 12 (W:=yA) (L:=[x2]) rfT bIv rfl rfl rfl omT p1 (bZ m3 p3) ?_ ?_
   .rintro k ρ3 L3 T5 wr5 klt u28 im hL3 s1 s2 s3;obtain⟨x3,rfl⟩:=FQ.1 hL3;have u26:ρ3 26=.sl Po (bar.map bV):=im 26 rfl;have u0:ρ3 0=.ptr o v 0:=(im 0 rfl).trans f0;have kn0:(0:Int)<=(k:Int):=omT;have kn1:(k:Int)<(bar.length:Int):=omT;have kto:((k:Int)).toNat=k:=omT;have aIc:=mgE bV klt;have t1:=r2 _ (AS klt);generalize bar[k]=n at *;have hb5:k*12+12<=bar.length*12:=omT;have hb6:bar.length*12<=192:=omT;have I0:=aF1 F.toOutFns [n.step,n.length,n.alter] Po 4 deT siT (λz hz=>by
     unfold aGv wi at t1;simp at t1 hz;rcases hz with rfl|rfl|rfl<;>exact aOh F.itoa omT omT)
    simp only[go_sem,↓aB,seval,u28,u26,u0,kn0,kto,aIc,bV,mO c,aFE c,iZ];refine bI I0 (c' _) s1 soT ?_;rintro T6 wr6 w1 w2 w3;have w2:T6.length<=T5.length+12:=w2;simp only[go_sem,↓aB,seval];exact⟨rfl,_,T6,rfl,w1,omT,rfl,bZ s3 w3⟩
   rintro ρ' L' T' ba s0 s1 s2 s3 im;simp only[go_sem,seval];exact⟨rfl,L',T',s0,s1,omT,rfl,s3⟩
  rintro ρ' L' T' ba s0 s1 s2 s3 im;simp only[go_sem,seval];exact⟨rfl,L',T',s0,s1,omT,rfl,s3⟩
 rintro ρ' L' T' ba k0 k1 k2 k3 hf;simp only[go_sem,seval];exact jX k1 k2 k3
end
inductive ExG:Expr->Prop
 |mk (op n:Int) (ks:List Expr):0<=op->op<=10->0<=n->n<=aAq op->ks.length<=2->(∀k∈ks,ExG k)->ExG (.mk op n ks)
def aPX:∀{l:List Expr}{d:Int}{s t:Nat},exL l d s=N1 t->∀k∈l,(exS k d).2=Pa
 | [],_,_,_,_,k,hk=>by cases hk
 |e::r,d,s,t,h,k,hk=>by
  unfold exL at h;split at h
  .rename_i m he;rcases BD.1 hk with rfl|hk
   .rw[he]
   exact aPX h k hk
  cases h
def aY8:∀(m:Nat)(e:Expr)(d:Int),SizeOf.sizeOf e<m->(exS e d).2=Pa->ExG e:=by
 intro m
 induction m with
 |zero=>intro e d h;omega
 |succ m ih=>
  intro e d hs he;obtain⟨op,n,ks⟩:=e;unfold exS at he;split at he
  .cases he
  rename_i hc;simp only[Bool.or_eq_true,not_or,GB,Bool.not_eq_false']at hc;obtain⟨⟨⟨c1,c2⟩,c3⟩,c4⟩:=hc;have z8:=aN3 op;simp[wi]at c1 c2 c3 c4;refine .mk op n ks c2.1 c2.2 c3.1 c3.2 omT λk hk=>ih k (d+1) (by
   have:=GY hk;simp only[Expr.mk.sizeOf_spec]at hs;omega) ?_
  split at he
  .rename_i t ht;exact aPX ht k hk
  cases he
def aNd(h0:0<=op)(h1:op<=10):∃w:Str,w.length<=4/\(aOi.drop op.toNat).take 1=[.str w]/\op.toNat+1<=aOi.length:=by
 have:∀i<11,∃w:Str,w.length<=4/\(aOi.drop i).take 1=[.str w]/\i+1<=aOi.length:=by
  intro i hi;rcases i with _|_|_|_|_|_|_|_|_|_|_|i
  all_goals first | exact⟨_,deT,rfl,deT⟩ | omega
 exact this op.toNat omT
def aIz:∀{l:List Expr}{i:Nat}(h:i<l.length),gY l[i]+cP (l.drop (i+1))=cP (l.drop i)
 |e::r,0,h=>by simp[cP]
 |e::r,i+1,h=>by simpa using aIz (l:=r) uWg
def aGK:∀(l:List Expr)(i:Nat),i<=l.length->cP (l.drop i)<=cP l
 |l,0,_=>AQ _
 | [],i+1,h=>by simp
 |e::r,i+1,h=>by
  have:=aGK r i uWg;simp only[List.drop_succ_cons,cP];omega
section
variable {A:af}
def aKU(h:Has A 134 uH)(hi:A.bq 99=N1 sC){e:Expr}(he:ExG e):gY e<=1000->∀H,∃s:Str,s.length<=20*gY e/\aG A 134 [.agg (aF e)] H=N1 (.str s,H,[]):=by
 induction he with
 |mk op n ks o0 o1 n0 n1 hk E7 ih=>
  intro gd H;have hsz':cP ks+1<=1000:=gd;obtain⟨v',H',ba,h1,rfl,s,rfl,rfl,h2⟩:=h.bp (args:=[.agg (aF (.mk op n ks))]) (H:=H) (K:=λv H' wr=>wr=[]/\∃s:Str,v=.str s/\H'=H/\s.length<=20*(cP ks+1)) (by
   simp only[uH];simp only[go_sem,↓aB,seval,aF,aZ];simp only[wA];by_cases e0:op=0
   .subst e0;obtain⟨s,lq,nu⟩:=aPT hi (n:=n) omT (by unfold aAq at n1;rw[Vx rfl]at n1;omega);simp only[go_sem,↓aB,seval,nu];exact⟨s,rfl,omT⟩
   have b0:(op==0)=false:=uWE
   by_cases e1:op=1
   .subst e1;have hn:n<=25:=by unfold aAq at n1;simpa using n1
    have hw:AR.wrap (97+n)=97+n:=wrap_i64 omT omT;have hc:∀H,pT H (.toInt .i32) (vi (97+n))=N1 (.int .i32 (97+n)):=λH=>by
     show N1 (AV.int .i32 (GA .i32 (97+n)))=_;congr 2;simp only[GA,LK,KC];simp;omega
    have nc:∀H,pT H .i2s (.int .i32 (97+n))=N1 (.str [CN (97+n).toNat]):=λH=>by
     show (if 0<=97+n/\97+n<128 then N1 (AV.str [CN (97+n).toNat])else N2)=_;rw[Vx ⟨omT,omT⟩]
    simp only[go_sem,↓aB,seval,hw,hc,nc];exact⟨_,rfl,soT⟩
   have b1:(op==1)=false:=uWh
   obtain⟨w,dy,gn,pr⟩:=aNd o0 o1;have o2:op<11:=omT;have ha:kJ .add .no (.str [40]) (.str w)=N1 (.str (40::w)):=kE soT;simp only[go_sem,↓aB,seval,b0,b1,o0,o2,gn,pr,FK,ha];have hE:∀i≤ks.length,cP (ks.drop i)<=cP ks:=aGK ks;refine bJ (id:=1) (λi ρ1 H1 wr=>wr=[]/\ρ1 28=vi (i:Nat)/\(∃x,H1=H++[x])/\∃s:Str,ρ1 3=.str s/\s.length+20*cP (ks.drop i)<=5+i+20*cP ks) ks.length
    (λρ1 H1 wr=>wr=[]/\(∃x,H1=H++[x])/\∃s:Str,ρ1 3=.str s/\s.length<=7+20*cP ks)
    bIv rfl ⟨rfl,rfl,⟨_,rfl⟩,40::w,rfl,soT⟩ ?_ ?_
   .rintro i ρ1 H1 dc mg ⟨rfl,e28,⟨x,rfl⟩,s,e3,hs⟩ hf;have e26:ρ1 26=.sl Po (ks.map aF):=hf 26 rfl;have e27:ρ1 27=vi (ks.length:Nat):=hf 27 rfl;simp only[go_sem,↓aB,seval,e28,e27];refine aD (λhb=>?_) (λhb=>?_)
    .have hlt:i<ks.length:=by simp at hb;omega
     have gq:(0:Int)<=(i:Int):=omT;have lx:(i:Int)<(ks.length:Int):=omT;have kx:((i:Int)).toNat=i:=omT;have dy:=wS (i:=i) omT;have cj:=mgE aF hlt;have hm:=aIz hlt;have hE1:=hE i omT;obtain⟨t,ht1,Iu⟩:=ih ks[i] (AS hlt) omT (H++[.box (x.ver+1) (aF ks[i])]);have M1:kJ .add .no (.str [32]) (.str t)=N1 (.str (32::t)):=kE soT;have ha2:kJ .add .no (.str s) (.str (32::t))=N1 (.str (s++32::t)):=kE soT;generalize ks[i]=k at *;obtain⟨ok,nk,kk⟩:=k;simp only[aF,aZ]at cj Iu;simp only[go_sem,↓aB,seval,e28,e26,gq,kx,cj,e3,Iu,M1,ha2,dy];exact⟨hlt,soT⟩
    have hi:i=ks.length:=by simp at hb;omega
    subst hi;simp only[go_sem,seval];refine⟨⟨x,rfl⟩,s,e3, ?_⟩;rw[List.drop_length]at hs;simp[cP]at hs;omega
   rintro ρ' H' ba ⟨rfl,⟨x,rfl⟩,s,e3,hs⟩ hf;have ha3:kJ .add .no (.str s) (.str [41])=N1 (.str (s++[41])):=kE soT;simp only[go_sem,↓aB,seval,e3,ha3];exact⟨_,rfl,soT⟩)
  exact⟨s,h2,h1⟩
end
abbrev yF:=bTw 80 (bIF 20552699 [])
abbrev yG:LN:=[66,67,68,7,69,70,71,72,65]
abbrev jD:=bTw 80 (bIF 39931 [(627,yF)])
abbrev yH:LN:=[58,59,60,5,61,62,63,64,65,66,67,68,7,69,70,71,72,65,73,57]
abbrev yI:=bTw 80 (bIF 332197883 [])
abbrev yJ:LN:=[107,108,109,11,110,111,112,113,114,115,116,117,106]
abbrev jE:=bTw 80 (bIF 323579 [(1267,yI)])
abbrev yK:LN:=[92,93,94,9,95,96,97,98,99,100,101,102,103,104,105,106,107,108,109,11,110,111,112,113,114,115,116,117,106,118,91]
abbrev jF:=bTw 80 (bIF 2555899 [])
abbrev yL:LN:=[136,137,138,13,139,140,141,142,143,144,135]
def nN:=(.mk _:bb 80 (bIF 7 [(9982,jD),(80894,jE),(638974,jF)])).x
def lV:=(.mk _:bb 80 (bIC [(7,nN)])).x
def aPY(h:l.length=2):∃a b,l=[a,b]:=by
 match l,h with
 | [a,b],_=>grind
def eG{n a b:Int}:wi n a b=Pa↔a<=n/\n<=b:=by unfold wi;simp
def aS7{k:Int}(h0:0<=k)(h1:k<=2):∃w:Str,w.length<=4/\(aPV.drop k.toNat).take 1=[.str w]/\k.toNat+1<=aPV.length:=by
 have:∀i<3,∃w:Str,w.length<=4/\(aPV.drop i).take 1=[.str w]/\i+1<=aPV.length:=by
  intro i hi;rcases i with _|_|_|i
  all_goals first | exact⟨_,deT,rfl,deT⟩ | omega
 exact this k.toNat omT
structure BlockPrt(A:af)(tB tP:Nat) extends TextFns A tB tP where
 runs:Has A 133 jC
 bo:Has A 135 hJ
 I2:Has A 134 uH
 block:Has A 80 lV
section
variable {A:af}{tB tP:Nat}
def aS8(F:TextFns A tB tP){v:Nat}{L:LO}{l:List (List Str)}{N:Nat}(c:gf H.length o o2)(hl:l.length<=12)(hb:∀r∈l,(r.length<=12/\4+r.length*k<=m)/\∀s∈r,s.length<=20/\2*s.length+3<=k)(h0:ρ 0=.ptr o v 0)(h55:ρ 55=.sl Po (l.map bY))(h56:ρ 56=vi l.length)(h57:ρ 57=vi 0)(hT:T≠[])(hbT:T.length+l.length*m<=100000000)(ma:Wr2 o o2 wr){tg:Tg (A,145,(⟨H.length,[9,11]⟩:Ctx),jD,Q)}(hQ:∀ρ' L' T' ba,L'.length=L.length->T'≠[]->T'.length<=T.length+l.length*m->Wr2 o o2 ba->Q (.exit 1) ρ' (PSt (H++L') ty o v o2 v2 T') ba):wl A 145 ⟨H.length,[9,11]⟩ jD ρ (PSt (H++L) ty o v o2 v2 T) wr Q tg:=by
 have c':∀L:LO,gf (H++L).length o o2:=λy=>c.mono siT;refine pZ 1 2 57 56 58 73 l.length m rfT bIv rfl h57 h56 omT hT ma ?_ ?_
 .rintro i ρ1 L1 T1 dc hlt e8 hf hL g1 g2 g3;have e55:=(hf 55 rfl).trans h55;have e0:=(hf 0 rfl).trans h0;have cj:=mgE bY hlt;obtain⟨⟨q1,q3⟩,q2⟩:=hb _ (AS hlt);generalize l[i]=r at *;have dp:=aSn (m:=m) hlt;simp only[go_sem,↓aB,seval,e8,e55,e0,cj,bY];refine bI (fQ F.toOutFns [114,111,119] deT) (c' _) g1 uWa ?_;rintro T2 en k1 k2 k3;have k2:T2.length<=T1.length+4:=k2;simp only[go_sem,↓aB,seval];refine pZ 3 4 65 64 66 72 r.length k rfT bIv rfl rfl rfl omT k1 (bZ g3 k3) ?_ ?_
  .rintro j ρ2 L2 T3 wr3 jlt f65 cq yx m1 m2 m3;have f63:=cq 63 rfl;have f0:=(cq 0 rfl).trans e0;have fh:=mgE aN jlt;have r1:=q2 _ (AS jlt);generalize r[j]=s at *;have D3:=aSn (m:=k) jlt;simp only[go_sem,↓aB,seval,f65,f63,f0,fh,aN];refine bI (sZ F s omT) (c' _) m1 omT ?_;rintro T4 wr4 p1 p2 p3;exact⟨rfl,L2,T4,yx,p1,omT,rfl,bZ m3 p3⟩
  rintro ρ' L' T' ba s0 s1 s2 s3 im;exact⟨rfl,L',T',s0.trans hL,s1,omT,rfl,s3⟩
 grind
def aPZ(F:TextFns A tB tP){v:Nat}{x1 x2:ah}{l:List Shape}{N:Nat}(c:gf H.length o o2)(hl:l.length<=8)(hb:∀s∈l,vQ s=Pa/\11+s.points.length*20<=m)(h0:ρ 0=.ptr o v 0)(h89:ρ 89=.sl Po (l.map aH))(h90:ρ 90=vi l.length)(I0:ρ 91=vi 0)(hT:T≠[])(hbT:T.length+l.length*m<=100000000)(ma:Wr2 o o2 wr){tg:Tg (A,145,(⟨H.length,[9,11]⟩:Ctx),jE,Q)}(hQ:∀ρ' L' T' ba,L'.length=2->T'≠[]->T'.length<=T.length+l.length*m->Wr2 o o2 ba->Q (.exit 5) ρ' (PSt (H++L') ty o v o2 v2 T') ba):wl A 145 ⟨H.length,[9,11]⟩ jE ρ (PSt (H++[x1,x2]) ty o v o2 v2 T) wr Q tg:=by
 have c':∀L:LO,gf (H++L).length o o2:=λy=>c.mono siT;refine pZ 5 6 91 90 92 118 l.length m (L:=[x1,x2]) (W:=yK) rfT bIv rfl I0 h90 omT hT ma ?_ ?_
 .rintro i ρ1 L1 T1 dc hlt e8 hf hL g1 g2 g3;obtain⟨y1,y2,rfl⟩:=aPY hL;have e55:ρ1 89=.sl Po (l.map aH):=(hf 89 rfl).trans h89;have e0:ρ1 0=.ptr o v 0:=(hf 0 rfl).trans h0;have cj:=mgE aH hlt;obtain⟨q1,q2⟩:=hb _ (AS hlt);generalize l[i]=r at *;have dp:=aSn (m:=m) hlt;unfold vQ at q1;simp only[AI,eG]at q1;obtain⟨⟨a1,a2⟩,⟨a3,a4⟩,a5⟩:=q1;rw[AO]at a5;obtain⟨w,dy,gn,pr⟩:=aS7 a1 a2;have a2':r.kind<3:=omT;simp only[go_sem,↓aB,seval,e8,e55,e0,cj,aH,mO c,aFE c,iZ];refine bI (fQ F.toOutFns [115,104,97,112,101] deT) (c' _) g1 uWa ?_;rintro T2 en k1 k2 k3;have k2:T2.length<=T1.length+6:=k2;simp only[go_sem,↓aB,seval,e0,mO c,a1,a2',gn,pr,FK];refine bI (pY F.toOutFns w omT) (c' _) k1 omT ?_;rintro T7 wr7 n1 n2 n3;simp only[go_sem,↓aB,seval,mO c];refine pZ 7 8 106 105 107 117 r.points.length 20 (W:=yJ) rfT bIv rfl rfl rfl omT n1 (bZ (bZ g3 k3) n3) ?_ ?_
  .rintro j ρ2 L2 T3 wr3 jlt f65 cq yx m1 m2 m3;obtain⟨z1,z2,rfl⟩:=aPY yx;have f63:ρ2 104=.sl Po (r.points.map bL):=cq 104 rfl;have f0:ρ2 0=.ptr o v 0:=(cq 0 rfl).trans e0;have fh:=mgE bL jlt;have r1:=a5 _ (AS jlt);generalize r.points[j]=s at *;unfold aKG at r1;simp only[AI,eG]at r1;have D3:j*20+20<=r.points.length*20:=omT;have I0:=mS F.toOutFns [s.1,s.2] Po siT soT;simp only[go_sem,↓aB,seval,f65,f63,f0,fh,bL,aTb (i:=1) c,aM9 (i:=1) c,iZ];refine bI I0 (c' _) m1 uWa ?_;rintro T4 wr4 p1 p2 p3;have p2:T4.length<=T3.length+18:=p2;simp only[go_sem,↓aB,seval];exact⟨rfl,_,T4,rfl,p1,omT,rfl,bZ m3 p3⟩
  rintro ρ' L' T' ba s0 s1 s2 s3 im;simp only[go_sem,seval];exact⟨rfl,L',T',s0,s1,omT,rfl,s3⟩
 grind
def aS9(F:TextFns A tB tP){v:Nat}{L:LO}{l:List Str}{N:Nat}(c:gf H.length o o2)(hl:l.length<=16)(hb:∀s∈l,s.length<=80/\2*s.length+8<=m)(h0:ρ 0=.ptr o v 0)(h55:ρ 133=.sl Po (l.map aN))(h56:ρ 134=vi l.length)(h57:ρ 135=vi 0)(hT:T≠[])(hbT:T.length+l.length*m<=100000000)(ma:Wr2 o o2 wr){tg:Tg (A,145,(⟨H.length,[9,11]⟩:Ctx),jF,Q)}(hQ:∀ρ' L' T' ba,L'.length=L.length->T'≠[]->T'.length<=T.length+l.length*m->Wr2 o o2 ba->Q (.exit 9) ρ' (PSt (H++L') ty o v o2 v2 T') ba):wl A 145 ⟨H.length,[9,11]⟩ jF ρ (PSt (H++L) ty o v o2 v2 T) wr Q tg:=by
 have c':∀L:LO,gf (H++L).length o o2:=λy=>c.mono siT;refine pZ 9 10 135 134 136 144 l.length m rfT bIv rfl h57 h56 omT hT ma ?_ ?_
 .rintro i ρ1 L1 T1 dc hlt e8 hf hL g1 g2 g3;have e55:=(hf 133 rfl).trans h55;have e0:=(hf 0 rfl).trans h0;have cj:=mgE aN hlt;obtain⟨q1,q2⟩:=hb _ (AS hlt);generalize l[i]=s at *;have dp:=aSn (m:=m) hlt;simp only[go_sem,↓aB,seval,e8,e55,e0,cj,aN];refine bI (fQ F.toOutFns [108,105,110,101] deT) (c' _) g1 uWa ?_;rintro T2 en k1 k2 k3;have k2:T2.length<=T1.length+5:=k2;simp only[go_sem,↓aB,seval,e0];refine bI (sZ F s omT) (c' _) k1 omT ?_;rintro T4 wr4 p1 p2 p3;exact⟨rfl,L1,T4,hL,p1,omT,rfl,bZ (bZ g3 k3) p3⟩
 grind
structure Sc(b:Block)(M:Nat):Prop where
 runs:b.kind=0->∃m,(∀r∈b.runs,2*r.text.length+20<=m)/\5+b.runs.length*m<=M
 expr:b.kind=1->9+20*gY b.expr<=M
 sum:b.kind=2->12+b.eg.length*9<=M
 cd:b.kind=3->∃m k,(∀r∈b.cd,4+r.length*k<=m/\∀s∈r,2*s.length+3<=k)/\8+b.cd.length*m<=M
 ye:b.kind=4->∃m,(∀s∈b.aw,11+s.points.length*20<=m)/\26+b.aw.length*m<=M
 L7:b.kind=5->∃m k,(∀x∈b.bo,5+x.length*k<=m/\∀l∈x,4+l.length*12<=k)/\6+b.bo.length*m<=M
 lines:b.kind=6->∃m,(∀s∈b.lines,2*s.length+8<=m)/\8+b.lines.length*m<=M
def bHb{b:Block}(hk:xU b=Pa)(hb:b.Ok):Sc b 6500:=by
 unfold xU at hk;refine⟨λe=>?_,λe=>?_,λe=>?_,λe=>?_,λe=>?_,λe=>?_,λe=>?_⟩
 .rw[Vx e]at hk;simp only[aGx,aUL,vP,AI,eG,AO]at hk;exact⟨420,λr hr=>by grind,uWa⟩
 .rw[Vw omT,Vx e]at hk
  grind [gY,aN1,aT7]
 .have:=hb.tj;omega
 .rw[Vw omT,Vw omT,Vw omT,Vx e]at hk;simp only[aUQ,vP,AI,eG,AO]at hk;exact⟨520,43,λr hr=>⟨uWa,λs hs=>by grind⟩,uWa⟩
 .rw[Vw omT,Vw omT,Vw omT,Vw omT,Vx e]at hk;simp only[vQ,AI,eG,AO]at hk;exact⟨251,λs hs=>by grind,uWa⟩
 .have h2:b.bo.length<=2:=by
   rw[Vw omT,Vw omT,Vw omT,Vw omT,Vw omT,Vx e]at hk;simp only[aUO,AI,eG]at hk;omega
  exact⟨3141,196,λx hx=>⟨by have:=(hb.bo x hx).1;omega,λl hl=>by have:=((hb.bo x hx).2 l hl).1;omega⟩,omT⟩
 rw[Vw omT,Vw omT,Vw omT,Vw omT,Vw omT,Vw omT,Vx e]at hk;simp only[vP,AI,eG,AO]at hk;exact⟨168,λs hs=>by grind,by have:=hb.vz;omega⟩
def aKV(F:BlockPrt A tB tP)(b:Block)(hk:xU b=Pa)(hb:b.Ok)(hM:Sc b M):aNb A 80 [.agg (aE b)] M:=by
 refine F.block.prt rfl (by simp[lV]) (λn=>bIv) ?_;intro H ty o v o2 v2 T c hT hbT;have c':∀L:LO,gf (H++L).length o o2:=λy=>c.mono siT;obtain⟨op,n,ks,mn⟩:∃op n ks,b.expr=Expr.mk op n ks:=by cases b.expr;exact⟨_,_,_,rfl⟩
 have Ra:aF b.expr=[vi op,vi n,.sl Po (ks.map aF)]:=uXm
 have ig:aE b=[vi b.kind,.sl Po (b.runs.map cZ),vi op,vi n,.sl Po (ks.map aF),vi b.dn,.sl Po (b.eg.map bF),.sl Po (b.cd.map bY),vi b.w,vi b.h,.sl Po (b.aw.map aH),.sl Po (b.bo.map bS),.sl Po (b.lines.map aN)]:=by unfold aE;rw[Ra];rfl
 rw[ig];simp only[lV];simp only[go_sem,↓aB,seval];simp only[nN];unfold xU at hk;by_cases k0:b.kind=0
 .rw[Vx k0]at hk;simp only[aGx,AI,eG]at hk;obtain⟨_,⟨_,U8⟩,B5⟩:=hk;obtain⟨m,V9,Ep⟩:=hM.runs k0;have hr:=aNc F.toTextFns F.runs b.runs m hb.vw (λr hr=>by
   have h2:=V9 r hr;have h1:=AO.1 B5 r hr;simp only[aUL,AI,eG]at h1;simp only[vP,AI,eG]at h1;exact⟨⟨omT,omT,omT⟩,h2⟩)
  have Ow:b.runs.length<=8:=omT;simp only[go_sem,↓aB,seval,k0];refine bI (fQ F.toOutFns [116,101,120,116] deT) (c' _) hT (by show T.length+5<=_;omega) ?_;rintro T2 en k1 k2 k3;have k2:T2.length<=T.length+5:=k2;simp only[go_sem,↓aB,seval];refine bI hr (c' _) k1 omT ?_;rintro T3 wr3 m1 m2 m3;simp only[go_sem,↓aB,seval];exact jX m1 omT (bZ (bZ kT k3) m3)
 rw[Vw k0]at hk;have b0:(b.kind==0)=false:=by simpa using k0
 by_cases k1:b.kind=1
 .rw[Vx k1]at hk;have hx:=aY8 _ b.expr 1 (HR _) hk;have gd:=hb.size;have hsz2:gY b.expr<=256:=by rw[<- aN1 _ _ hk];exact aT7 hk
  have P6:=hM.expr k1;simp only[go_sem,↓aB,seval,k1];refine bI (fQ F.toOutFns [102,111,114,109,117,108,97] deT) (c' _) hT (by show T.length+8<=_;omega) ?_;rintro T2 en j1 j2 j3;have j2:T2.length<=T.length+8:=j2;obtain⟨s,lq,nu⟩:=aKU F.I2 F.itoa hx gd (PSt (H++[.gone 0,.gone 0]) ty o v o2 v2 T2);rw[Ra]at nu;simp only[go_sem,↓aB,seval,nu];refine bI (pY F.toOutFns s omT) (c' _) j1 omT ?_;rintro T3 wr3 m1 m2 m3;simp only[go_sem,↓aB,seval];exact jX m1 omT (bZ (bZ kT j3) m3)
 rw[Vw k1]at hk;have b1:(b.kind==1)=false:=by simpa using k1
 by_cases k2:b.kind=2
 .rw[Vx k2]at hk;simp only[AI,eG]at hk;obtain⟨Qx,⟨_,hlA⟩,hnA⟩:=hk;have hop':0<=b.dn/\b.dn<=10:=by simp at Qx;omega
  have hop2:b.dn<11:=omT;have P6:=hM.sum k2;obtain⟨w,dy,gn,pr⟩:=aNd hop'.1 hop'.2;have hn:=mS F.toOutFns b.eg Po omT (λn hn=>by
   have h1:=AO.1 hnA n hn;simp only[aUP,eG]at h1;omega)
  simp only[go_sem,↓aB,seval,k2];refine bI (fQ F.toOutFns [99,111,108,117,109,110] deT) (c' _) hT (by show T.length+7<=_;omega) ?_;rintro T2 en j1 j2 j3;have j2:T2.length<=T.length+7:=j2;simp only[go_sem,↓aB,seval,hop'.1,hop2,gn,pr,FK];refine bI (pY F.toOutFns w omT) (c' _) j1 omT ?_;rintro T3 wr3 m1 m2 m3;simp only[go_sem,↓aB,seval];refine bI hn (c' _) m1 omT ?_;rintro T4 wr4 n1 n2 n3;simp only[go_sem,↓aB,seval];exact jX n1 omT (bZ (bZ (bZ kT j3) m3) n3)
 rw[Vw k2]at hk;have b2:(b.kind==2)=false:=by simpa using k2
 by_cases k3:b.kind=3
 .rw[Vx k3]at hk;simp only[AI,eG,AO]at hk;obtain⟨⟨_,hG1⟩,Wh⟩:=hk;obtain⟨m,k,V9,Ep⟩:=hM.cd k3;have Lt:∀r∈b.cd,(r.length<=12/\4+r.length*k<=m)/\∀s∈r,s.length<=20/\2*s.length+3<=k:=λr hr=>by
   have h1:=Wh r hr;simp only[aUQ,vP,AI,eG,AO]at h1;exact⟨⟨omT,(V9 r hr).1⟩,λs hs=>⟨by have:=h1.2.2 s hs;omega,(V9 r hr).2 s hs⟩⟩
  simp only[go_sem,↓aB,seval,k3];refine bI (fQ F.toOutFns [101,110,116,114,105,101,115] deT) (c' _) hT (by show T.length+8<=_;omega) ?_;rintro T2 en j1 j2 j3;have j2:T2.length<=T.length+8:=j2;simp only[go_sem,↓aB,seval];refine aS8 (N:=0) F.toTextFns c omT Lt rfT rfT rfT rfT j1 omT (bZ kT j3) ?_;rintro ρ' L' T' ba n0 n1 n2 n3;simp only[go_sem,seval];exact jX n1 omT n3
 rw[Vw k3]at hk;have b3:(b.kind==3)=false:=by simpa using k3
 by_cases k4:b.kind=4
 .rw[Vx k4]at hk;simp only[AI,eG]at hk;obtain⟨⟨hw,hh⟩,⟨_,hlS⟩,hS⟩:=hk;obtain⟨m,V9,Ep⟩:=hM.ye k4;have hn:=mS F.toOutFns [b.w,b.h] Po siT soT;simp only[go_sem,↓aB,seval,k4];refine bI (fQ F.toOutFns [100,114,97,119,105,110,103] deT) (c' _) hT (by show T.length+8<=_;omega) ?_;rintro T2 en j1 j2 j3;have j2:T2.length<=T.length+8:=j2;simp only[go_sem,↓aB,seval];refine bI hn (c' _) j1 (by show T2.length+18<=_;omega) ?_;rintro T3 wr3 m1 m2 m3;have m2:T3.length<=T2.length+18:=m2;simp only[go_sem,↓aB,seval];refine aPZ (N:=0) F.toTextFns c omT (λs hs=>⟨AO.1 hS s hs,V9 s hs⟩) rfT rfT rfT rfT m1 omT (bZ (bZ kT j3) m3) ?_;rintro ρ' L' T' ba n0 n1 n2 n3;simp only[go_sem,seval];exact jX n1 omT n3
 rw[Vw k4]at hk;have b4:(b.kind==4)=false:=by simpa using k4
 by_cases k5:b.kind=5
 .rw[Vx k5]at hk;simp only[aUO,AI,eG]at hk;obtain⟨⟨_,hH0⟩,hH⟩:=hk;obtain⟨m,k,V9,Ep⟩:=hM.L7 k5;have hn:=aPW F.toTextFns F.bo b.bo m k hb.uv (λx hx=>⟨(hb.bo x hx).1,(V9 x hx).1,λbar sk=>⟨⟨((hb.bo x hx).2 bar sk).1,λnt hnt=>by
   have h1:=AO.1 hH x hx;simp only[aKL,AI]at h1;have h2:=AO.1 h1.2.2 bar sk;simp only[aT9,AI]at h2;exact AO.1 h2.2 nt hnt⟩,(V9 x hx).2 bar sk⟩⟩)
  have hlH:b.bo.length<=2:=omT;simp only[go_sem,↓aB,seval,k5];refine bI (fQ F.toOutFns [109,117,115,105,99] deT) (c' _) hT (by show T.length+6<=_;omega) ?_;rintro T2 en j1 j2 j3;have j2:T2.length<=T.length+6:=j2;simp only[go_sem,↓aB,seval];refine bI hn (c' _) j1 omT ?_;rintro T3 wr3 m1 m2 m3;simp only[go_sem,↓aB,seval];exact jX m1 omT (bZ (bZ kT j3) m3)
 rw[Vw k5]at hk;have b5:(b.kind==5)=false:=by simpa using k5
 by_cases k6:b.kind=6
 .rw[Vx k6]at hk;simp only[AI,eG,AO]at hk;obtain⟨m,V9,Ep⟩:=hM.lines k6;have hL3:∀s∈b.lines,s.length<=80/\2*s.length+8<=m:=λs hs=>by
   have h1:=hk.2 s hs;have h2:=V9 s hs;simp only[vP,AI,eG]at h1;omega
  simp only[go_sem,↓aB,seval,k6];refine bI (fQ F.toOutFns [108,105,115,116,105,110,103] deT) (c' _) hT (by show T.length+8<=_;omega) ?_;rintro T2 en j1 j2 j3;have j2:T2.length<=T.length+8:=j2;simp only[go_sem,↓aB,seval];refine aS9 (N:=0) F.toTextFns c hb.vz hL3 rfT rfT rfT rfT j1 omT (bZ kT j3) ?_;rintro ρ' L' T' ba n0 n1 n2 n3;simp only[go_sem,seval];exact jX n1 omT n3
 rw[Vw k6]at hk;cases hk
end
abbrev aFm:=bTw 50 (bIF 619311 [])
abbrev zN:LN:=[37,38,39,7,40,41,42,43,36]
abbrev aFn:=bTw 50 (bIF 1241903 [])
abbrev zO:LN:=[48,49,50,9,51,52,53,54,55,56,57,58,59,60,61,62,63,64,65,66,67,68,47]
abbrev aFo:=bTw 50 (bIF 1307439 [])
abbrev zP:LN:=[73,74,75,11,76,77,78,79,72]
abbrev aFp:=bTw 50 (bIF 303 [(2419,aFm),(4851,aFn),(5107,aFo)])
abbrev zQ:LN:=[24,25,26,5,27,28,29,30,31,32,33,34,35,36,37,38,39,7,40,41,42,43,36,44,45,46,47,48,49,50,9,51,52,53,54,55,56,57,58,59,60,61,62,63,64,65,66,67,68,47,69,70,71,72,73,74,75,11,76,77,78,79,72,80,23]
def yM:=(.mk _:bb 50 (bIC [(303,aFp)])).x
@[go_sem] def aY9{call:Nat->LA->LO->Out}{x:aa}{id:Nat}:nB call (N1 id) Po ρ H (.tbx ty k x)=if id<H.length/\(x.at ρ).cells.length=k/\(x.at ρ).cells.all AV.ak then N1 (.ptr id (bH H id) 0,make H id (.cw · ty (x.at ρ).cells),[id])else none:=(rfl)
section
variable {A:af}{tB tP:Nat}
def yN{f:Nat}{r:AV×List (Nat×ah)×LO}(h:(A.bq f).bind (· args H)=N1 r):aG A f args H=N1 (cT H r):=
 oL (n:=0) (by unfold dD qL;rw[h])
def aMa(h:Has A 130 cO)(hp:A.bq 136=N1 (fB tB tP)){v:Nat}(ho:H[o]? = N1 (.cw v tP [.nilPtr,.ar]))(hs:s≠[])(hl:s.length<=100000000):aG A 130 [.ptr o v 0,.str s] H=N1 (.tup [vi s.length,.bj],H.set o (.cw v tP [.ptr o v 0,.sr H.length 1 s.length])++[.oz 1 5 1 (rb s)],[o]):=by
 refine h.call ?_;have gr:=getElem?_lt ho;have go:∀L,(H++L)[o]? = N1 (.cw v tP [.nilPtr,.ar]):=λL=>by rw[BM gr];exact ho
 have X7:aG A 136 [.ptr o v 0] (H++[.gone 0])=N1 (.tup [],H.set o (.cw v tP [.ptr o v 0,.ar])++[.gone 0],[o]):=by
  rw[yN (r:=(.tup [],[(o,.cw v tP [.ptr o v 0,.ar])],[]))]
  .simp[cT,eU,DX _ _ gr]
  rw[hp];show fB tB tP [.ptr o v 0] _=_;simp[fB,go]
 have g1:∀x L,(H.set o x++L)[o]? = N1 x:=λx L=>by rw[BM uWC];exact BW gr
 have g2:∀x y L,(H.set o x++L).set o y=H.set o y++L:=λx y L=>by rw[DX _ _ uWC,EO]
 have bl:(rb s).isEmpty=false:=by cases s with | nil=>exact Vv rfl hs | cons a r=>rfl
 have hta:vB (H.set o (.cw v tP [.ptr o v 0,.ar])++[.gone 0]) (N1 H.length) 5 1 1 .ar (.str s)=N1 (.sr H.length 1 s.length,H.set o (.cw v tP [.ptr o v 0,.ar])++[.oz 1 5 1 (rb s)],[H.length]):=by
  unfold vB;have tz:dF 1 (aJ s)=true:=aEk s;have hr:bP s.length 1=true:=by unfold bP;simp;omega
  have ax:(aJ s).length=s.length:=kG s;have hne':(aJ s).isEmpty=false:=bl;simp only[bIz,tz,BT,BX,Vt,hne',ax,hr,Vu];simp[bH,make,rb,aJ];exact⟨rfl,λa _=>rfl⟩
 simp only[cO];simp only[go_sem,↓aB,seval,X7,g1,g2,hta];have hu:ah.under H.length (.cw v tP [.ptr o v 0,.sr H.length 1 s.length])=false:=by have:decide (H.length<H.length)=false:=siT;simp[ah.under,dJ,AV.under]
 rw[nJ gr,vN,mY (g1 _ _) hu];exact⟨rfl,rfl,rfl⟩
def aIA(F:OutFns A tB tP){v:Nat}(ho:H[o]? = N1 (.cw v tP [.nilPtr,.ar]))(hs:s≠[])(hl:s.length<=100000000):aG A 77 [.ptr o v 0,.str s] H=N1 (.tup [],H.set o (.cw v tP [.ptr o v 0,.sr H.length 1 s.length])++[.oz 1 5 1 (rb s)],[o]):=by
 refine F.line.call ?_;have gr:=getElem?_lt ho;have h1:aG A 129 [.ptr o v 0] H=N1 (vi 0,H,[]):=by refine F.len.call ?_;simp only[iY];simp only[go_sem,↓aB,seval,ho]
 have h2:=aMa F.ws F.cc ho hs hl;have g1:∀x L,(H.set o x++L)[o]? = N1 x:=λx L=>by rw[BM uWC];exact BW gr
 simp only[jB];simp only[go_sem,↓aB,seval,h1,h2];have hu:ah.under H.length (.cw v tP [.ptr o v 0,.sr H.length 1 s.length])=false:=by have:decide (H.length<H.length)=false:=siT;simp[ah.under,dJ,AV.under]
 rw[nJ gr,vN,mY (g1 _ _) hu];exact⟨rfl,rfl,rfl⟩
def aKW(b:Block):jm:=⟨[120],[⟨[97],[b],[],[]⟩]⟩
section
variable {H X:LO}{ty v v2 i:Nat}{T:Str}{x:ah}
def aKX(h0:i≠0)(h5:i≠5):(PSt X ty H.length v (H.length+5) v2 T)[H.length+i]? = X[H.length+i]? := by unfold PSt;rw[CL omT,CL omT]
def aCr(h0:i≠0)(h5:i≠5):(PSt X ty H.length v (H.length+5) v2 T).set (H.length+i) x=PSt (X.set (H.length+i) x) ty H.length v (H.length+5) v2 T:=by unfold PSt;rw[JR (i:=H.length+5) _ _ omT,JR (i:=H.length) _ _ omT]
def aEr(h0:i≠0)(h5:i≠5):bH (PSt X ty H.length v (H.length+5) v2 T) (H.length+i)=bH X (H.length+i):=by unfold bH;rw[aKX h0 h5]
def aBl(h0:i≠0)(h5:i≠5){mk:Nat->ah}:make (PSt X ty H.length v (H.length+5) v2 T) (H.length+i) mk=PSt (make X (H.length+i) mk) ty H.length v (H.length+5) v2 T:=by unfold make;rw[aKX h0 h5,aCr h0 h5]
def aNe{a b c d e f:ah}:H++[.cw v ty [.ptr H.length v 0,.sr (H.length+5) v2 T.length],b,c,d,e,.oz v2 5 1 (rb T)]=PSt (H++[a,b,c,d,e,f]) ty H.length v (H.length+5) v2 T:=by unfold PSt;rw[aBe,eS];rfl
def aNf{L:LO}:(PSt (H++L) ty H.length v (H.length+5) v2 T).take H.length=H:=by unfold PSt;rw[aBe,eS,aD8]
end
def uI(h:l.length=6):∃a b c d e f,l=[a,b,c,d,e,f]:=by
 match l,h with
 | [a,b,c,d,e,f],_=>exact⟨a,b,c,d,e,f,rfl⟩
structure uw(A:af)(tB:Nat) extends BlockPrt A tB 173 where
 source:Has A 50 yM
 str:A.bq 84=N1 (aAh 5)
def aIB:∀s:Str,aE6 (rb s)=Pa
 | []=>rfl
 |c::s=>by
  have:=EC c;show (decide (0<=((c.toNat:Nat):Int))&&decide (((c.toNat:Nat):Int)<256)&&aE6 (rb s))=Pa;rw[aIB s];simp;omega
def aCs(hp:A.bq 84=N1 (aAh 5)){v:Nat}(c:gf H.length o o2)(hT:T≠[])(hl:T.length<=1000000000):aG A 84 [.ptr o v 0] (PSt H ty o v o2 v2 T)=N1 (.str T,(PSt H ty o v o2 v2 T).set o2 (.gone v2),[o2]):=by
 rw[yN (r:=(.str T,[(o2,.gone v2)],[]))]
 .simp[cT,eU]
 rw[hp];show aAh 5 [.ptr o v 0] _=_;have hp:=MY.2 hT;simp[aAh,tW c,aM4 c,aIB,oO,Ne.symm c.ne,hl];exact hT
end
def yO:=(.mk _:bb 49 bTx).x
def mZ:=(.mk _:bb 29 bTx).x
structure kc(A:af)(tB:Nat):Prop where
 blk:kb A
 src:uw A tB
 valid:Has A 29 mZ
 item:Has A 49 yO
 name:Has A 70 xP
 name1:Has A 106 kP
 name2:Has A 107 nL
 allX:fe A 13 Pa 71
 B6:fe A 4 Pa 73
 allQ:fe A 7 Pa 75
 allI:fe A 4 Pa 48
section
variable {A:af}
structure sn(A:af):Prop where
 fn:A.fn YF=N2
 bq:A.bq YF=N2
def wC{x:aa}{ps:LN}{tg:Tg (A,N,c,ag.dz x ps body,Q)}{id f:Nat}(hx:x.at ρ=.fn f first ay)(hs:c.site ps.head? = N1 id)(hid:id<H.length)(ht:∀H,eZ c H=Pa){v:Nat}(hv:bH H id=v)(hm:∀l,(make H id λv=>.rnd v c.base c.sites ps body l Po N2)=X l)(h:∀l:LA,l.length=N->ck l=ρ->∃r H2 en b' s' p' cc' r' pend,aG A f (first++.yld id v::ay) (X l)=N1 (r,H2,en) /\ H2[id]? = N1 (.rnd v b' s' p' cc' r' Po pend)/\Q (pend.getD .normal) ρ (H2.set id (.gone v)) (bE c.base wr (id::en))):wc A N c (.dz x ps body) ρ H wr Q tg:=by
 subst hv;unfold wc;rw[wpc];intro l hl he;obtain⟨r,H2,en,b',s',p',cc',r',pend,h1,h2,h3⟩:=h l hl he;rw[<- hm l]at h1;obtain⟨n,hn⟩:=oM h1;refine⟨n+1,pend.getD .normal,⟨l,H2.set id (.gone (bH H id)),bE c.base wr (id::en)⟩, ?_,hl,uWa⟩;rw[iU,aa.ka]
 grind
def aF3:∀(ps:LN)(xs l:LA),(dH l ps xs).length=l.length
 | [],_,_=>by unfold dH;rfl
 |p::ps,[],_=>by unfold dH;rfl
 |p::ps,x::xs,l=>by rw[dH,aF3 ps xs];simp
def mT(hY:sn A){o v:Nat}{sites ps:LN}{asg:ag}{l xs:LA}{K:bf->LO->LN->Prop}(ho:H[o]? = N1 (.rnd v base sites ps (.seq asg body) l Po N2))(hx:xs.length=ps.length)(hok:dK N ⟨base,sites++[YF+o,YF+v]⟩ asg=Pa)(hok2:dK N ⟨base,sites++[YF+o,YF+v]⟩ body=Pa)(hl:l.length=N)(h:wc A N ⟨base,sites++[YF+o,YF+v]⟩ asg (ck (dH l ps xs)) H [] (λe ρ1 H1 dc=>e=.normal/\∃b1 t1 p1 c1 r1,H1[o]? = N1 (.rnd v b1 t1 p1 c1 r1 Po N2) /\ wc A N ⟨base,sites++[YF+o,YF+v]⟩ body ρ1 (H1.set o (.rnd v b1 t1 p1 c1 r1 Pa N2)) dc (λe ρ2 H2 en=>∃b' s' p' c' r',H2[o]? = N1 (.rnd v b' s' p' c' r' Pa N2) /\ K e (H2.set o (.rnd v b' s' p' c' r' Po (if e=.normal then N2 else N1 e))) (FM base (H.length - base)++(o::en))) ⟨⟩) ⟨⟩):∃e H' ba,aG A YF (.own 0 []::.yld o v::xs) H=N1 (.bool (decide (e=.normal)),H',ba)/\K e H' ba:=by
 obtain⟨n,e,s0,h1,h2,rfl,b1,t1,p1,c1,r1,h3,h4⟩:=kM h hok _ (by rw[aF3];exact hl) rfl;obtain⟨m,e2,s,g1,g2,b',s',p',c',r',g3,g4⟩:=kM h4 hok2 s0.ρ h2 rfl;refine⟨e2,_,_,oL (n:=max n m) ?_,g4⟩;unfold dD qL;rw[hY.bq,hY.fn];show sO _ H (.own 0 []::.yld o v::xs)=_;rw[aAe,ho];dsimp only;rw[Vx ⟨rfl,hx⟩,eJ (GJ n m) _ _ _ _ h1];dsimp only;rw[h3];dsimp only;rw[Vx rfl,eJ (GC n m) _ _ _ _ g1]
 grind
def aGL{call:Nat->LA->LO->Out}{v:Nat}:cX call H site (.yld o v) args=match kA H args with
  |none=>N2
  |some (args',lent)=>match call YF (.own 0 []::.yld o v::args'.map AV.strip) (dL H lent)with
   |none=>N2
   |some (b,H',wr)=>if lent.isEmpty&&b.atomic then N1 (b,H',wr)else none:=rfl
def jG(h:H.length<=base):cJ base (v,H,wr)=(v,H,wr):=by grind [cJ,CH]
end
abbrev aCt:=bTw 286 (bJ6 5735)
abbrev jH:LN:=[]
abbrev aCu:=bTw 286 (bIF 39 [(179,.region Pa aCt)])
def jO:=(.mk _:bb 286 (bIC [(39,aCu)])).x
def uJ:=(.mk _:bb 233 bTx).x
section
variable {A:af}
def aAv(A:af)(o v base n:Nat)(I:Nat->LO->Prop)(J:LO->Prop):Prop:=(∀i H,I i H->H.length=n)/\(∀H,J H->H.length=n) /\
 ∀i H (a b c d:Int),i<1000->I i H->∃(e:bf)(H':LO)(wr:LN),aG A YF [.own 0 [],.yld o v,.agg [vi a,vi b,vi c,vi d]] H=N1 (.bool (decide (e=.normal)),H',wr)/\(if e=.normal then I (i+1) H' else J H')/\∀x∈wr,base<=x
def kH{b:Nat}:∀{l wr:LN},(∀x∈l,b<=x)->bE b wr l=wr
 | [],wr,_=>rfl
 |y::r,wr,h=>by
  have hy:=h y HD;unfold bE;rw[Vw uWa];exact kH λz hz=>h z (BZ _ hz)
theorem rB{b n:Nat}:∀{l wr:LN},(∀x∈wr,b<=x)->(∀x∈l,b<=x)->∀x∈bE n wr l,b<=x
 | [],wr,h,_=>h
 |y::r,wr,h,hl=>by
  unfold bE;split
  .exact rB (λz hz=>by
    grind) λz hz=>hl z (BZ _ hz)
  exact rB h λz hz=>hl z (BZ _ hz)
def aKY{v:Nat}{J:LO->Prop}(hR:aAv A o v base n I J)(hi:i<1000)(hI:I i H){a b c d:Int}{k:AV×LO×LN×Option LN->Prop}{tg}(hk:∀e H' wr,(if e=bf.normal then I (i+1) H' else J H')->(∀x∈wr,base<=x)->H'.length=H.length->bnd (oD H (N1 (.bool (decide (e=.normal)),H',wr))) k):aCi (oD H (cX (aG A) H site (.yld o v) [.agg [vi a,vi b,vi c,vi d]])) k tg:=by
 obtain⟨r1,r2,r3⟩:=hR;obtain⟨e,H',wr,h1,h2,h3⟩:=r3 i H a b c d hi hI;have hl:H'.length=H.length:=uWa
 have he:cX (aG A) H site (.yld o v) [.agg [vi a,vi b,vi c,vi d]]=N1 (.bool (decide (e=.normal)),H',wr):=by rw[aGL];have:kA H [.agg [vi a,vi b,vi c,vi d]]=N1 ([.agg [vi a,vi b,vi c,vi d]],[]):=rfl;rw[this];dsimp only;have e2:([AV.agg [vi a,vi b,vi c,vi d]]).map AV.strip=[.agg [vi a,vi b,vi c,vi d]]:=rfl;rw[e2,show dL H []=H from rfl,h1];rfl
 rw[he];exact hk e H' wr h2 h3 hl
def wD(h:Has A 286 jO){v:Nat}{J:LO->Prop}(hR:aAv A o v base n I J)(kind:Int)(pts:List (Int×Int))(hp:pts.length<=1000)(H:LO)(hI:I 0 H):∃H' wr,aG A 286 [.yld o v,.ep [vi kind,.sl Po (pts.map bL)] 0] H=N1 (.tup [],H',wr)/\((∃i,i<=1000/\I i H')∨J H')/\∀x∈wr,base<=x:=by
 obtain⟨r1,r2,r3⟩:=hR;have ax:H.length=n:=r1 0 H hI;obtain⟨v',H',ba,h1,rfl,h2,h3⟩:=h.bp (args:=[.yld o v,.ep [vi kind,.sl Po (pts.map bL)] 0]) (H:=H) (K:=λv H' wr=>v=.tup []/\((∃i,i<=1000/\I i H')∨J H')/\∀x∈wr,base<=x) (by
  simp only[jO];have K0:∀{H' wr},((∃i,i<=1000/\I i H')∨J H')->(∀x∈wr,base<=x)->H'.length<=H.length->(cJ H.length (.tup [],H',wr)).1=.tup []/\((∃i,i<=1000/\I i (cJ H.length (.tup [],H',wr)).2.1)∨J (cJ H.length (.tup [],H',wr)).2.1)/\∀x∈(cJ H.length (.tup [],H',wr)).2.2,base<=x:=λ{H' wr} a b c=>by
   rw[jG c];grind
  cases e1:(kind==0)with
  |true=>
   simp only[go_sem,↓aB,seval,e1,CE]
   grind
  |false=>
   simp only[go_sem,↓aB,seval,e1];refine aD (λe2=>?_) (λe2=>?_)
   .simp only[go_sem,↓aB,seval]
    grind
   have xh:2<=pts.length:=uWa
   simp only[go_sem,↓aB,seval];refine bJ (id:=0) (λi ρ1 H1 wr=>ρ1 16=vi (i:Nat)/\I i H1/\∀x∈wr,base<=x) pts.length (λρ1 H1 wr=>(∃i,i<=1000/\I i H1)/\∀x∈wr,base<=x)
    bIv rfl ⟨rfl,hI,λx hx=>by cases hx⟩ ?_ ?_
   .rintro i ρ1 H1 dc mg ⟨e16,yy,dy⟩ hf;have f15:ρ1 15=vi (pts.length:Nat):=hf 15 rfl;have f3:ρ1 3=vi (pts.length:Nat):=hf 3 rfl;have f0:ρ1 0=.yld o v:=hf 0 rfl;have f1:ρ1 1=.ep [vi kind,.sl Po (pts.map bL)] 0:=hf 1 rfl;have qe:=r1 _ H1 yy;simp only[go_sem,↓aB,seval,e16,f15];refine aD (λhb=>?_) (λhb=>?_)
    .have hlt:i<pts.length:=uWa
     have hwi:=wS (i:=i) omT;have K5:AR.wrap ((pts.length:Int) - 1)=((pts.length - 1:Nat):Int):=by rw[wrap_i64 omT omT];omega
     have hpz:(((i:Nat):Int)==((pts.length - 1:Nat):Int))=(i==pts.length - 1):=uWa
     have cj:=mgE bL hlt;have hm:(i+1) % pts.length<pts.length:=Nat.mod_lt _ omT;have B7:(pts.map bL)[(i+1) % pts.length]? = N1 (bL pts[(i+1) % pts.length]):=uWa
     have zu:∀ek,kJ .rem ek (vi ((i+1:Nat):Int)) (vi (pts.length:Nat))=N1 (vi (((i+1) % pts.length:Nat):Int)):=λek=>by
      rw[tS omT];congr 2
     generalize pts[i]=p at *;generalize pts[(i+1) % pts.length]=q at *;cases e3:(i==pts.length - 1)with
     |false=>
      simp only[go_sem,↓aB,seval,e16,f3,K5,hpz,e3,Aa];refine aY (aq:=jH) (H0:=_) (by simp only[go_sem,seval,cS];rfl) rfT ?_;simp only[go_sem,↓aB,seval,jH,f3,f1,f0,hwi,hlt,cj,B7,zu,bL];refine aKY ⟨r1,r2,r3⟩ omT yy ?_;intro e H2 en hIJ gn iq;have hwa:∀x∈bE H.length dc en,base<=x:=rB dy gn;cases hd:decide (e=.normal)with
      |true=>
       have he:e=.normal:=of_decide_eq_true hd;rw[Vx he]at hIJ;simp only[go_sem,↓aB,seval,iq,e16,hwi]
       grind
      |false=>
       have he:¬e=.normal:=of_decide_eq_false hd;rw[Vw he]at hIJ;simp only[go_sem,↓aB,seval,iq]
       grind
     |true=>
      cases e4:(kind != 2)with
      |true=>simp only[go_sem,↓aB,seval,e16,f3,f1,K5,hpz,e3,e4];exact K0 (.inl ⟨i,omT,yy⟩) dy omT
      |false=>
      simp only[go_sem,↓aB,seval,e16,f3,f1,K5,hpz,e3,e4];refine aY (aq:=jH) (H0:=_) (by simp only[go_sem,seval,cS];rfl) rfT ?_;simp only[go_sem,↓aB,seval,jH,f3,f1,f0,hwi,hlt,cj,B7,zu,bL];refine aKY ⟨r1,r2,r3⟩ omT yy ?_;intro e H2 en hIJ gn iq;have hwa:∀x∈bE H.length dc en,base<=x:=rB dy gn;cases hd:decide (e=.normal)with
      |true=>
       have he:e=.normal:=of_decide_eq_true hd;rw[Vx he]at hIJ;simp only[go_sem,↓aB,seval,iq,e16,hwi]
       grind
      |false=>
       have he:¬e=.normal:=of_decide_eq_false hd;rw[Vw he]at hIJ;simp only[go_sem,↓aB,seval,iq]
       grind
    simp only[go_sem,seval]
    grind
   rintro ρ' H' ba ⟨⟨j,hj,yy⟩,dy⟩ hf;have qe:=r1 j H' yy;simp only[go_sem,↓aB,seval];rw[jG omT]
   grind)
 grind
end
def dR:=(.mk _:bb 315 (bIF 13 [])).x
def bU:=(.mk _:bb 315 (bIC [(13,dR)])).x
def eC:=(.mk _:bb 272 bTx).x
section
variable {A:af}
def lG(h:Has A 233 uJ)(s:Shape)(H:LO):aG A 233 [.agg (aH s)] H=N1 (.fn 286 [] [.ep [vi s.kind,.sl Po (s.points.map bL)] 0],H,[]):=by refine h.call ?_;simp only[uJ];simp only[go_sem,↓aB,seval,aH];rw[jG (AQ _)];exact⟨rfl,rfl,rfl⟩
def aEs(rows:List LA):Prop:=∀r∈rows,∃a b c d:Int,r=[vi a,vi b,vi c,vi d]
abbrev aMd:ag:=qS [qq 5 (.alloc [z0,z0,z0,z0]),qs 4 5 7]<|.block 1 (qR [ql 8 1 2,qla 9 4 5,qq 10 (.bsl 4 [z0,z0,z0,z0] 1 [(0,(.tmp 9))]),qa 11 4 32 8 10,qs 1 2 11])
def bB3(H:LO)(i:Nat)(X:LO):Prop:=∃w x2 x3 l,X=H++[.box 1 [w],.rnd 1 H.length [2,7,5,11] [7] aMd l Po N2,x2,x3]/\l.length=13/\ck l 2=.ptr H.length 1 0 /\
 (w=.ar∨∃ver rows,w=.sr (H.length+3) ver rows.length/\x3=.vec ver 4 rows/\rows≠[]/\rows.length<=i/\aEs rows)
def aBm{b a1 a2 a3 a4 v t:Nat}(h:([a1,a2,a3,a4].contains t)=Po)(ht:t<YF):(⟨b,[a1,a2,a3,a4,YF+o,YF+v]⟩:Ctx).site (N1 t)=none:=by
 unfold Ctx.site;dsimp only;rw[List.idxOf?_eq_none_iff.2]
 .rfl
 rw[<- GB,EH]at h;simp only[BD,CC,or_false,not_or]at h ⊢;exact⟨h.1,h.2.1,h.2.2.1,h.2.2.2,omT,omT⟩
def aSa(hY:sn A)(H:LO):aAv A (H.length+1) 1 H.length (H.length+4) (bB3 H) (λ_=>False):=by
 refine⟨λi X hX=>?_,λX hX=>hX.elim,λi X a b c d hi hX=>?_⟩
 .obtain⟨w,x2,x3,l,rfl,_⟩:=hX;simp
 obtain⟨w,x2,x3,l,rfl,hl,h2,hw⟩:=hX;refine mT hY (K:=λe H' wr=>(if e=.normal then bB3 H (i+1) H' else False)/\∀x∈wr,H.length<=x) (N:=13) (l:=l) (by rw[bX];rfl) rfl bIv bIv hl ?_;have hs:ck (dH l [7] [.agg [vi a,vi b,vi c,vi d]])=upd (ck l) 7 (.agg [vi a,vi b,vi c,vi d]):=nG omT;rw[hs];generalize hρ:ck l=ρ at *;simp only[DO,CW];simp only[go_sem,↓aB,seval];have B8:(⟨H.length,[2,7,5,11,YF+(H.length+1),YF+1]⟩:Ctx).site (N1 10)=none:=aBm rfT deT;have fq:∀{w2:LN}{n:Nat},(∀x∈w2,H.length<=x)->∀x∈FM H.length n++(H.length+1)::w2,H.length<=x:=λ{w2 n} h x hx=>by
  rcases AY.1 hx with hx|hx
  .rw[FC]at hx;exact hx.1
  rcases BD.1 hx with rfl|hx
  .omega
  exact h x hx
 refine⟨_,_,_,_,_,rfl, ?_⟩;rcases hw with rfl | ⟨ver,rows,rfl,rfl,bl,ax,lv⟩
 .have hr:bP 1 32=true:=deT;simp only[go_sem,↓aB,seval,h2,B8,eX,hr];exact⟨_,_,_,_,_,rfl,⟨_,_,_,l,rfl,hl,by rw[hρ];exact h2,.inr ⟨_,_,rfl,rfl,siT,siT,λr hr=>by rw[CG.1 hr];exact⟨a,b,c,d,rfl⟩⟩⟩,fq siT⟩
 have hr:bP (rows.length+1) 32=true:=by unfold bP;simp;omega
 simp only[go_sem,↓aB,seval,h2,B8,eX,hr];refine⟨_,_,_,_,_,rfl,⟨_,_,_,l,rfl,hl,by rw[hρ];exact h2,.inr ⟨ver,rows++[[vi a,vi b,vi c,vi d]], ?_,rfl,siT,soT,λr hr=>?_⟩⟩,fq siT⟩
 .rw[BA];rfl
 rcases AY.1 hr with hr|hr
 .exact lv r hr
 rw[CG.1 hr];exact⟨a,b,c,d,rfl⟩
def aJu:∀{rows:List LA},aEs rows->gG rows=Pa
 | [],_=>rfl
 |r::rs,h=>by
  obtain⟨a,b,c,d,e⟩:=h r HD;subst e;have:=aJu (rows:=rs) λx hx=>h x (BZ _ hx);rw[gG,this];rfl
def aIC:aDR base H .ar=N1 (.ar,H,[]):=rfl
def aHI(hY:sn A)(h:Has A 315 bU)(h1:Has A 286 jO)(s:Shape)(hs:s.points.length<=1000)(H:LO):∃r,(r=.ar∨∃rows,r=.own 4 rows/\rows≠[]/\rows.length<=100000/\aEs rows)/\aG A 315 [.ar,.fn 286 [] [.ep [vi s.kind,.sl Po (s.points.map bL)] 0]] H=N1 (r,H,[]):=by
 obtain⟨r,H',ba,e1,rfl,rfl,e2⟩:=h.bp (args:=[.ar,.fn 286 [] [.ep [vi s.kind,.sl Po (s.points.map bL)] 0]]) (H:=H) (K:=λr H' wr=>wr=[]/\H'=H/\(r=.ar∨∃rows,r=.own 4 rows/\rows≠[]/\rows.length<=100000/\aEs rows)) (by
  simp only[bU];simp only[go_sem,↓aB,seval];simp only[dR];simp only[go_sem,seval];refine wC (id:=H.length+1) (v:=1) (X:=λl=>H++[.box 1 [.ar],.rnd 1 H.length [2,7,5,11] [7] aMd l Po N2,.gone 0,.gone 0]) rfT rfT siT (λ_=>rfT) (by unfold bH;rw[bX];rfl) (λl=>by rw[sV];rfl) ?_;intro l hl he;have hI0:bB3 H 0 (H++[.box 1 [.ar],.rnd 1 H.length [2,7,5,11] [7] aMd l Po N2,.gone 0,.gone 0]):=⟨_,_,_,l,rfl,hl,by rw[he];rfl,.inl rfl⟩;obtain⟨H2,en,k1,k2,k3⟩:=wD h1 (aSa hY H) s.kind s.points hs _ hI0;rcases k2 with⟨i,hi,w,x2,x3,l2,rfl,iq,_,hw⟩ | k2
  .refine⟨_,_,_,_,_,_,_,_,N2,k1,by rw[bX];rfl, ?_⟩;rw[kH (λx hx=>by rcases BD.1 hx with rfl|hx;exact EG _ _;exact k3 x hx),eS];show pP 0 _ _ .normal _ _ _;rcases hw with rfl | ⟨ver,rows,rfl,rfl,w1,w2,w3⟩
   .simp only[go_sem,↓aB,seval,aIC];exact .inl trivial
   have hd:=aJu w3;simp only[go_sem,↓aB,seval,aT hd,aA hd];exact .inr ⟨rows,rfl,w1,omT,w3⟩
  exact k2.elim)
 exact⟨r,e2,e1⟩
def aKZ(hY:sn A)(hc:Has A 272 eC)(h:Has A 315 bU)(h1:Has A 286 jO)(s:Shape)(hs:s.points.length<=1000)(H:LO):∃r,(r=.ar∨∃rows,r=.sl Po rows/\rows.length<=100000/\aEs rows)/\aG A 272 [.fn 286 [] [.ep [vi s.kind,.sl Po (s.points.map bL)] 0]] H=N1 (r,H,[]):=by
 obtain⟨r,hr,mj⟩:=aHI hY h h1 s hs H;rcases hr with rfl | ⟨rows,rfl,w1,w2,w3⟩
 .refine⟨.ar,.inl rfl,hc.call ?_⟩;simp only[eC];simp only[go_sem,↓aB,seval,mj,aIC]
 refine⟨.sl Po rows,.inr ⟨rows,rfl,w2,w3⟩,hc.call ?_⟩;have hd:=aJu w3;simp only[eC];simp only[go_sem,↓aB,seval,mj];rw[jG (AQ _)];exact⟨rfl,rfl,rfl⟩
end
def aBn:=(.mk _:bb 285 bTx).x
def aEt:=(.mk _:bb 287 bTx).x
def aJv:=(.mk _:bb 273 bTx).x
abbrev aJw:=bTw 234 (bJ6 11)
abbrev yP:LN:=[6,7,9,11,13,25,26,28,30,32]
def aID:=(.mk _:bb 234 (bIC [(11,.region Pa aJw)])).x
abbrev P2(x y:Int):AV:=.agg [vi x,vi y]
abbrev S4(a b c d:Int):AV:=.agg [vi a,vi b,vi c,vi d]
section
variable {A:af}
def aEu(h:Has A 285 aBn)(a b c d e f:Int)(H:LO):∃n:Int,aG A 285 [P2 a b,P2 c d,P2 e f] H=N1 (vi n,H,[]):=by
 obtain⟨v,H',wr,h1,rfl,rfl,n,rfl⟩:=h.bp (args:=[P2 a b,P2 c d,P2 e f]) (H:=H) (K:=λv H' wr=>wr=[]/\H'=H/\∃n:Int,v=vi n) (by
  simp only[aBn];simp only[go_sem,↓aB,seval]
  grind)
 grind
def aJx(h:Has A 287 aEt)(n:Int)(H:LO):∃m:Int,aG A 287 [vi n] H=N1 (vi m,H,[]):=by
 obtain⟨v,H',wr,h1,rfl,rfl,m,rfl⟩:=h.bp (args:=[vi n]) (H:=H) (K:=λv H' wr=>wr=[]/\H'=H/\∃n:Int,v=vi n) (by
  simp only[aEt];simp only[go_sem,↓aB,seval]
  grind)
 grind
def aJy(h:Has A 273 aJv)(ht:Has A 285 aBn)(p q a b c d:Int)(H:LO):∃r:Bool,aG A 273 [P2 p q,S4 a b c d] H=N1 (.bool r,H,[]):=by
 obtain⟨v,H',wr,h1,rfl,rfl,m,rfl⟩:=h.bp (args:=[P2 p q,S4 a b c d]) (H:=H) (K:=λv H' wr=>wr=[]/\H'=H/\∃r:Bool,v=.bool r) (by
  obtain⟨n,hn⟩:=aEu ht a b c d p q H;simp only[aJv];cases e1:(n==0)with
  |false=>
   simp only[go_sem,↓aB,seval,hn,e1,Aa]
   grind
  |true=>
  simp only[go_sem,↓aB,seval,hn,e1];refine aD (λhb=>?_) (λhb=>?_);rotate_left
  .rw[beq_eq_false_iff_ne,ne_eq,GB]at hb;simp only[go_sem,↓aB,seval,hb,Aa]
   grind
  rw[beq_iff_eq]at hb;simp only[go_sem,↓aB,seval,hb];refine aD (λhb=>?_) (λhb=>?_);rotate_left
  .rw[beq_eq_false_iff_ne,ne_eq,GB]at hb;simp only[go_sem,↓aB,seval,hb,Aa]
   grind
  rw[beq_iff_eq]at hb;simp only[go_sem,↓aB,seval,hb];refine aD (λhb=>?_) (λhb=>?_);rotate_left
  .rw[beq_eq_false_iff_ne,ne_eq,GB]at hb;simp only[go_sem,↓aB,seval,hb,Aa]
   grind
  rw[beq_iff_eq]at hb;simp only[go_sem,↓aB,seval,hb]
  grind)
 grind
structure PlaneFns(A:af):Prop where
 yf:sn A
 oe:Has A 285 aBn
 sign:Has A 287 aEt
 on:Has A 273 aJv
 meet:Has A 234 aID
 seg:Has A 233 uJ
 zy:Has A 286 jO
 Gb:Has A 272 eC
 app:Has A 315 bU
def aQ1(F:PlaneFns A)(a b c d a' b' c' d':Int)(H:LO):∃r:Bool,aG A 234 [S4 a b c d,S4 a' b' c' d'] H=N1 (.bool r,H,[]):=by
 obtain⟨v,H',wr,h1,rfl,rfl,m,rfl⟩:=F.meet.bp (args:=[S4 a b c d,S4 a' b' c' d']) (H:=H) (K:=λv H' wr=>wr=[]/\H'=H/\∃r:Bool,v=.bool r) (by
  obtain⟨r1,h1⟩:=aJy F.on F.oe a b a' b' c' d' H;obtain⟨r2,h2⟩:=aJy F.on F.oe c d a' b' c' d' H;obtain⟨r3,h3⟩:=aJy F.on F.oe a' b' a b c d H;obtain⟨r4,h4⟩:=aJy F.on F.oe c' d' a b c d H;obtain⟨n1,t1⟩:=aEu F.oe a b c d a' b' H;obtain⟨n2,t2⟩:=aEu F.oe a b c d c' d' H;obtain⟨n3,t3⟩:=aEu F.oe a' b' c' d' a b H;obtain⟨n4,t4⟩:=aEu F.oe a' b' c' d' c d H;obtain⟨s1,g1⟩:=aJx F.sign n1 H;obtain⟨s2,g2⟩:=aJx F.sign n2 H;obtain⟨s3,g3⟩:=aJx F.sign n3 H;obtain⟨s4,g4⟩:=aJx F.sign n4 H;simp only[aID];cases r1 with
  |true=>
   simp only[go_sem,↓aB,seval,h1,CE]
   grind
  |false=>
  cases r2 with
  |true=>
   simp only[go_sem,↓aB,seval,h1,h2,CE]
   grind
  |false=>
  cases r3 with
  |true=>
   simp only[go_sem,↓aB,seval,h1,h2,h3,CE]
   grind
  |false=>
  cases r4 with
  |true=>
   simp only[go_sem,↓aB,seval,h1,h2,h3,h4]
   grind
  |false=>
  simp only[go_sem,↓aB,seval,h1,h2,h3,h4];refine aY (aq:=yP) (H0:=H) uWL rfT ?_;cases e:decide (AR.wrap (s1*s2)<0)with
  |false=>
   simp only[go_sem,↓aB,seval,yP,t1,t2,g1,g2,e,Aa,eH,dG,aL]
   grind
  |true=>
   simp only[go_sem,↓aB,seval,yP,t1,t2,t3,t4,g1,g2,g3,g4,e,eH,dG,aL]
   grind)
 grind
end
abbrev aGM:=bTw 205 (bJ6 330930583)
abbrev aAw:LN:=[]
abbrev aGN:=bTw 205 (bJ6 1337563543)
abbrev aAx:LN:=[]
abbrev aGO:=bTw 205 (bJ6 1605998999)
abbrev aAy:LN:=[]
def rC:=(.mk _:bb 205 (bIF 7969175 [(78,.region Pa aGM),(318,.region Pa aGN),(382,.region Pa aGO)])).x
abbrev aGP:=bTw 205 (bIF 39319 [(243,rC)])
abbrev aGQ:=bTw 205 (bIF 151 [(307,aGP)])
def tA:=(.mk _:bb 205 (bIC [(151,aGQ)])).x
section
variable {A:af}
def bB4(H:LO)(e:bf)(ρ:bN)(H':LO)(wr:LN):Prop:=H'=H/\wr=[]/\(e=.normal∨(e=.ret/\ρ 2=.bool Po))
def aQ2:bB4 H .normal ρ H []:=⟨rfl,rfl,.inl rfl⟩
def aNg(h:ρ 2=.bool Po):bB4 H .ret ρ H []:=⟨rfl,rfl,.inr ⟨rfl,h⟩⟩
def aCv(F:PlaneFns A){b:Nat}(hr:aEs rows){f c:Bool}(hi:i<rows.length)(hk:k<rows.length)(h3:ρ 3=.sl Po rows)(h5:ρ 5=vi i)(h6:ρ 6=vi k)(h7:ρ 7=.bool f)(h8:ρ 8=.bool c):wc A 105 ⟨b,[]⟩ rC ρ H [] (bB4 H) ⟨⟩:=by
 obtain⟨a1,a2,a3,a4,ea⟩:=hr _ (AS hi);obtain⟨b1,b2,b3,b4,eb⟩:=hr _ (AS hk);have gi:rows[i]? = N1 [vi a1,vi a2,vi a3,vi a4]:=by rw[AP hi,ea]
 have gk:rows[k]? = N1 [vi b1,vi b2,vi b3,vi b4]:=by rw[AP hk,eb]
 obtain⟨r1,o1⟩:=aJy F.on F.oe a3 a4 b1 b2 b3 b4 H;obtain⟨r2,o2⟩:=aJy F.on F.oe b1 b2 a1 a2 a3 a4 H;obtain⟨r3,o3⟩:=aJy F.on F.oe b3 b4 a1 a2 a3 a4 H;obtain⟨r4,o4⟩:=aJy F.on F.oe a1 a2 b1 b2 b3 b4 H;obtain⟨r5,o5⟩:=aQ1 F a1 a2 a3 a4 b1 b2 b3 b4 H;simp only[rC];cases f with
 |true=>
  cases c with
  |true=>simp only[go_sem,↓aB,seval,h7,h8];exact aNg rfl
  |false=>
   simp only[go_sem,↓aB,seval,h7,h8];refine aY (aq:=aAw) (H0:=H) uWL rfT ?_;cases r1<;>cases r2<;>simp only[go_sem,↓aB,seval,aAw,h3,h5,h6,gi,gk,o1,o2,CE]
   all_goals first | exact aQ2 | exact aNg rfl
 |false=>
  cases c with
  |true=>
   simp only[go_sem,↓aB,seval,h7,h8,Aa];refine aY (aq:=aAx) (H0:=H) uWL rfT ?_;cases r3<;>cases r4<;>simp only[go_sem,↓aB,seval,aAx,h3,h5,h6,gi,gk,o3,o4,CE]
   all_goals first | exact aQ2 | exact aNg rfl
  |false=>
   simp only[go_sem,↓aB,seval,h7,h8,Aa];refine aY (aq:=aAy) (H0:=H) uWL rfT ?_;cases r5<;>simp only[go_sem,↓aB,seval,aAy,h3,h5,h6,gi,gk,o5]
   all_goals first | exact aQ2 | exact aNg rfl
def aQ3(F:PlaneFns A)(h:Has A 205 tA)(s:Shape)(hs:s.points.length<=1000)(H:LO):∃r:Bool,aG A 205 [.agg (aH s)] H=N1 (.bool r,H,[]):=by
 obtain⟨v,H',wr,h1,rfl,rfl,m,rfl⟩:=h.bp (args:=[.agg (aH s)]) (H:=H) (K:=λv H' wr=>wr=[]/\H'=H/\∃r:Bool,v=.bool r) (by
  have ot:=lG F.seg s H;obtain⟨r,hr,hc⟩:=aKZ F.yf F.Gb F.app F.zy s hs H;rcases hr with rfl | ⟨rows,rfl,gu,lv⟩
  .simp only[tA];simp only[aH]at ot ⊢;simp only[go_sem,↓aB,seval,ot,hc];refine bJ (id:=0) (λi ρ1 H1 wr=>wr=[]/\H1=H/\ρ1 16=vi 0) 0 (λρ1 H1 wr=>wr=[]/\H1=H) bIv rfl ⟨rfl,rfl,rfl⟩ ?_ ?_
   .rintro i ρ1 H1 dc mg ⟨rfl,rfl,e16⟩ hf;have e15:ρ1 15=vi 0:=hf 15 rfl;simp only[go_sem,↓aB,seval,e16,e15]
   rintro ρ' H' ba ⟨rfl,rfl⟩ hf;simp only[go_sem,↓aB,seval]
   grind
  simp only[tA];simp only[aH]at ot ⊢;simp only[go_sem,↓aB,seval,ot,hc];refine bJ (id:=0) (λi ρ1 H1 wr=>wr=[]/\H1=H/\ρ1 16=vi (i:Nat)) rows.length (λρ1 H1 wr=>wr=[]/\H1=H) bIv rfl ⟨rfl,rfl,rfl⟩ ?_ ?_
  .rintro i ρ1 H1 dc mg ⟨rfl,rfl,e16⟩ hf;have e15:ρ1 15=vi (rows.length:Nat):=hf 15 rfl;have e4:ρ1 4=vi (rows.length:Nat):=hf 4 rfl;have e3:ρ1 3=.sl Po rows:=hf 3 rfl;have e1:ρ1 1=.ep [vi s.kind,.sl Po (s.points.map bL)] 0:=hf 1 rfl;simp only[go_sem,↓aB,seval,e16,e15];refine aD (λhb=>?_) (λhb=>?_)
   .have hlt:i<rows.length:=uWa
    have dy:=wS (i:=i) omT;simp only[go_sem,↓aB,seval,e16];refine bJ (id:=2) (λk ρ2 H2 wr=>wr=[]/\H2=H1/\ρ2 20=vi (k:Nat)) i (λρ2 H2 wr=>wr=[]/\H2=H1) bIv rfl ⟨rfl,rfl,rfl⟩ ?_ ?_
    .rintro k ρ2 H2 en zp ⟨rfl,rfl,f20⟩ cq;have f19:ρ2 19=vi (i:Nat):=cq 19 rfl;have f5:ρ2 5=vi (i:Nat):=cq 5 rfl;have f4:ρ2 4=vi (rows.length:Nat):=(cq 4 rfl).trans e4;have f3:ρ2 3=.sl Po rows:=(cq 3 rfl).trans e3;have f1:ρ2 1=.ep [vi s.kind,.sl Po (s.points.map bL)] 0:=(cq 1 rfl).trans e1;simp only[go_sem,↓aB,seval,f20,f19];refine aD (λdp=>?_) (λdp=>?_)
     .have ow:k<i:=uWa
      have gn:=wS (i:=k) omT;have K5:AR.wrap ((rows.length:Int) - 1)=((rows.length:Int) - 1):=wrap_i64 omT omT;cases k2:(s.kind==2)with
      |false=>
       simp only[go_sem,↓aB,seval,f20,f5,f1,gn,k2,Aa];refine iF (λe ρ' H' ba hh xb=>?_) (aCv F lv (i:=i) (k:=k) hlt omT uWy uWX uWc (by simp only[go_sem,seval];rfl) (by simp only[go_sem,seval];rfl));obtain⟨rfl,rfl,hh⟩:=hh;rcases hh with rfl | ⟨rfl,r2⟩
       .have r20:ρ' 20=vi (k:Nat):=by rw[xb 20 rfT];simp only[go_sem,seval,f20]
        simp only[go_sem,↓aB,seval,r20,gn];exact ow
       simp only[go_sem,↓aB,seval,r2]
       grind
      |true=>
      cases kz:((k:Int)==0)with
      |false=>
       simp only[go_sem,↓aB,seval,f20,f5,f1,gn,k2,kz,Aa];refine iF (λe ρ' H' ba hh xb=>?_) (aCv F lv (i:=i) (k:=k) hlt omT uWy uWX uWc (by simp only[go_sem,seval];rfl) (by simp only[go_sem,seval];rfl));obtain⟨rfl,rfl,hh⟩:=hh;rcases hh with rfl | ⟨rfl,r2⟩
       .have r20:ρ' 20=vi (k:Nat):=by rw[xb 20 rfT];simp only[go_sem,seval,f20]
        simp only[go_sem,↓aB,seval,r20,gn];exact ow
       simp only[go_sem,↓aB,seval,r2]
       grind
      |true=>
       simp only[go_sem,↓aB,seval,f20,f5,f4,f1,gn,K5,k2,kz];refine iF (λe ρ' H' ba hh xb=>?_) (aCv F lv (i:=i) (k:=k) hlt omT uWy uWX uWc (by simp only[go_sem,seval];rfl) (by simp only[go_sem,seval];rfl));obtain⟨rfl,rfl,hh⟩:=hh;rcases hh with rfl | ⟨rfl,r2⟩
       .have r20:ρ' 20=vi (k:Nat):=by rw[xb 20 rfT];simp only[go_sem,seval,f20]
        simp only[go_sem,↓aB,seval,r20,gn];exact ow
       simp only[go_sem,↓aB,seval,r2]
       grind
     simp only[go_sem,seval]
    rintro ρ2 H2 en ⟨rfl,rfl⟩ cq;have f16:ρ2 16=vi (i:Nat):=(cq 16 rfl).trans e16;simp only[go_sem,↓aB,seval,f16,dy];exact hlt
   simp only[go_sem,seval]
  rintro ρ' H' ba ⟨rfl,rfl⟩ hf;simp only[go_sem,↓aB,seval]
  grind)
 grind
end
def rD:=(.mk _:bb 201 (bIF 55 [])).x
def aAz:=(.mk _:bb 201 (bIC [(55,rD)])).x
section
variable {A:af}
abbrev aTc:ag:=qS [qq 4 (.alloc [z0,z0,z0,z0]),qs 4 4 32]<|.block 1 (qS [qf 33 0 4,qla 34 2 33,qf 35 2 4,qla 36 2 35,qq 37 (.bin .eql (.cells [.int,.int]) (u 34) (u 36))]<|qC 37 (qS [qz (.store 1 (u 2) uF)]<|.ret) (.skip))
def ShI(H:LO)(mp:ah)(pend:Option bf)(X:LO):Prop:=∃x3 l,X=H++[.box 1 [.bool Po],mp,.rnd 1 H.length [2,5,32,4] [32] aTc l Po pend,x3]/\l.length=38/\ck l 2=.ptr H.length 1 0
def aV2(hY:sn A)(H:LO)(mp:ah):aAv A (H.length+2) 1 H.length (H.length+4) (λ_=>ShI H mp N2) (ShI H mp (N1 .ret)):=by
 refine⟨λi X hX=>?_,λX hX=>?_,λi X a b c d hi hX=>?_⟩
 .obtain⟨x3,l,rfl,_⟩:=hX;simp
 .obtain⟨x3,l,rfl,_⟩:=hX;simp
 obtain⟨x3,l,rfl,hl,h2⟩:=hX;refine mT hY (K:=λe H' wr=>(if e=.normal then ShI H mp N2 H' else ShI H mp (N1 .ret) H')/\∀x∈wr,H.length<=x) (N:=38) (l:=l) (by rw[bX];rfl) rfl bIv bIv hl ?_;have hs:ck (dH l [32] [.agg [vi a,vi b,vi c,vi d]])=upd (ck l) 32 (.agg [vi a,vi b,vi c,vi d]):=nG omT;rw[hs];generalize hρ:ck l=ρ at *;simp only[DO,CW];have fq:∀{w2:LN}{n:Nat},(∀x∈w2,H.length<=x)->∀x∈FM H.length n++(H.length+2)::w2,H.length<=x:=λ{w2 n} h x hx=>by
  rcases AY.1 hx with hx|hx
  .rw[FC]at hx;exact hx.1
  rcases BD.1 hx with rfl|hx
  .omega
  exact h x hx
 have I5:∃r:Bool,kJ .eql (.cells [.int,.int]) (.agg [vi a,vi b]) (.agg [vi c,vi d])=N1 (.bool r):=⟨a==c&&b==d,by
  have e1:aCO .int (vi a) (vi c)=N1 (a==c):=rfl;have e2:aCO .int (vi b) (vi d)=N1 (b==d):=rfl;simp[kJ,tN,lP,e1,e2];cases (a==c)<;>cases (b==d)<;>rfl⟩
 obtain⟨r,I5⟩:=I5;simp only[go_sem,↓aB,seval];refine⟨_,_,_,_,_,rfl, ?_⟩;cases r with
 |false=>simp only[go_sem,↓aB,seval,I5];exact⟨_,_,_,_,_,rfl,⟨_,l,rfl,hl,by rw[hρ];exact h2⟩,fq siT⟩
 |true=>simp only[go_sem,↓aB,seval,h2,I5];exact⟨_,_,_,_,_,rfl,⟨_,l,rfl,hl,by rw[hρ];exact h2⟩,fq siT⟩
def aGR(F:PlaneFns A)(s:Shape)(hs:s.points.length<=1000){mp:ah}(h31:ρ 31=.fn 286 [] [.ep [vi s.kind,.sl Po (s.points.map bL)] 0])(h2:ρ 2=.ptr H.length 1 0)(hQ:∀e x3,e=.normal∨e=.ret->Q e ρ (H++[.box 1 [.bool Po],mp,.gone 1,x3]) []):wc A 38 ⟨H.length,[2,5,32,4]⟩ rD ρ (H++[.box 1 [.bool Po],mp,.gone 0,.gone 0]) [] Q ⟨⟩:=by
 simp only[rD];simp only[go_sem,seval];refine wC (id:=H.length+2) (v:=1) (X:=λl=>H++[.box 1 [.bool Po],mp,.rnd 1 H.length [2,5,32,4] [32] aTc l Po N2,.gone 0]) h31 rfT siT (λ_=>rfT) (by unfold bH;rw[bX];rfl) (λl=>by rw[sV];rfl) ?_;intro l hl he;obtain⟨H2,en,k1,k2,k3⟩:=wD F.zy (aV2 F.yf H mp) s.kind s.points hs _ (⟨.gone 0,l,rfl,hl,by rw[he];exact h2⟩:ShI H mp N2 _);have hw:bE H.length [] ((H.length+2)::en)=[]:=kH (λx hx=>by rcases BD.1 hx with rfl|hx;exact EG _ _;exact k3 x hx);rcases k2 with⟨i,hi,x3,l2,rfl,iq,_⟩ | ⟨x3,l2,rfl,iq,_⟩
 .refine⟨_,_,_,_,_,_,_,_,N2,k1,by rw[bX];rfl, ?_⟩;rw[hw,eS];show pP 0 _ _ .normal _ _ _;simp only[go_sem,seval];exact hQ .normal x3 (.inl rfl)
 refine⟨_,_,_,_,_,_,_,_,N1 .ret,k1,by rw[bX];rfl, ?_⟩;rw[hw,eS];show pP 0 _ _ .ret _ _ _;simp only[go_sem,seval];exact hQ .ret x3 (.inr rfl)
def aQ4(F:PlaneFns A)(h:Has A 201 aAz)(s:Shape)(hs:s.points.length<=1000)(hk:0<=s.kind/\s.kind<=2)(H:LO):∃r:Bool,aG A 201 [.agg (aH s)] H=N1 (.bool r,H,[]):=by
 obtain⟨v,H',wr,h1,rfl,rfl,m,rfl⟩:=h.bp (args:=[.agg (aH s)]) (H:=H) (K:=λv H' wr=>wr=[]/\H'=H/\∃r:Bool,v=.bool r) (by
  have ot:=λH=>lG F.seg s H;simp only[aAz];simp only[aH]at ot ⊢;obtain⟨Rj,z8⟩:=hk;have hk3:s.kind=0∨s.kind=1∨s.kind=2:=omT;rcases hk3 with hk|hk|hk
  .rw[hk]at ot ⊢;cases e1:decide ((s.points.length:Int)<1)with
   |true=>simp only[go_sem,↓aB,seval,e1];exact⟨_,rfl⟩
   |false=>
    simp only[go_sem,↓aB,seval,e1];refine aD (λhb=>?_) (λhb=>?_)
    .simp only[go_sem,↓aB,seval];exact⟨_,rfl⟩
    simp only[go_sem,↓aB,seval,ot];refine aGR F s hs (by rw[hk];rfl) rfT ?_;intro e x3 he;rcases he with rfl|rfl
    .simp only[go_sem,↓aB,seval];exact⟨_,rfl⟩
    simp only[go_sem,↓aB,seval];exact⟨_,rfl⟩
  .rw[hk]at ot ⊢;cases e1:decide ((s.points.length:Int)<2)with
   |true=>simp only[go_sem,↓aB,seval,e1];exact⟨_,rfl⟩
   |false=>
    simp only[go_sem,↓aB,seval,ot,e1];refine aGR F s hs (by rw[hk];rfl) rfT ?_;intro e x3 he;rcases he with rfl|rfl
    .simp only[go_sem,↓aB,seval];exact⟨_,rfl⟩
    simp only[go_sem,↓aB,seval];exact⟨_,rfl⟩
  rw[hk]at ot ⊢;cases e1:decide ((s.points.length:Int)<3)with
  |true=>simp only[go_sem,↓aB,seval,e1];exact⟨_,rfl⟩
  |false=>
   simp only[go_sem,↓aB,seval,ot,e1];refine aGR F s hs (by rw[hk];rfl) rfT ?_;intro e x3 he;rcases he with rfl|rfl
   .simp only[go_sem,↓aB,seval];exact⟨_,rfl⟩
   simp only[go_sem,↓aB,seval];exact⟨_,rfl⟩)
 exact⟨m,h1⟩
end
def aDh:=(.mk _:bb 197 bTx).x
def aDi:=(.mk _:bb 198 bTx).x
def aDj:=(.mk _:bb 199 bTx).x
def aDk:=(.mk _:bb 200 bTx).x
def aDl:=(.mk _:bb 202 bTx).x
def aDm:=(.mk _:bb 204 bTx).x
def aBW:=(.mk _:bb 139 (bIF 23 [])).x
def aGS:=(.mk _:bb 139 (bIC [(23,aBW)])).x
section
variable {A:af}{q4 q6:Shape->Bool}
def aAA(A:af)(f k:Nat)(agg:Bool):Prop:=∃fi,(A.fn f=N1 (aLV fi)/\A.bq f=N2)/\(A.fn fi=N1 (aKx k agg)/\A.bq fi=N2)
def aBX{f:Nat}(h:aAA A f k agg)(he:mv k agg enc)(hc:jc ay)(hl:aRL l)(hs:∀a∈l,∃r:Bool,aG A f1 (asV agg (enc a)::ay) H=N1 (.bool r,H,[])):∃r:Bool,aG A f [.sl Po (l.map enc),.fn f1 [] ay] H=N1 (.bool r,H,[])/\((∀a∈l,aG A f1 (asV agg (enc a)::ay) H=N1 (.bool Po,H,[]))->r=Po):=by
 obtain⟨fi,⟨a1,a2⟩,b1,b2⟩:=h;refine⟨_,aGr (q:=λa=>match aG A f1 (asV agg (enc a)::ay) H with | some (.bool b,_,_)=>b | _=>Po) a1 a2 hc (aDa b1 b2 he hc hl λa ha=>?_),λhf=>?_⟩
 all_goals grind
abbrev bEZ(A:af)(f:Nat)(q:Shape->Bool):Prop:=∀(s:Shape),s.points.length<=1000->0<=s.kind/\s.kind<=2->∀H:LO,aG A f [.agg (aH s)] H=N1 (.bool (q s),H,[])
structure ij(A:af)(q4 q6:Shape->Bool):Prop where
 shaped:bEZ A 201 q4
 simple:bEZ A 205 q6
 conS:aAA A 179 2 Pa
 conP:aAA A 203 2 Pa
 v1:Has A 197 aDh
 v2:Has A 198 aDi
 v3:Has A 199 aDj
 v4:Has A 200 aDk
 v5:Has A 202 aDl
 v6:Has A 204 aDm
 valid:Has A 139 aGS
abbrev aWo(w h:Int)(l:List Shape):AV:=.ep [vi w,vi h,.sl Po (l.map aH)] 0
def aSb(F:ij A q4 q6){l:List Shape}(hl:l.length<=1000)(hc:jc ay)(hs:∀s∈l,∃r:Bool,aG A f1 (.agg (aH s)::ay) H=N1 (.bool r,H,[])):∃r:Bool,aG A 197 [.fn f1 [] ay,aWo w hh l] H=N1 (.bool r,H,[])/\((∀s∈l,aG A f1 (.agg (aH s)::ay) H=N1 (.bool Po,H,[]))->r=Po):=by obtain⟨r,hr,hf⟩:=aBX F.conS aKE hc uWa hs;refine⟨r,F.v1.call ?_,hf⟩;simp only[aDh];simp only[go_sem,↓aB,seval,hr]
def bB5(F:ij A q4 q6){l:List Shape}(p:Int×Int)(H:LO):aG A 198 [.agg (bL p),aWo w hh l] H=N1 (.bool (decide (p.1<0) || (decide (p.1>w) || (decide (p.2<0) || decide (p.2>hh)))),H,[]):=by refine F.v2.call ?_;simp only[aDi];cases e1:decide (p.1<0)<;>cases e2:decide (p.1>w)<;>cases e3:decide (p.2<0)<;>simp only[go_sem,↓aB,seval,bL,e1,e2,e3,CE]
theorem bB6(F:ij A q4 q6)(s:Shape)(H:LO):aG A 199 [.agg (aH s)] H=N1 (.bool (decide ((s.points.length:Int)>12)),H,[]):=by refine F.v3.call ?_;simp only[aDj];simp only[go_sem,↓aB,seval,aH]
def bB7(F:ij A q4 q6)(s:Shape)(hs:s.points.length<=1000)(hk:0<=s.kind/\s.kind<=2)(H:LO):aG A 200 [.agg (aH s)] H=N1 (.bool (!q4 s),H,[]):=by have hr:=F.shaped s hs hk H;refine F.v4.call ?_;simp only[aDk];simp only[aH]at hr ⊢;simp only[go_sem,↓aB,seval,hr]
def bB8(F:ij A q4 q6)(s:Shape)(hs:s.points.length<=1000)(hk:0<=s.kind/\s.kind<=2)(H:LO):aG A 204 [.agg (aH s)] H=N1 (.bool (!q6 s),H,[]):=by have hr:=F.simple s hs hk H;refine F.v6.call ?_;simp only[aDm];simp only[aH]at hr ⊢;simp only[go_sem,↓aB,seval,hr]
def bB9(F:ij A q4 q6){l:List Shape}(s:Shape)(hs:s.points.length<=1000){X:LO}(ho:X[o]? = N1 (.box 1 [.fn 198 [] [aWo w hh l]])):∃r:Bool,aG A 202 [.agg (aH s),.ptr o 1 0] X=N1 (.bool r,X,[])/\((∀p∈s.points,(0<=p.1/\p.1<=w)/\0<=p.2/\p.2<=hh)->r=Po):=by
 obtain⟨r,hr,hf⟩:=aBX (H:=X) F.conP aGu (bIJ.ep [vi w,vi hh,.sl Po (l.map aH)] 0) (by show s.points.length<_;omega) (λp _=>⟨_,bB5 F (w:=w) (hh:=hh) (l:=l) p _⟩);refine⟨r,F.v5.call ?_,λh=>hf λp hp=>?_⟩
 .simp only[aDl];simp only[go_sem,↓aB,seval,aH,ho,hr]
 have:=h p hp;show aG A 198 [.agg (bL p),aWo w hh l] X=_;rw[bB5 F p X]
 grind
abbrev aDn(w h:Int)(l:List Shape):LA:=[vi w,vi h,.sl Po (l.map aH)]
def aJz(F:ij A q4 q6)(w hh:Int)(l:List Shape)(hw:1<=w/\w<=1000)(hh2:1<=hh/\hh<=1000)(hl:l.length<=8)(hs:∀s∈l,vQ s=Pa)(H:LO):∃e:Int,aG A 139 [.agg (aDn w hh l)] H=N1 (vi e,H,[])/\((∀s∈l,(q4 s=Pa/\q6 s=Pa)/\s.points.length<=12/\∀p∈s.points,(0<=p.1/\p.1<=w)/\0<=p.2/\p.2<=hh)->e=0):=by
 have Wo:∀s∈l,s.points.length<=1000/\0<=s.kind/\s.kind<=2:=λs hm=>by
  have q1:=hs s hm;unfold vQ at q1;simp only[AI,eG]at q1;omega
 obtain⟨v,H',wr,h1,rfl,rfl,m,rfl,h2⟩:=F.valid.bp (args:=[.agg (aDn w hh l)]) (H:=H) (K:=λv H' wr=>wr=[]/\H'=H/\∃r:Int,v=vi r/\((∀s∈l,(q4 s=Pa/\q6 s=Pa)/\s.points.length<=12/\∀p∈s.points,(0<=p.1/\p.1<=w)/\0<=p.2/\p.2<=hh)->r=0)) (by
  generalize hX:H++[.box 1 [.fn 198 [] [aWo w hh l]]]=X;have ho:X[H.length]? = N1 (.box 1 [.fn 198 [] [aWo w hh l]]):=uWa
  obtain⟨r3,g3,z3⟩:=aSb F (w:=w) (hh:=hh) (l:=l) omT bIJ (H:=X) (f1:=199) (λs hm=>⟨_,bB6 F s X⟩);obtain⟨r4,g4,z4⟩:=aSb F (w:=w) (hh:=hh) (l:=l) omT bIJ (H:=X) (f1:=200) (λs hm=>⟨_,bB7 F s (Wo s hm).1 (Wo s hm).2 X⟩);obtain⟨r5,g5,z5⟩:=aSb F (w:=w) (hh:=hh) (l:=l) omT (bIJ.ptr H.length 1 0) (H:=X) (f1:=202) (λs hm=>by obtain⟨r,h,_⟩:=bB9 F s (Wo s hm).1 ho;grind);obtain⟨r6,g6,z6⟩:=aSb F (w:=w) (hh:=hh) (l:=l) omT bIJ (H:=X) (f1:=204) (λs hm=>⟨_,bB8 F s (Wo s hm).1 (Wo s hm).2 X⟩);have hz:(∀s∈l,(q4 s=Pa/\q6 s=Pa)/\s.points.length<=12/\∀p∈s.points,(0<=p.1/\p.1<=w)/\0<=p.2/\p.2<=hh)->r3=Po/\r4=Po/\r5=Po/\r6=false:=λhg=>by
   refine⟨z3 λs hm=>?_,z4 λs hm=>?_,z5 λs hm=>?_,z6 λs hm=>?_⟩
   .grind [bB6]
   .rw[bB7 F s (Wo s hm).1 (Wo s hm).2 X,(hg s hm).1.1];rfl
   .obtain⟨r,h,h0⟩:=bB9 F s (Wo s hm).1 ho;rw[h,h0 (hg s hm).2.2]
   rw[bB8 F s (Wo s hm).1 (Wo s hm).2 X,(hg s hm).1.2];rfl
  subst hX;simp only[aGS];simp only[go_sem,↓aB,seval];simp only[aBW];have c1:decide ((if hh<w then hh else w)<0)=false:=uWa
  have c2:decide ((if w<hh then hh else w)>1000)=false:=uWa
  have c3:decide ((l.length:Int)>8)=false:=uWa
  cases r3 with
  |true=>
   simp only[go_sem,↓aB,seval,c1,c2,c3,g3]
   grind
  |false=>
  cases r4 with
  |true=>
   simp only[go_sem,↓aB,seval,c1,c2,c3,g3,g4]
   grind
  |false=>
  cases r5 with
  |true=>
   simp only[go_sem,↓aB,seval,c1,c2,c3,g3,g4,g5]
   grind
  |false=>
  cases r6 with
  |true=>
   simp only[go_sem,↓aB,seval,c1,c2,c3,g3,g4,g5,g6]
   grind
  |false=>
   simp only[go_sem,↓aB,seval,c1,c2,c3,g3,g4,g5,g6]
   grind)
 grind
end
abbrev aAB:=bTw 236 (bJ6 587)
abbrev aAC:LN:=[]
def aAD:=(.mk _:bb 236 (bIF 27 [(36,.region Pa aAB)])).x
def tC:=(.mk _:bb 236 (bIC [(27,aAD)])).x
abbrev aGT:=bTw 146 (bJ6 5)
abbrev aAE:LN:=[1,2]
def aAF:=(.mk _:bb 146 (bIC [(5,.region Pa aGT)])).x
abbrev aTd:ag:=qS [qq 4 (.alloc [z0,z0,z0,z0]),qs 4 4 9]<|.block 1 (.seq (.region Pa aAB)<|.region Po [ql 24 1 3,qm 25 5,qm 26 5,qq 27 (.un .neg (u 26)),qm 28 6,qm 29 6,qq 30 (.un .neg (u 29)),qq 31 (.mm Pa [(.tmp 25),(.tmp 27),(.tmp 28),(.tmp 30)]),qb 32 .add 24 31,qs 1 3 32])
section
variable {A:af}
def LnI(H:LO)(x0:ah)(X:LO):Prop:=∃(n:Int)(x3:ah)(l:LA),X=H++[x0,.box 1 [vi n],.rnd 1 H.length [1,3,9,4] [9] aTd l Po N2,x3]/\l.length=34/\ck l 3=.ptr (H.length+1) 1 0
def aV3(hY:sn A)(H:LO)(x0:ah):aAv A (H.length+2) 1 H.length (H.length+4) (λ_=>LnI H x0) (λ_=>False):=by
 refine⟨λi X hX=>?_,λX hX=>hX.elim,λi X a b c d hi hX=>?_⟩
 .obtain⟨n,x3,l,rfl,_⟩:=hX;simp
 obtain⟨n,x3,l,rfl,hl,h3⟩:=hX;refine mT hY (K:=λe H' wr=>(if e=.normal then LnI H x0 H' else False)/\∀x∈wr,H.length<=x) (N:=34) (l:=l) (by rw[bX];rfl) rfl bIv bIv hl ?_;have hs:ck (dH l [9] [.agg [vi a,vi b,vi c,vi d]])=upd (ck l) 9 (.agg [vi a,vi b,vi c,vi d]):=nG omT;rw[hs];generalize hρ:ck l=ρ at *;simp only[DO,CW];have fq:∀{w2:LN}{n:Nat},(∀x∈w2,H.length<=x)->∀x∈FM H.length n++(H.length+2)::w2,H.length<=x:=λ{w2 n} h x hx=>by
  rcases AY.1 hx with hx|hx
  .rw[FC]at hx;exact hx.1
  rcases BD.1 hx with rfl|hx
  .omega
  exact h x hx
 simp only[go_sem,↓aB,seval];refine⟨_,_,_,_,_,rfl, ?_⟩;refine aY (aq:=aAC) rfT rfT ?_;simp only[go_sem,↓aB,seval,aAC,h3];exact⟨_,_,_,_,_,rfl,⟨_,_,l,rfl,hl,by rw[hρ];exact h3⟩,fq siT⟩
def aL0(F:PlaneFns A)(h:Has A 236 tC)(s:Shape)(hs:s.points.length<=1000)(H:LO):∃n:Int,aG A 236 [.agg (aH s)] H=N1 (vi n,H,[]):=by
 obtain⟨v,H',wr,h1,rfl,rfl,m,rfl⟩:=h.bp (args:=[.agg (aH s)]) (H:=H) (K:=λv H' wr=>wr=[]/\H'=H/\∃n:Int,v=vi n) (by
  have ot:=λH=>lG F.seg s H;simp only[tC];simp only[aH]at ot ⊢;simp only[go_sem,↓aB,seval,ot];simp only[aAD];simp only[go_sem,seval];generalize ah.box 1 [vi s.kind,AV.sl Po (s.points.map bL)]=x0;refine wC (id:=H.length+2) (v:=1) (X:=λl=>H++[x0,.box 1 [vi 0],.rnd 1 H.length [1,3,9,4] [9] aTd l Po N2,.gone 0]) rfT rfT siT (λ_=>rfT) (by unfold bH;rw[bX];rfl) (λl=>by rw[sV];rfl) ?_;intro l hl he;obtain⟨H2,en,k1,k2,k3⟩:=wD F.zy (aV3 F.yf H x0) s.kind s.points hs _ (⟨0,.gone 0,l,rfl,hl,by rw[he];rfl⟩:LnI H x0 _);have hw:bE H.length [] ((H.length+2)::en)=[]:=kH (λx hx=>by rcases BD.1 hx with rfl|hx;exact EG _ _;exact k3 x hx);rcases k2 with⟨i,hi,n,x3,l2,rfl,iq,_⟩ | k2
  .refine⟨_,_,_,_,_,_,_,_,N2,k1,by rw[bX];rfl, ?_⟩;rw[hw,eS];show pP 0 _ _ .normal _ _ _;simp only[go_sem,↓aB,seval];exact⟨_,rfl⟩
  exact k2.elim)
 exact⟨m,h1⟩
def aQ5(F:PlaneFns A)(h:Has A 236 tC)(h2:Has A 146 aAF)(s t:Shape)(hs:s.points.length<=1000)(ht:t.points.length<=1000)(H:LO):∃r:Bool,aG A 146 [.agg (aH s),.agg (aH t)] H=N1 (.bool r,H,[]):=by obtain⟨n,hn⟩:=aL0 F h s hs H;obtain⟨m,hm⟩:=aL0 F h t ht H;refine⟨decide (n>m),h2.call ?_⟩;simp only[aAF];simp only[aH]at hn hm ⊢;simp only[go_sem,↓aB,seval];refine aY (aq:=aAE) rfT rfT ?_;simp only[go_sem,↓aB,seval,aAE,hn,hm,eH,dG,aL]
end
def rE:=(.mk _:bb 232 (bIF 331 [])).x
def aAG:=(.mk _:bb 232 (bIF 27 [(20,rE)])).x
def oY:=(.mk _:bb 232 (bIC [(27,aAG)])).x
abbrev aQ6:ag:=qS [qq 6 (.alloc [z0,z0,z0,z0]),qs 4 6 9]<|.block 1 rE
section
variable {A:af}
def WtI(H:LO)(px py:Int)(pend:Option bf)(X:LO):Prop:=∃(n:Int)(x3:ah)(l:LA),X=H++[.box 1 [.bool Po],.box 1 [vi n],.rnd 1 H.length [4,5,9,6] [9] aQ6 l Po pend,x3]/\l.length=68/\ck l 4=.ptr H.length 1 0/\ck l 5=.ptr (H.length+1) 1 0/\ck l 2=.ep [vi px,vi py] 0
def aV4(F:PlaneFns A)(H:LO)(px py:Int):aAv A (H.length+2) 1 H.length (H.length+4) (λ_=>WtI H px py N2) (WtI H px py (N1 .ret)):=by
 refine⟨λi X hX=>?_,λX hX=>?_,λi X a b c d hi hX=>?_⟩
 .obtain⟨n,x3,l,rfl,_⟩:=hX;simp
 .obtain⟨n,x3,l,rfl,_⟩:=hX;simp
 obtain⟨n,x3,l,rfl,hl,h4,h5,h2⟩:=hX;refine mT F.yf (K:=λe H' wr=>(if e=.normal then WtI H px py N2 H' else WtI H px py (N1 .ret) H')/\∀x∈wr,H.length<=x) (N:=68) (l:=l) (by rw[bX];rfl) rfl bIv bIv hl ?_;have hs:ck (dH l [9] [.agg [vi a,vi b,vi c,vi d]])=upd (ck l) 9 (.agg [vi a,vi b,vi c,vi d]):=nG omT;rw[hs];generalize hρ:ck l=ρ at *;simp only[DO,CW];have fq:∀{w2:LN}{n:Nat},(∀x∈w2,H.length<=x)->∀x∈FM H.length n++(H.length+2)::w2,H.length<=x:=λ{w2 n} h x hx=>by
  rcases AY.1 hx with hx|hx
  .rw[FC]at hx;exact hx.1
  rcases BD.1 hx with rfl|hx
  .omega
  exact h x hx
 have s13:(⟨H.length,[4,5,9,6,YF+(H.length+2),YF+1]⟩:Ctx).site (N1 13)=none:=aBm rfT deT;have s35:(⟨H.length,[4,5,9,6,YF+(H.length+2),YF+1]⟩:Ctx).site (N1 35)=none:=aBm rfT deT;have s61:(⟨H.length,[4,5,9,6,YF+(H.length+2),YF+1]⟩:Ctx).site (N1 61)=none:=aBm rfT deT;simp only[go_sem,↓aB,seval];refine⟨_,_,_,_,_,rfl, ?_⟩;simp only[rE];generalize hHH:H++[ah.box 1 [.bool Po],.box 1 [vi n],.rnd 1 H.length [4,5,9,6] [9] aQ6 l Pa N2,.box (x3.ver+1) [vi a,vi b,vi c,vi d]]=HH;obtain⟨r1,gj⟩:=aJy F.on F.oe px py a b c d HH;obtain⟨m1,V9⟩:=aEu F.oe a b c d px py HH;subst hHH;have B:True:=trivial;cases r1 with
 |true=>simp only[go_sem,↓aB,seval,h4,h2,s13,gj];exact⟨_,_,_,_,_,rfl,⟨_,_,l,rfl,hl,by rw[hρ];exact h4,by rw[hρ];exact h5,by rw[hρ];exact h2⟩,fq siT⟩
 |false=>
  have e4:decide (b>py) = !decide (b<=py):=by rw[DS];simp
  have e5:decide (d<=py) = !decide (d>py):=by rw[DS];simp
  cases e1:decide (b<=py)<;>cases e2:decide (d>py)<;>cases e3:decide (m1>0)<;>cases e6:decide (m1<0)<;>
   (rw[e1]at e4;rw[e2]at e5;simp only[go_sem,↓aB,seval,h5,h2,s13,s35,s61,gj,V9,e1,e2,e3,e4,e5,e6,Aa];exact⟨_,_,_,_,_,rfl,⟨_,_,l,rfl,hl,by rw[hρ];exact h4,by rw[hρ];exact h5,by rw[hρ];exact h2⟩,fq siT⟩)
def aQ7(F:PlaneFns A)(h:Has A 232 oY)(px py:Int)(s:Shape)(hs:s.points.length<=1000)(H:LO):∃r:Bool,aG A 232 [P2 px py,.agg (aH s)] H=N1 (.bool r,H,[]):=by
 obtain⟨v,H',wr,h1,rfl,rfl,m,rfl⟩:=h.bp (args:=[P2 px py,.agg (aH s)]) (H:=H) (K:=λv H' wr=>wr=[]/\H'=H/\∃r:Bool,v=.bool r) (by
  have ot:=λH=>lG F.seg s H;simp only[oY];simp only[aH]at ot ⊢;simp only[go_sem,↓aB,seval,ot];simp only[aAG];simp only[go_sem,seval];refine wC (v:=1) (X:=λl=>H++[.box 1 [.bool Po],.box 1 [vi 0],.rnd 1 H.length [4,5,9,6] [9] aQ6 l Po N2,.gone 0]) rfT rfT siT (λ_=>rfT) (by unfold bH;rw[bX];rfl) (λl=>by rw[sV];rfl) ?_;intro l hl he;obtain⟨H2,en,k1,k2,k3⟩:=wD F.zy (aV4 F H px py) s.kind s.points hs _ (⟨0,.gone 0,l,rfl,hl,by rw[he];rfl,by rw[he];rfl,by rw[he];rfl⟩:WtI H px py N2 _);have hw:bE H.length [] ((H.length+2)::en)=[]:=kH (λx hx=>by rcases BD.1 hx with rfl|hx;exact EG _ _;exact k3 x hx);rcases k2 with⟨i,hi,n,x3,l2,rfl,iq,_⟩ | ⟨n,x3,l2,rfl,iq,_⟩
  .refine⟨_,_,_,_,_,_,_,_,N2,k1,by rw[bX];rfl, ?_⟩;rw[hw,eS];simp only[go_sem,↓aB,seval];exact⟨_,rfl⟩
  refine⟨_,_,_,_,_,_,_,_,N1 .ret,k1,by rw[bX];rfl, ?_⟩;rw[hw,eS];simp only[go_sem,↓aB,seval];exact⟨_,rfl⟩)
 exact⟨m,h1⟩
end
abbrev aL1:=bTw 235 (bJ6 11)
abbrev aF4:LN:=[5,7,10]
abbrev aL2:=bTw 235 (bIF 151 [])
abbrev aL3:=bTw 235 (bJ6 47)
abbrev aF5:LN:=[1,2]
def aDo:=(.mk _:bb 235 (bIC [(11,.region Pa aL1),(151,aL2),(47,.region Pa aL3)])).x
def aEv:=(.mk _:bb 145 bTx).x
section
variable {A:af}
def aTe(h:Has A 235 aDo)(s:Shape)(hs:s.points.length<=1000)(H:LO):∃a b c d:Int,aG A 235 [.agg (aH s)] H=N1 (.tup [P2 a b,P2 c d],H,[]):=by
 obtain⟨v,H',wr,h1,rfl,rfl,a,b,c,d,rfl⟩:=h.bp (args:=[.agg (aH s)]) (H:=H) (K:=λv H' wr=>wr=[]/\H'=H/\∃a b c d:Int,v=.tup [P2 a b,P2 c d]) (by
  simp only[aDo];cases hp:s.points with
  |nil=>simp only[go_sem,↓aB,seval,aH,hp];simp only[go_sem,↓aB,seval,iE,aEP,aNP];exact⟨_,_,_,_,rfl⟩
  |cons p ps=>
   have hz:(((ps.length+1:Nat):Int)==0)=false:=soT;have Qk:ps.length+1<=1000:=by rw[hp]at hs;exact hs
   simp only[go_sem,↓aB,seval,aH,hp,hz];refine aY (aq:=aF4) (H0:=_) (by simp only[go_sem,seval,cS];rfl) rfT ?_;simp only[go_sem,↓aB,seval,aF4,bL,eH,dG,aL];have hrw:([vi p.1,vi p.2]::ps.map bL)=(p::ps).map bL:=rfl;rw[hrw];have hlenP:(p::ps).length=ps.length+1:=rfl;rw[<- hlenP]at Qk ⊢;generalize (p::ps)=L at *;refine bJ (id:=0) (λi ρ1 H1 wr=>wr=[]/\ρ1 25=vi (i:Nat)/\∃(x0:ah)(x1 x2:LA)(a b c d:Int)(x5:ah),H1=H++[x0,.box 1 x1,.box 1 x2,.box 1 [vi a,vi b],.box 1 [vi c,vi d],x5]/\x1.length=2/\x2.length=2) L.length
    (λρ1 H1 wr=>wr=[]/\∃(x0:ah)(x1 x2:LA)(a b c d:Int)(x5:ah),H1=H++[x0,.box 1 x1,.box 1 x2,.box 1 [vi a,vi b],.box 1 [vi c,vi d],x5]/\x1.length=2/\x2.length=2) bIv rfl ⟨rfl,rfl,_,_,_,_,_,_,_,_,rfl,rfl,rfl⟩ ?_ ?_
   .rintro i ρ1 H1 dc mg ⟨rfl,e25,x0,x1,x2,a,b,c,d,x5,rfl,l1,l2⟩ hf;have f23:ρ1 23=.sl Po (L.map bL):=hf 23 rfl;have f24:ρ1 24=vi (L.length:Nat):=hf 24 rfl;have f4:ρ1 4=.ptr (H.length+3) 1 0:=hf 4 rfl;have f5:ρ1 5=.ptr (H.length+4) 1 0:=hf 5 rfl;simp only[go_sem,↓aB,seval,e25,f24];refine aD (λe3=>?_) (λe3=>?_)
    .have hlt:i<L.length:=by simp at e3;omega
     have dy:=wS (i:=i) omT;have cj:=mgE bL hlt;generalize L[i]=q at *;simp only[go_sem,↓aB,seval,e25,f23,f4,f5,cj,hlt,bL,dy];exact⟨_,_,_,_,_,_,_,_,rfl,l1,l2⟩
    have:i=L.length:=by simp at e3;omega
    subst this;simp only[go_sem,seval];exact⟨_,_,_,_,_,_,_,_,rfl,l1,l2⟩
   rintro ρ' H' ba ⟨rfl,x0,x1,x2,a,b,c,d,x5,rfl,l1,l2⟩ hf;have f2:ρ' 2=.ptr (H.length+1) 1 0:=hf 2 rfl;have f3:ρ' 3=.ptr (H.length+2) 1 0:=hf 3 rfl;have f4:ρ' 4=.ptr (H.length+3) 1 0:=hf 4 rfl;have f5:ρ' 5=.ptr (H.length+4) 1 0:=hf 5 rfl
   match x1,l1,x2,l2 with
   | [u1,u2],_,[v1,v2],_=>
   simp only[go_sem,seval];refine aY (aq:=aF5) rfT rfT ?_;simp only[go_sem,↓aB,seval,aF5,f2,f3,f4,f5,eH,dG,aL,iE,aEP,aNP];exact⟨_,_,_,_,rfl⟩)
 exact⟨a,b,c,d,h1⟩
def aV5(h:Has A 235 aDo)(h2:Has A 145 aEv)(s t:Shape)(hs:s.points.length<=1000)(ht:t.points.length<=1000)(H:LO):∃r:Bool,aG A 145 [.agg (aH s),.agg (aH t)] H=N1 (.bool r,H,[]):=by
 obtain⟨v,H',wr,h1,rfl,rfl,m,rfl⟩:=h2.bp (args:=[.agg (aH s),.agg (aH t)]) (H:=H) (K:=λv H' wr=>wr=[]/\H'=H/\∃r:Bool,v=.bool r) (by
  obtain⟨a,b,c,d,fo⟩:=aTe h s hs (H++[.gone 0,.gone 0,.gone 0,.gone 0]);obtain⟨a',b',c',d',dp⟩:=aTe h t ht (H++[.box 1 [vi a,vi b],.box 1 [vi c,vi d],.gone 0,.gone 0]);simp only[aEv];simp only[aH]at fo dp ⊢;simp only[go_sem,↓aB,seval,fo,dp];cases e1:decide ((s.points.length:Int)>0)with
  |false=>simp only[go_sem,↓aB,seval,Aa];exact⟨_,rfl⟩
  |true=>cases e2:decide ((t.points.length:Int)>0)with
   |false=>simp only[go_sem,↓aB,seval,e2,Aa];exact⟨_,rfl⟩
   |true=>simp only[go_sem,↓aB,seval,e2];exact⟨_,rfl⟩)
 exact⟨m,h1⟩
end
def rF:=(.mk _:bb 144 (bIF 1687 [])).x
def aAH:=(.mk _:bb 144 (bIF 55 [(52,rF)])).x
def aAI:=(.mk _:bb 144 (bIC [(55,aAH)])).x
def oP:=(.mk _:bb 231 bTx).x
section
variable {A:af}
def aOk{x:aa}{ps:LN}{tg:Tg (A,N,c,ag.dz x ps body,Q)}{id f:Nat}(hx:x.at ρ=.fn f first ay)(hs:c.site ps.head? = N1 id)(hid:id<H.length)(ht:eZ c H=Pa){v:Nat}(hv:bH H id=v)(hm:∀l,(make H id λv=>.rnd v c.base c.sites ps body l Po N2)=X l)(h:∀l:LA,l.length=N->ck l=ρ->∃r H2 en b' s' p' cc' r' pend,aG A f (first++.yld id v::ay) (X l)=N1 (r,H2,en) /\ H2[id]? = N1 (.rnd v b' s' p' cc' r' Po pend)/\eZ c H2=Pa/\Q (pend.getD .normal) ρ (H2.set id (.gone v)) (bE c.base wr (id::en))):wc A N c (.dz x ps body) ρ H wr Q tg:=by subst hv;unfold wc;rw[wpc];intro l hl he;obtain⟨r,H2,en,b',s',p',cc',r',pend,h1,h2,h4,h3⟩:=h l hl he;rw[<- hm l]at h1;obtain⟨n,hn⟩:=oM h1;refine⟨n+1,pend.getD .normal,⟨l,H2.set id (.gone (bH H id)),bE c.base wr (id::en)⟩, ?_,hl,by rw[he];exact h3⟩;rw[iU,aa.ka];dsimp only;rw[he,hx,hs];dsimp only;rw[Vx ⟨hid,ht⟩,hn];dsimp only;rw[h2];dsimp only;rw[Vx ⟨rfl,h4⟩]
def aIE{b t:Nat}{l ys:LN}(h:l.contains t=Po)(ht:t<YF)(hy:∀y∈ys,YF<=y):(⟨b,l++ys⟩:Ctx).site (N1 t)=none:=by
 unfold Ctx.site
 grind
abbrev aQ8:ag:=qS [qq 6 (.alloc [z0,z0,z0,z0]),qs 4 6 25]<|.block 3 (qS [qla 26 4 5,qla 27 4 6,qc 28 234 [u 26,u 27]]<|qC 28 (qS [qz (.store 1 (u 4) uF)]<|.ret) (.skip))
def InI(H:LO)(x1:ah)(v5 v2 o1:Nat)(a1 b1 c1 d1:Int)(pend:Option bf)(X:LO):Prop:=∃(x4:ah)(l:LA),X=H++[.box 1 [.bool Po],x1,.box v5 [vi a1,vi b1,vi c1,vi d1],.rnd v2 H.length [4,22,5,25,6,YF+o1,YF+1] [25] aQ8 l Po pend,x4] /\
 l.length=29/\ck l 4=.ptr H.length 1 0/\ck l 5=.ptr (H.length+2) v5 0
def aV6(F:PlaneFns A)(H:LO)(x1:ah)(v5 v2 o1:Nat)(a1 b1 c1 d1:Int):aAv A (H.length+3) v2 H.length (H.length+5) (λ_=>InI H x1 v5 v2 o1 a1 b1 c1 d1 N2) (InI H x1 v5 v2 o1 a1 b1 c1 d1 (N1 .ret)):=by
 refine⟨λi X hX=>?_,λX hX=>?_,λi X a b c d hi hX=>?_⟩
 .obtain⟨x4,l,rfl,_⟩:=hX;simp
 .obtain⟨x4,l,rfl,_⟩:=hX;simp
 obtain⟨x4,l,rfl,hl,h4,h5⟩:=hX;refine mT F.yf (K:=λe H' wr=>(if e=.normal then InI H x1 v5 v2 o1 a1 b1 c1 d1 N2 H' else InI H x1 v5 v2 o1 a1 b1 c1 d1 (N1 .ret) H')/\∀x∈wr,H.length<=x) (N:=29) (l:=l) (by rw[bX];rfl) rfl bIv bIv hl ?_;have hs:ck (dH l [25] [.agg [vi a,vi b,vi c,vi d]])=upd (ck l) 25 (.agg [vi a,vi b,vi c,vi d]):=nG omT;rw[hs];generalize hρ:ck l=ρ at *;simp only[DO,CW];have fq:∀{w2:LN}{n:Nat},(∀x∈w2,H.length<=x)->∀x∈FM H.length n++(H.length+3)::w2,H.length<=x:=λ{w2 n} h x hx=>by
  grind
 have s28:(⟨H.length,[4,22,5,25,6,YF+o1,YF+1,YF+(H.length+3),YF+v2]⟩:Ctx).site (N1 28)=none:=aIE (l:=[4,22,5,25,6]) (ys:=[YF+o1,YF+1,YF+(H.length+3),YF+v2]) rfT deT (λy hy=>by grind);simp only[go_sem,↓aB,seval];refine⟨_,_,_,_,_,rfl, ?_⟩;generalize hHH:H++[ah.box 1 [.bool Po],x1,.box v5 [vi a1,vi b1,vi c1,vi d1],.rnd v2 H.length [4,22,5,25,6,YF+o1,YF+1] [25] aQ8 l Pa N2,.box (x4.ver+1) [vi a,vi b,vi c,vi d]]=HH;obtain⟨r1,gj⟩:=aQ1 F a1 b1 c1 d1 a b c d HH;subst hHH;cases r1 with
 |true=>simp only[go_sem,↓aB,seval,h4,h5,s28,gj];exact⟨_,_,_,_,_,rfl,⟨_,l,rfl,hl,uWl,uWl⟩,fq siT⟩
 |false=>simp only[go_sem,↓aB,seval,h5,s28,gj];exact⟨_,_,_,_,_,rfl,⟨_,l,rfl,hl,uWl,uWl⟩,fq siT⟩
def aJA{b v:Nat}{l:LN}{X:LO}{b':Nat}{s' p':LN}{c':ag}{r':LA}(h:X[o]? = N1 (.rnd v b' s' p' c' r' Pa N2)):eZ ⟨b,l++[YF+o,YF+v]⟩ X=true:=by simp_all [Ctx.rd,YF,List.reverse_append,Vx,EG,FL,eZ]
abbrev aJB:ag:=qS [qq 5 (.alloc [z0,z0,z0,z0]),qs 4 5 22]<|.block 1 (qS [qla 23 2 3,qc 24 233 [u 23]]<|rF)
def aYa(H:LO)(t:Shape)(pend:Option bf)(X:LO):Prop:=∃(x5 x3 x4:ah)(l:LA),X=H++[.box 1 [.bool Po],.rnd 1 H.length [4,22,5,25,6] [22] aJB l Po pend,x5,x3,x4] /\
 l.length=29/\ck l 4=.ptr H.length 1 0/\ck l 3=.ep (aH t) 0
def aSc(F:PlaneFns A)(H:LO)(t:Shape)(ht:t.points.length<=1000):aAv A (H.length+1) 1 H.length (H.length+5) (λ_=>aYa H t N2) (aYa H t (N1 .ret)):=by
 refine⟨λi X hX=>?_,λX hX=>?_,λi X a b c d hi hX=>?_⟩
 .obtain⟨x5,x3,x4,l,rfl,_⟩:=hX;simp
 .obtain⟨x5,x3,x4,l,rfl,_⟩:=hX;simp
 obtain⟨x5,x3,x4,l,rfl,hl,h4,h3⟩:=hX;refine mT F.yf (K:=λe H' wr=>(if e=.normal then aYa H t N2 H' else aYa H t (N1 .ret) H')/\∀x∈wr,H.length<=x) (N:=29) (l:=l) (by rw[bX];rfl) rfl bIv bIv hl ?_;have hs:ck (dH l [22] [.agg [vi a,vi b,vi c,vi d]])=upd (ck l) 22 (.agg [vi a,vi b,vi c,vi d]):=nG omT;rw[hs];generalize hρ:ck l=ρ at *;simp only[DO,CW];have fq:∀{w2:LN}{n:Nat},(∀x∈w2,H.length<=x)->∀x∈FM H.length n++(H.length+1)::w2,H.length<=x:=λ{w2 n} h x hx=>by
  rcases AY.1 hx with hx|hx
  .rw[FC]at hx;exact hx.1
  rcases BD.1 hx with rfl|hx
  .omega
  exact h x hx
 have s24:(⟨H.length,[4,22,5,25,6,YF+(H.length+1),YF+1]⟩:Ctx).site (N1 24)=none:=aIE (l:=[4,22,5,25,6]) (ys:=[YF+(H.length+1),YF+1]) rfT deT (λy hy=>by simp at hy;omega);have ot:=λH=>lG F.seg t H;simp only[aH]at ot h3;simp only[go_sem,↓aB,seval];refine⟨_,_,_,_,_,rfl, ?_⟩;simp only[go_sem,↓aB,seval,h3,s24,ot];simp only[rF];simp only[go_sem,seval];refine aOk (id:=H.length+3) (v:=x3.ver+1) (X:=λl2=>H++[.box 1 [.bool Po],.rnd 1 H.length [4,22,5,25,6] [22] aJB l Pa N2,.box (x5.ver+1) [vi a,vi b,vi c,vi d],.rnd (x3.ver+1) H.length [4,22,5,25,6,YF+(H.length+1),YF+1] [25] aQ8 l2 Po N2,x4]) rfT rfT siT (aJA (l:=[4,22,5,25,6]) (by rw[bX];rfl)) (by unfold bH;rw[bX];rfl) (λl=>by rw[sV];rfl) ?_;intro l2 iq he2;obtain⟨H2,en,k1,k2,k3⟩:=wD F.zy (aV6 F H (.rnd 1 H.length [4,22,5,25,6] [22] aJB l Pa N2) (x5.ver+1) (x3.ver+1) (H.length+1) a b c d) t.kind t.points ht _ (⟨x4,l2,rfl,iq,by rw[he2];exact h4,by rw[he2];rfl⟩:InI H _ _ _ _ a b c d N2 _);have hw:bE H.length [] ((H.length+3)::en)=[]:=kH (λx hx=>by rcases BD.1 hx with rfl|hx;exact EG _ _;exact k3 x hx);rcases k2 with⟨i,_,x4',l2',rfl,hl2',_⟩ | ⟨x4',l2',rfl,hl2',_⟩
 .refine⟨_,_,_,_,_,_,_,_,N2,k1,by rw[bX];rfl,aJA (l:=[4,22,5,25,6]) (by rw[bX];rfl), ?_⟩;rw[hw,eS];show pP 2 _ _ .normal _ _ _;simp only[go_sem,seval];exact⟨_,_,_,_,_,rfl,⟨_,_,_,l,rfl,hl,by rw[hρ];exact h4,by rw[hρ];simpa only[aH]using h3⟩,fq siT⟩
 refine⟨_,_,_,_,_,_,_,_,N1 .ret,k1,by rw[bX];rfl,aJA (l:=[4,22,5,25,6]) (by rw[bX];rfl), ?_⟩;rw[hw,eS];show pP 2 _ _ .ret _ _ _;simp only[go_sem,seval];exact⟨_,_,_,_,_,rfl,⟨_,_,_,l,rfl,hl,by rw[hρ];exact h4,by rw[hρ];simpa only[aH]using h3⟩,fq siT⟩
end
section
variable {A:af}
def aYb(F:PlaneFns A)(hw:Has A 232 oY)(h:Has A 231 oP)(p:Int×Int)(t:Shape)(ht:t.points.length<=1000)(H:LO):∃r:Bool,aG A 231 [.agg (bL p),.ep (aH t) 0] H=N1 (.bool r,H,[]):=by obtain⟨r,hr⟩:=aQ7 F hw p.1 p.2 t ht H;refine⟨!r,h.call ?_⟩;simp only[oP];simp only[aH,bL]at hr ⊢;simp only[go_sem,↓aB,seval,hr]
def aQ9(F:PlaneFns A)(hw:Has A 232 oY)(hc:aAA A 203 2 Pa)(h1:Has A 231 oP)(h:Has A 144 aAI)(s t:Shape)(hs:s.points.length<=1000)(ht:t.points.length<=1000)(H:LO):∃r:Bool,aG A 144 [.agg (aH s),.agg (aH t)] H=N1 (.bool r,H,[]):=by
 obtain⟨v,H',wr,h1,rfl,rfl,m,rfl⟩:=h.bp (args:=[.agg (aH s),.agg (aH t)]) (H:=H) (K:=λv H' wr=>wr=[]/\H'=H/\∃r:Bool,v=.bool r) (by
  have po:=λH=>aBX (H:=H) hc aGu (bIJ.ep (aH t) 0) (l:=s.points) (f1:=231) (by show s.points.length<_;omega) (λp _=>aYb F hw h1 p t ht H);obtain⟨r1,gj⟩:=po (H++[.box 1 [.bool Po],.gone 0,.gone 0,.gone 0,.gone 0]);have ot:=λH=>lG F.seg s H;simp only[aAI];simp only[aH]at ot gj ⊢;cases e1:(t.kind != 2)with
  |true=>simp only[go_sem,↓aB,seval,e1,CE];exact⟨_,rfl⟩
  |false=>
   cases e2:((s.points.length:Int)==0)with
   |true=>simp only[go_sem,↓aB,seval,e1,e2];exact⟨_,rfl⟩
   |false=>
    cases r1 with
    |true=>simp only[go_sem,↓aB,seval,e1,e2,gj];exact⟨_,rfl⟩
    |false=>
     simp only[go_sem,↓aB,seval,e1,e2,gj,ot];simp only[aAH];simp only[go_sem,seval];refine wC (id:=H.length+1) (v:=1) (X:=λl=>H++[.box 1 [.bool Po],.rnd 1 H.length [4,22,5,25,6] [22] aJB l Po N2,.gone 0,.gone 0,.gone 0]) rfT rfT siT (λ_=>rfT) (by unfold bH;rw[bX];rfl) (λl=>by rw[sV];rfl) ?_;intro l hl he;obtain⟨H2,en,k1,k2,k3⟩:=wD F.zy (aSc F H t ht) s.kind s.points hs _ (⟨.gone 0,.gone 0,.gone 0,l,rfl,hl,by rw[he];rfl,by rw[he];rfl⟩:aYa H t N2 _);have hw:bE H.length [] ((H.length+1)::en)=[]:=kH (λx hx=>by rcases BD.1 hx with rfl|hx;exact EG _ _;exact k3 x hx);rcases k2 with⟨i,hi,x5,x3,x4,l2,rfl,iq,_⟩ | ⟨x5,x3,x4,l2,rfl,iq,_⟩
     .refine⟨_,_,_,_,_,_,_,_,N2,k1,by rw[bX];rfl, ?_⟩;rw[hw,eS];show pP 0 _ _ .normal _ _ _;simp only[go_sem,↓aB,seval];exact⟨_,rfl⟩
     refine⟨_,_,_,_,_,_,_,_,N1 .ret,k1,by rw[bX];rfl, ?_⟩;rw[hw,eS];show pP 0 _ _ .ret _ _ _;simp only[go_sem,↓aB,seval];exact⟨_,rfl⟩)
 exact⟨m,h1⟩
end
def yQ:=(.mk _:bb 74 bTx).x
def jI:=(.mk _:bb 128 bTx).x
abbrev aBz:=bTw 76 (bJ6 5)
abbrev cL:LN:=[19,20,25,26]
def oH:=(.mk _:bb 76 (bIC [(5,.region Pa aBz)])).x
def aHJ(f:Fact):Bool:=wi f.kind 0 6&&wi f.block 0 7&&wi f.a 0 99&&wi f.b 0 99
def aOl(n:Int):Bool:=wi n 0 7
def aWp(q:Question):Bool:=wi q.kind 0 2&&aGx q.lk&&((q.options.length:Int)==(q.dv.length:Int))&&(wi q.options.length 0 6&&q.options.all (vP 1 40)) &&
 (wi q.dv.length 0 6&&q.dv.all (vP 0 60))&&(wi q.cy.length 0 8&&q.cy.all aOl)&&vP 0 40 q.key&&wi q.points 0 100
noncomputable def aGU(x:Item):Bool:=aO7 x.name&&(wi x.blocks.length 0 8&&x.blocks.all dQ)&&(wi x.facts.length 0 8&&x.facts.all aHJ)&&(wi x.ask.length 0 4&&x.ask.all aWp)
section
variable {A:af}{tB:Nat}
def aMe(h:Has A 74 yQ)(hw:eO A)(f:Fact)(H:LO):aG A 74 [.agg (aI f)] H=N1 (.bool (aHJ f),H,[]):=by
 refine h.call ?_;simp only[yQ,aHJ];have h1:=λH=>hw f.kind 0 6 H;have h2:=λH=>hw f.block 0 7 H;have h3:=λH=>hw f.a 0 99 H;have h4:=λH=>hw f.b 0 99 H;cases e1:wi f.kind 0 6 with
 |false=>simp only[go_sem,↓aB,seval,aI,h1,e1,Aa]
 |true=>cases e2:wi f.block 0 7 with
  |false=>simp only[go_sem,↓aB,seval,aI,h1,h2,e1,e2,Aa]
  |true=>cases e3:wi f.a 0 99 with
   |false=>simp only[go_sem,↓aB,seval,aI,h1,h2,h3,e1,e2,e3,Aa]
   |true=>simp only[go_sem,↓aB,seval,aI,h1,h2,h3,h4,e1,e2,e3]
def aQa(h:Has A 128 jI)(hw:eO A)(n:Int)(H:LO):aG A 128 [vi n] H=N1 (.bool (aOl n),H,[]):=by refine h.call ?_;have hw:=hw n 0 7;simp only[jI,aOl];simp only[go_sem,↓aB,seval,hw]
def aGV(h:Has A 76 oH)(h1:Has A 128 jI)(hB:kb A)(q:Question)(hq:q.Ok)(H:LO):aG A 76 [.agg (gR q)] H=N1 (.bool (aWp q),H,[]):=by
 refine h.call ?_;have hw:=kO hB.within;have ht:=qW hB.text hB.wg hB.sj hw;have tx:∀{s:Str},lI s->s.length<=1000000:=λh=>by have:_<=1000:=h;omega
 have k1:=λH=>hw q.kind 0 2 H;have k2:=λH=>aGy hB.runs hB.L8 hB.allR hw ht q.lk (by have:=hq.fg;omega) (λr hr=>tx (hq.lk r hr).text) H;have k4:=λH=>aBj hB q.options hq.lenO (λs hs=>tx (hq.options s hs)) 1 40 0 6 H;have k5:=λH=>aBj hB q.dv hq.vw (λs hs=>tx (hq.dv s hs)) 0 60 0 6 H;have k6:=λH=>hB.allI.spec hw aLX bIJ (l:=q.cy) (H:=H) (f1:=128) (q:=aOl) (lo:=0) (hi:=8) (by have:=hq.Q4;show q.cy.length<_;omega) λ_ n _=>aQa h1 hw n H;have k7:=λH=>ht q.key 0 40 H (tx hq.key);have k8:=λH=>hw q.points 0 100 H;have u1:=λH=>aDb hB.Sb 1 40 H;have u2:=λH=>aDb hB.Sb 0 60 H;simp only[oH,aWp];simp only[go_sem,↓aB,seval,gR];refine aY (aq:=cL) rfT rfT ?_;cases e1:wi q.kind 0 2 with
 |false=>simp only[go_sem,↓aB,seval,cL,k1,e1,Aa]
 |true=>cases e2:aGx q.lk with
  |false=>simp only[go_sem,↓aB,seval,cL,k1,k2,e1,e2,Aa]
  |true=>cases e3:((q.options.length:Int)==(q.dv.length:Int))with
   |false=>simp only[go_sem,↓aB,seval,cL,k1,k2,e1,e2,e3,Aa]
   |true=>cases e4:(wi q.options.length 0 6&&q.options.all (vP 1 40))with
    |false=>simp only[go_sem,↓aB,seval,cL,k1,k2,k4,u1,e1,e2,e3,e4,Aa,eH,dG,aL]
    |true=>cases e5:(wi q.dv.length 0 6&&q.dv.all (vP 0 60))with
     |false=>simp only[go_sem,↓aB,seval,cL,k1,k2,k4,k5,u1,u2,e1,e2,e3,e4,e5,Aa,eH,dG,aL]
     |true=>cases e6:(wi q.cy.length 0 8&&q.cy.all aOl)with
      |false=>simp only[go_sem,↓aB,seval,cL,k1,k2,k4,k5,k6,u1,u2,e1,e2,e3,e4,e5,e6,Aa,eH,dG,aL]
      |true=>cases e7:vP 0 40 q.key with
       |false=>simp only[go_sem,↓aB,seval,cL,k1,k2,k4,k5,k6,k7,u1,u2,e1,e2,e3,e4,e5,e6,e7,Aa,eH,dG,aL]
       |true=>simp only[go_sem,↓aB,seval,cL,k1,k2,k4,k5,k6,k7,k8,u1,u2,e1,e2,e3,e4,e5,e6,e7,eH,dG,aL]
end
end Go.AM
end
