/- Part 7. -/
import Derived.Test.YtkhdngmjkokcgaaGreatDoorK03
import Derived.Test.YtkhdngmjkokcgaaGreatDoorK06
set_option linter.all false
set_option maxHeartbeats 6400000
set_option maxRecDepth 100000
open Bool renaming false_beq->Aa,true_beq->CE,false_eq_true->BX,and_eq_true->AI,and_self->Hg,true->Pa,false->Po
open Go.IntKind renaming i64->AR,wrap->GA,bits->LK,signed->KC,u8->KD,wrap_i64->PW
open Go.Lib renaming indexByte->EV
open Int renaming tmod_nonneg->HV,tmod_lt_of_pos->GX,eq_ofNat_of_zero_le->DN,le_trans->Jo,tmod_eq_emod_of_nonneg->Ai,toNat_natCast->AT,cast_ofNat_Int->Am
open List renaming range->GZ,range_succ->LQ,map_append->DQ,flatMap_append->JK,length_append->BA,mem_flatMap->IM,mem_range->HE,append_assoc->CJ,length_filter_le->MJ,length_map->AF,getElem?_eq_getElem->AP,take_left->GU,append_nil->AJ,mem_cons->BD,length_cons->AW,count_eq_zero->NH,drop_left->KU,mem_cons_of_mem->BZ,getElem_mem->AS,take_length->DM,mem_map->DB,drop_eq_getElem_cons->FD,drop_length->JX,mem_singleton->CG,all_eq_true->AO,getElem?_cons_zero->BG,getElem?_cons_succ->CT,map_cons->BI,headD_nil->OW,headD_cons->ON,cons_append->DO,nil_append->CW,map_nil->BY,getElem?_map->BN,replicate->AX,map->DR,length->FN,take->FW,mem_cons_self->HD,length_nil->AZ,mem_append->AY,not_mem_nil->CC,mem_filter->OK,take_of_length_le->CH,drop->KW,nodup_append->NO,mem_of_getElem?->AN,getElem?_eq_some_iff->AH,take_succ_eq_append_getElem->EW,getElem?_drop->DF,length_drop->NS,foldl_cons->OE,mem_of_getLast?->Al,foldl_append->Ex,foldl_nil->Be,contains_eq_any_beq->As,map_eq_nil_iff->Ax
open Nat renaming succ_mul->JS,mul_le_mul->JL,le_refl->AQ,mul_one->FK,zero_le->FF,ble_eq_true_of_le->CI,pow_succ->PL,le_trans->HX,mul_le_mul_right->BO,add_assoc->EU
open Option renaming map_some->DE,some->N1,none->N2
open Option.some renaming injEq->AG
open UInt8 renaming ofNat->CN
noncomputable section
namespace Go.AM
open Go
variable {v w:AV}{k:AV×LO×LN->Prop}{b:Block}{kind at':Int}{H:LO}{rows:List LA}{l:List Shape}{base n a i m:Nat}{site:Option Nat}{o x:ah}
abbrev aFq:=bTw 444 (bIF 2457 [])
abbrev aFr:=bTw 444 (bIF 9 [(307,aFq)])
def yR:=(.mk _:bb 444 (bIC [(9,aFr)])).x
abbrev aDp:=bTw 445 (bIF 2457 [])
abbrev aDq:=bTw 445 (bIF 9 [(307,aDp)])
def rG:=(.mk _:bb 445 (bIC [(9,aDq)])).x
def aGW:=(.mk _:bb 434 bTx).x
def aDr:=(.mk _:bb 438 bTx).x
abbrev aEw:=List (Nat×Nat)
variable {p:aEw}{I:aEw->LO->Prop}
def aMf{wr:LN}:cJ base (v,H,wr)=(v,H.take base,wr)∨cJ base (v,H,wr)=(v,H,wr):=by
 unfold cJ
 grind
section
variable {A:af}
structure ux(A:af)(o v base n:Nat)(I:aEw->LO->Prop):Prop where
 len:∀p H,I p H->H.length=n
 go:∀p H X (a b:Nat),p.length<10000->a<1000->b<1000->I p H->∃(H':LO)(wr:LN),aG A YF [.own 0 [],.yld o v,vi a,vi b] (H++X)=N1 (.bool Pa,H'++X,wr)/\I (p++[(a,b)]) H'/\∀x∈wr,base<=x
def aV7(A:af)(f:Nat)(ay:LA)(L:aEw):Prop:=∀(o v base n:Nat)(I:aEw->LO->Prop)(H:LO),ux A o v base n I->I [] H ->
 ∃H' X wr,aG A f (.yld o v::ay) H=N1 (.tup [],H'++X,wr)/\I L H'/\∀x∈wr,base<=x
def aGX{o v:Nat}(hR:ux A o v base n I){X:LO}{b:Nat}(hp:p.length<10000)(ha:a<1000)(hb:b<1000)(hI:I p H){tg}(hk:∀H' wr,I (p++[(a,b)]) H'->(∀x∈wr,base<=x)->H'.length=H.length->k (.bool Pa,H'++X,wr)):aCi (cX (aG A) (H++X) site (.yld o v) [vi a,vi b]) k tg:=by
 obtain⟨H',wr,h1,h2,h3⟩:=hR.go p H X a b hp ha hb hI;have he:cX (aG A) (H++X) site (.yld o v) [vi a,vi b]=N1 (.bool Pa,H'++X,wr):=by rw[aGL];have:kA (H++X) [vi a,vi b]=N1 ([vi a,vi b],[]):=rfl;rw[this];dsimp only;have e2:([vi a,vi b]:LA).map AV.strip=[vi a,vi b]:=rfl;rw[e2,show dL (H++X) []=H++X from rfl,h1];rfl
 rw[he];exact hk H' wr h2 h3 ((hR.len _ _ h2).trans (hR.len _ _ hI).symm)
def aOm{o v:Nat}(hR:ux A o v base n I){b:Nat}(hp:p.length<10000)(ha:a<1000)(hb:b<1000)(hI:I p H){tg}(hk:∀H' wr,I (p++[(a,b)]) H'->(∀x∈wr,base<=x)->H'.length=H.length->k (.bool Pa,H',wr)):aCi (cX (aG A) H site (.yld o v) [vi a,vi b]) k tg:=by
 have:=aGX (X:=[]) hR hp ha hb hI (site:=site) (tg:=tg) (λH' wr h1 h2 h3=>by grind)
 grind
def aMg(i m:Nat):aEw:=(GZ m).map λk=>(i,k)
def qA(n m:Nat):aEw:=(GZ n).flatMap λi=>aMg i m
theorem aL4:aMg i (m+1)=aMg i m++[(i,m)]:=by unfold aMg;rw[LQ,DQ];rfl
def aEx:qA (n+1) m=qA n m++aMg n m:=by unfold qA;rw[LQ,JK];simp
theorem aJC:(aMg i m).length=m:=by simp[aMg]
theorem rH:(qA n m).length=n*m:=by
 induction n with
 |zero=>simp[qA]
 |succ n ih=>rw[aEx,BA,ih,aJC,JS]
def aNh{b:Nat}:(a,b)∈aMg i m↔a=i/\b<m:=by
 unfold aMg
 grind
def aDs{b:Nat}:(a,b)∈qA n m↔a<n/\b<m:=by
 unfold qA;rw[IM];constructor
 .rintro⟨i,hi,h⟩;obtain⟨rfl,h2⟩:=aNh.1 h
  grind
 rintro⟨h1,h2⟩;exact⟨a,HE.2 h1,aNh.2 ⟨rfl,h2⟩⟩
def aDt(h:Has A 444 yR)(hn:n<=64)(hm:m<=64):aV7 A 444 [.ep [vi n] 0,.ep [vi m] 0] (qA n m):=by
 intro o v base N I H hR hI;have ax:=hR.len _ _ hI;obtain⟨v',H',ba,h1,rfl,h2,h3⟩:=h.bp (args:=[.yld o v,.ep [vi n] 0,.ep [vi m] 0]) (K:=λv H' wr=>v=.tup []/\I (qA n m) H'/\∀x∈wr,base<=x) (by
  simp only[yR];simp only[go_sem,↓aB,seval];refine bJ (id:=0) (λi ρ1 H1 wr=>ρ1 7=vi i/\I (qA i m) H1/\∀x∈wr,base<=x) n (λρ1 H1 wr=>I (qA n m) H1/\∀x∈wr,base<=x)
   bIv rfl ⟨rfl,hI,λx hx=>by cases hx⟩ ?_ ?_
  .rintro i ρ1 H1 dc mg ⟨e7,yy,dy⟩ hf;have f6:=hf 6 rfl;have f0:=hf 0 rfl;have f2:=hf 2 rfl;simp only[go_sem,↓aB,seval,e7,f6];refine aD (λe3=>?_) (λe3=>?_)
   .have hlt:i<n:=uWa
    have hw:=wS (i:=i) omT;have hg1:=JL omT hm;simp only[go_sem,↓aB,seval,e7,f2];refine bJ (id:=2) (λj ρ2 H2 wr=>ρ2 11=vi j/\I (qA i m++aMg i j) H2/\∀x∈wr,base<=x) m (λρ2 H2 wr=>I (qA (i+1) m) H2/\∀x∈wr,base<=x)
     bIv rfl ⟨rfl,by simpa [aMg]using yy,dy⟩ ?_ ?_
    .rintro j ρ2 H2 en mo ⟨e11,I6,gn⟩ cq;have k10:=cq 10 rfl;have k0:=(cq 0 rfl).trans f0;have k4:=cq 4 rfl;simp only[go_sem,↓aB,seval,e11,k10];refine aD (λe4=>?_) (λe4=>?_)
     .have jlt:j<m:=uWa
      have tv:=wS (i:=j) omT;simp only[go_sem,↓aB,seval,e11,k0,k4];refine aOm hR (by rw[BA,rH,aJC];omega) omT omT I6 ?_;rintro H3 wr3 hI3 pr yz;simp only[go_sem,↓aB,seval,tv,e11]
      grind [aL4,CJ,rB]
     have:j=m:=uWa
     simp only[go_sem,seval];rw[aEx]
     grind
    rintro ρ3 H3 wr3 ⟨hI3,pr⟩ im;have e7':=(im 7 rfl).trans e7;simp only[go_sem,↓aB,seval,e7',hw]
    grind
   have:i=n:=uWa
   simp only[go_sem,seval]
   grind
  rintro ρ' H' ba ⟨W0,tv⟩ hf;simp only[go_sem,↓aB,seval];rw[jG (by have:=hR.len _ _ W0;omega)]
  grind)
 exact⟨H',[],ba,uWa,h2,h3⟩
def aGY(l:List Shape)(kind:Int)(i k:Nat):Bool:=((i:Int) != (k:Int))&&((kind != 2) || (((l[k]?).map Shape.kind).getD 0==2))
def tD(l:List Shape)(kind:Int)(i m:Nat):aEw:=(aMg i m).filter λp=>aGY l kind p.1 p.2
def bJ7(l:List Shape)(kind:Int)(n m:Nat):aEw:=(qA n m).filter λp=>aGY l kind p.1 p.2
def aGZ:tD l kind i (m+1)=tD l kind i m++(if aGY l kind i m then [(i,m)] else []):=by grind [tD,aL4,aGY]
def aL5:bJ7 l kind (n+1) m=bJ7 l kind n m++tD l kind n m:=by unfold bJ7 tD;rw[aEx,List.filter_append]
def aV8{j:Nat}:(bJ7 l kind n m++tD l kind i j).length<=n*m+j:=by grind [MJ,aGY,aMg,rH,aJC,bJ7,tD]
def aCw(h:Has A 445 rG)(b:Block)(kind:Int)(hl:b.aw.length<=64):aV7 A 445 [.ep (aE b) 0,.ep [vi kind] 0] (bJ7 b.aw kind b.aw.length b.aw.length):=by
 intro o v base N I H hR hI;have ax:H.length=N:=hR.len _ _ hI;obtain⟨c0,c1,c2,c3,c4,c5,c6,c7,c11,c12,ig⟩:∃c0 c1 c2 c3 c4 c5 c6 c7 c11 c12,aE b=[c0,c1,c2,c3,c4,c5,c6,c7,vi b.w,vi b.h,.sl Po (b.aw.map aH),c11,c12]:=by obtain⟨_,_,⟨_,_,_⟩,_,_,_,_,_,_,_,_⟩:=b;exact⟨_,_,_,_,_,_,_,_,_,_,rfl⟩
 have hmm:(b.aw.map aH).length=b.aw.length:=AF ..;obtain⟨v',H',ba,h1,rfl,h2,h3⟩:=h.bp (args:=[.yld o v,.ep (aE b) 0,.ep [vi kind] 0]) (H:=H) (K:=λv H' wr=>v=.tup []/\(∃H0 X,H'=H0++X/\I (bJ7 b.aw kind b.aw.length b.aw.length) H0)/\∀x∈wr,base<=x) (by
  rw[ig];simp only[rG];simp only[go_sem,↓aB,seval,hmm];generalize hld:b.aw=l at *;refine bJ (id:=0) (λi ρ1 H1 wr=>ρ1 11=vi (i:Nat)/\(∃H0 x,H1=H0++[x]/\I (bJ7 l kind i l.length) H0)/\∀x∈wr,base<=x) l.length (λρ1 H1 wr=>(∃H0 x,H1=H0++[x]/\I (bJ7 l kind l.length l.length) H0)/\∀x∈wr,base<=x)
   bIv rfl ⟨rfl,⟨H,_,rfl,hI⟩,λx hx=>by cases hx⟩ ?_ ?_
  .rintro i ρ1 H1 dc mg ⟨e7,⟨H0,x0,rfl,yy⟩,dy⟩ hf;have f10:ρ1 10=vi (l.length:Nat):=hf 10 rfl;have f0:ρ1 0=.yld o v:=hf 0 rfl;have f1:ρ1 1=.ep [c0,c1,c2,c3,c4,c5,c6,c7,vi b.w,vi b.h,.sl Po (l.map aH),c11,c12] 0:=hf 1 rfl;have f2:ρ1 2=.ep [vi kind] 0:=hf 2 rfl;simp only[go_sem,↓aB,seval,e7,f10];refine aD (λe3=>?_) (λe3=>?_)
   .have hlt:i<l.length:=by simp at e3;omega
    have hw:=wS (i:=i) omT;have hg1:i*l.length<=64*64:=JL omT hl;simp only[go_sem,↓aB,seval,e7,f1,hmm];refine bJ (id:=2) (λj ρ2 H2 wr=>ρ2 18=vi (j:Nat)/\(∃H0 x,H2=H0++[x]/\I (bJ7 l kind i l.length++tD l kind i j) H0)/\∀x∈wr,base<=x) l.length (λρ2 H2 wr=>(∃H0 x,H2=H0++[x]/\I (bJ7 l kind (i+1) l.length) H0)/\∀x∈wr,base<=x)
     bIv rfl ⟨rfl,⟨H0,x0,rfl,by simpa [tD,aMg]using yy⟩,dy⟩ ?_ ?_
    .rintro j ρ2 H2 en mo ⟨e11,⟨H0',x1,rfl,I6⟩,gn⟩ cq;have k10:ρ2 17=vi (l.length:Nat):=cq 17 rfl;have k16:ρ2 16=.sl Po (l.map aH):=cq 16 rfl;have k0:ρ2 0=.yld o v:=(cq 0 rfl).trans f0;have k2:ρ2 2=.ep [vi kind] 0:=(cq 2 rfl).trans f2;have k4:ρ2 4=vi (i:Nat):=cq 4 rfl;simp only[go_sem,↓aB,seval,e11,k10];refine aD (λe4=>?_) (λe4=>?_)
     .have jlt:j<l.length:=by simp at e4;omega
      have tv:=wS (i:=j) omT;have fh:=mgE aH jlt;have hL0:H0'.length=H.length:=(hR.len _ _ I6).trans ax.symm;have g1:∀y:ah,(H0'++[y])[H.length]? = N1 y:=λy=>by rw[<- hL0];simp
      have g2:∀y z:ah,(H0'++[y]).set H.length z=H0'++[z]:=λy z=>by rw[<- hL0];simp
      have g3:∀(y:ah)(mk:Nat->ah),make (H0'++[y]) H.length mk=H0'++[mk (y.ver+1)]:=λy mk=>by unfold make;rw[g1,g2];rfl
      have g4:∀y:ah,bH (H0'++[y]) H.length=y.ver+1:=λy=>by unfold bH;rw[g1];rfl
      have g5:H.length<H0'.length+1:=omT;have hok:aGY l kind i j=(((i:Int) != (j:Int))&&((kind != 2) || (l[j].kind==2))):=by unfold aGY;rw[AP jlt];rfl
      have Qk:(bJ7 l kind i l.length++tD l kind i j).length<10000:=by have:=aV8 (l:=l) (kind:=kind) (n:=i) (m:=l.length) (i:=i) (j:=j);omega
      have tp:aGY l kind i j=Po->tD l kind i (j+1)=tD l kind i j:=λh=>by rw[aGZ,h];simp
      have hyes:aGY l kind i j=Pa->bJ7 l kind i l.length++tD l kind i (j+1)=bJ7 l kind i l.length++tD l kind i j++[(i,j)]:=λh=>by rw[aGZ,h];simp
      cases e5:((i:Int) != (j:Int))with
      |false=>simp only[go_sem,↓aB,seval,e5,tv,e11,k16,k4,jlt,fh,aH,g1,g2,g5,Aa];exact⟨⟨H0',_,rfl,by rw[tp (by rw[hok,e5];rfl)];exact I6⟩,gn⟩
      |true=>cases e6:(kind != 2)with
       |true=>simp only[go_sem,↓aB,seval,e5,e6,e11,k16,k4,k2,k0,jlt,fh,aH,g1,g2,g5,CE];refine aGX hR Qk (by have:=hmm;omega) omT I6 ?_;rintro H3 wr3 hI3 pr yz;simp only[go_sem,↓aB,seval,tv,e11];exact⟨jlt,⟨H3,_,rfl,by rw[hyes (by rw[hok,e5,e6];rfl)];exact hI3⟩,rB gn pr⟩
       |false=>cases e7:(l[j].kind==2)with
        |true=>simp only[go_sem,↓aB,seval,e5,e6,e7,e11,k16,k4,k2,k0,jlt,fh,aH,g1,g2,g5];refine aGX hR Qk omT omT I6 ?_;rintro H3 wr3 hI3 pr yz;simp only[go_sem,↓aB,seval,tv,e11];exact⟨jlt,⟨H3,_,rfl,by rw[hyes (by rw[hok,e5,e6,e7];rfl)];exact hI3⟩,rB gn pr⟩
        |false=>simp only[go_sem,↓aB,seval,e5,e6,e7,tv,e11,k16,k4,k2,jlt,fh,aH,g1,g2,g5,Aa];exact⟨⟨H0',_,rfl,by rw[tp (by rw[hok,e5,e6,e7];rfl)];exact I6⟩,gn⟩
     have:j=l.length:=by simp at e4;omega
     subst this;simp only[go_sem,seval];rw[aL5];exact⟨⟨H0',x1,rfl,I6⟩,gn⟩
    rintro ρ3 H3 wr3 ⟨⟨H0',x1,rfl,hI3⟩,pr⟩ im;have e7':ρ3 11=vi (i:Nat):=(im 11 rfl).trans e7;simp only[go_sem,↓aB,seval,e7',hw];exact⟨hlt,⟨H0',x1,rfl,hI3⟩,pr⟩
   have:i=l.length:=by simp at e3;omega
   subst this;simp only[go_sem,seval];exact⟨⟨H0,x0,rfl,yy⟩,dy⟩
  rintro ρ' H' ba ⟨⟨H0,x0,rfl,W0⟩,tv⟩ hf;have hL0:H0.length=H.length:=(hR.len _ _ W0).trans ax.symm;simp only[go_sem,↓aB,seval];rcases aMf (base:=H.length) (v:=AV.tup []) (H:=H0++[x0]) (wr:=ba)with e|e
  .rw[e,<- hL0,GU];exact⟨rfl,⟨H0,[],by rw[AJ],W0⟩,tv⟩
  rw[e];exact⟨rfl,⟨H0,[x0],rfl,W0⟩,tv⟩)
 obtain⟨H0,X,rfl,h2⟩:=h2;exact⟨H0,X,ba,h1,h2,h3⟩
end
def aAJ:=(.mk _:bb 91 (bIF 27 [])).x
def tE:=(.mk _:bb 91 (bIC [(27,aAJ)])).x
def aDu:=(.mk _:bb 279 bTx).x
def bJl:=(.mk _:bb 323 (bIF 11 [])).x
abbrev qB:=bTw 323 (bIF 2303 [])
def lX:=(.mk _:bb 323 (bIC [(11,bJl),(2303,qB)])).x
abbrev aDv:=bTw 316 (bIF 4799 [])
abbrev aDw:=bTw 316 (bIF 10175 [])
def aAK:=(.mk _:bb 316 (bIC [(4799,aDv),(10175,aDw)])).x
def tF:=(.mk _:bb 275 bTx).x
def aIF{c:UInt8}:∀{l:Str},0<l.count c->∃u w,l=u++c::w/\c∉u/\EV l c=(u.length:Nat)/\w.count c+1=l.count c
 | [],h=>by simp at h
 |b::l,h=>by
  by_cases e:b=c
  .subst e;refine⟨[],l,rfl,siT, ?_, ?_⟩
   .unfold EV;simp
   simp[]
  have hb:(b==c)=false:=by simpa using e
  rw[List.count_cons,hb]at h;obtain⟨u,w,h1,h2,h3,h4⟩:=aIF (l:=l) uWg;refine⟨b::u,w,by rw[h1];rfl,uWa, ?_, ?_⟩
  all_goals grind [EV]
def aL6{l:Nat}(h:l<=n):dU n (N1 (vi l)) N2 N2=N1 (l,n,n):=by
 unfold dU iL vi
 grind
def aH0{l k:Nat}(h1:l<=k)(h2:k<=n):dU n (N1 (vi l)) (N1 (vi k)) N2=N1 (l,k,n):=by
 unfold dU iL vi
 grind
def aCx(a b:Str):esc mL (a++b)=esc mL a++esc mL b:=JK
def aDx:∀{u:Str},(126:UInt8)∉u->esc mL u=u
 | [],_=>rfl
 |c::u,h=>by
  simp only[BD,not_or]at h;rw[aFC,aDx h.2]
  simp_all [mL,beq_eq_false_iff_ne,Ne.symm]
def yS:∀u:Str,(esc mL u).length<=2*u.length
 | []=>by simp[esc]
 |c::u=>by
  rw[aFC,BA,AW];have:=yS u
  grind
@[go_sem] def aTf{call:Nat->LA->LO->Out}{ρ:bN}{ty:Nat}{zs:LA}{id:Nat}:nB call (N1 id) Po ρ H (.gv ty zs)=if id<H.length then N1 (.ptr id (bH H id) 0,make H id (.cw · ty zs),[id])else none:=(rfl)
section
variable {A:af}{tB tP:Nat}
structure RepAll(A:af)(tB tP:Nat):Prop where
 ws:Has A 130 cO
 cc:A.bq 136=N1 (fB tB tP)
 str:A.bq 84=N1 (aAh 5)
 grow:A.bq 152=N1 (aNR 171 5)
 cnt:A.bq 344=N1 aE7
 ix1:A.bq 351=N1 aYu
 ix2:Has A 323 lX
 ix:Has A 279 aDu
 rep:Has A 316 aAK
 repAll:Has A 275 tF
def aOn(F:RepAll A tB tP)(s:Str)(c:UInt8)(H:LO):aG A 279 [.str s,.str [c]] H=N1 (vi (EV s c),H,[]):=by
 have h1:aG A 351 [.str s,.int .u8 c.toNat] H=N1 (vi (EV s c),H,[]):=dT (by
  rw[F.ix1];show N1 (AV.int .i64 (EV s (((c.toNat:Nat):Int).toNat.toUInt8)),[],[])=_;have:((((c.toNat:Nat):Int)).toNat).toUInt8=c:=siT;rw[this])
 have h2:aG A 323 [.str s,.str [c]] H=N1 (vi (EV s c),H,[]):=by
  refine F.ix2.call ?_;simp only[lX];simp only[go_sem,↓aB,seval];simp only[bJl];simp only[go_sem,↓aB,seval];cases z:([c]==s)with
  |true=>
   have hz:[c]=s:=uWH
   have:EV s c=0:=by rw[<- hz];unfold EV;simp
   rw[this];simp only[go_sem,↓aB,seval]
  |false=>simp only[go_sem,↓aB,seval,h1]
 refine F.ix.call ?_;simp only[aDu];simp only[go_sem,↓aB,seval,h2]
def aL7(F:RepAll A tB tP)(s:Str)(hs:s.length<=10000)(H:LO):aG A 316 [.str s,.str [126],.str [126,126],vi (-1)] H=N1 (.str (esc mL s),H,[]):=by
 refine F.rep.call ?_;have hcnt:∀H,aG A 344 [.str s,.str [126]] H=N1 (vi (s.count 126:Nat),H,[]):=λH=>dT (by rw[F.cnt];rfl);have kq:s.count 126<=s.length:=List.count_le_length;simp only[aAK];have bl:(([126]:Str)==[126,126])=false:=deT;cases z:(((s.count 126:Nat):Int)==0)with
 |true=>
  have hz:s.count 126=0:=uWH
  have hq:esc mL s=s:=aDx (NH.1 hz);simp only[go_sem,↓aB,seval,bl,hcnt,z,hq]
 |false=>
  have hz:0<s.count 126:=Nat.pos_of_ne_zero uWH;have dy:AR.wrap (((s.count 126:Nat):Int)*1)=((s.count 126:Nat):Int):=by rw[wrap_i64 omT omT];omega
  have gn:AR.wrap ((s.length:Int)+((s.count 126:Nat):Int))=((s.length+s.count 126:Nat):Int):=by rw[wrap_i64 omT omT];omega
  have pr:AR.wrap 1=1:=wrap_i64 deT deT;have hgrow:aG A 152 [.ptr H.length 1 0,vi ((s.length+s.count 126:Nat):Int)] (H++[.cw 1 171 [.nilPtr,.ar]])=N1 (.tup [],PSt (H++[.gone 0,.gone 0]) 171 H.length 1 (H.length+1) 1 [],[H.length]):=by
   rw[yN (r:=(.tup [],[(H.length,.cw 1 171 [.ptr H.length 1 0,.sr (H.length+1) 1 0])],[.oz 1 5 1 []]))]
   .simp[cT,eU,PSt]
   rw[F.grow];show aNR 171 5 [.ptr H.length 1 0,.int .i64 ((s.length+s.count 126:Nat):Int)] _=_;simp[aNR];omega
  have B8:decide ((1:Int)>0)=true:=deT;have c:gf (H++[ah.gone 0,ah.gone 0]).length H.length (H.length+1):=⟨siT,siT,omT⟩;have od:∀{w:LN},Wr2 H.length (H.length+1) w->bE H.length [] w=[]:=λ{w} h=>kH λx hx=>by rcases h x hx with e|e<;>omega
  simp only[go_sem,↓aB,seval,bl,hcnt,z,CE,dy,gn,pr,hgrow];refine bJ (id:=0) (λi ρ1 H1 wr=>wr=[]/\ρ1 53=vi (i:Nat)/\∃p q,s=p++q/\H1=PSt (H++[.gone 0,.gone 0]) 171 H.length 1 (H.length+1) 1 (esc mL p)/\ρ1 11=vi (p.length:Nat)/\q.count 126+i=s.count 126) (s.count 126)
   (λρ1 H1 wr=>wr=[]/\∃p q,s=p++q/\H1=PSt (H++[.gone 0,.gone 0]) 171 H.length 1 (H.length+1) 1 (esc mL p)/\ρ1 11=vi (p.length:Nat)/\q.count 126=0)
   bIv rfl ⟨rfl,rfl,[],s,rfl,rfl,rfl,rfl⟩ ?_ ?_
  .rintro i ρ1 H1 dc mg ⟨rfl,e53,p,q,p0,rfl,e11,hcq⟩ hf;have e52:ρ1 52=vi (s.count 126:Nat):=hf 52 rfl;have e0:ρ1 0=.str s:=hf 0 rfl;have e1:ρ1 1=.str [126]:=hf 1 rfl;have e2:ρ1 2=.str [126,126]:=hf 2 rfl;have e10:ρ1 10=.ptr H.length 1 0:=hf 10 rfl;simp only[go_sem,↓aB,seval,e53,e52];refine aD (λhb=>?_) (λhb=>?_)
   .have hlt:i<s.count 126:=by simp at hb;omega
    obtain⟨u,w,k1,k2,k3,k4⟩:=aIF (c:=126) (l:=q) omT;have G6:s.length=p.length+u.length+1+w.length:=by rw[p0,k1];simp;omega
    have fo:dU s.length (N1 (vi (p.length:Nat))) N2 N2=N1 (p.length,s.length,s.length):=aL6 omT;have lq:s.drop p.length=q:=by rw[p0,KU]
    have Ye:=λH=>aOn F q 126 H;rw[k3]at Ye;have hw4:AR.wrap ((p.length:Int)+(u.length:Int))=((p.length+u.length:Nat):Int):=by rw[wrap_i64 omT omT];omega
    have dp:dU s.length (N1 (vi (p.length:Nat))) (N1 (vi ((p.length+u.length:Nat):Int))) N2=N1 (p.length,p.length+u.length,s.length):=aH0 omT omT;have nu:(s.take (p.length+u.length)).drop p.length=u:=by rw[p0,k1,<- CJ,List.take_left' siT,KU]
    have hel:=yS p;obtain⟨wa,f1,f2⟩:=vY F.ws F.cc (ty:=171) (v:=1) (v2:=1) (T:=esc mL p) (s:=u) c omT;obtain⟨wb,f3,f4⟩:=vY F.ws F.cc (ty:=171) (v:=1) (v2:=1) (T:=esc mL p++u) (s:=[126,126]) c soT;have Au:AR.wrap (((p.length+u.length:Nat):Int)+1)=((p.length+u.length+1:Nat):Int):=by rw[wrap_i64 omT omT];omega
    have hw6:=wS (i:=i) omT;simp only[go_sem,↓aB,seval,e53,e0,e1,e2,e10,e11,fo,dp,lq,nu,Ye,hw4,Au,hw6,f1,f3,od f2,od f4];refine⟨hlt,p++u++[126],w,by rw[p0,k1];simp, ?_, ?_,omT⟩
    .rw[aCx,aCx,aDx k2];rfl
    simp;omega
   have hi:i=s.count 126:=by simp at hb;omega
   subst hi;simp only[go_sem,seval];exact⟨p,q,p0,rfl,e11,omT⟩
  rintro ρ2 H2 en ⟨rfl,p,q,p0,rfl,e11,hcq⟩ hf;have e0:ρ2 0=.str s:=hf 0 rfl;have e10:ρ2 10=.ptr H.length 1 0:=hf 10 rfl;have G6:s.length=p.length+q.length:=by rw[p0];simp
  have fo:dU s.length (N1 (vi (p.length:Nat))) N2 N2=N1 (p.length,s.length,s.length):=aL6 omT;have lq:s.drop p.length=q:=by rw[p0,KU]
  have hel:=yS p;have hes:esc mL p++q=esc mL s:=by rw[p0,aCx,aDx (NH.1 hcq)]
  have hse:esc mL s≠[]:=λe=>by
   have:=yS s;cases s with
   |nil=>simp at hz
   |cons a r=>rw[aFC]at e;split at e<;>cases e
  obtain⟨wa,f1,f2⟩:=vY F.ws F.cc (ty:=171) (v:=1) (v2:=1) (T:=esc mL p) (s:=q) c omT;rw[hes]at f1;have bd:=aCs F.str (ty:=171) (v:=1) (v2:=1) (T:=esc mL s) c hse (by have:=yS s;omega);simp only[go_sem,↓aB,seval,e0,e10,e11,fo,lq,f1,od f2,bd];unfold PSt;rw[aBe,eS,eS,aD8]
def aAL(F:RepAll A tB tP)(s:Str)(hs:s.length<=10000)(H:LO):aG A 275 [.str s,.str [126],.str [126,126]] H=N1 (.str (esc mL s),H,[]):=by refine F.repAll.call ?_;have h1:=aL7 F s hs H;simp only[tF];simp only[go_sem,↓aB,seval,h1]
end
def aDy(b:Nat)(H:LO)(o:Nat):Bool:=match H[o]? with
 |some x=>x.under b
 |none=>Pa
@[go_sem] def aV9{o:Nat}(h:v.under base=Pa)(h2:aDy base H o=Pa):cJ base (v,H,[o])=(v,H.take base,[o]):=
 aEb h (by rw[List.all_cons,List.all_nil,Bool.and_true];exact h2)
def aF6{b o:Nat}(h:o<H.length):aDy b (H.set o x) o=x.under b:=by unfold aDy;rw[List.getElem?_set_self h]
def aW{b o:Nat}{L:LO}(h:o<H.length):aDy b (H.set o x++L) o=x.under b:=by unfold aDy;rw[aP h]
def ew.app'{id k:Nat}(h:ew id k rows v o)(bl:rows≠[]){new:List LA}{bytes:Nat}(hn:new≠[])(hk:dF k new=Pa)(hr:(rows.length+new.length)*(bytes+1)<=1099511627776):∃v' o',ew id k (rows++new) v' o'/\∀H f site,H[id]? = N1 o->eX H site k bytes v (.sl f new)=N1 (v',H.set id o',[id]):=by
 cases h with
 |nil=>exact Vv rfl bl
 |obj ver=>
  have ed:bP (rows.length+new.length) bytes=true:=by unfold bP;simpa using hr
  obtain⟨a,l,rfl⟩:=List.exists_cons_of_ne_nil hn;refine⟨.sr id ver (rows++a::l).length,.vec ver k (rows++a::l),ew.obj _ _,λH f site ho=>?_⟩;unfold eX;simp only[bIz,dO,hk];simp only[Bool.not_true,BX,Vt,ho,ed,and_self,Vu,List.isEmpty_cons,BA]
def ew.len{id k:Nat}(h:ew id k rows v o):aW6 v=N1 (.int .i64 rows.length):=by cases h<;>rfl
def ew.inv{id k:Nat}(h:ew id k rows v o)(bl:rows≠[]):∃ver,v=.sr id ver rows.length/\o=.vec ver k rows:=by
 cases h with
 |nil=>exact Vv rfl bl
 |obj ver=>exact⟨ver,rfl,rfl⟩
abbrev aBA:=bTw 228 (bIF 75 [])
def wE:=(.mk _:bb 228 (bIC [(75,aBA)])).x
abbrev aCy:=bTw 209 (bIF 75 [])
def zR:=(.mk _:bb 209 (bIC [(75,aCy)])).x
abbrev aDz:=bTw 216 (bIF 75 [])
def aAM:=(.mk _:bb 216 (bIC [(75,aDz)])).x
section
variable {A:af}{tB tP:Nat}
def aNi(sep:Str):∀l:List Str,aJ7 sep (l.map aN)=N1 (sb sep l)
 | []=>rfl
 | [s]=>rfl
 |s::t::r=>by
  have ih:aJ7 sep (aN t::r.map aN)=N1 (sb sep (t::r)):=aNi sep (t::r);show aJ7 sep (aN s::aN t::r.map aN)=_;show (match aJ7 sep (aN t::r.map aN)with
   |some u=>N1 (s++sep++u)
   |none=>N2)=_
  rw[ih];rfl
def aF7{sep:Str}{M:Nat}:∀{l:List Str},(∀s∈l,s.length<=M)->(sb sep l).length<=l.length*(M+sep.length)
 | [],_=>by simp[sb]
 | [s],h=>by have:=h s siT;simp[sb];omega
 |s::t::r,h=>by
  have ih:=aF7 (l:=t::r) (sep:=sep) (M:=M) λx hx=>h x (BZ _ hx);have:=h s siT
  grind [sb,BA,AW,JS]
def aVa(hp:A.bq 100=N1 aKm)(l:List Str)(sep:Str)(H:LO)(hl:l.length<=1000000000)(hj:(sb sep l).length<=1000000000000):aG A 100 [.sl Po (l.map aN),.str sep] H=N1 (.str (sb sep l),H,[]):=by
 refine dT ?_;rw[hp];show aKm [.sl Po (l.map aN),.str sep] H=_;unfold aKm;dsimp only;rw[aNi]
 grind
def qI(hp:A.bq 100=N1 aKm){id:Nat}{l:List Str}(hg:ew id 1 (l.map aN) w o)(sep:Str)(hl:l.length<=1000000000)(hj:(sb sep l).length<=1000000000000):∀H site,H[id]? = N1 o->cX (aG A) H site (.fn 100 [] []) [w,.str sep]=N1 (.str (sb sep l),H,[]):=by
 intro H site ho;have hb:=λH=>aVa hp l sep H hl hj;generalize hr:l.map aN=rows at *;cases hg with
 |nil=>simp only[go_sem,seval,hb]
 |obj ver=>
  have bd:(rows.all λr=>r.all AV.still)=true:=by rw[<- hr];exact aT (aC bO _)
  simp only[go_sem,seval,ho,bd,hb]
def aEy{id:Nat}{L:List Str}(hg:ew id 1 (L.map aN) w o)(hL:L.length<=1000000)(s:Str):∃w' o',ew id 1 ((L++[s]).map aN) w' o'/\∀X f,X[id]? = N1 o->eX X (N1 id) 1 16 w (.sl f [[.str s]])=N1 (w',X.set id o',[id]):=by obtain⟨v',o',eu,db⟩:=hg.app (new:=[aN s]) (bytes:=16) siT rfT (by rw[AF];simp;omega);refine⟨v',o', ?_,db⟩;rw[DQ];exact eu
def lH{α β:Type}(f:α->β){l:List α}(h:i<l.length):(l.take (i+1)).map f=(l.take i).map f++[f l[i]]:=by rw[oG h,DQ];rfl
structure WrtFns(A:af)(tB tP:Nat) extends RepAll A tB tP where
 join:A.bq 100=N1 aKm
 itoa:A.bq 99=N1 sC
 lines:Has A 228 wE
 runs:Has A 209 zR
 sum:Has A 216 aAM
def aH1(F:WrtFns A tB tP)(l:List Str)(hl:l.length<=64)(hs:∀s∈l,s.length<=1000)(H:LO):aG A 228 [.sl Po (l.map aN)] H=N1 (.str (aPJ l),H,[]):=by
 refine F.lines.call ?_;simp only[wE];simp only[go_sem,↓aB,seval];refine bJ (id:=0) (λi ρ1 H1 wr=>wr=[]/\ρ1 8=vi (i:Nat)/\∃w o,H1=H++[o]/\ρ1 3=w/\ew H.length 1 (((l.take i).map (esc mL)).map aN) w o) l.length
  (λρ1 H1 wr=>wr=[]/\∃w o,H1=H++[o]/\ρ1 3=w/\ew H.length 1 ((l.map (esc mL)).map aN) w o)
  bIv rfl ⟨rfl,rfl,.sl Pa [],.gone 0,rfl,rfl,.nil _⟩ ?_ ?_
 .rintro i ρ1 H1 dc mg ⟨rfl,e8,w,o,rfl,e3,hg⟩ hf;have e7:ρ1 7=vi (l.length:Nat):=hf 7 rfl;have e6:ρ1 6=.sl Po (l.map aN):=hf 6 rfl;simp only[go_sem,↓aB,seval,e8,e7];refine aD (λhb=>?_) (λhb=>?_)
  .have hlt:i<l.length:=uWa
   have cj:=mgE aN hlt;have hq:=hs _ (AS hlt);have pk:=lH (esc mL) hlt;generalize l[i]=s at *;have B5:=λH=>aAL F.toRepAll s omT H;obtain⟨w',o',eu,db⟩:=aEy hg soT (esc mL s);rw[<- pk]at eu;have dy:=wS (i:=i) omT;have zr:=λf=>db (H++[o]) f uWa;simp only[go_sem,↓aB,seval,e8,e6,e3,hlt,cj,aN,B5,zr,dy]
   grind
  have hi:i=l.length:=uWa
  subst hi;rw[DM]at hg;simp only[go_sem,seval]
  grind
 rintro ρ2 H2 en ⟨rfl,w,o,rfl,e3,hg⟩ hf;have hj:=qI F.join hg [126,124] soT (by
  have:=aF7 (l:=l.map (esc mL)) (sep:=[126,124]) (M:=2000) (λs ml=>by
   obtain⟨t,ht,rfl⟩:=DB.1 ml;have:=yS t
   grind)
  grind)
 have tt:=λsite=>hj (H++[o]) site uWa;simp only[go_sem,↓aB,seval,e3,tt];rfl
def aQb:∀(k n:Nat),n<10 ^ (k+1)->nC (k+1) n=dec n
 |0,n,h=>by
  have h':n<10:=uWg
  rw[dec,nC,Vx h',Vx h']
 |k+1,n,h=>by
  rw[dec,nC];split
  .rfl
  rw[aQb k (n / 10) uWa]
def aD7:∀k m,(nC k m).length<=k:=by
 intro k
 induction k with
 |zero=>intro m;exact AQ _
 |succ k ih=>grind [nC]
def aVb(hp:A.bq 99=N1 sC){n:Int}(h0:0<=n)(h1:n<=999999):(dec n.toNat).length<=7/\∀H,aG A 99 [vi n] H=N1 (.str (dec n.toNat),H,[]):=by
 have e7:nC 7 n.toNat=dec n.toNat:=aQb 6 n.toNat uWa;refine⟨by rw[<- e7];exact aD7 7 _,λH=>dT ?_⟩;rw[hp];show sC [.int .i64 n] H=_;simp only[sC]
 grind
def aJD(F:WrtFns A tB tP)(op:Int)(l:List Int)(Qx:3<=op/\op<=6)(hl:l.length<=16)(hs:∀n∈l,0<=n/\n<=999999)(H:LO):aG A 216 [.agg [vi op,.sl Po (l.map bF)]] H=N1 (.str (aWn op l),H,[]):=by
 refine F.sum.call ?_;have dy:AR.wrap (op - 3)=((op - 3).toNat:Nat):=by rw[wrap_i64 omT omT];omega
 have gn:AR.wrap ((((op - 3).toNat:Nat):Int)+1)=((op - 3).toNat+1:Nat):=by rw[wrap_i64 omT omT];omega
 have hb:dU 4 (N1 (vi ((op - 3).toNat:Nat))) (N1 (vi ((op - 3).toNat+1:Nat))) N2=N1 ((op - 3).toNat,(op - 3).toNat+1,4):=aH0 omT omT;have ot:(([43,45,42,47]:Str).take ((op - 3).toNat+1)).drop (op - 3).toNat=[sg op]:=by have:op=3∨op=4∨op=5∨op=6:=omT;rcases this with rfl|rfl|rfl|rfl<;>rfl
 have hsg':(43::([45,42,47]:Str).take (op - 3).toNat).drop (op - 3).toNat=[sg op]:=ot;simp only[aAM];simp only[go_sem,↓aB,seval,dy,gn,hb,hsg'];refine bJ (id:=0) (λi ρ1 H1 wr=>wr=[]/\ρ1 17=vi (i:Nat)/\H1=H/\∃s:Str,ρ1 3=.str s/\s++aUN (l.drop i)=aWn op l/\s.length<=1+i*8) l.length
  (λρ1 H1 wr=>wr=[]/\H1=H/\ρ1 3=.str (aWn op l))
  bIv rfl ⟨rfl,rfl,siT,[sg op],rfl,rfl,siT⟩ ?_ ?_
 .rintro i ρ1 H1 dc mg ⟨rfl,e17,rfl,s,e3,Xb,G6⟩ hf;have e16:ρ1 16=vi (l.length:Nat):=hf 16 rfl;have e15:ρ1 15=.sl Po (l.map bF):=hf 15 rfl;simp only[go_sem,↓aB,seval,e17,e16];refine aD (λhb=>?_) (λhb=>?_)
  .have hlt:i<l.length:=uWa
   have cj:=mgE bF hlt;obtain⟨q1,q2⟩:=hs _ (AS hlt);have hdr:l.drop i=l[i]::l.drop (i+1):=FD hlt;rw[hdr]at Xb;generalize l[i]=n at *;obtain⟨d1,d2⟩:=aVb F.itoa q1 q2;have M1:kJ .add .no (.str [32]) (.str (dec n.toNat))=N1 (.str (32::dec n.toNat)):=kE soT;have ha2:kJ .add .no (.str s) (.str (32::dec n.toNat))=N1 (.str (s++32::dec n.toNat)):=kE soT;have dy:=wS (i:=i) omT;simp only[go_sem,↓aB,seval,e17,e15,e3,hlt,cj,bF,d2,M1,ha2,dy];refine⟨_,rfl,by rw[<- Xb,CJ];rfl,soT⟩
  have hi:i=l.length:=uWa
  subst hi;rw[JX]at Xb;have Xb:s++[]=aWn op l:=Xb;rw[AJ]at Xb;simp only[go_sem,seval];rw[e3,Xb]
 rintro ρ2 H2 en ⟨rfl,rfl,e3⟩ hf;simp only[go_sem,↓aB,seval,e3]
def aHK(F:WrtFns A tB tP)(l:List mr)(hl:l.length<=16)(hs:∀r∈l,r.text.length<=1000)(H:LO):aG A 209 [.sl Po (l.map cZ)] H=N1 (.str (aHA 0 l),H,[]):=by
 refine F.runs.call ?_;simp only[zR];simp only[go_sem,↓aB,seval];refine bJ (id:=0) (λi ρ1 H1 wr=>wr=[]/\ρ1 9=vi (i:Nat)/\(∃o,H1=H++[o])/\∃(s:Str)(p:Int),ρ1 3=.str s/\ρ1 4=vi p/\s++aHA p (l.drop i)=aHA 0 l/\s.length<=i*2100) l.length
  (λρ1 H1 wr=>wr=[]/\(∃o,H1=H++[o])/\ρ1 3=.str (aHA 0 l))
  bIv rfl ⟨rfl,rfl,⟨_,rfl⟩,[],0,rfl,rfl,rfl,siT⟩ ?_ ?_
 .rintro i ρ1 H1 dc mg ⟨rfl,e9,⟨o,rfl⟩,s,p,e3,e4,Xb,G6⟩ hf;have e8:ρ1 8=vi (l.length:Nat):=hf 8 rfl;have e7:ρ1 7=.sl Po (l.map cZ):=hf 7 rfl;simp only[go_sem,↓aB,seval,e9,e8];refine aD (λhb=>?_) (λhb=>?_)
  .have hlt:i<l.length:=uWa
   have cj:=mgE cZ hlt;have q1:=hs _ (AS hlt);have hdr:l.drop i=l[i]::l.drop (i+1):=FD hlt;rw[hdr]at Xb;generalize l[i]=r at *;have B5:=λH=>aAL F.toRepAll r.text omT H;have hel:=yS r.text;have dy:=wS (i:=i) omT;have M1:kJ .add .no (.str s) (.str [126,124])=N1 (.str (s++[126,124])):=kE uWa;have ha2:kJ .add .no (.str (s++[126,124])) (.str (esc mL r.text))=N1 (.str (s++[126,124]++esc mL r.text)):=kE uWa;have ha3:kJ .add .no (.str s) (.str (esc mL r.text))=N1 (.str (s++esc mL r.text)):=kE omT;cases z:(r.gg != p)with
   |true=>
    have hz:r.gg≠p:=uWH
    simp only[go_sem,↓aB,seval,e9,e7,e3,e4,hlt,cj,cZ,z,B5,M1,ha2,dy];refine⟨⟨_,rfl⟩,_,_,rfl,rfl, ?_,soT⟩;rw[<- Xb];simp[aHA,hz]
   |false=>
    have hz:r.gg=p:=uWH
    simp only[go_sem,↓aB,seval,e9,e7,e3,e4,hlt,cj,cZ,z,B5,ha3,dy];refine⟨⟨_,rfl⟩,_,_,rfl,rfl, ?_,soT⟩;rw[<- Xb];simp[aHA,hz]
  have hi:i=l.length:=uWa
  subst hi;rw[JX]at Xb;have Xb:s++[]=aHA 0 l:=Xb;rw[AJ]at Xb;simp only[go_sem,seval]
  grind
 rintro ρ2 H2 en ⟨rfl,⟨o,rfl⟩,e3⟩ hf;simp only[go_sem,↓aB,seval,e3]
end
def mU:=(.mk _:bb 143 (bIF 55 [])).x
def zS:=(.mk _:bb 143 (bIC [(55,mU)])).x
abbrev aDA:=bTw 95 (bIF 75 [])
def aAN:=(.mk _:bb 95 (bIC [(75,aDA)])).x
abbrev aAO:=bTw 224 (bIF 77003 [])
abbrev aAP:=bTw 224 (bIF 75 [(1203,aAO)])
def tG:=(.mk _:bb 224 (bIC [(75,aAP)])).x
section
variable {A:af}{tB tP:Nat}
def aSd{n:Int}(h0:0<=n)(h1:n<256):GA .u8 n=n:=by simp only[GA,LK,KC];simp;omega
structure MelFns(A:af)(tB tP:Nat) extends WrtFns A tB tP where
 note:Has A 143 zS
 bar:Has A 95 aAN
 yb:Has A 224 tG
def aQc{n:Int}(h0:0<=n)(h1:n<256):pT H (.toInt .u8) (vi n)=N1 (.int .u8 n):=by show N1 (AV.int .u8 (GA .u8 n))=_;rw[aSd h0 h1]
def wF{x:AV}:pT H .b2s x=match dO H x with
  |some rows=>(cM rows).map .str
  |none=>none:=rfl
def aEz:cM []=N1 []:=rfl
def aBo{n:Int}{r:List LA}:cM ([.int .u8 n]::r)=(cM r).map (CN n.toNat :: ·):=rfl
def aQd:∀k<7,([99,100,101,102,103,97,98]:Str)[k]? = N1 (aPK k):=deT
def aHL(F:MelFns A tB tP)(n:ct)(hn:aGv n=Pa)(H:LO):aG A 143 [.agg (bV n)] H=N1 (.str (aBy n),H,[]):=by
 refine F.note.call ?_;unfold aGv at hn;simp only[AI,eG]at hn;obtain⟨⟨⟨s0,s1⟩,l0,l1⟩,a0,a1⟩:=hn;have L9:AR.wrap (48+n.length)=48+n.length:=wrap_i64 omT omT;have kq:=λH=>aQc (H:=H) (n:=48+n.length) omT omT;have ax:(48+n.length).toNat=48+n.length.toNat:=omT;have r1:bP 1 1=true:=deT;have r2:bP 2 1=true:=deT;have r3:bP 3 1=true:=deT;have r4:bP 4 1=true:=deT;simp only[zS];cases z:decide (n.step<0)with
 |true=>
  have hz:n.step<0:=of_decide_eq_true z;have z2:decide (n.step ≥ 0)=false:=uWa
  simp only[go_sem,↓aB,seval,bV,z,eX,r1];simp only[mU];by_cases e1:n.alter=1
  .simp only[go_sem,↓aB,seval,e1,z2,L9,kq,eX,r2,r3,wF,aEz,aBo,DE];simp[aBy,hz,e1,show ¬0<=n.step by omega,ax]
  by_cases e2:n.alter = -1
  .simp only[go_sem,↓aB,seval,e2,z2,L9,kq,eX,r2,r3,wF,aEz,aBo,DE];simp[aBy,hz,e2,show ¬0<=n.step by omega,ax]
  have e1':(n.alter==1)=false:=uWh
  have e2':(n.alter == -1)=false:=uWp
  simp only[go_sem,↓aB,seval,e1',e2',z2,L9,kq,eX,r2,wF,aEz,aBo,DE];simp[aBy,hz,e1,e2,show ¬0<=n.step by omega,ax]
 |false=>
  have hz:¬n.step<0:=of_decide_eq_false z;have z2:decide (n.step ≥ 0)=true:=uWa
  have hk:(n.step % 7).toNat<7:=omT;have zu:∀ek,kJ .rem ek (vi n.step) (vi 7)=N1 (vi ((n.step % 7).toNat:Nat)):=λek=>by
   rw[tS deT]
   grind
  have S2:∀ek,kJ .quo ek (vi n.step) (vi 7)=N1 (vi ((n.step / 7).toNat:Nat)):=λek=>by
   rw[aAl deT];have:n.step.tdiv 7=n.step / 7:=Int.tdiv_eq_ediv_of_nonneg omT;rw[this,wrap_i64 omT omT]
   grind
  have hlt:=aQd _ hk;have z8:(((n.step % 7).toNat:Nat):Int)<7:=omT;have hwq:AR.wrap (48+(((n.step / 7).toNat:Nat):Int))=48+(((n.step / 7).toNat:Nat):Int):=wrap_i64 omT omT;have hcq:=λH=>aQc (H:=H) (n:=48+(((n.step / 7).toNat:Nat):Int)) omT omT;have hq2:(48+(((n.step / 7).toNat:Nat):Int)).toNat=48+(n.step / 7).toNat:=omT;simp only[go_sem,↓aB,seval,zu,hlt,bV,z,eX,r1,DE];simp only[mU];by_cases e1:n.alter=1
  .simp only[go_sem,↓aB,seval,e1,S2,hwq,hcq,z2,L9,kq,eX,r2,r3,r4,wF,aEz,aBo,DE];rw[hq2];simp[aBy,hz,e1,show 0<=n.step by omega,ax]
  by_cases e2:n.alter = -1
  .simp only[go_sem,↓aB,seval,e2,S2,hwq,hcq,z2,L9,kq,eX,r2,r3,r4,wF,aEz,aBo,DE];rw[hq2];simp[aBy,hz,e2,show 0<=n.step by omega,ax]
  have e1':(n.alter==1)=false:=uWh
  have e2':(n.alter == -1)=false:=uWp
  simp only[go_sem,↓aB,seval,e1',e2',S2,hwq,hcq,z2,L9,kq,eX,r2,r3,wF,aEz,aBo,DE];rw[hq2];simp[aBy,hz,e1,e2,show 0<=n.step by omega,ax]
def aL8(n:ct):(aBy n).length<=4:=by grind [aBy,BA]
def aDB(F:MelFns A tB tP)(l:List ct)(hl:l.length<=16)(hs:∀n∈l,aGv n=Pa)(H:LO):aG A 95 [.sl Po (l.map bV)] H=N1 (.str (aO9 l),H,[]):=by
 refine F.bar.call ?_;simp only[aAN];simp only[go_sem,↓aB,seval];refine bJ (id:=0) (λi ρ1 H1 wr=>wr=[]/\ρ1 8=vi (i:Nat)/\∃w o x,H1=H++[x,o]/\ρ1 3=w/\ew (H.length+1) 1 (((l.take i).map aBy).map aN) w o) l.length
  (λρ1 H1 wr=>wr=[]/\∃w o x,H1=H++[x,o]/\ρ1 3=w/\ew (H.length+1) 1 ((l.map aBy).map aN) w o)
  bIv rfl ⟨rfl,rfl,.sl Pa [],.gone 0,.gone 0,rfl,rfl,.nil _⟩ ?_ ?_
 .rintro i ρ1 H1 dc mg ⟨rfl,e8,w,o,x,rfl,e3,hg⟩ hf;have e7:ρ1 7=vi (l.length:Nat):=hf 7 rfl;have e6:ρ1 6=.sl Po (l.map bV):=hf 6 rfl;simp only[go_sem,↓aB,seval,e8,e7];refine aD (λhb=>?_) (λhb=>?_)
  .have hlt:i<l.length:=uWa
   have cj:=mgE bV hlt;have hq:=hs _ (AS hlt);have pk:=lH aBy hlt;generalize l[i]=s at *;have B5:=λH=>aHL F s hq H;simp only[bV]at B5;obtain⟨w',o',eu,db⟩:=aEy hg soT (aBy s);rw[<- pk]at eu;have dy:=wS (i:=i) omT;have zr:=λy f=>db (H++[y,o]) f uWa;simp only[go_sem,↓aB,seval,e8,e6,e3,hlt,cj,bV,B5,zr,dy]
   grind
  have hi:i=l.length:=uWa
  subst hi;rw[DM]at hg;simp only[go_sem,seval]
  grind
 rintro ρ2 H2 en ⟨rfl,w,o,x,rfl,e3,hg⟩ hf;have hj:=qI F.join hg [32] soT (by
  have:=aF7 (l:=l.map aBy) (sep:=[32]) (M:=4) (λs ml=>by
   obtain⟨t,ht,rfl⟩:=DB.1 ml;exact aL8 t)
  grind)
 have tt:=λsite=>hj (H++[x,o]) site uWa;simp only[go_sem,↓aB,seval,e3,tt];rfl
def aSe{l:List ct}(hl:l.length<=16):(aO9 l).length<=80:=by
 have:=aF7 (l:=l.map aBy) (sep:=[32]) (M:=4) (λs ml=>by
  obtain⟨t,ht,rfl⟩:=DB.1 ml;exact aL8 t)
 simp at this;unfold aO9;omega
end
section
variable {A:af}{tB tP:Nat}
def aNj{h:List (List ct)}(h1:h.length<=16)(h2:∀b∈h,b.length<=16):(sb [124] (h.map aO9)).length<=1300:=by
 have:=aF7 (l:=h.map aO9) (sep:=[124]) (λs ml=>by
  obtain⟨t,ht,rfl⟩:=DB.1 ml;exact aSe (h2 t ht))
 simp at this;omega
def aFs(F:MelFns A tB tP)(l:List (List (List ct)))(hl:l.length<=16)(hs:∀h∈l,h.length<=16/\∀b∈h,b.length<=16/\∀n∈b,aGv n=Pa)(H:LO):aG A 224 [.agg [.sl Po (l.map bS)]] H=N1 (.str (aJm l),H,[]):=by
 refine F.yb.call ?_;simp only[tG];simp only[go_sem,↓aB,seval];have hW:aJm l=sb [47] (l.map λh=>sb [124] (h.map aO9)):=rfl;generalize hE:(λh:List (List ct)=>sb [124] (h.map aO9))=E at hW;refine bJ (id:=0) (λi ρ1 H1 wr=>wr=[]/\ρ1 12=vi i/\∃w o x,H1=H++[x,o]/\ρ1 3=w/\ew (H.length+1) 1 (((l.take i).map E).map aN) w o) l.length
  (λρ1 H1 wr=>wr=[]/\∃w o x,H1=H++[x,o]/\ρ1 3=w/\ew (H.length+1) 1 ((l.map E).map aN) w o)
  bIv rfl ⟨rfl,rfl,.sl Pa [],.gone 0,.gone 0,rfl,rfl,.nil _⟩ ?_ ?_
 .rintro i ρ1 H1 dc mg ⟨rfl,e12,w,o,x,rfl,e3,hg⟩ hf;have e11:=hf 11 rfl;have e10:=hf 10 rfl;simp only[go_sem,↓aB,seval,e12,e11];refine aD (λhb=>?_) (λhb=>?_)
  .have hlt:i<l.length:=by simp at hb;omega
   have cj:=mgE bS hlt;obtain⟨q1,q2⟩:=hs _ (AS hlt);have pk:=lH E hlt;generalize l[i]=hd at *;have hEl:(E hd).length<=1300:=by rw[<- hE];exact aNj q1 λb hb=>(q2 b hb).1
   have hEd:sb [124] (hd.map aO9)=E hd:=by rw[<- hE]
   have dy:=wS (i:=i) omT;simp only[go_sem,↓aB,seval,e12,e10,hlt,cj,bS];refine bJ (id:=2) (λj ρ2 H2 wr=>wr=[]/\ρ2 18=vi j/\∃w2 o2,H2=H++[o2,o]/\ρ2 6=w2/\ew H.length 1 (((hd.take j).map aO9).map aN) w2 o2) hd.length
    (λρ2 H2 wr=>wr=[]/\∃w2 o2,H2=H++[o2,o]/\ρ2 6=w2/\ew H.length 1 ((hd.map aO9).map aN) w2 o2)
    bIv rfl ⟨rfl,rfl,.sl Pa [],x,rfl,rfl,.nil _⟩ ?_ ?_
   .rintro j ρ2 H2 en mo ⟨rfl,f18,w2,o2,rfl,f6,qu⟩ cq;have f17:=cq 17 rfl;have f16:=cq 16 rfl;simp only[go_sem,↓aB,seval,f18,f17];refine aD (λdp=>?_) (λdp=>?_)
    .have jlt:j<hd.length:=by simp at dp;omega
     have fh:=mgE gH jlt;obtain⟨r1,r2⟩:=q2 _ (AS jlt);have sh:=lH aO9 jlt;generalize hd[j]=bar at *;have B5:=λH=>aDB F bar r1 r2 H;obtain⟨w',o',eu,db⟩:=aEy qu soT (aO9 bar);rw[<- sh]at eu;have gn:=wS (i:=j) omT;have zr:=λf=>db (H++[o2,o]) f (by rw[aBd];rfl);simp only[go_sem,↓aB,seval,f18,f16,f6,jlt,fh,gH,B5,zr,gn];exact⟨w',o',rfl,rfl,eu⟩
    have hj:j=hd.length:=by simp at dp;omega
    subst hj;rw[DM]at qu;simp only[go_sem,seval];exact⟨w2,o2,rfl,f6,qu⟩
   rintro ρ2 H2 en ⟨rfl,w2,o2,rfl,f6,qu⟩ cq;have f3:=(cq 3 rfl).trans e3;have f12:=(cq 12 rfl).trans e12;have hj:=qI F.join qu [124] soT (by rw[hEd];omega);rw[hEd]at hj;have tt:=λsite=>hj (H++[o2,o]) site (by rw[aBd];rfl);obtain⟨w',o',eu,db⟩:=aEy hg soT (E hd);rw[<- pk]at eu;have zr:=λf=>db (H++[o2,o]) f (by rw[bX];rfl);simp only[go_sem,↓aB,seval,f3,f6,f12,tt,zr,dy];exact⟨hlt,w',o',_,rfl,rfl,eu⟩
  have hi:i=l.length:=by simp at hb;omega
  subst hi;rw[DM]at hg;simp only[go_sem,seval];exact⟨w,o,x,rfl,e3,hg⟩
 rintro ρ2 H2 en ⟨rfl,w,o,x,rfl,e3,hg⟩ hf;have hj:=qI F.join hg [47] soT (by
  have:=aF7 (l:=l.map E) (sep:=[47]) (λs ml=>by
   obtain⟨t,ht,rfl⟩:=DB.1 ml;rw[<- hE];exact aNj (hs t ht).1 λb hb=>((hs t ht).2 b hb).1)
  simp at this;omega)
 have tt:=λsite=>hj (H++[x,o]) site (by rw[bX];rfl);simp only[go_sem,↓aB,seval,e3,tt,hW]
end
abbrev aCz:=bTw 220 (bIF 154007 [])
abbrev aCA:=bTw 220 (bIF 151 [(1203,aCz)])
def zT:=(.mk _:bb 220 (bIC [(151,aCA)])).x
def mGp:List (UInt8×Str):=[(126,[126,126]),(124,[126,124]),(59,[126,59])]
def aMh:∀s:Str,nS (gI mGp) s=esc mG s
 | []=>rfl
 |c::s=>by
  rw[aAu,aFC,aMh s];congr 1;unfold mG;by_cases e1:c=126
  .subst e1;rfl
  by_cases e2:c=124
  .subst e2;rfl
  by_cases e3:c=59
  .subst e3;rfl
  have:gI mGp c=none:=by simp[gI,mGp,e1,e2,e3]
  rw[aEo this];simp[e1,e2,e3]
def aSf(s:Str):(esc mG s).length<=2*s.length:=by
 rw[<- aMh];exact aDf (λc t e=>by
  have:=aDg e;have h2:∀p∈mGp,p.2.length<=2:=deT;exact h2 _ this) omT s
def aA0(H:LO)(r:Bool)(a b:ah):LO:=H++(if r then [a,b,.vec 1 1 (fP mGp),qZ 1 (H.length+5)]++uD mGp (H.length+4)else [a,b,.vec 1 1 (fP mGp),aIw 1 (H.length+2) 1 6])
section
variable {H:LO}{r:Bool}{a b x:ah}
def bC4:(aA0 H r a b)[H.length]? = N1 a:=by unfold aA0;rw[aBd];cases r<;>rfl
def bC5:(aA0 H r a b)[H.length+1]? = N1 b:=by unfold aA0;rw[bX];cases r<;>rfl
def bBa:(aA0 H r a b).set H.length x=aA0 H r x b:=by unfold aA0;rw[aBe];cases r<;>rfl
def bBb:(aA0 H r a b).set (H.length+1) x=aA0 H r a x:=by unfold aA0;rw[eS];cases r<;>rfl
def aVc:(aA0 H r a b).take H.length=H:=by unfold aA0;rw[aD8]
end
section
variable {A:af}{tB tP:Nat}
structure rj(A:af)(tB tP:Nat) extends MelFns A tB tP where
 newR:Has A 131 jA
 rpl:mh A
 bsr:Has A 422 dB
 num:422=422
 cd:Has A 220 zT
def aSg(F:rj A tB tP){r:Bool}{a b:ah}{s:Str}(hs:s.length<=1000):∃wr,aG A 132 [.ptr (H.length+3) 1 0,.str s] (aA0 H r a b)=N1 (.str (esc mG s),aA0 H Pa a b,wr)/\∀x∈wr,H.length<=x:=by
 have hB:=aNa F.bsr F.num F.cnt mGp deT deT deT deT;rw[<- aMh];cases r with
 |true=>
  have h1:(aA0 H Pa a b)[H.length+3]? = N1 (qZ 1 (H.length+5)):=by unfold aA0;rw[bX];rfl
  have h2:(aA0 H Pa a b)[H.length+5]? = N1 (.box 1 (bsr (gI mGp) (.sr (H.length+4) 1 mGp.length))):=by unfold aA0;rw[bX];rfl
  have h3:(aA0 H Pa a b)[H.length+4]? = N1 (.vec 1 1 (mGp.reverse.map λp=>[.str [p.1]])):=by unfold aA0;rw[bX];rfl
  exact⟨[],aJs F.rpl hB hs h1 h2 h3,λx hx=>by cases hx⟩
 |false=>
  have h1:(aA0 H Po a b)[H.length+3]? = N1 (aIw 1 (H.length+2) 1 (fP mGp).length):=by unfold aA0;rw[bX];rfl
  have h2:(aA0 H Po a b)[H.length+2]? = N1 (.vec 1 1 (fP mGp)):=by unfold aA0;rw[bX];rfl
  have h3:=aDd F.rpl hB deT deT deT deT hs h1 h2;refine⟨[H.length+3], ?_,λx hx=>by rw[CG.1 hx];omega⟩;rw[h3];have hl:(aA0 H Po a b).length=H.length+4:=by unfold aA0;simp
  rw[hl];unfold aA0;rw[eS,CJ];rfl
def aHM(F:rj A tB tP)(l:List (List Str))(hl:l.length<=16)(hs:∀r∈l,r.length<=16/\∀s∈r,s.length<=1000)(H:LO):aG A 220 [.agg [.sl Po (l.map bY)]] H=N1 (.str (aRX l),H,[]):=by
 refine F.cd.call ?_;have h1:=zL F.newR mGp deT deT (H++[.gone 0,.gone 0]);rw[show (H++[ah.gone 0,.gone 0]).length+1=H.length+3 by simp,show H++[ah.gone 0,.gone 0]++[.vec 1 1 (fP mGp),.box 1 [.int .u32 0,.int .i32 0,.int .u32 0,.bj,.sr (H++[ah.gone 0,.gone 0]).length 1 (fP mGp).length]]=aA0 H Po (.gone 0) (.gone 0)from by
  rw[show (H++[ah.gone 0,.gone 0]).length=H.length+2 by simp,CJ];rfl]at h1
 have cn:[[AV.str [126]],[AV.str [126,126]],[AV.str [124]],[AV.str [126,124]],[AV.str [59]],[AV.str [126,59]]]=fP mGp:=rfl;simp only[zT];simp only[go_sem,↓aB,seval,cn,h1];have hW:aRX l=sb [59] (l.map λr=>sb [124] (r.map (esc mG))):=rfl;have hEl:∀r∈l,(sb [124] (r.map (esc mG))).length<=33000:=λr hr=>by
  obtain⟨q1,q2⟩:=hs r hr;have:=aF7 (l:=r.map (esc mG)) (sep:=[124]) (M:=2000) (λs ml=>by
   obtain⟨t,ht,rfl⟩:=DB.1 ml;have:=aSf t;have:=q2 t ht;omega)
  simp at this;omega
 generalize hE:(λr:List Str=>sb [124] (r.map (esc mG)))=E at hW;refine bJ (id:=0) (λi ρ1 H1 wr=>wr=[]/\ρ1 15=vi i/\∃w o x r,H1=aA0 H r x o/\ρ1 4=w/\ew (H.length+1) 1 (((l.take i).map E).map aN) w o) l.length
  (λρ1 H1 wr=>wr=[]/\∃w o x r,H1=aA0 H r x o/\ρ1 4=w/\ew (H.length+1) 1 ((l.map E).map aN) w o)
  bIv rfl ⟨rfl,rfl,.sl Pa [],.gone 0,.gone 0,Po,rfl,rfl,.nil _⟩ ?_ ?_
 .rintro i ρ1 H1 dc mg ⟨rfl,e15,w,o,x,rb,rfl,e4,hg⟩ hf;have e14:=hf 14 rfl;have e13:=hf 13 rfl;have e3:=hf 3 rfl;simp only[go_sem,↓aB,seval,e15,e14];refine aD (λhb=>?_) (λhb=>?_)
  .have hlt:i<l.length:=by simp at hb;omega
   have cj:=mgE bY hlt;obtain⟨q1,q2⟩:=hs _ (AS hlt);have pk:=lH E hlt;have hEd:sb [124] (l[i].map (esc mG))=E l[i]:=by rw[<- hE]
   have hEl1:=hEl _ (AS hlt);generalize l[i]=row at *;rw[hEd]at hEl1;have dy:=wS (i:=i) omT;simp only[go_sem,↓aB,seval,e15,e13,hlt,cj,bY];refine bJ (id:=2) (λj ρ2 H2 wr=>wr=[]/\ρ2 21=vi j/\∃w2 o2 r2,H2=aA0 H r2 o2 o/\ρ2 7=w2/\ew H.length 1 (((row.take j).map (esc mG)).map aN) w2 o2) row.length
    (λρ2 H2 wr=>wr=[]/\∃w2 o2 r2,H2=aA0 H r2 o2 o/\ρ2 7=w2/\ew H.length 1 ((row.map (esc mG)).map aN) w2 o2)
    bIv rfl ⟨rfl,rfl,.sl Pa [],x,rb,rfl,rfl,.nil _⟩ ?_ ?_
   .rintro j ρ2 H2 en mo ⟨rfl,f21,w2,o2,r2,rfl,f7,qu⟩ cq;have f20:=cq 20 rfl;have f19:=cq 19 rfl;have f3:=(cq 3 rfl).trans e3;simp only[go_sem,↓aB,seval,f21,f20];refine aD (λdp=>?_) (λdp=>?_)
    .have jlt:j<row.length:=by simp at dp;omega
     have fh:=mgE aN jlt;have q3:=q2 _ (AS jlt);have sh:=lH (esc mG) jlt;generalize row[j]=s at *;obtain⟨wr3,c1,c2⟩:=aSg F (H:=H) (r:=r2) (a:=o2) (b:=o) q3;obtain⟨w',o',eu,db⟩:=aEy qu soT (esc mG s);rw[<- sh]at eu;have gn:=wS (i:=j) omT;have zr:=λf=>db (aA0 H Pa o2 o) f bC4;rw[bBa]at zr;simp only[go_sem,↓aB,seval,f21,f19,f3,f7,jlt,fh,aN,c1,kH c2,zr,gn];exact⟨w',o',Pa,rfl,rfl,eu⟩
    have hj:j=row.length:=by simp at dp;omega
    subst hj;rw[DM]at qu;simp only[go_sem,seval];exact⟨w2,o2,r2,rfl,f7,qu⟩
   rintro ρ2 H2 en ⟨rfl,w2,o2,r2,rfl,f7,qu⟩ cq;have f4:=(cq 4 rfl).trans e4;have f15:=(cq 15 rfl).trans e15;have hj:=qI F.join qu [124] soT (by rw[hEd];omega);rw[hEd]at hj;have tt:=λsite=>hj (aA0 H r2 o2 o) site bC4;obtain⟨w',o',eu,db⟩:=aEy hg soT (E row);rw[<- pk]at eu;have zr:=λf=>db (aA0 H r2 o2 o) f bC5;rw[bBb]at zr;simp only[go_sem,↓aB,seval,f4,f7,f15,tt,zr,dy];exact⟨hlt,w',o',_,_,rfl,rfl,eu⟩
  have hi:i=l.length:=by simp at hb;omega
  subst hi;rw[DM]at hg;simp only[go_sem,seval];exact⟨w,o,x,rb,rfl,e4,hg⟩
 rintro ρ2 H2 en ⟨rfl,w,o,x,rb,rfl,e4,hg⟩ hf;have hj:=qI F.join hg [59] soT (by
  have:=aF7 (l:=l.map E) (sep:=[59]) (λs ml=>by
   obtain⟨t,ht,rfl⟩:=DB.1 ml;rw[<- hE];exact hEl t ht)
  simp at this;omega)
 have tt:=λsite=>hj (aA0 H rb x o) site bC5;simp only[go_sem,↓aB,seval,e4,tt,hW,aVc]
end
def aCB:=(.mk _:bb 142 bTx).x
def aDC:=(.mk _:bb 208 bTx).x
def aDD:=(.mk _:bb 212 bTx).x
def aDE:=(.mk _:bb 215 bTx).x
def aDF:=(.mk _:bb 219 bTx).x
def aDG:=(.mk _:bb 223 bTx).x
def aBY:=(.mk _:bb 227 bTx).x
abbrev aHN:=bTw 94 (bJ6 11)
abbrev aBZ:LN:=[0,2,7]
def aH2:=(.mk _:bb 94 (bIC [(11,.region Pa aHN)])).x
section
variable {A:af}{tB tP:Nat}
def aH3:LA:=[vi 0,vi 1,vi 2,vi 3,vi 5,vi 6]
def aH4:LA:=[(208,210),(212,214),(215,217),(219,221),(223,225),(227,229)].map λp=>.agg [.fn p.1 [] [],.fn p.2 [] []]
def aVd{o v:Nat}:aDR base H (.mp o v)=match H[o]? with
  |some (.map v' es)=>if v'=v/\base<=o then N1 (.fmp (es.map Prod.fst) (es.map Prod.snd),H.set o (.gone v),[o])else N1 (.mp o v,H,[])
  |_=>N1 (.mp o v,H,[]):=rfl
def aQe(h:Has A 142 aCB)(H:LO):aG A 142 [] H=N1 (.fmp aH3 aH4,H,[]):=by refine h.call ?_;simp only[aCB];simp only[go_sem,↓aB,seval,aVd];rw[qQ rfT,aD8];exact⟨rfl,rfl,rfl⟩
structure og(A:af)(tB tP:Nat):Prop where
 form:lu A
 wrt:rj A tB tP
 B9:aBk A
 ways:Has A 142 aCB
 w1:Has A 208 aDC
 w3:Has A 212 aDD
 w4:Has A 215 aDE
 w6:Has A 219 aDF
 w8:Has A 223 aDG
 w10:Has A 227 aBY
 text:Has A 94 aH2
def aYc(F:og A tB tP)(b:Block)(hb:b.Ok)(h:dQ b=Pa)(h1:b.kind=1->aBV b.expr=0):b.kind≠4 ->∃j,j<6/\aH3[j]? = N1 (vi b.kind)/\∃f1 f2,aH4[j]? = N1 (.agg [.fn f1 [] [],.fn f2 [] []])/\∀H,aG A f1 [.agg (aE b)] H=N1 (.str (wB b),H,[]):=by
 intro h4;have hk:xU b=true:=by unfold dQ at h;simp only[AI]at h;exact h.2
 obtain⟨op,n,ks,mn⟩:∃op n ks,b.expr=Expr.mk op n ks:=by cases b.expr;exact⟨_,_,_,rfl⟩
 have Ra:aF b.expr=[vi op,vi n,.sl Po (ks.map aF)]:=uXm
 have ig:aE b=[vi b.kind,.sl Po (b.runs.map cZ),vi op,vi n,.sl Po (ks.map aF),vi b.dn,.sl Po (b.eg.map bF),.sl Po (b.cd.map bY),vi b.w,vi b.h,.sl Po (b.aw.map aH),.sl Po (b.bo.map bS),.sl Po (b.lines.map aN)]:=by unfold aE;rw[Ra];rfl
 unfold xU at hk;by_cases k0:b.kind=0
 .refine⟨0,deT,by rw[k0];rfl,_,_,rfl,λH=>?_⟩;have hw:wB b=aHA 0 b.runs:=by unfold wB;rw[Vx k0]
  have hr:=aHK F.wrt.toWrtFns b.runs hb.vw (λr hr=>(hb.runs r hr).text) H;rw[hw,ig];refine F.w1.call ?_;simp only[aDC];simp only[go_sem,↓aB,seval,hr]
 by_cases k1:b.kind=1
 .refine⟨1,deT,by rw[k1];rfl,_,_,rfl,λH=>?_⟩;have hw:wB b=wX b.expr:=by unfold wB;rw[Vw k0,Vx k1]
  have hr:=aJt F.form F.B9 b.expr hb.expr hb.size (h1 k1) H;rw[Ra]at hr;rw[hw,ig];refine F.w3.call ?_;simp only[aDD];simp only[go_sem,↓aB,seval,hr]
 by_cases k2:b.kind=2
 .refine⟨2,deT,by rw[k2];rfl,_,_,rfl,λH=>?_⟩;rw[Vw k0,Vw k1,Vx k2]at hk;simp only[AI,eG]at hk;obtain⟨Qx,_,hnA⟩:=hk;have hw:wB b=aWn b.dn b.eg:=by unfold wB;rw[Vw k0,Vw k1,Vx k2]
  have hr:=aJD F.wrt.toWrtFns b.dn b.eg (by simp at Qx;omega) hb.tj (λn hn=>by
   have:=AO.1 hnA n hn;simp only[aUP,eG]at this;exact this) H
  rw[hw,ig];refine F.w4.call ?_;simp only[aDE];simp only[go_sem,↓aB,seval,hr]
 by_cases k3:b.kind=3
 .refine⟨3,deT,by rw[k3];rfl,_,_,rfl,λH=>?_⟩;have hw:wB b=aRX b.cd:=by unfold wB;rw[Vw k0,Vw k1,Vw k2,Vx k3]
  have hr:=aHM F.wrt b.cd hb.uu hb.cd H;rw[hw,ig];refine F.w6.call ?_;simp only[aDF];simp only[go_sem,↓aB,seval,hr]
 by_cases k5:b.kind=5
 .refine⟨4,deT,by rw[k5];rfl,_,_,rfl,λH=>?_⟩;rw[Vw k0,Vw k1,Vw k2,Vw k3,Vw h4,Vx k5]at hk;simp only[aUO,AI,eG]at hk;obtain⟨_,hH⟩:=hk;have hw:wB b=aJm b.bo:=by unfold wB;rw[Vw k0,Vw k1,Vw k2,Vw k3,Vx k5]
  have hr:=aFs F.wrt.toMelFns b.bo hb.uv (λx hx=>⟨(hb.bo x hx).1,λbar sk=>⟨((hb.bo x hx).2 bar sk).1,λnt hnt=>by
   have h1:=AO.1 hH x hx;simp only[aKL,AI]at h1;have h2:=AO.1 h1.2.2 bar sk;simp only[aT9,AI]at h2;exact AO.1 h2.2 nt hnt⟩⟩) H
  rw[hw,ig];refine F.w8.call ?_;simp only[aDG];simp only[go_sem,↓aB,seval,hr]
 by_cases k6:b.kind=6
 .refine⟨5,deT,by rw[k6];rfl,_,_,rfl,λH=>?_⟩;have hw:wB b=aPJ b.lines:=by unfold wB;rw[Vw k0,Vw k1,Vw k2,Vw k3,Vw k5]
  have hr:=aH1 F.wrt.toWrtFns b.lines (by have:=hb.vz;omega) hb.lines H;rw[hw,ig];refine F.w10.call ?_;simp only[aBY];simp only[go_sem,↓aB,seval,hr]
 rw[Vw k0,Vw k1,Vw k2,Vw k3,Vw h4,Vw k5,Vw k6]at hk;cases hk
def aSi{k:Int}:∀j<6,aH3[j]? = N1 (vi k)->aH4[j]? = N1 v->findKey (vi k) (aH3.zip aH4) 0=N1 (N1 (j,v)):=by
 intro j hj h1 h2;rcases j with _|_|_|_|_|_|j
 all_goals first
  |omega
  | (simp only[aH3,BG,CT,AG,AV.int.injEq,true_and]at h1;subst h1;simp only[aH4,BI,BG,CT,AG]at h2;subst h2;rfl)
end
def wG:=(.mk _:bb 274 bTx).x
def aC0:=(.mk _:bb 436 bTx).x
def aH5:=(.mk _:bb 442 bTx).x
def wH:=(.mk _:bb 433 bTx).x
abbrev aBB:=bTw 435 (bJ6 5)
abbrev pQ:LN:=[2,5]
def wI:=(.mk _:bb 435 (bIC [(5,.region Pa aBB)])).x
def wJ:=(.mk _:bb 437 bTx).x
def wK:=(.mk _:bb 439 bTx).x
def wL:=(.mk _:bb 440 bTx).x
abbrev aBC:=bTw 441 (bJ6 5)
abbrev bKq:LN:=[1,4]
def wM:=(.mk _:bb 441 (bIC [(5,.region Pa aBC)])).x
def wN:=(.mk _:bb 443 bTx).x
structure wz(A:af):Prop where
 noY:sn A
 has:Has A 274 wG
 cd:Has A 434 aGW
 za:Has A 444 yR
 aw:Has A 438 aDr
 uy:Has A 445 rG
 I8:Has A 436 aC0
 bars:Has A 442 aH5
 f1:Has A 433 wH
 f2:Has A 435 wI
 f3:Has A 437 wJ
 f4:Has A 439 wK
 f5:Has A 440 wL
 f6:Has A 441 wM
 f7:Has A 443 wN
def lJ(b kind:Int):Bool:=(b==kind) || (decide (b<0)&&(kind != 4))
section
variable {A:af}
def eW(b:Block):∃(op n:Int)(ks:List Expr),aE b=[vi b.kind,.sl Po (b.runs.map cZ),vi op,vi n,.sl Po (ks.map aF),vi b.dn,.sl Po (b.eg.map bF),.sl Po (b.cd.map bY),vi b.w,vi b.h,.sl Po (b.aw.map aH),.sl Po (b.bo.map bS),.sl Po (b.lines.map aN)]:=by
 obtain⟨op,n,ks,mn⟩:∃op n ks,b.expr=Expr.mk op n ks:=by cases b.expr;grind
 refine⟨op,n,ks, ?_⟩;unfold aE;rw[mn,aF,aZ];rfl
def aL9(F:wz A)(b kind:Int)(n:Nat)(H:LO):aG A 274 [tH b n,vi kind] H=N1 (.bool (lJ b kind),H,[]):=by
 refine F.has.call ?_;simp only[wG,lJ,tH];cases e1:(b==kind)with
 |true=>simp only[go_sem,↓aB,seval,e1,CE]
 |false=>cases e2:decide (b<0)with
  |false=>simp only[go_sem,↓aB,seval,e1,e2,Aa]
  |true=>simp only[go_sem,↓aB,seval,e1,e2]
def aDH(F:wz A)(n m:Nat)(H:LO):aG A 434 [vi n,vi m] H=N1 (.fn 444 [] [.ep [vi n] 0,.ep [vi m] 0],H,[]):=by refine F.cd.call ?_;simp only[aGW];simp only[go_sem,↓aB,seval]
def aCC(F:wz A)(b:Block)(kind:Int)(H:LO):aG A 438 [.agg (aE b),vi kind] H=N1 (.fn 445 [] [.ep (aE b) 0,.ep [vi kind] 0],H,[]):=by refine F.aw.call ?_;simp only[aDr];obtain⟨c2,c3,c4,ig⟩:=eW b;rw[ig];simp only[go_sem,↓aB,seval];rw[jG (AQ _)];exact⟨rfl,rfl,rfl⟩
def aFt(b:Block):Nat:=(b.cd.headD []).length
def aFu(b:Block):Nat:=(b.bo.headD []).length
def aLa(F:wz A)(b:Block)(H:LO):aG A 436 [.agg (aE b)] H=N1 (vi (aFt b),H,[]):=by
 refine F.I8.call ?_;simp only[aC0];obtain⟨c2,c3,c4,ig⟩:=eW b;rw[ig];cases hg:b.cd with
 |nil=>simp only[go_sem,↓aB,seval,aFt,hg,OW]
 |cons r rs=>have hz:(((rs.length+1:Nat):Int)==0)=false:=soT;simp only[go_sem,↓aB,seval,aFt,hg,hz,ON,bY]
def aQf(F:wz A)(b:Block)(H:LO):aG A 442 [.agg (aE b)] H=N1 (vi (aFu b),H,[]):=by
 refine F.bars.call ?_;simp only[aH5];obtain⟨c2,c3,c4,ig⟩:=eW b;rw[ig];cases hg:b.bo with
 |nil=>simp only[go_sem,↓aB,seval,aFu,hg,OW]
 |cons r rs=>have hz:(((rs.length+1:Nat):Int)==0)=false:=soT;simp only[go_sem,↓aB,seval,aFu,hg,hz,ON,bS]
def aWq(b:Block):Nat->aEw
 |0=>qA 1 1
 |1=>qA b.cd.length (aFt b)
 |2=>bJ7 b.aw 2 b.aw.length b.aw.length
 |3=>bJ7 b.aw 3 b.aw.length b.aw.length
 |4=>bJ7 b.aw 4 b.aw.length b.aw.length
 |5=>qA (aFu b) b.bo.length
 |_=>qA b.lines.length 1
def aBp:Nat->Int
 |0 => -1
 |1=>3
 |2=>4
 |3=>4
 |4=>4
 |5=>5
 |_=>6
def aVe:Nat->Nat
 |0=>433
 |1=>435
 |2=>437
 |3=>439
 |4=>440
 |5=>441
 |_=>443
def aJE{α:Type}{l:List (List α)}(h:∀r∈l,r.length<=n):(l.headD []).length<=n:=by
 cases l with
 |nil=>grind
 |cons r rs=>grind
def aSk(F:wz A)(b:Block)(hb:b.Ok)(k:Nat)(hk:k<7):∃f ay,jc ay/\aV7 A f ay (aWq b k)/\∀H:LO,aG A (aVe k) [.agg (aE b)] H=N1 (.fn f [] ay,H,[]):=by
 have hc:aFt b<=16:=aJE λr hr=>(hb.cd r hr).1;have hba:aFu b<=16:=aJE λr hr=>(hb.bo r hr).1;have hg:=hb.uu;have hs:=hb.fg;have hh:=hb.uv;have hl:=hb.vz;have cg:∀n m:Nat,jc [.ep [vi n] 0,.ep [vi m] 0]:=λn m=>(bIJ.ep _ _).ep _ _;have cs:∀k:Int,jc [.ep (aE b) 0,.ep [vi k] 0]:=λk=>(bIJ.ep _ _).ep _ _;obtain⟨c2,c3,c4,ig⟩:=eW b
 match k,hk with
 |0,_=>refine⟨_,_,cg 1 1,aDt F.za omT omT,λH=>?_⟩;have h1:aG A 434 [vi 1,vi 1] H=N1 (.fn 444 [] [.ep [vi 1] 0,.ep [vi 1] 0],H,[]):=aDH F 1 1 H;refine F.f1.call ?_;simp only[wH];rw[ig];simp only[go_sem,↓aB,seval,h1]
 |1,_=>refine⟨_,_,cg b.cd.length (aFt b),aDt F.za omT omT,λH=>?_⟩;have h1:aG A 434 [vi b.cd.length,vi (aFt b)] H=N1 (.fn 444 [] [.ep [vi b.cd.length] 0,.ep [vi (aFt b)] 0],H,[]):=aDH F b.cd.length (aFt b) H;have h2:=aLa F b H;rw[ig]at h2;refine F.f2.call ?_;simp only[wI];rw[ig];simp only[go_sem,↓aB,seval];refine aY (aq:=pQ) rfT rfT ?_;simp only[go_sem,↓aB,seval,pQ,h1,h2,eH,dG,aL]
 |2,_=>refine⟨_,_,cs 2,aCw F.uy b 2 omT,λH=>?_⟩;have h1:=aCC F b 2 H;rw[ig]at h1;refine F.f3.call ?_;simp only[wJ];rw[ig];simp only[go_sem,↓aB,seval,h1];rw[jG (AQ _)];exact⟨rfl,rfl,rfl⟩
 |3,_=>refine⟨_,_,cs 3,aCw F.uy b 3 omT,λH=>?_⟩;have h1:=aCC F b 3 H;rw[ig]at h1;refine F.f4.call ?_;simp only[wK];rw[ig];simp only[go_sem,↓aB,seval,h1];rw[jG (AQ _)];exact⟨rfl,rfl,rfl⟩
 |4,_=>refine⟨_,_,cs 4,aCw F.uy b 4 omT,λH=>?_⟩;have h1:=aCC F b 4 H;rw[ig]at h1;refine F.f5.call ?_;simp only[wL];rw[ig];simp only[go_sem,↓aB,seval,h1];rw[jG (AQ _)];exact⟨rfl,rfl,rfl⟩
 |5,_=>refine⟨_,_,cg (aFu b) b.bo.length,aDt F.za omT omT,λH=>?_⟩;have h1:aG A 434 [vi (aFu b),vi b.bo.length] H=N1 (.fn 444 [] [.ep [vi (aFu b)] 0,.ep [vi b.bo.length] 0],H,[]):=aDH F (aFu b) b.bo.length H;have h2:=aQf F b H;rw[ig]at h2;refine F.f6.call ?_;simp only[wM];rw[ig];simp only[go_sem,↓aB,seval];refine aY (aq:=bKq) rfT rfT ?_;simp only[go_sem,↓aB,seval,bKq,h1,h2,eH,dG,aL]
 |6,_=>refine⟨_,_,cg b.lines.length 1,aDt F.za omT omT,λH=>?_⟩;have h1:aG A 434 [vi b.lines.length,vi 1] H=N1 (.fn 444 [] [.ep [vi b.lines.length] 0,.ep [vi 1] 0],H,[]):=aDH F b.lines.length 1 H;refine F.f7.call ?_;simp only[wN];rw[ig];simp only[go_sem,↓aB,seval,h1]
end
def aAQ:=(.mk _:bb 206 (bIF 31947 [])).x
abbrev aH6:=bTw 206 (bIF 75 [(499,aAQ)])
def oZ:=(.mk _:bb 206 (bIC [(75,aH6)])).x
def aF8(b:Block)(at':Int)(k:Nat):List Fact:=if lJ (aBp k) b.kind then (aWq b k).map λp=>⟨k,at',p.1,p.2⟩ else []
def nO(b:Block)(at':Int)(n:Nat):List Fact:=(GZ n).flatMap (aF8 b at')
def eM(b:Block)(at':Int):List Fact:=nO b at' 7
def aAR:nO b at' (n+1)=nO b at' n++aF8 b at' n:=by unfold nO;rw[LQ,JK];simp
def aNk(hb:b.Ok)(k:Nat):(aWq b k).length<=256:=by
 have hc:aFt b<=16:=aJE λr hr=>(hb.cd r hr).1;have hba:aFu b<=16:=aJE λr hr=>(hb.bo r hr).1;have hs:∀kind,(bJ7 b.aw kind b.aw.length b.aw.length).length<=256:=λkind=>by
  have h1:=MJ (λp:Nat×Nat=>aGY b.aw kind p.1 p.2) (qA b.aw.length b.aw.length);rw[rH]at h1;have h2:b.aw.length*b.aw.length<=16*16:=JL hb.fg hb.fg;unfold bJ7;omega
 unfold aWq;split
 .rw[rH];decide
 .rw[rH];exact JL hb.uu hc
 .exact hs _
 .exact hs _
 .exact hs _
 .rw[rH];exact JL hba hb.uv
 rw[rH];have:=hb.vz;omega
def yT(hb:b.Ok)(n:Nat):(nO b at' n).length<=n*256:=by
 induction n with
 |zero=>exact AQ _
 |succ n ih=>
  rw[aAR,BA,JS];have:(aF8 b at' n).length<=256:=by
   unfold aF8;split
   .rw[AF];exact aNk hb n
   grind
  omega
def bBc(base:Nat)(w:AV)(x4:ah)(rows:List Fact):Prop:=(rows=[]/\w=.sl Pa [])∨(rows≠[]/\∃ver,w=.sr (base+4) ver rows.length/\x4=.vec ver 4 (rows.map aI))
abbrev bBd:ag:=.seq (qS [qm 8 25]<|.region Po [qm 9 26])<|.block 3 (qR [ql 27 1 5,ql 28 1 6,ql 29 1 3,qm 30 8,qm 31 9,qq 32 (.build [z0,z0,z0,z0] [(0,1,(.tmp 28)),(1,1,(.tmp 29)),(2,1,(.tmp 30)),(3,1,(.tmp 31))]),qq 33 (.bsl 4 [z0,z0,z0,z0] 1 [(0,(.tmp 32))]),qa 34 4 32 27 33,qs 1 5 34])
abbrev bBe(base v:Nat)(l:LA):ah:=.rnd v base [5,6,7,25,34] [25,26] bBd l Po N2
def FI(H:LO)(k:Nat)(at':Int)(v v6:Nat)(x2:ah)(tail:LO)(pre:List Fact)(p:aEw)(X:LO):Prop:=∃w x4 l,X=H++(.box 1 [w]::.box v6 [vi k]::x2::bBe H.length v l::x4::tail)/\l.length=37 /\
 ck l 5=.ptr H.length 1 0/\ck l 6=.ptr (H.length+1) v6 0/\ck l 3=.ep [vi at'] 0/\bBc H.length w x4 (pre++p.map λq=>⟨k,at',q.1,q.2⟩)
def aOo{b a1 a2 a3 a4 a5 o v t:Nat}(h:([a1,a2,a3,a4,a5].contains t)=Po)(ht:t<YF):(⟨b,[a1,a2,a3,a4,a5,YF+o,YF+v]⟩:Ctx).site (N1 t)=none:=by
 unfold Ctx.site
 grind
section
variable {A:af}
def aYd(hY:sn A)(H:LO)(k:Nat)(at':Int)(v v6:Nat)(x2:ah)(tail:LO)(pre:List Fact)(sd:pre.length<=10000):ux A (H.length+3) v H.length (H.length+5+tail.length) (FI H k at' v v6 x2 tail pre):=by
 refine⟨λp X hX=>?_,λp X Y a b hp ha hb hX=>?_⟩
 .obtain⟨w,x4,l,rfl,_⟩:=hX;simp;omega
 obtain⟨w,x4,l,rfl,hl,h5,h6,h3,hw⟩:=hX;rw[CJ];simp only[DO];obtain⟨e,H',wr,h1,he,h2,h4⟩:=mT hY (K:=λe H' wr=>e=.normal/\(∃H0,H'=H0++Y/\FI H k at' v v6 x2 tail pre (p++[(a,b)]) H0)/\∀x∈wr,H.length<=x) (N:=37) (l:=l) (xs:=[vi a,vi b]) (o:=H.length+3) (v:=v)
  (H:=H++(.box 1 [w]::.box v6 [vi k]::x2::bBe H.length v l::x4::(tail++Y))) (by rw[bX];rfl) rfl bIv bIv hl (by
   have hs:ck (dH l [25,26] [vi a,vi b])=upd (upd (ck l) 25 (vi a)) 26 (vi b):=by show ck ((l.set 25 (vi a)).set 26 (vi b))=_;rw[nG uWa,nG omT]
   rw[hs];generalize hρ:ck l=ρ at *;simp only[DO,CW];simp only[go_sem,↓aB,seval];have h33:(⟨H.length,[5,6,7,25,34,YF+(H.length+3),YF+v]⟩:Ctx).site (N1 33)=none:=aOo rfT deT;have fq:∀{w2:LN}{n:Nat},(∀x∈w2,H.length<=x)->∀x∈List.range' H.length n++(H.length+3)::w2,H.length<=x:=λ{w2 n} h x hx=>by
    grind
   refine⟨_,_,_,_,_,rfl, ?_⟩;have Qk:(pre++p.map λq=>(⟨k,at',q.1,q.2⟩:Fact)).length<=20000:=uWa
   have lv:(pre++(p++[(a,b)]).map λq=>(⟨k,at',q.1,q.2⟩:Fact))=(pre++p.map λq=>(⟨k,at',q.1,q.2⟩:Fact))++[⟨k,at',a,b⟩]:=uWa
   generalize hR:(pre++p.map λq=>(⟨k,at',q.1,q.2⟩:Fact))=R at *;have h4lt:4<tail.length+Y.length+1+1+1+1+1:=omT;rcases hw with⟨rfl,rfl⟩ | ⟨bl,ver,rfl,rfl⟩
   .have hr:bP 1 32=true:=deT;simp only[go_sem,↓aB,seval,h5,h6,h3,h33,eX,hr,h4lt];exact⟨_,_,_,_,_,rfl,⟨_,(CJ H (_::_::_::_::_::tail) Y).symm,⟨_,_,l,rfl,hl,uWl,uWl,uWl,by rw[lv];exact .inr ⟨siT,_,rfl,rfl⟩⟩⟩,fq siT⟩
   have hr:bP (R.length+1) 32=true:=by unfold bP;simp;omega
   simp only[go_sem,↓aB,seval,h5,h6,h3,h33,eX,hr];exact⟨_,_,_,_,_,rfl,⟨_,(CJ H (_::_::_::_::_::tail) Y).symm,⟨_,_,l,rfl,hl,uWl,uWl,uWl,by rw[lv];exact .inr ⟨siT,ver,uWa,by rw[DQ];rfl⟩⟩⟩,fq siT⟩)
 grind
def aNl{k:Nat}(hk:k<7):findKey (vi k) ([vi 0,vi 1,vi 2,vi 3,vi 4,vi 5,vi 6].zip aMi) 0=N1 (N1 (k,tH (aBp k) (aVe k))):=by
 match k,hk with
 |0,_=>rfl
 |1,_=>rfl
 |2,_=>rfl
 |3,_=>rfl
 |4,_=>rfl
 |5,_=>rfl
 |6,_=>rfl
def aOp(F:wz A)(h:Has A 206 oZ)(b:Block)(hb:b.Ok)(at':Int)(H:LO):∃r,((eM b at'=[]/\r=.sl Po [])∨(eM b at'≠[]/\r=.own 4 ((eM b at').map aI)))/\aG A 206 [.agg (aE b),vi at'] H=N1 (r,H,[]):=by
 obtain⟨r,H',ba,e1,rfl,rfl,e2⟩:=h.bp (args:=[.agg (aE b),vi at']) (H:=H) (K:=λr H' wr=>wr=[]/\H'=H/\((eM b at'=[]/\r=.sl Po [])∨(eM b at'≠[]/\r=.own 4 ((eM b at').map aI)))) (by
  obtain⟨op,n,ks,ig⟩:=eW b;have hfam:=λk hk=>aSk F b hb k hk;simp only[oZ];rw[ig];rw[ig]at hfam;simp only[go_sem,↓aB,seval];refine bJ (id:=0) (λk ρ1 H1 wr=>wr=[]/\ρ1 10=vi (k:Nat)/\∃w x1 x2 x3 x4 tail,H1=H++(.box 1 [w]::x1::x2::x3::x4::tail)/\bBc H.length w x4 (nO b at' k)) 7
   (λρ1 H1 wr=>wr=[]/\∃w x1 x2 x3 x4 tail,H1=H++(.box 1 [w]::x1::x2::x3::x4::tail)/\bBc H.length w x4 (eM b at')) bIv rfl ⟨rfl,rfl,_,_,_,_,_,_,rfl,.inl ⟨rfl,rfl⟩⟩ ?_ ?_
  .rintro k ρ1 H1 dc zp ⟨rfl,e10,w,x1,x2,x3,x4,tail,rfl,hw⟩ hf;have f2:ρ1 2=.ep [vi b.kind,.sl Po (b.runs.map cZ),vi op,vi n,.sl Po (ks.map aF),vi b.dn,.sl Po (b.eg.map bF),.sl Po (b.cd.map bY),vi b.w,vi b.h,.sl Po (b.aw.map aH),.sl Po (b.bo.map bS),.sl Po (b.lines.map aN)] 0:=hf 2 rfl;have f3:ρ1 3=.ep [vi at'] 0:=hf 3 rfl;have f5:ρ1 5=.ptr H.length 1 0:=hf 5 rfl;simp only[go_sem,↓aB,seval,e10];refine aD (λe3=>?_) (λe3=>?_)
   .have hlt:k<7:=by simp at e3;omega
    have dy:=wS (i:=k) omT;have wj:=aNl hlt;obtain⟨f,ay,cm,M5,az⟩:=hfam k hlt;have hhas:=λH=>aL9 F (aBp k) b.kind (aVe k) H;simp only[tH]at wj hhas;have qe:1<tail.length+1+1+1+1+1:=omT;have iq:2<tail.length+1+1+1+1+1:=omT;simp only[go_sem,↓aB,seval,e10,f2,aSj,wj,qe,iq,hhas];cases hh:lJ (aBp k) b.kind with
    |false=>
     have hk:nO b at' (k+1)=nO b at' k:=by rw[aAR];unfold aF8;rw[hh];simp
     simp only[go_sem,↓aB,seval,e10,dy];exact⟨hlt,_,_,_,_,_,_,rfl,by rw[hk];exact hw⟩
    |true=>
     have hk:nO b at' (k+1)=nO b at' k++(aWq b k).map λq=>⟨k,at',q.1,q.2⟩:=by rw[aAR];unfold aF8;rw[hh];rfl
     simp only[go_sem,↓aB,seval,f2,az];simp only[aAQ];simp only[go_sem,seval];have I9:=aNk hb k;have sd:(nO b at' k).length<=10000:=by have:=yT hb (at':=at') k;omega
     refine wC (id:=H.length+3) (v:=x3.ver+1) (X:=λl=>H++(.box 1 [w]::.box (x1.ver+1) [vi k]::.box (x2.ver+1) [vi (aBp k),.fn (aVe k) [] []]::bBe H.length (x3.ver+1) l::x4::tail)) rfT rfT siT (λ_=>rfT) (by unfold bH;rw[bX];rfl) (λl=>by rw[sV];rfl) ?_;intro l hl he;obtain⟨H',X,en,j1,⟨w',x4',l',rfl,jl,j5,j6,j3,jw⟩,j4⟩:=M5 (H.length+3) (x3.ver+1) H.length (H.length+5+tail.length) (FI H k at' (x3.ver+1) (x1.ver+1) (.box (x2.ver+1) [vi (aBp k),.fn (aVe k) [] []]) tail (nO b at' k)) _ (aYd F.noY H k at' _ _ _ tail _ sd) ⟨w,x4,l,rfl,hl,by rw[he];exact f5,by rw[he];rfl,by rw[he];exact f3,by rw[BY,AJ];exact hw⟩;rw[<- hk]at jw;refine⟨_,_,_,_,_,_,_,_,N2,j1,by rw[CJ];simp only[DO];rw[bX];rfl, ?_⟩;rw[kH (λx hx=>by rcases BD.1 hx with rfl|hx;exact Nat.le_add_right _ _;exact j4 x hx),CJ];simp only[DO];rw[eS];show pP 2 _ _ .normal _ _ _;simp only[go_sem,↓aB,seval,e10,dy];exact⟨hlt,_,_,_,_,_,_,rfl,jw⟩
   have:k=7:=by simp at e3;omega
   subst this;simp only[go_sem,seval];exact⟨w,x1,x2,x3,x4,tail,rfl,hw⟩
  rintro ρ' H' ba ⟨rfl,w,x1,x2,x3,x4,tail,rfl,hw⟩ hf;have f5:ρ' 5=.ptr H.length 1 0:=hf 5 rfl;rcases hw with⟨e0,rfl⟩ | ⟨bl,ver,rfl,rfl⟩
  .simp only[go_sem,↓aB,seval,f5];exact .inl e0
  have hd:gG ((eM b at').map aI)=true:=aC eL _;simp only[go_sem,↓aB,seval,f5,aT hd,aA hd];exact .inr bl)
 exact⟨r,e2,e1⟩
end
abbrev sD:=bTw 82 (bIF 607 [])
abbrev sE:LN:=[29,30,31,5,32,33,34,35,36,37,38,28]
abbrev sF:=bTw 82 (bIF 1279 [])
abbrev sG:LN:=[47,48,49,50,6,7,51,52,53,54,55,56,57,58,59,60,61,62,63,46]
def eN:=(.mk _:bb 82 (bIC [(607,sD),(1279,sF)])).x
def aSl{k:Int}(h0:0<=k)(h1:k<=2):∃w:Str,w.length<=6/\(aQg.drop k.toNat).take 1=[.str w]/\k.toNat+1<=aQg.length:=by
 have:∀i<3,∃w:Str,w.length<=6/\(aQg.drop i).take 1=[.str w]/\i+1<=aQg.length:=by
  intro i hi
  match i,hi with
  |0,_=>exact⟨_,deT,rfl,deT⟩
  |1,_=>exact⟨_,deT,rfl,deT⟩
  |2,_=>exact⟨_,deT,rfl,deT⟩
 exact this _ omT
section
variable {A:af}{tB tP:Nat}
def bI6(q:Question)(M:Nat):Prop:=∃m k,(∀r∈q.lk,2*r.text.length+20<=m)/\(∀s∈q.options,∀t∈q.dv,2*s.length+2*t.length+13<=k)/\23+2*q.key.length+q.cy.length*20+q.lk.length*m+q.options.length*k<=M
def bHp{q:Question}(hq:q.Ok)(hb:aWp q=Pa):bI6 q 150000:=by unfold aWp aGx at hb;simp only[AI,eG,aUL,vP,AO]at hb;obtain⟨⟨⟨⟨⟨⟨⟨b1,b2⟩,b3⟩,b4⟩,b5⟩,b6⟩,b7⟩,b8⟩:=hb;exact⟨420,213,λr hr=>by have:=b2.2.2 r hr;omega,λs hs t ht=>by have:=b4.2 s hs;have:=b5.2 t ht;omega,by have:=hq.fg;omega⟩
def aLb(F:BlockPrt A tB tP)(h:Has A 82 eN)(q:Question)(hq:q.Ok)(hb:aWp q=Pa){M:Nat}(hM:bI6 q M):aNb A 82 [.agg (gR q)] M:=by
 obtain⟨m,k,V9,Ep,Dc⟩:=hM;refine h.prt rfl (by simp[eN]) (λn=>bIv) ?_;intro H ty o v o2 v2 T c hT hbT;unfold aWp aGx at hb;simp only[AI,eG]at hb;obtain⟨⟨⟨⟨⟨⟨⟨⟨b1,b2⟩,b3⟩,b4⟩,⟨b5,b6⟩⟩,⟨b7,b8⟩⟩,⟨b9,b10⟩⟩,b11⟩,b12,b13⟩:=hb;rw[AO]at b10;have b2':q.kind<3:=omT;have b4':q.options.length=q.dv.length:=by simp at b4;omega
 obtain⟨w,dy,gn,pr⟩:=aSl b1 b2;have c':∀y:ah,gf (H++[y]).length o o2:=λy=>c.mono siT;have tx:∀{s:Str},lI s->s.length<=1000:=λh=>h;have hr:∀r∈q.lk,(r.text.length<=200 /\ -1000000<r.gg/\r.gg<1000000)/\2*r.text.length+20<=m:=λr hr=>by
  have h1:=b3.2.2;rw[AO]at h1;have:=h1 r hr;unfold aUL vP at this;simp only[AI,eG]at this;exact⟨⟨omT,omT,omT⟩,V9 r hr⟩
 have hpt:=mS F.toOutFns [q.points] Po siT soT;simp only[eN];simp only[go_sem,↓aB,seval,gR,mO c,aFE c,iZ];refine bI (fQ F.toOutFns [97,115,107] deT) (c' _) hT (by show T.length+4<=_;omega) ?_;rintro T1 dc k1 k2 k3;have k2:T1.length<=T.length+4:=k2;simp only[go_sem,↓aB,seval,mO c,b1,b2',gn,pr,FK];refine bI (pY F.toOutFns w omT) (c' _) k1 omT ?_;rintro T2 en m1 m2 m3;simp only[go_sem,↓aB,seval,mO c];refine bI hpt (c' _) m1 soT ?_;rintro T3 wr3 n1 n2 n3;have n2:T3.length<=T2.length+9:=n2;simp only[go_sem,↓aB,seval,mO c];have Y2:q.key.length<=1000:=hq.key;refine bI (sZ F.toTextFns q.key Y2) (c' _) n1 omT ?_;rintro T4 wr4 p1 p2 p3;simp only[go_sem,↓aB,seval,mO c];generalize hx:ah.box _ [vi q.kind,AV.sl Po (q.lk.map cZ),.sl Po (q.options.map aN),.sl Po (q.cy.map bF),.str q.key,vi q.points,.sl Po (q.dv.map aN)]=x;refine kU (λL wr=>L=[x]/\Wr2 o o2 wr) 0 1 28 27 29 38 q.cy.length 20 (W:=sE) rfT bIv rfl rfl rfl omT p1 ⟨rfl,bZ (bZ (bZ (bZ kT k3) m3) n3) p3⟩ ?_ ?_
 .rintro i ρ1 L1 T5 wr5 hlt e8 hf ⟨rfl,g3⟩ g1 g2;have e6:ρ1 26=.sl Po (q.cy.map bF):=hf 26 rfl;have e0:ρ1 0=.ptr o v 0:=hf 0 rfl;have cj:=mgE bF hlt;have a1:=b10 _ (AS hlt);generalize q.cy[i]=nd at *;unfold aOl at a1;rw[eG]at a1;have I0:=mS F.toOutFns [nd] Po siT soT;have dp:i*20+20<=q.cy.length*20:=omT;simp only[go_sem,↓aB,seval,e8,e6,e0,cj,bF];refine bI (fQ F.toOutFns [110,101,101,100] deT) (c' _) g1 (by show T5.length+5<=_;omega) ?_;rintro T6 wr6 r1 r2 r3;have r2:T6.length<=T5.length+5:=r2;simp only[go_sem,↓aB,seval,e0];refine bI I0 (c' _) r1 soT ?_;rintro T7 wr7 s1 s2 s3;have s2:T7.length<=T6.length+9:=s2;simp only[go_sem,↓aB,seval];exact⟨rfl,_,T7,⟨rfl,bZ (bZ g3 r3) s3⟩,s1,omT,rfl⟩
 rintro ρ2 L2 T5 wr5 ⟨rfl,g3⟩ g1 g2 hf;have e0:ρ2 0=.ptr o v 0:=hf 0 rfl;have e3:ρ2 3=.ptr H.length 1 0:=hf 3 rfl;subst hx;simp only[go_sem,↓aB,seval,e0,e3,mO c];refine bI (aNc F.toTextFns F.runs q.lk m hq.fg hr) (c' _) g1 omT ?_;rintro T6 wr6 r1 r2 r3;simp only[go_sem,↓aB,seval,e3,mO c];generalize hx:ah.box _ [vi q.kind,AV.sl Po (q.lk.map cZ),.sl Po (q.options.map aN),.sl Po (q.cy.map bF),.str q.key,vi q.points,.sl Po (q.dv.map aN)]=x;refine kU (λL wr=>L=[x]/\Wr2 o o2 wr) 2 3 46 45 47 63 q.options.length k (W:=sG) rfT bIv rfl rfl rfl omT r1 ⟨rfl,bZ g3 r3⟩ ?_ ?_
 .rintro i ρ1 L1 T7 wr7 hlt e8 cq ⟨rfl,j3⟩ j1 j2;have f44:ρ1 44=.sl Po (q.options.map aN):=cq 44 rfl;have f0:ρ1 0=.ptr o v 0:=(cq 0 rfl).trans e0;have f3:ρ1 3=.ptr H.length 1 0:=(cq 3 rfl).trans e3;have cj:=mgE aN hlt;have hltR:i<q.dv.length:=omT;have hgetR:=mgE aN hltR;have a3:=Ep _ (AS hlt) _ (AS hltR);have a1:=hq.options _ (AS hlt);have a2:=hq.dv _ (AS hltR);generalize q.options[i]=s1 at *;generalize q.dv[i]=s2 at *;have a1:s1.length<=1000:=a1;have a2:s2.length<=1000:=a2;have dp:=aSn (m:=k) hlt;simp only[go_sem,↓aB,seval,e8,f44,f0,cj,aN];refine bI (fQ F.toOutFns [111,112,116,105,111,110] deT) (c' _) j1 (by show T7.length+7<=_;omega) ?_;rintro T8 wr8 l1 l2 l3;have l2:T8.length<=T7.length+7:=l2;simp only[go_sem,↓aB,seval,f0];refine bI (sZ F.toTextFns s1 a1) (c' _) l1 omT ?_;rintro T9 wr9 t1 t2 t3;subst hx;simp only[go_sem,↓aB,seval,f0,f3,mO c,hgetR,aN];refine bI (sZ F.toTextFns s2 a2) (c' _) t1 omT ?_;rintro T10 wr10 u1 u2 u3;simp only[go_sem,↓aB,seval];exact⟨rfl,_,T10,⟨rfl,bZ (bZ (bZ j3 l3) t3) u3⟩,u1,omT,rfl⟩
 rintro ρ3 L3 T7 wr7 ⟨rfl,j3⟩ j1 j2 cq;simp only[go_sem,seval];exact⟨rfl,[x],T7,j1,omT,rfl,j3⟩
end
structure oh(A:af)(tB:Nat):Prop where
 val:kc A tB
 fact:Has A 74 yQ
 ask:Has A 76 oH
 ask1:Has A 128 jI
 quest:Has A 82 eN
def aSm{k:Int}(h0:0<=k)(h1:k<=6):∃w:Str,w.length<=6/\(aQ0.drop k.toNat).take 1=[.str w]/\k.toNat+1<=aQ0.length:=by
 have:∀i<7,∃w:Str,w.length<=6/\(aQ0.drop i).take 1=[.str w]/\i+1<=aQ0.length:=by
  intro i hi
  match i,hi with
  |0,_=>exact⟨_,deT,rfl,deT⟩
  |1,_=>exact⟨_,deT,rfl,deT⟩
  |2,_=>exact⟨_,deT,rfl,deT⟩
  |3,_=>exact⟨_,deT,rfl,deT⟩
  |4,_=>exact⟨_,deT,rfl,deT⟩
  |5,_=>exact⟨_,deT,rfl,deT⟩
  |6,_=>exact⟨_,deT,rfl,deT⟩
 exact this _ omT
section
variable {A:af}{tB:Nat}
def aVf(h:oh A tB)(x:Item)(hx:x.Ok)(H:LO):aG A 49 [.agg (aO x)] H=N1 (.bool (aGU x),H,[]):=by
 refine h.val.item.call ?_;have hw:=kO h.val.blk.within;have hl:∀{n:Nat},n<=16->n<4611686018427387904:=λh=>by omega
 have h0:=λH=>aGw h.val.name h.val.name1 h.val.name2 h.val.blk.sj hw x.name H (by have:x.name.length<=1000:=hx.name;omega);have h1:=λH=>h.val.allX.spec hw bT bIJ (lo:=0) (hi:=8) (hl hx.zq) λ_ b hb=>aEX h.val.blk b (hx.blocks b hb) H;have h2:=λH=>h.val.B6.spec hw lF bIJ (lo:=0) (hi:=8) (hl hx.B1) λ_ b _=>aMe h.fact hw b H;have h3:=λH=>h.val.allQ.spec hw aY1 bIJ (lo:=0) (hi:=4) (hl hx.tj) λ_ b hb=>aGV h.ask h.ask1 h.val.blk b (hx.ask b hb) H;simp only[yO,aGU];cases e0:aO7 x.name with
 |false=>simp only[go_sem,↓aB,seval,aO,h0,e0,Aa]
 |true=>cases e1:(wi x.blocks.length 0 8&&x.blocks.all dQ)with
  |false=>simp only[go_sem,↓aB,seval,aO,h0,h1,e0,e1,Aa]
  |true=>cases e2:(wi x.facts.length 0 8&&x.facts.all aHJ)with
   |false=>simp only[go_sem,↓aB,seval,aO,h0,h1,h2,e0,e1,e2,Aa]
   |true=>simp only[go_sem,↓aB,seval,aO,h0,h1,h2,h3,e0,e1,e2]
def yU(h:dQ b=Pa):xU b=true:=by
 unfold dQ at h
 grind
def bI7(x:Item)(M:Nat):Prop:=∃m k,(∀b∈x.blocks,Sc b m)/\(∀q∈x.ask,bI6 q k)/\6+x.name.length+x.blocks.length*m+x.facts.length*60+x.ask.length*k<=M
def bHq{x:Item}(hx:x.Ok)(hi:aGU x=Pa):bI7 x 5600000:=by unfold aGU at hi;simp only[AI,eG,AO]at hi;obtain⟨⟨⟨b1,⟨b2,b3⟩,b4⟩,⟨b5,b6⟩,b7⟩,⟨b8,b9⟩,b10⟩:=hi;exact⟨6500,150000,λb hb=>bHb (yU (b4 b hb)) (hx.blocks b hb),λq hq=>bHp (hx.ask q hq) (b10 q hq),by have:x.name.length<=1000:=hx.name;omega⟩
def aVg(F:uw A tB)(hqp:Has A 82 eN)(x:jm)(hx:x.Ok)(hn:x.items.length<=12)(hi:∀i∈x.items,aGU i=Pa)(M:Nat)(hM:∀i∈x.items,bI7 i M)(hM2:x.items.length*M<=70000000)(H:LO):∃s:Str,s.length<=8+2*x.title.length+x.items.length*M/\aG A 50 [dE x] H=N1 (.str s,H,[]):=by
 obtain⟨v',H',ba,h1,rfl,rfl,s,rfl,hs⟩:=F.source.bp (args:=[dE x]) (H:=H) (K:=λv H' wr=>wr=[]/\H'=H/\∃s:Str,v=.str s/\s.length<=8+2*x.title.length+x.items.length*M) (by
  have hf:=aIA F.toOutFns (H:=H++[.cw 1 173 [.nilPtr,.ar],.gone 0,.gone 0,.gone 0,.gone 0]) (o:=H.length) (v:=1) (s:=[101,120,97,109]) siT siT deT;rw[show (H++[ah.cw 1 173 [.nilPtr,.ar],.gone 0,.gone 0,.gone 0,.gone 0]).length=H.length+5 by simp,aBe,List.set_cons_zero,CJ]at hf;have c':∀{L:LO},L.length=6->gf (H++L).length H.length (H.length+5):=λh=>⟨soT,soT,omT⟩;have gy:=λ(T:Str) (b c d e:ah)=>aNe (H:=H) (ty:=173) (v:=1) (v2:=1) (T:=T) (a:=.gone 0) (b:=b) (c:=c) (d:=d) (e:=e) (f:=.gone 0);rw[show [ah.cw 1 173 [.ptr H.length 1 0,.sr (H.length+5) 1 ([101,120,97,109]:Str).length],ah.gone 0,.gone 0,.gone 0,.gone 0]++[.oz 1 5 1 (rb [101,120,97,109])]=[.cw 1 173 [.ptr H.length 1 0,.sr (H.length+5) 1 ([101,120,97,109]:Str).length],.gone 0,.gone 0,.gone 0,.gone 0,.oz 1 5 1 (rb [101,120,97,109])] from rfl,gy]at hf;have od:∀{w:LN},Wr2 H.length (H.length+5) w->bE H.length [] w=[]:=λ{w} h=>by
   induction w with
   |nil=>rfl
   |cons x r ih=>
    have hx:H.length<=x:=by rcases h x siT with e|e<;>omega
    unfold bE;rw[Vw (by intro hh;simp at hh;omega)];exact ih λy hy=>h y (by simp[hy])
  have m1:∀{i:Nat}{X:LO}{T:Str},i≠0->i≠5->(PSt X 173 H.length 1 (H.length+5) 1 T)[H.length+i]? = X[H.length+i]? := λh h'=>aKX h h';have n1:∀{X:LO}{T:Str},(PSt X 173 H.length 1 (H.length+5) 1 T)[H.length+1]? = X[H.length+1]? := m1 deT deT;have htitle:x.title.length<=1000:=hx.title;simp only[yM];simp only[go_sem,↓aB,seval,dE,hf];refine bI (sZ F.toTextFns x.title htitle) (c' rfl) siT (by show 4+_<=_;omega) ?_;rintro T1 dc a1 a2 a3;have a2:T1.length<=4+(2*x.title.length+3):=a2;simp only[go_sem,↓aB,seval,od a3];refine kU (λL wr=>L.length=6/\wr=[]) 0 1 23 22 24 80 x.items.length M (W:=zQ) rfT bIv rfl rfT rfT omT a1 ⟨rfl,rfl⟩ ?_ ?_
  .rintro i ρ1 L1 T2 en hlt e23 cq ⟨hL,rfl⟩ g1 g2;obtain⟨x0,x1,x2,x3,x4,x5,rfl⟩:=uI hL;have e3:ρ1 3=.ptr H.length 1 0:=cq 3 rfl;have e21:ρ1 21=.sl Po (x.items.map aO):=cq 21 rfl;have cj:=mgE aO hlt;have hib:=hi _ (AS hlt);have kh:=hx.items _ (AS hlt);have hmul:=aSn (m:=M) hlt;obtain⟨m,k,V9,Ep,Dc⟩:=hM _ (AS hlt);generalize x.items[i]=it at *;unfold aGU at hib;simp only[AI,eG,AO]at hib;obtain⟨⟨⟨b1,⟨b2,b3⟩,b4⟩,⟨b5,b6⟩,b7⟩,⟨b8,b9⟩,b10⟩:=hib;have hnm:it.name.length<=1000:=kh.name;have hB8:it.blocks.length<=8:=omT;have hF8:it.facts.length<=8:=omT;have hA4:it.ask.length<=4:=omT;have n2:∀{X:LO}{T:Str}{x:ah},(PSt X 173 H.length 1 (H.length+5) 1 T).set (H.length+1) x=PSt (X.set (H.length+1) x) 173 H.length 1 (H.length+5) 1 T:=aCr deT deT;have n3:∀{X:LO}{T:Str},bH (PSt X 173 H.length 1 (H.length+5) 1 T) (H.length+1)=bH X (H.length+1):=aEr deT deT;have n4:∀{X:LO}{T:Str}{mk:Nat->ah},make (PSt X 173 H.length 1 (H.length+5) 1 T) (H.length+1) mk=PSt (make X (H.length+1) mk) 173 H.length 1 (H.length+5) 1 T:=aBl deT deT;simp only[go_sem,↓aB,seval,e23,e21,e3,iZ,n1,n2,cj,aO];refine bI (fQ F.toOutFns [105,116,101,109] deT) (c' rfl) g1 (by show T2.length+5<=_;omega) ?_;rintro T3 wr3 b1 b2 b3;have b2:T3.length<=T2.length+5:=b2;simp only[go_sem,↓aB,seval,od b3,e3,n1];refine bI (pY F.toOutFns it.name omT) (c' rfl) b1 omT ?_;rintro T4 wr4 d1 d2 d3;simp only[go_sem,↓aB,seval,od d3,n1];refine kU (λL wr=>L.length=6/\wr=[]/\L[1]? = N1 (.box (x1.ver+1) [.str it.name,.sl Po (it.blocks.map aE),.sl Po (it.facts.map aI),.sl Po (it.ask.map gR)])) 2 3 36 35 37 43 it.blocks.length m (W:=zN) rfT bIv rfl rfT rfT omT d1 ⟨rfl,rfl,rfl⟩ ?_ ?_
   .rintro j ρ2 L2 T5 wr5 jlt f36 im ⟨yx,rfl,hL3⟩ p1 p2;obtain⟨y0,y1,y2,y3,y4,y5,rfl⟩:=uI yx;have f3:ρ2 3=.ptr H.length 1 0:=(im 3 rfl).trans e3;have f34:ρ2 34=.sl Po (it.blocks.map aE):=im 34 rfl;have fh:=mgE aE jlt;have td:=kh.blocks _ (AS jlt);have dx:=yU (b4 _ (AS jlt));have u6:=aSn (m:=m) jlt;have P6:=V9 _ (AS jlt);generalize it.blocks[j]=b at *;have m2:∀{X:LO}{T:Str}{x:ah},(PSt X 173 H.length 1 (H.length+5) 1 T).set (H.length+2) x=PSt (X.set (H.length+2) x) 173 H.length 1 (H.length+5) 1 T:=aCr deT deT;have m1':∀{X:LO}{T:Str},(PSt X 173 H.length 1 (H.length+5) 1 T)[H.length+2]? = X[H.length+2]? := m1 deT deT;have m3:∀{X:LO}{T:Str},bH (PSt X 173 H.length 1 (H.length+5) 1 T) (H.length+2)=bH X (H.length+2):=aEr deT deT;have m4:∀{X:LO}{T:Str}{mk:Nat->ah},make (PSt X 173 H.length 1 (H.length+5) 1 T) (H.length+2) mk=PSt (make X (H.length+2) mk) 173 H.length 1 (H.length+5) 1 T:=aBl deT deT;have iz:(aE b).all AV.ak=true:=bID (bG b);simp only[go_sem,↓aB,seval,f36,f34,f3,iZ,m1',m2,fh,cF,bT.take,aS (bG b),aK (bG b),iz];refine bI (aKV F.toBlockPrt b dx td P6) (c' rfl) p1 omT ?_;rintro T6 wr6 q1 q2 q3;simp only[go_sem,↓aB,seval,od q3];exact⟨rfl,[y0,y1,.box (y2.ver+1) (aE b),y3,y4,y5],T6,⟨rfl,rfl,hL3⟩,q1,omT,rfl⟩
   rintro ρ' L' T' ba ⟨k0,rfl,k3⟩ k1 k2 I3;obtain⟨y0,y1,y2,y3,y4,y5,rfl⟩:=uI k0;have h5:ρ' 5=.ptr (H.length+1) (x1.ver+1) 0:=I3 5 rfl;have h3:ρ' 3=.ptr H.length 1 0:=(I3 3 rfl).trans e3;simp only[CT,BG,AG]at k3;subst k3;simp only[go_sem,↓aB,seval,h5,n1];refine kU (λL wr=>L.length=6/\wr=[]/\L[1]? = N1 (.box (x1.ver+1) [.str it.name,.sl Po (it.blocks.map aE),.sl Po (it.facts.map aI),.sl Po (it.ask.map gR)])) 4 5 47 46 48 68 it.facts.length 60 (W:=zO) rfT bIv rfl rfT rfT omT k1 ⟨rfl,rfl,rfl⟩ ?_ ?_
   .rintro j ρ2 L2 T5 wr5 jlt f47 im ⟨yx,rfl,hL3⟩ p1 p2;obtain⟨y0,y1,y2,y3,y4,y5,rfl⟩:=uI yx;have f3:ρ2 3=.ptr H.length 1 0:=(im 3 rfl).trans h3;have f45:ρ2 45=.sl Po (it.facts.map aI):=im 45 rfl;have fh:=mgE aI jlt;have hfb:=b7 _ (AS jlt);have u6:=aSn (m:=60) jlt;generalize it.facts[j]=f at *;unfold aHJ at hfb;simp only[AI,eG]at hfb;obtain⟨⟨⟨⟨v1,v2⟩,v3,v4⟩,v5,v6⟩,v7,v8⟩:=hfb;obtain⟨w,dy,gn,pr⟩:=aSm v1 v2;have v2':f.kind<7:=omT;have Gm:=mS F.toOutFns [f.block,f.a,f.b] Po siT soT;have r1:∀{X:LO}{T:Str},(PSt X 173 H.length 1 (H.length+5) 1 T)[H.length+3]? = X[H.length+3]? := m1 deT deT;have r2:∀{X:LO}{T:Str}{x:ah},(PSt X 173 H.length 1 (H.length+5) 1 T).set (H.length+3) x=PSt (X.set (H.length+3) x) 173 H.length 1 (H.length+5) 1 T:=aCr deT deT;have r3:∀{X:LO}{T:Str},bH (PSt X 173 H.length 1 (H.length+5) 1 T) (H.length+3)=bH X (H.length+3):=aEr deT deT;have r4:∀{X:LO}{T:Str}{mk:Nat->ah},make (PSt X 173 H.length 1 (H.length+5) 1 T) (H.length+3) mk=PSt (make X (H.length+3) mk) 173 H.length 1 (H.length+5) 1 T:=aBl deT deT;simp only[go_sem,↓aB,seval,f47,f45,f3,iZ,r1,r2,fh,aI];refine bI (fQ F.toOutFns [102,97,99,116] deT) (c' rfl) p1 (by show T5.length+5<=_;omega) ?_;rintro T6 wr6 q1 q2 q3;have q2:T6.length<=T5.length+5:=q2;simp only[go_sem,↓aB,seval,od q3,f3,r1,v1,v2',gn,pr,FK];refine bI (pY F.toOutFns w omT) (c' rfl) q1 omT ?_;rintro T7 wr7 s1 s2 s3;simp only[go_sem,↓aB,seval,od s3,f3,r1];refine bI Gm (c' rfl) s1 soT ?_;rintro T8 wr8 t1 t2 t3;have t2:T8.length<=T7.length+27:=t2;simp only[go_sem,↓aB,seval,od t3];exact⟨rfl,[y0,y1,y2,.box (y3.ver+1) (aI f),y4,y5],T8,⟨rfl,rfl,hL3⟩,t1,omT,rfl⟩
   rintro ρ'' L'' T'' wr'' ⟨q0,rfl,q3⟩ q1 q2 Cv;obtain⟨z0,z1,z2,z3,z4,z5,rfl⟩:=uI q0;have h5':ρ'' 5=.ptr (H.length+1) (x1.ver+1) 0:=(Cv 5 rfl).trans h5;have D9:ρ'' 3=.ptr H.length 1 0:=(Cv 3 rfl).trans h3;simp only[CT,BG,AG]at q3;subst q3;simp only[go_sem,↓aB,seval,h5',n1];refine kU (λL wr=>L.length=6/\wr=[]) 6 7 72 71 73 79 it.ask.length k (W:=zP) rfT bIv rfl rfT rfT omT q1 ⟨rfl,rfl⟩ ?_ ?_
   .rintro j ρ2 L2 T5 wr5 jlt f72 im ⟨yx,rfl⟩ p1 p2;obtain⟨y0,y1,y2,y3,y4,y5,rfl⟩:=uI yx;have f3:ρ2 3=.ptr H.length 1 0:=by rw[im 3 rfT];exact D9
    have f70:ρ2 70=.sl Po (it.ask.map gR):=im 70 rfl;have fh:=mgE gR jlt;have hqo:=kh.ask _ (AS jlt);have hqb:=b10 _ (AS jlt);have u6:=aSn (m:=k) jlt;have P6:=Ep _ (AS jlt);generalize it.ask[j]=q at *;have r1:∀{X:LO}{T:Str},(PSt X 173 H.length 1 (H.length+5) 1 T)[H.length+4]? = X[H.length+4]? := m1 deT deT;have r2:∀{X:LO}{T:Str}{x:ah},(PSt X 173 H.length 1 (H.length+5) 1 T).set (H.length+4) x=PSt (X.set (H.length+4) x) 173 H.length 1 (H.length+5) 1 T:=aCr deT deT;have r3:∀{X:LO}{T:Str},bH (PSt X 173 H.length 1 (H.length+5) 1 T) (H.length+4)=bH X (H.length+4):=aEr deT deT;have r4:∀{X:LO}{T:Str}{mk:Nat->ah},make (PSt X 173 H.length 1 (H.length+5) 1 T) (H.length+4) mk=PSt (make X (H.length+4) mk) 173 H.length 1 (H.length+5) 1 T:=aBl deT deT;have p0:=aLb F.toBlockPrt hqp q hqo hqb P6;simp only[gR]at p0;simp only[go_sem,↓aB,seval,f72,f70,f3,iZ,r1,r2,fh,gR];refine bI p0 (c' rfl) p1 omT ?_;rintro T6 wr6 s1 s2 s3;simp only[go_sem,↓aB,seval,od s3];exact⟨rfl,[y0,y1,y2,y3,.box (y4.ver+1) (gR q),y5],T6,⟨rfl,rfl⟩,s1,omT,rfl⟩
   rintro ρ3 L3 T3' wr3' ⟨r0,rfl⟩ r1 r2 Lv;simp only[go_sem,seval];exact⟨rfl,L3,T3',⟨r0,rfl⟩,r1,omT,rfl⟩
  rintro ρ' L' T' ba ⟨k0,rfl⟩ k1 k2 hf;have h3:ρ' 3=.ptr H.length 1 0:=hf 3 rfl;obtain⟨wr8,w1,w2⟩:=tX F.wb F.cc (ty:=173) (v:=1) (v2:=1) (T:=T') (b:=10) (c' k0) omT;have w1:aG A 83 [.ptr H.length 1 0,.int .u8 10] (PSt (H++L') 173 H.length 1 (H.length+5) 1 T')=N1 (.bj,PSt (H++L') 173 H.length 1 (H.length+5) 1 (T'++[10]),wr8):=w1;have bd:=aCs F.str (ty:=173) (v:=1) (v2:=1) (T:=T'++[10]) (c' k0) siT soT;have pk:((PSt (H++L') 173 H.length 1 (H.length+5) 1 (T'++[10])).set (H.length+5) (.gone 1)).take H.length=H:=by rw[List.take_set_of_le omT,aNf]
  simp only[go_sem,↓aB,seval,h3,w1,bd,od w2,pk];exact⟨T'++[10],rfl,soT⟩)
 exact⟨s,hs,h1⟩
end
section
variable {A:af}{tB:Nat}
noncomputable def bDt(x:jm):Bool:=vP 0 100 x.title&&(wi x.items.length 0 12&&x.items.all aGU)
def aTh(h:oh A tB)(x:jm)(hx:x.Ok)(H:LO):∃e:Int,aG A 29 [dE x] H=N1 (vi e,H,[])/\(bDt x=Po->e=1)/\(bDt x=Pa->e=0∨e=4)/\(bDt x=Pa->∀M,(∀i∈x.items,bI7 i M)->8+2*x.title.length+x.items.length*M<=8192->e=0):=by
 have hw:=kO h.val.blk.within;have h0:=λH=>qW h.val.blk.text h.val.blk.wg h.val.blk.sj hw x.title 0 100 H (by have:x.title.length<=1000:=hx.title;omega);have h1:=λH=>h.val.allI.spec hw aJl bIJ (l:=x.items) (H:=H) (f1:=49) (q:=aGU) (lo:=0) (hi:=12) (by have:=hx.G8;show x.items.length<_;omega) λ_ i hi=>aVf h i (hx.items i hi) H;cases e0:vP 0 100 x.title with
 |false=>refine⟨1, ?_,λ_=>rfl,λh=>by simp[bDt,e0]at h,λh=>by simp[bDt,e0]at h⟩;refine h.val.valid.call ?_;simp only[mZ];simp only[go_sem,↓aB,seval,dE,h0,e0,CE]
 |true=>
  cases e1:(wi x.items.length 0 12&&x.items.all aGU)with
  |false=>refine⟨1, ?_,λ_=>rfl,λh=>by simp[bDt,e0,e1]at h,λh=>by simp[bDt,e0,e1]at h⟩;refine h.val.valid.call ?_;simp only[mZ];simp only[go_sem,↓aB,seval,dE,h0,h1,e0,e1]
  |true=>
   have e1':=e1;simp only[AI,eG,AO]at e1';have hB:bDt x=true:=by unfold bDt;rw[e0,e1];rfl
   have go:∀s:Str,aG A 50 [dE x] H=N1 (.str s,H,[])->aG A 29 [dE x] H=N1 (vi (if decide ((s.length:Int)>8192)then 4 else 0),H,[]):=λs nu=>by
    refine h.val.valid.call ?_;simp only[mZ];simp only[dE]at nu ⊢;simp only[go_sem,↓aB,seval,h0,h1,e0,e1,nu];refine aD (λdp=>?_) (λdp=>?_)
    .simp only[go_sem,↓aB,seval,dp]
    rw[dp];simp only[go_sem,↓aB,seval]
   have src:=λM h1 h2=>aVg h.val.src h.quest x hx omT e1'.2 M h1 h2 H;obtain⟨s,lq,nu⟩:=src 5600000 (λi hi=>bHq (hx.items i hi) (e1'.2 i hi)) omT;refine⟨_,go s nu,λh=>(by rw[hB]at h;cases h),λ_=>(by split;exact .inr rfl;exact .inl rfl),λ_ M k1 k2=>?_⟩;obtain⟨s',F1,hs4⟩:=src M k1 omT;rw[nu]at hs4;cases hs4;rw[Vw soT]
abbrev aCD(A:af)(E:Int->Int->List Shape->Int):Prop:=∀(w hh:Int)(l:List Shape),1<=w/\w<=1000->1<=hh/\hh<=1000->l.length<=8->(∀s∈l,vQ s=Pa)->∀H:LO,aG A 139 [.agg (aDn w hh l)] H=N1 (vi (E w hh l),H,[])
noncomputable def nU(E:Int->Int->List Shape->Int)(b:Block):Int:=if dQ b then (if b.kind=1 then aBV b.expr else if b.kind=4 then E b.w b.h b.aw else 0)else 1
def Ws(h:oh A tB)(b:Block)(hb:b.Ok)(H:LO):aG A 29 [dE (aKW b)] H=N1 (vi (if dQ b then 0 else 1),H,[]):=by
 have hx:(aKW b).Ok:=⟨by show 1<=1000;decide,by show 1<=16;decide,λi hi=>by
  rw[CG.1 hi];exact⟨by show 1<=1000;decide,by show 1<=16;decide,λx hx=>by rw[CG.1 hx];exact hb,FF _,λf hf=>(by cases hf),FF _,λq hq=>(by cases hq)⟩⟩
 obtain⟨e,h1,h2,h3,h4⟩:=aTh h (aKW b) hx H;have hB:bDt (aKW b)=dQ b:=by have e1:vP 0 100 [120]=true:=deT;have e2:aO7 [97]=true:=deT;simp[bDt,aKW,aGU,e1,e2,wi]
 rw[hB]at h2 h3 h4;rw[h1];cases dp:dQ b with
 |false=>rw[h2 dp];rfl
 |true=>
  have:=h4 dp 6700 (λi hi=>by
   rw[CG.1 hi];exact⟨6500,0,λx hx=>by rw[CG.1 hx];exact bHb (yU dp) hb,(λq hq=>by cases hq),by show 6+1+1*6500+0*60+0*0<=6700;decide⟩) (by show 8+2*1+1*6700<=8192;decide)
  rw[this];rfl
def aMj{E:Int->Int->List Shape->Int}(hE:aCD A E)(hv:oh A tB)(hf:lu A)(hc:Has A 91 tE)(b:Block)(hb:b.Ok)(H:LO):aG A 91 [.agg (aE b)] H=N1 (vi (nU E b),H,[]):=by
 have h0:=Ws hv b hb H;obtain⟨op,n,ks,mn⟩:∃op n ks,b.expr=Expr.mk op n ks:=by cases b.expr;exact⟨_,_,_,rfl⟩
 have Ra:aF b.expr=[vi op,vi n,.sl Po (ks.map aF)]:=uXm
 have ig:aE b=[vi b.kind,.sl Po (b.runs.map cZ),vi op,vi n,.sl Po (ks.map aF),vi b.dn,.sl Po (b.eg.map bF),.sl Po (b.cd.map bY),vi b.w,vi b.h,.sl Po (b.aw.map aH),.sl Po (b.bo.map bS),.sl Po (b.lines.map aN)]:=by unfold aE;rw[Ra];rfl
 have yp:=aCp hf b.expr hb.expr hb.size H;rw[Ra]at yp;simp only[dE,aKW,BI,BY,aO,ig]at h0;refine hc.call ?_;rw[ig];simp only[tE,nU];cases hB:dQ b with
 |false=>rw[hB]at h0;simp only[go_sem,↓aB,seval,h0]
 |true=>
  rw[hB]at h0;simp only[go_sem,↓aB,seval,h0];simp only[aAJ];by_cases k1:b.kind=1
  .simp only[go_sem,↓aB,seval,k1,yp]
  have b1:(b.kind==1)=false:=by simpa using k1
  by_cases k4:b.kind=4
  .have hk:xU b=true:=by unfold dQ at hB;simp only[AI]at hB;exact hB.2
   unfold xU at hk;rw[Vw omT,Vw omT,Vw omT,Vw omT,Vx k4]at hk;simp only[AI,eG]at hk;obtain⟨⟨hw,hh⟩,⟨_,hlS⟩,hS⟩:=hk;have he4:=hE b.w b.h b.aw hw hh omT (AO.1 hS) H;simp only[go_sem,↓aB,seval,k4,he4]
  have b4:(b.kind==4)=false:=by simpa using k4
  simp only[go_sem,↓aB,seval,b1,b4,k1,k4]
end
abbrev aFv:=bTw 140 (bIF 151 [])
def yV:=(.mk _:bb 140 (bIC [(151,aFv)])).x
def aSo(R:List Fact):AV:=if R.isEmpty then .sl Po [] else .own 4 (R.map aI)
def aLc{A:af}(F:wz A)(h:Has A 206 oZ)(b:Block)(hb:b.Ok)(at':Int)(H:LO):aG A 206 [.agg (aE b),vi at'] H=N1 (aSo (eM b at'),H,[]):=by
 obtain⟨r,h1,h2⟩:=aOp F h b hb at' H;rw[h2];unfold aSo;rcases h1 with⟨e,rfl⟩ | ⟨bl,rfl⟩
 .rw[e];rfl
 cases he:eM b at' with
 |nil=>exact Vv he bl
 |cons a r=>rfl
def aFF:aSo []=.sl Po []:=rfl
def aDI{f:Fact}{r:List Fact}:aSo (f::r)=.own 4 ((f::r).map aI):=rfl
def aVh{R:List Fact}(h:R≠[]):aSo R=.own 4 (R.map aI):=by
 cases R with
 |nil=>exact Vv rfl h
 |cons f r=>rfl
def mI(l:List Block)(n:Nat):List Fact:=(GZ n).flatMap λ(k:Nat)=>match l[k]? with
 |some b=>eM b (k:Int)
 |none=>[]
def tI(x:Item):List Fact:=mI x.blocks x.blocks.length
def yW{l:List Block}(h:n<l.length):mI l (n+1)=mI l n++eM l[n] n:=by unfold mI;rw[LQ,JK];simp[AP h]
def aEA{l:List Block}(hl:∀b∈l,b.Ok):∀n,n<=l.length->(mI l n).length<=n*1792
 |0,_=>FF _
 |n+1,h=>by
  have h1:=aEA hl n omT;have h2:=yT (hl _ (AS (by omega:n<l.length))) (at':=(n:Int)) 7;rw[yW omT,BA];have:(eM l[n] (n:Int)).length<=7*256:=h2;omega
def bC6(o:Nat)(w:AV)(x:ah)(rows:List Fact):Prop:=(rows=[]/\w=.sl Pa [])∨(rows≠[]/\∃ver,w=.sr o ver rows.length/\x=.vec ver 4 (rows.map aI))
section
variable {A:af}{tB:Nat}
def aH7(F:wz A)(hf:Has A 206 oZ)(h:Has A 140 yV)(x:Item)(hx:x.Ok){P P':Prop}(hV:∀H,∃e:Int,aG A 29 [dE ⟨[120],[x]⟩] H=N1 (vi e,H,[])/\(e=0->P)/\(P'->e=0))(H:LO):∃R,aG A 140 [.agg (aO x)] H=N1 (aSo R,H,[])/\((R=[]/\¬P')∨(P/\R=tI x)):=by
 obtain⟨r,H',ba,e1,rfl,rfl,R,rfl,e2⟩:=h.bp (args:=[.agg (aO x)]) (H:=H) (K:=λr H' wr=>wr=[]/\H'=H/\∃R,r=aSo R/\((R=[]/\¬P')∨(P/\R=tI x))) (by
  simp only[yV];obtain⟨e,h1,h2,h3⟩:=hV (H++[.gone 0,.gone 0]);simp only[dE,aO,BI,BY]at h1;cases z:(e != 0)with
  |true=>
   have hz:e≠0:=uWH
   simp only[go_sem,↓aB,seval,aO,h1,z];exact⟨[],rfl,.inl ⟨rfl,λhp=>hz (h3 hp)⟩⟩
  |false=>
  have hz:e=0:=uWH
  have hP:=h2 hz;simp only[go_sem,↓aB,seval,aO,h1,z];refine bJ (id:=0) (λk ρ1 H1 wr=>wr=[]/\ρ1 14=vi (k:Nat)/\∃x0 x1,H1=H++[x0,x1]/\bC6 (H.length+1) (ρ1 3) x1 (mI x.blocks k)) x.blocks.length
   (λρ1 H1 wr=>wr=[]/\∃x0 x1,H1=H++[x0,x1]/\bC6 (H.length+1) (ρ1 3) x1 (tI x)) bIv rfl ⟨rfl,rfl,_,_,rfl,.inl ⟨rfl,rfl⟩⟩ ?_ ?_
  .rintro k ρ1 H1 dc zp ⟨rfl,e14,x0,x1,rfl,hw⟩ cq;have f12:ρ1 12=.sl Po (x.blocks.map aE):=cq 12 rfl;have f13:ρ1 13=vi (x.blocks.length:Nat):=cq 13 rfl;simp only[go_sem,↓aB,seval,e14,f13];refine aD (λe3=>?_) (λe3=>?_)
   .have hlt:k<x.blocks.length:=by simp at e3;omega
    have dy:AR.wrap ((k:Int)+1)=((k+1:Nat):Int):=by rw[wrap_i64 omT (by have:=hx.zq;omega)];omega
    have cj:=mgE aE hlt;have td:=hx.blocks _ (AS hlt);have C7:=yW hlt;have hul:=aEA hx.blocks (k+1) hlt;have hl16:=hx.zq;generalize x.blocks[k]=b at *;have az:=λH=>aLc F hf b td k H;have iz:(aE b).all AV.ak=true:=bID (bG b);rw[C7,BA]at hul;cases hR:eM b k with
    |nil=>
     rw[hR,AJ]at C7;simp only[hR]at az;rcases hw with⟨e0,e3'⟩ | ⟨bl,ver,e3',rfl⟩
     .simp only[go_sem,↓aB,seval,e14,dy,f12,hlt,cj,cF,bT.take,aS (bG b),aK (bG b),iz,az,aFF,e3',eX];exact⟨_,_,rfl,by rw[C7];exact .inl ⟨e0,rfl⟩⟩
     have hr:bP (mI x.blocks k).length 32=true:=by unfold bP;simp;omega
     simp only[go_sem,↓aB,seval,e14,dy,f12,hlt,cj,cF,bT.take,aS (bG b),aK (bG b),iz,az,aFF,e3',eX,hr];exact⟨_,_,rfl,by rw[C7];exact .inr ⟨bl,ver,rfl,rfl⟩⟩
    |cons f r=>
     rw[hR]at C7 hul;simp only[hR]at az;have hd:gG ((f::r).map aI)=true:=aC eL _;rcases hw with⟨e0,e3'⟩ | ⟨bl,ver,e3',rfl⟩
     .have hr:bP (r.length+1) 32=true:=by unfold bP;simp at hul ⊢;omega
      simp only[go_sem,↓aB,seval,e14,dy,f12,hlt,cj,cF,bT.take,aS (bG b),aK (bG b),iz,az,aDI,e3',eX,hr,aI];exact⟨_,_,rfl,by rw[C7,e0,CW];exact .inr ⟨siT,_,rfl,rfl⟩⟩
     have hr:bP ((mI x.blocks k).length+(r.length+1)) 32=true:=by unfold bP;simp at hul ⊢;omega
     simp only[go_sem,↓aB,seval,e14,dy,f12,hlt,cj,cF,bT.take,aS (bG b),aK (bG b),iz,az,aDI,e3',eX,hr,aI];exact⟨_,_,rfl,by rw[C7];exact .inr ⟨siT,ver,by rw[BA];rfl,by rw[DQ];rfl⟩⟩
   have:k=x.blocks.length:=by simp at e3;omega
   subst this;simp only[go_sem,seval];exact⟨x0,x1,rfl,hw⟩
  rintro ρ' H' ba ⟨rfl,x0,x1,rfl,hw⟩ cq;rcases hw with⟨e0,e3⟩ | ⟨bl,ver,e3,rfl⟩
  .simp only[go_sem,↓aB,seval,e3];exact⟨[],rfl,.inr ⟨hP,e0.symm⟩⟩
  have hd:gG ((tI x).map aI)=true:=aC eL _;simp only[go_sem,↓aB,seval,e3,aT hd,aA hd];exact⟨_,(aVh bl).symm,.inr ⟨hP,rfl⟩⟩)
 exact⟨R,e1,e2⟩
end
end Go.AM
end
section

end
noncomputable section
namespace Go.AM
open Go
abbrev aH8(A:af):Prop:=∀(n:Nat)(H:LO),n<1000000->aG A 42 [vi n] H=N1 (.str (dec n),H,[])
def aF9{a b:Int}(h:a≠b):(a==b)=false:=uWg
abbrev aA1:=bTw 42 (bJ6 11)
def mV:=(.mk _:bb 42 (bIC [(11,.region Pa aA1)])).x
def nP:=(.mk _:bb 23 bTx).x
def oQ:=(.mk _:bb 33 bTx).x
abbrev uK:=bTw 17 (bJ6 11)
def kC:=(.mk _:bb 17 (bIC [(11,.region Pa uK)])).x
def oI:=(.mk _:bb 103 bTx).x
def aQh{n:Int}(h1:0<=n)(h2:n<=255):GA .u8 n=n:=by unfold GA LK KC;simp;omega
def aLd{A:af}(h:Has A 42 mV):aH8 A:=by
 have key:∀(k n:Nat)(H:LO),n<k->n<1000000->aG A 42 [vi n] H=N1 (.str (dec n),H,[]):=by
  intro k
  induction k with
  |zero=>intro n H hk;omega
  |succ k ih=>
   intro n H hk hn;refine h.call ?_;simp only[mV];simp only[go_sem,seval];refine aD (λhb=>?_) (λhb=>?_)
   .have hlt:n<10:=by simp at hb;omega
    have hw:AR.wrap (48+(n:Int))=((48+n:Nat):Int):=by rw[wrap_i64 omT omT];omega
    have hu:KD.wrap ((48+n:Nat):Int)=((48+n:Nat):Int):=aQh omT omT;have hd:dec n=[CN (48+n)]:=by rw[dec,Vx hlt]
    simp only[go_sem,seval,hw,hu,pT,cM,hd]
   have nj:¬n<10:=by simp at hb;omega
   have hq:(n:Int).tdiv 10=((n / 10:Nat):Int):=rfl;have hr:(n:Int).tmod 10=((n % 10:Nat):Int):=rfl;have hwq:AR.wrap ((n / 10:Nat):Int)=((n / 10:Nat):Int):=wrap_i64 omT omT;have hw:AR.wrap (48+((n % 10:Nat):Int))=((48+n % 10:Nat):Int):=by rw[wrap_i64 omT omT];omega
   have hu:KD.wrap ((48+n % 10:Nat):Int)=((48+n % 10:Nat):Int):=aQh omT omT;have hih:=λH=>ih (n / 10) H omT omT;have hd:dec n=dec (n / 10)++[CN (48+n % 10)]:=by rw[dec,Vw nj]
   have hl:(dec (n / 10)).length+1<=4611686018427387904:=by have:=aGn 5 (n / 10) omT;omega
   simp only[go_sem,seval];refine aY (aq:=[2,6,8]) rfT rfT ?_;simp only[go_sem,seval,aAl (b:=10) deT,tS (b:=10) deT,hq,hr,hwq,hw,hu,hih,pT,cM,kE,hl,eH,dG,aL,hd]
 intro n H hn;exact key (n+1) n H omT hn
def bu(n most:Int):Int:=if most<1 then 0 else (if n<0 then AR.wrap (0 - AR.wrap (n+1))else n).tmod most
abbrev qK(A:af):Prop:=∀(n m:Int)(H:LO),aG A 23 [vi n,vi m] H=N1 (vi (bu n m),H,[])
def yX{A:af}(h:Has A 23 nP):qK A:=by
 intro n m H;refine h.call ?_;simp only[nP];simp only[go_sem,seval];refine aD (λhb=>?_) (λhb=>?_)
 .have hn:n<0:=uWe
  simp only[go_sem,seval];refine aD (λhb=>?_) (λhb=>?_)
  .have hm:m<1:=uWe
   simp only[go_sem,seval,bu,hm]
  have hm:¬m<1:=uWe
  simp only[go_sem,seval,bu,hm,hn,tS (show m≠0 by omega)]
 have hn:¬n<0:=uWe
 simp only[go_sem,seval];refine aD (λhb=>?_) (λhb=>?_)
 .have hm:m<1:=uWe
  simp only[go_sem,seval,bu,hm]
 have hm:¬m<1:=uWe
 simp only[go_sem,seval,bu,hm,hn,tS (show m≠0 by omega)]
def atZ(l:List Int)(i most:Int):Int:=if i<0∨i ≥ l.length then 0 else bu (l.getD i.toNat 0) most
def aVi{A:af}(h:Has A 33 oQ)(ha:qK A)(l:List Int)(i m:Int)(H:LO):aG A 33 [.sl Po (l.map bF),vi i,vi m] H=N1 (vi (atZ l i m),H,[]):=by
 refine h.call ?_;simp only[oQ];by_cases h0:i<0
 .simp only[go_sem,seval,h0,atZ,true_or]
 by_cases h1:i ≥ l.length
 .simp only[go_sem,seval,h0,h1,atZ,or_true]
 have hi:i.toNat<l.length:=omT;have h2:0<=i:=omT;have hg:(l.map bF)[i.toNat]? = N1 [vi (l.getD i.toNat 0)]:=by rw[BN,List.getD_eq_getElem?_getD,AP hi];rfl
 simp only[go_sem,seval,h0,h1,h2,hg,ha,atZ,or_false]
abbrev aM(l:List Int)(i:Int):LA:=[.sl Po (l.map bF),vi i]
abbrev fR(A:af):Prop:=∀(l:List Int)(i m:Int)(o v:Nat)(H:LO),H[o]? = N1 (.box v (aM l i)) ->
 aG A 17 [.ptr o v 0,vi m] H=N1 (vi (atZ l (AR.wrap (AR.wrap (i+1) - 1)) m),H.set o (.box v (aM l (AR.wrap (i+1)))),[o])
def aQi{A:af}(h:Has A 17 kC)(ha:Has A 33 oQ)(hr:qK A):fR A:=by intro l i m o v H ho;have hlt:=getElem?_lt ho;refine h.call ?_;simp only[kC];simp only[go_sem,seval,ho,hlt];refine aY (aq:=[]) rfT rfT ?_;have jk:=λH=>aVi ha hr l (AR.wrap (AR.wrap (i+1) - 1)) m H;simp only[go_sem,seval,hlt,jk,aF6,aA (aC aU _)]
end Go.AM
end
section

end
noncomputable section
namespace Go.AM
open Go
def bCD{a b:Nat}(h:a+b<=1000000000):bP (a+b) 1=true:=by unfold bP;simp;omega
def pA(e:Expr):(aF e).length=3:=by cases e;rfl
def bD:∀l:List Expr,gO l=l.map aF
 | []=>rfl
 |e::r=>by rw[gO,bD r];rfl
end Go.AM
end
section

end
noncomputable section
namespace Go.AM
open Go
def fC:=(.mk _:bb 41 bTx).x
abbrev uL:=bTw 34 (bIF 303 [])
def bIX:=(.mk _:bb 34 (bIC [(303,uL)])).x
abbrev sH:=bTw 40 (bIF 303 [])
def fS:=(.mk _:bb 40 (bIC [(303,sH)])).x
def pS{α:Type}{P:α->Prop}{l:List α}{a:α}(h:∀x∈l,P x)(ha:P a):∀x∈l++[a],P x:=uWa
abbrev jP(l:List Int):Prop:=∀a∈l,eA a
def kV{n m:Int}(hn:eA n)(hm:1<=m):0<=bu n m/\bu n m<m:=by
 obtain⟨h1,h2⟩:=hn;unfold bu;rw[Vw omT];split
 .rw[wrap_i64 (n:=n+1) omT omT,wrap_i64 omT omT];exact⟨HV _ omT,GX _ omT⟩
 exact⟨HV _ omT,GX _ omT⟩
def aTj{l:List Int}(hl:jP l)(i:Int){m:Int}(hm:1<=m):0<=atZ l i m/\atZ l i m<m:=by
 unfold atZ;split
 .omega
 rename_i h;refine kV ?_ hm;have hlt:i.toNat<l.length:=omT
 grind [AP,AS]
abbrev dI(A:af)(f:Nat)(args:LA)(P:AV->Prop):Prop:=∀(l:List Int)(i:Int)(o v:Nat)(H:LO),jP l->H[o]? = N1 (.box v (aM l i)) ->
 ∃val i',aG A f (.ptr o v 0::args) H=N1 (val,H.set o (.box v (aM l i')),[o])/\P val
def bB{A:af}{f:Nat}{args:LA}{P:AV->Prop}(hs:dI A f args P){l:List Int}{i:Int}{o v:Nat}{H H2:LO}(hl:jP l)(ho:H[o]? = N1 (.box v (aM l i))){site:Option Nat}{q:Bool}{k:AV×LO×LN->Prop}{tg}(hk:∀val i',P val->bnd (dY site q H2 (N1 (val,H.set o (.box v (aM l i')),[o]))) k):aCi (dY site q H2 (aG A f (.ptr o v 0::args) H)) k tg:=by obtain⟨val,i',h1,h2⟩:=hs l i o v H hl ho;rw[h1];exact hk val i' h2
def eB{A:af}{f:Nat}{args:LA}{P:AV->Prop}(hs:dI A f args P){l:List Int}{i:Int}{o v:Nat}{H H2 H3:LO}(hl:jP l)(ho:H[o]? = N1 (.box v (aM l i))){site:Option Nat}{q:Bool}{k:AV×LO×LN×Option LN->Prop}{tg}(hk:∀val i',P val->bnd (oD H3 (dY site q H2 (N1 (val,H.set o (.box v (aM l i')),[o])))) k):aCi (oD H3 (dY site q H2 (aG A f (.ptr o v 0::args) H))) k tg:=by obtain⟨val,i',h1,h2⟩:=hs l i o v H hl ho;rw[h1];exact hk val i' h2
def Has.gen{A:af}{name:Nat}{fn:bw}(h:Has A name fn){args:LA}{P:AV->Prop}(hN:args.length+1<=fn.ntmps)(hok:∀n,dK fn.ntmps ⟨n,fn.sites⟩ fn.body=Pa)(hw:∀(l:List Int)(i:Int)(o v:Nat)(H:LO),jP l->o<H.length->H[o]? = N1 (.box v (aM l i)) ->wc A fn.ntmps ⟨H.length,fn.sites⟩ fn.body (pO (.ptr o v 0::args)) (H++AX fn.sites.length (.gone 0)) [] (aRz H.length fn.results (λval H' wr=>(∃i',H'=H.set o (.box v (aM l i')))/\wr=[o]/\P val) ⟨⟩) ⟨⟩):dI A name args P:=by intro l i o v H hl ho;obtain⟨val,H',wr,h1,⟨i',rfl⟩,rfl,h2⟩:=h.bp (args:=.ptr o v 0::args) (hw l i o v H hl (getElem?_lt ho) ho) (CI (by simpa using hN)) (hok _);exact⟨val,i',h1,h2⟩
abbrev Below(m:Int)(v:AV):Prop:=∃x:Int,v=vi x/\0<=x/\x<m
def bA{A:af}(h:fR A){m:Int}(hm:1<=m):dI A 17 [vi m] (Below m):=by intro l i o v H hl ho;exact⟨_,_,h l i m o v H ho,_,rfl,(aTj hl _ hm).1,(aTj hl _ hm).2⟩
def aQk(ns:List Int){x:Int}(h0:0<=x)(hx:x<ns.length):∃n∈ns,(ns.map bF)[x.toNat]? = N1 [vi n]:=by have hlt:x.toNat<ns.length:=omT;exact⟨ns[x.toNat],AS hlt,getElem?_map_of hlt⟩
def aQl(ns:List Str){x:Int}(h0:0<=x)(hx:x<ns.length):∃n∈ns,(ns.map aN)[x.toNat]? = N1 [.str n]:=by have hlt:x.toNat<ns.length:=omT;exact⟨ns[x.toNat],AS hlt,getElem?_map_of hlt⟩
abbrev aQm:List Str:=[[116,104,101,32,104,97,110,100],[97],[73,32,97,110,100,32,121,111,117],[84,101,110,32,49,48],[97,110,100],[110,111,44,32,52,50,46],[108,97,110,100],[67,104,105,108,100],[120],[99,97,110,32,105,116],[55,32,104,97,110,100,115],[111,102,32,116,104,101]]
abbrev aIG(v:AV):Prop:=∃s:Str,v=.str s/\s∈aQm
theorem bDR{s:Str}(h:s∈aQm):s.length<=9:=(by decide:∀s∈aQm,s.length<=9) s h
def aOq{A:af}(h:Has A 41 fC)(ht:fR A):dI A 41 [] aIG:=by
 refine h.gen (by simp[fC]) (λn=>bIv) ?_;intro l i o v H hl hlt ho;simp only[fC];simp only[go_sem,seval];refine bB (bA ht (m:=12) deT) hl ho ?_;rintro val i' ⟨x,rfl,h0,hx⟩;obtain⟨s,hs,cx⟩:=aQl aQm h0 hx;simp only[DR,aN]at cx;simp only[go_sem,seval,hlt,h0,cx,aF6,aA (aC aU _)]
 grind
abbrev ROk(a:mr):Prop:=a.Ok/\a.text∈aQm
abbrev bHV(x:Int)(r:List mr):Prop:=∀(j:Nat)(a:mr),r[j]? = N1 a->a.gg=(x+j).tmod 2
def bGC{x:Int}{r:List mr}(h:bHV x r)(s:Str):bHV x (r++[⟨(x+r.length).tmod 2,s⟩]):=uWa
abbrev bGD(r:List mr):Prop:=1<=r.length/\r.length<=3/\(∀a∈r,ROk a)/\∃x:Int,0<=x/\bHV x r
abbrev aQn(v:AV):Prop:=∃r:List mr,v=.own 2 (r.map cZ)/\bGD r
def aSp{A:af}(h:Has A 34 bIX)(ht:fR A)(hp:dI A 41 [] aIG):dI A 34 [] aQn:=by
 refine h.gen (by simp[bIX]) (λn=>bIv) ?_;intro l i o v H hl hlt ho;simp only[bIX];simp only[go_sem,seval];refine bB (bA ht (m:=2) deT) hl (i:=i) uWa ?_;rintro val i1 ⟨x,rfl,jr,lz⟩;simp only[go_sem,seval,hlt,fN];refine bB (bA ht (m:=5) deT) hl (i:=i1) uWa ?_;rintro val i2 ⟨y,rfl,oj,tc⟩;obtain⟨n,hn,cx⟩:=aQk [1,1,1,2,3] oj tc;simp only[DR,bF]at cx;have hn3:1<=n/\n<=3:=by
  have:∀n∈([1,1,1,2,3]:List Int),1<=n/\n<=3:=deT
  grind
 simp only[go_sem,seval,hlt,aR,oj,cx];refine bJ (id:=0) (λj ρ1 H1 wr=>wr=[o]/\ρ1 6=vi j/\∃i' o1,∃r:List mr,H1=H.set o (.box v (aM l i'))++[o1]/\ew H.length 2 (r.map cZ) (ρ1 4) o1/\r.length=j/\(∀a∈r,ROk a)/\bHV x r) n.toNat
  (λρ1 H1 wr=>wr=[o]/\∃i' o1,∃r:List mr,H1=H.set o (.box v (aM l i'))++[o1]/\ew H.length 2 (r.map cZ) (ρ1 4) o1/\r.length=n.toNat/\(∀a∈r,ROk a)/\bHV x r)
  bIv rfl ⟨uWa,uWc,i2,_,[],rfl,by simp only[go_sem,seval];exact .nil _,rfl,siT,λj a e=>by cases e⟩ ?_ ?_
 .rintro j ρ1 H1 dc mo ⟨rfl,e6,i',o1,r,rfl,hg,gu,il,B5⟩ hf;have e0:ρ1 0=.ptr o v 0:=by rw[hf 0 rfl];simp only[go_sem,seval]
  have e3:ρ1 3=vi x:=by rw[hf 3 rfl];simp only[go_sem,seval]
  have e5:ρ1 5=vi n:=by rw[hf 5 rfl];simp only[go_sem,seval]
  simp only[go_sem,seval,e5,e6];refine aD (λhb=>?_) (λhb=>?_)
  .have cr:j<n.toNat:=uWa
   have hw:AR.wrap (x+j)=x+j:=wrap_i64 omT omT;simp only[go_sem,seval,e0,e3,e6,tS (b:=2) deT,hw];refine bB hp hl (i:=i') uWb ?_;rintro val i3 ⟨s,rfl,hs⟩;obtain⟨v',o',eu,db⟩:=hg.app (new:=[[vi ((x+j).tmod 2),.str s]]) (bytes:=24) siT rfT uWa;rw[show r.map cZ++[[vi ((x+j).tmod 2),.str s]]=(r++[mr.mk ((x+j).tmod 2) s]).map cZ by simp[cZ]]at eu;have V9:=GX (x+j) (b:=2) deT;have hm0:=HV 2 (a:=x+j) omT;simp only[go_sem,seval,hlt,aR,db];rw[dW omT];refine⟨cr,rfl,i3,o',r++[mr.mk ((x+j).tmod 2) s],rfl,eu,uWV, ?_,by have:=bGC B5 s;rw[gu]at this;exact this⟩;exact pS il (⟨⟨⟨uWa,uWa⟩,by have:=bDR hs;grind⟩,hs⟩)
  have cr:j=n.toNat:=uWa
  subst cr;simp only[go_sem,seval];exact⟨i',o1,r,rfl,hg,gu,il,B5⟩
 rintro ρ2 H2 en ⟨rfl,i',o1,r,rfl,hg,gu,il,B5⟩ hf;have bl:r.map cZ≠[]:=by
  intro h;have:=congrArg FN h
  grind
 obtain⟨ver,e4,rfl⟩:=hg.inv bl;simp only[go_sem,seval,e4,hlt,aT (aC cA _),aA (aC cA _),aA (aC aU _),aW];exact⟨⟨i',rfl⟩,r,rfl,omT,omT,il,x,jr,B5⟩
abbrev mq:List Str:=[[105,102,32,120,32,60,32,51,32,123],[32,32,121,32,61,32,123,49,44,32,50,125],[125],[],[32,32,32,32,114,101,116,117,114,110,32,65,91,105,93,32,43,32,34,115,34],[102,111,114,32,105,32,58,61,32,48,59,32,105,32,60,32,49,48,59,32,105,43,43,32,123,32,116,111,116,97,108,32,61,32,116,111,116,97,108,32,43,32,118,97,108,117,101,115,91,105,93,32,42,32,50,32,125],[32,97,92,98,32,126,32,99]]
abbrev bHc(r:List Str):Prop:=1<=r.length/\r.length<=3/\∀s∈r,s∈mq
abbrev aQo(v:AV):Prop:=∃r:List Str,v=.own 1 (r.map aN)/\bHc r
def aQp{A:af}(h:Has A 40 fS)(ht:fR A):dI A 40 [] aQo:=by
 refine h.gen (by simp[fS]) (λn=>bIv) ?_;intro l i o v H hl hlt ho;simp only[fS];simp only[go_sem,seval];refine bB (bA ht (m:=3) deT) hl (i:=i) uWa ?_;rintro val i1 ⟨x,rfl,jr,lz⟩;have wk:AR.wrap (1+x)=1+x:=wrap_i64 omT omT;simp only[go_sem,seval,hlt,fN,wk];refine bJ (id:=0) (λj ρ1 H1 wr=>wr=[o]/\ρ1 6=vi j/\∃i' o1,∃r:List Str,H1=H.set o (.box v (aM l i'))++[o1]/\ew H.length 1 (r.map aN) (ρ1 4) o1/\r.length=j/\∀a∈r,a∈mq) (1+x).toNat
  (λρ1 H1 wr=>wr=[o]/\∃i' o1,∃r:List Str,H1=H.set o (.box v (aM l i'))++[o1]/\ew H.length 1 (r.map aN) (ρ1 4) o1/\r.length=(1+x).toNat/\∀a∈r,a∈mq)
  bIv rfl ⟨uWa,uWc,i1,_,[],rfl,by simp only[go_sem,seval];exact .nil _,rfl,siT⟩ ?_ ?_
 .rintro j ρ1 H1 dc mo ⟨rfl,e6,i',o1,r,rfl,hg,gu,il⟩ hf;have e0:ρ1 0=.ptr o v 0:=by rw[hf 0 rfl];simp only[go_sem,seval]
  have e3:ρ1 3=.sl Pa (mq.map aN):=by rw[hf 3 rfl];simp only[go_sem,seval,mq,aN]
  have e5:ρ1 5=vi (1+x):=by rw[hf 5 rfl];simp only[go_sem,seval]
  simp only[go_sem,seval,e5,e6];refine aD (λhb=>?_) (λhb=>?_)
  .have cr:j<(1+x).toNat:=uWa
   simp only[go_sem,seval,e0,e3,e6];refine bB (bA ht (m:=7) deT) hl (i:=i') uWb ?_;rintro val i3 ⟨y,rfl,oj,tc⟩;obtain⟨s,hs,cx⟩:=aQl mq oj tc;obtain⟨v',o',eu,db⟩:=hg.app (new:=[[.str s]]) (bytes:=16) siT rfT uWa;rw[show r.map aN++[[.str s]]=(r++[s]).map aN by simp[aN]]at eu;simp only[DR,aN]at cx;simp only[go_sem,seval,hlt,aR,aN,db,oj,cx];rw[dW omT];refine⟨cr,rfl,i3,o',r++[s],rfl,eu,uWV, ?_⟩
   grind
  have cr:j=(1+x).toNat:=uWa
  subst cr;simp only[go_sem,seval]
  grind
 rintro ρ2 H2 en ⟨rfl,i',o1,r,rfl,hg,gu,il⟩ hf;have bl:r.map aN≠[]:=by
  intro h;have:=congrArg FN h
  grind
 obtain⟨ver,e4,rfl⟩:=hg.inv bl;simp only[go_sem,seval,e4,hlt,aT (aC bO _),aA (aC bO _),aA (aC aU _),aW]
 grind
abbrev aDJ:=bTw 20 (bJ6 549)
abbrev tJ:LN:=[]
abbrev aDK:=bTw 20 (bIF 37 [(17,.region Pa aDJ)])
def rI:=(.mk _:bb 20 (bIC [(37,aDK)])).x
abbrev jQ:=bTw 21 (bIF 75 [])
abbrev pI:LN:=[16,17,18,21,22,23,24,25,26,27,28,29,19,20,6]
abbrev pJ:=bTw 21 (bJ6 140631)
abbrev jR:LN:=[1,3,7]
abbrev pK:=bTw 21 (bJ6 206167)
abbrev jS:LN:=[1,4]
abbrev jT:=bTw 21 (bIF 9559 [(17,.region Pa pJ),(25,.region Pa pK)])
abbrev pL:LN:=[40,41,42,45,46,47,48,49,50,51,52,53,54,55,56,57,58,59,60,61,62,63,64,65,66,67,68,69,43,44,8]
def jU:=(.mk _:bb 21 (bIF 55 [(298,jT)])).x
def eT:=(.mk _:bb 21 (bIC [(75,jQ),(55,jU)])).x
def aC1{a b:Fact}:lP [.int,.int,.int,.int] (aI a) (aI b)=N1 (eqv a b):=by
 rw[aRE];simp only[aI,lP,aCO,Vu,aKv]
 grind
def aLf{ts:List Tag}{x y:LA}{b:Bool}(h:lP ts x y=N1 b):kJ .eql (.cells ts) (.agg x) (.agg y)=N1 (.bool b):=by simp[kJ,tN,h]
def aSq{A:af}(h:Has A 20 rI)(l:List Fact)(hl:l.length<=1000)(f:Fact)(H:LO):aG A 20 [.sl Po (l.map aI),.agg (aI f)] H=N1 (.bool (l.any λa=>eqv a f),H,[]):=by
 refine h.call ?_;simp only[rI];simp only[go_sem,seval,aI];refine aKt (λi ρ1 H1 wr=>wr=[]/\ρ1 5=vi i/\H1=H++[.box 1 (aI f)]/\(l.any λa=>eqv a f)=((l.drop i).any λa=>eqv a f)) l.length bIv rfl ⟨rfl,uWc,by simp only[go_sem,seval,aI],rfl⟩ ?_;rintro i ρ1 H1 dc mg ⟨rfl,h5,rfl,hi⟩ hf;have f0:ρ1 0=.sl Po (l.map aI):=by rw[hf 0 rfl];simp only[go_sem,seval]
 have f3:ρ1 3=.ptr H.length 1 0:=by rw[hf 3 rfl];simp only[go_sem,seval]
 simp only[go_sem,seval,f0,h5];refine aD (λhb=>?_) (λhb=>?_)
 .have hlt:i<l.length:=uWe
  rw[FD hlt,List.any_cons]at hi;simp only[go_sem,seval];refine aY (aq:=tJ) rfT rfT ?_;have h4:∀a:Fact,(aI a).length=4:=λ_=>rfl;have ht:∀a:Fact,FW 4 (aI a)=aI a:=λ_=>rfl;simp only[go_sem,seval,tJ,f0,f3,h5,hlt,getElem?_map_of hlt,h4,ht,aLf aC1];refine aD (λdp=>?_) (λdp=>?_)
  .rw[dp,Bool.true_or]at hi;simp only[go_sem,seval,hi]
  rw[dp,Bool.false_or]at hi;simp only[go_sem,seval,h5];rw[dW omT]
  grind
 have hlt:i=l.length:=uWa
 subst hlt;rw[List.drop_eq_nil_of_le (AQ _),List.any_nil]at hi;simp only[go_sem,seval,hi]
abbrev bGE:List Str:=[121,101,115]::[110,111]::[52,50]::aQm
abbrev bGF:List Str:=[[],[105,116,32,108,111,111,107,115,32,115,111],[97,32,115,108,105,112]]
def bGa{s:Str}(h:s∈bGE):s.length<=9:=(by decide:∀s∈bGE,s.length<=9) s h
def bGb{s:Str}(h:s∈bGF):s.length<=11:=(by decide:∀s∈bGF,s.length<=11) s h
def bRa:Int->List Int->Bool
 |_,[]=>Pa
 |last,n::r=>decide (n>last)&&bRa n r
def bPe:∀(l:List Int)(last a:Int),bRa last l=Pa->last<a->(∀n∈l,n<a)->bRa last (l++[a])=Pa
 | [],last,a,_,h,_=>by simp[bRa,h]
 |n::r,last,a,h,h1,h2=>by
  simp only[bRa,AI]at h;simp only[DO,bRa,AI];exact⟨h.1,bPe r n a h.2 (h2 n (HD ..)) λm hm=>h2 m (BZ _ hm)⟩
abbrev bTo(q:Question):Prop:=q.kind=2/\q.key≠[]∨q.kind≠2/\∃n:Nat,n<1000/\q.key=dec n/\(q.kind=0->n<q.options.length)
structure jt(m:Nat)(q:Question):Prop where
 kind:0<=q.kind/\q.kind<=2
 lk:bGD q.lk
 len:q.options.length<=4/\q.dv.length=q.options.length
 opt:∀s∈q.options,s∈bGE
 rea:∀s∈q.dv,s∈bGF
 Q4:q.cy.length<=m
 cy:∀n∈q.cy,0<=n/\n<m
 key:q.key∈aQm∨∃n:Nat,n<1000/\q.key=dec n
 points:0<=q.points/\q.points<=8
 incr:bRa (-1) q.cy=Pa
 optK:if q.kind=0 then 2<=q.options.length else q.options=[]
 keyR:bTo q
def jt.ok{m:Nat}{q:Question}(h:jt m q)(hm:m<=10):q.Ok:=by
 obtain⟨h1,h2,h3,h4,h5,h6,h7,h8,h9,_,_,_⟩:=h;refine⟨uWa,omT,λa ha=>(h2.2.2.1 a ha).1,omT,λs hs=>?_,omT,λn hn=>by grind, ?_,uWa,omT,λs hs=>?_⟩
 .have:=bGa (h4 s hs);grind
 .rcases h8 with h | ⟨n,hn,h⟩
  .have:=bDR h;grind
  have:=aGn 2 n omT;grind
 have:=bGb (h5 s hs);grind
abbrev aBr(m:Nat)(v:AV):Prop:=∃q:Question,v=.agg (gR q)/\jt m q
def aVj{A:af}(ht:fR A){H:LO}{Q:bf->bN->LO->LN->Prop}{tg}{l:List Int}(hl:jP l){o v:Nat}(hlt:o<H.length){i:Int}{o0 o2 o3 o4:ah}{vq:Nat}{c0 c1 c2 c4 c5 c6:AV}{m:Nat}(hm:m<=10){ρ:bN}(e0:ρ 0=.ptr o v 0)(e1:ρ 1=vi m)(e5:ρ 5=.ptr (H.length+1) vq 0)(e6:ρ 6=vi 0)(hQ:∀ρ' i' o2 w (r:List Int),(∀t,pI.contains t=Po->ρ' t=ρ t)->r.length<=m->(∀a∈r,0<=a/\a<m)/\bRa (-1) r=Pa->ew (H.length+2) 1 (r.map bF) w o2 ->Q (.exit 0) ρ' (H.set o (.box v (aM l i'))++[o0,.box vq [c0,c1,c2,w,c4,c5,c6],o2,o3,o4]) [o]):wl A 82 ⟨H.length,[4,5,28,58,68]⟩ jQ ρ (H.set o (.box v (aM l i))++[o0,.box vq [c0,c1,c2,.sl Pa [],c4,c5,c6],o2,o3,o4]) [o] Q tg:=by
 refine bJ (λj ρ1 H1 wr=>wr=[o]/\ρ1 6=vi j/\∃i' o2 w,∃r:List Int,H1=H.set o (.box v (aM l i'))++[o0,.box vq [c0,c1,c2,w,c4,c5,c6],o2,o3,o4]/\ew (H.length+2) 1 (r.map bF) w o2/\r.length<=j/\(∀a∈r,0<=a/\a<j)/\bRa (-1) r=Pa) m
  (λρ1 H1 wr=>wr=[o]/\∃i' o2 w,∃r:List Int,H1=H.set o (.box v (aM l i'))++[o0,.box vq [c0,c1,c2,w,c4,c5,c6],o2,o3,o4]/\ew (H.length+2) 1 (r.map bF) w o2/\r.length<=m/\(∀a∈r,0<=a/\a<m)/\bRa (-1) r=Pa)
  bIv rfl ⟨rfl,e6,i,o2,.sl Pa [],[],rfl,.nil _,AQ _,siT,rfl⟩ ?_ (by
   rintro ρ' H' ba ⟨rfl,i',o2,w,r,rfl,hg,gj,hr2⟩ hf;exact hQ ρ' i' o2 w r hf gj hr2 hg)
 rintro j ρ1 H1 dc mo ⟨rfl,e6,i',o2,w,r,rfl,hg,gu,il,xf⟩ hf;have f0:ρ1 0=.ptr o v 0:=(hf 0 rfl).trans e0;have f1:ρ1 1=vi m:=(hf 1 rfl).trans e1;have f5:ρ1 5=.ptr (H.length+1) vq 0:=(hf 5 rfl).trans e5;simp only[go_sem,seval,f1,e6];refine aD (λhb=>?_) (λhb=>?_)
 .have cr:j<m:=uWe
  simp only[go_sem,seval,f0];refine bB (bA ht (m:=2) deT) hl (i:=i') uWb ?_;rintro val i3 ⟨x,rfl,jr,lz⟩;simp only[go_sem,seval,hlt,aR];refine aD (λdp=>?_) (λdp=>?_)
  .obtain⟨v',o',eu,db⟩:=hg.app (new:=[[vi j]]) (bytes:=8) siT rfT (by simp only[AF,AW,AZ];omega);rw[show r.map bF++[[vi j]]=(r++[(j:Int)]).map bF by simp[bF]]at eu;simp only[go_sem,seval,f5,e6,db,eu.ak,eu.aj];rw[dW omT];refine⟨cr,rfl,i3,o',v',r++[(j:Int)],rfl,eu,soT, ?_,bPe r _ _ xf omT λn hn=>(il n hn).2⟩;intro a ha;rcases AY.1 ha with ha|ha
   .have:=il a ha;omega
   have:a=(j:Int):=uWx
   subst this;omega
  simp only[go_sem,seval,e6];rw[dW omT];exact⟨cr,rfl,i3,o2,w,r,rfl,hg,omT,λa ha=>by have:=il a ha;omega,xf⟩
 have cr:j=m:=by
  have:¬j<m:=uWe
  omega
 subst cr;simp only[go_sem,seval];exact⟨i',o2,w,r,rfl,hg,omT,il,xf⟩
def aQq{A:af}(ht:fR A)(hp:dI A 41 [] aIG){H:LO}{Q:bf->bN->LO->LN->Prop}{tg}{l:List Int}(hl:jP l){o v:Nat}(hlt:o<H.length){i:Int}{o0 o2 o3 o4:ah}{vq:Nat}{c0 c1 c3 c4 c5:AV}{n:Int}(gq:2<=n)(lx:n<=4){ρ:bN}(e0:ρ 0=.ptr o v 0)(e5:ρ 5=.ptr (H.length+1) vq 0)(e7:ρ 7=vi n)(e8:ρ 8=vi 0)(hQ:∀ρ' i' o3 o4 w w' (r r':List Str),(∀t,pL.contains t=Po->ρ' t=ρ t)->r.length=n.toNat->(∀a∈r,a∈bGE)->r'.length=r.length->(∀a∈r',a∈bGF) ->ew (H.length+3) 1 (r.map aN) w o3->ew (H.length+4) 1 (r'.map aN) w' o4 ->Q (.exit 3) ρ' (H.set o (.box v (aM l i'))++[o0,.box vq [c0,c1,w,c3,c4,c5,w'],o2,o3,o4]) [o]):wl A 82 ⟨H.length,[4,5,28,58,68]⟩ jT ρ (H.set o (.box v (aM l i))++[o0,.box vq [c0,c1,.sl Pa [],c3,c4,c5,.sl Pa []],o2,o3,o4]) [o] Q tg:=by
 refine bJ (λj ρ1 H1 wr=>wr=[o]/\ρ1 8=vi j/\∃i' o3 o4 w w',∃r r':List Str,H1=H.set o (.box v (aM l i'))++[o0,.box vq [c0,c1,w,c3,c4,c5,w'],o2,o3,o4] /\
   ew (H.length+3) 1 (r.map aN) w o3/\ew (H.length+4) 1 (r'.map aN) w' o4/\r.length=j/\r'.length=j/\(∀a∈r,a∈bGE)/\∀a∈r',a∈bGF) n.toNat
  (λρ1 H1 wr=>wr=[o]/\∃i' o3 o4 w w',∃r r':List Str,H1=H.set o (.box v (aM l i'))++[o0,.box vq [c0,c1,w,c3,c4,c5,w'],o2,o3,o4] /\
   ew (H.length+3) 1 (r.map aN) w o3/\ew (H.length+4) 1 (r'.map aN) w' o4/\r.length=n.toNat/\r'.length=r.length/\(∀a∈r,a∈bGE)/\∀a∈r',a∈bGF)
  bIv rfl ⟨rfl,e8,i,o3,o4,.sl Pa [],.sl Pa [],[],[],rfl,.nil _,.nil _,rfl,rfl,siT,siT⟩ ?_ (by
   rintro ρ' H' ba ⟨rfl,i',o3,o4,w,w',r,r',rfl,hg,eu,h1,h2,h3,h4⟩ hf;exact hQ ρ' i' o3 o4 w w' r r' hf h1 h3 h2 h4 hg eu)
 rintro j ρ1 H1 dc mo ⟨rfl,e8,i',o3,o4,w,w',r,r',rfl,hg,hh,gu,hrl',il,hro'⟩ hf;have f0:ρ1 0=.ptr o v 0:=(hf 0 rfl).trans e0;have f5:ρ1 5=.ptr (H.length+1) vq 0:=(hf 5 rfl).trans e5;have f7:ρ1 7=vi n:=(hf 7 rfl).trans e7;simp only[go_sem,seval,f7,e8];refine aD (λhb=>?_) (λhb=>?_)
 .have cr:j<n.toNat:=by simp at hb;omega
  have bl:(H.length+1==o)=false:=soT;simp only[go_sem,seval];refine aY (aq:=jR) rfT rfT ?_;simp only[go_sem,seval,jR,f0,f5,e8];refine eB hp hl (i:=i') uWb ?_;rintro val i3 ⟨s,rfl,hs⟩;simp only[go_sem,seval,hlt,aR];refine eB (bA ht (m:=2) deT) hl (i:=i3) uWb ?_;rintro val i4 ⟨y,rfl,oj,tc⟩;have Xz:AR.wrap ((j:Int)+y)=j+y:=wrap_i64 omT omT;have hr0:=HV 4 (a:=j+y) omT;have gj:=GX (j+y) (b:=4) deT;obtain⟨t,qt,cx⟩:=aQl [[121,101,115],[110,111],s,[52,50]] hr0 gj;simp only[DR,aN]at cx;have tl:t∈bGE:=by
   simp only[BD,CC,or_false]at qt;rcases qt with rfl|rfl|rfl|rfl
   .exact HD ..
   .exact BZ _ (HD ..)
   .exact BZ _ (BZ _ (BZ _ hs))
   exact BZ _ (BZ _ (HD ..))
  obtain⟨v',o',eu,db⟩:=hg.app (new:=[[.str t]]) (bytes:=16) siT rfT (by simp only[AF,AW,AZ];omega);rw[show r.map aN++[[.str t]]=(r++[t]).map aN by simp[aN]]at eu;simp only[go_sem,seval,hlt,aR,Xz,tS (b:=4) deT,hr0,cx,db,eu.ak,eu.aj,eH,dG,bl,aL];refine aY (aq:=jS) rfT rfT ?_;simp only[go_sem,seval,jS,f0,f5];refine eB (bA ht (m:=3) deT) hl (i:=i4) uWb ?_;rintro val i5 ⟨z,rfl,me,Wg⟩;obtain⟨u,hum,wm⟩:=aQl bGF me Wg;simp only[DR,aN]at wm;obtain⟨v2,o2',hh',ll⟩:=hh.app (new:=[[.str u]]) (bytes:=16) siT rfT (by simp only[AF,AW,AZ];omega);rw[show r'.map aN++[[.str u]]=(r'++[u]).map aN by simp[aN]]at hh';simp only[go_sem,seval,e8,hlt,aR,me,wm,ll,hh'.ak,hh'.aj,eH,dG,bl,aL];rw[dW omT];refine⟨cr,rfl,i5,o',o2',v',v2,r++[t],r'++[u],rfl,eu,hh',uWV,by simp[hrl'], ?_, ?_⟩
  .exact pS il tl
  exact pS hro' hum
 have cr:j=n.toNat:=by simp at hb;omega
 subst cr;simp only[go_sem,seval];exact⟨i',o3,o4,w,w',r,r',rfl,hg,hh,gu,omT,il,hro'⟩
def uM:∀(H:LO)(a b:LN),dL H (a++b)=dL (dL H a) b
 |H,[],b=>rfl
 |H,o::r,b=>by simp only[DO,dL];exact uM _ r b
def aAS n:∀(wr a b:LN),bE n wr (a++b)=bE n (bE n wr a) b
 |wr,[],b=>rfl
 |wr,o::r,b=>by
  simp only[DO,bE];split<;>exact aAS n _ r b
def aLg{A:af}(h:Has A 21 eT)(ht:fR A)(hp:dI A 41 [] aIG)(hr:dI A 34 [] aQn)(hd:aH8 A){m:Nat}(hm:m<=10):dI A 21 [vi m] (aBr m):=by
 refine h.gen (by simp[eT]) (λn=>bIv) ?_;intro l i o v H hl hlt ho;simp only[eT];simp only[go_sem,seval];refine bB (bA ht (m:=3) deT) hl (i:=i) uWd ?_;rintro val i1 ⟨k,rfl,Rj,Ch⟩;simp only[go_sem,seval,hlt,fN];refine bB hr hl (i:=i1) uWb ?_;rintro val i2 ⟨st,rfl,bd⟩;simp only[go_sem,seval,hlt,aR];refine bB (bA ht (m:=9) deT) hl (i:=i2) uWb ?_;rintro val i3 ⟨p,rfl,hp0,hp1⟩;simp only[go_sem,seval,hlt,aR];refine aVj ht hl hlt (m:=m) hm uWc uWc uWc uWc ?_;intro ρ2 i4 o2 w nd cq lx xh hg;have g0:ρ2 0=.ptr o v 0:=by rw[cq 0 rfl];simp only[go_sem,seval]
 have g4:ρ2 4=.ptr H.length 1 0:=by rw[cq 4 rfl];simp only[go_sem,seval]
 have g5:ρ2 5=.ptr (H.length+1) 1 0:=by rw[cq 5 rfl];simp only[go_sem,seval]
 obtain⟨f1,l1,o2',qe,iq,yz⟩:=hg.dw (aC aU _);have fin:∀(op rs:List Str)(key:Str),op.length<=4->(∀a∈op,a∈bGE)->rs.length=op.length->(∀a∈rs,a∈bGF)->(key∈aQm∨∃n:Nat,n<1000/\key=dec n)->(if k=0 then 2<=op.length else op=[])->bTo ⟨k,st,op,nd,key,p,rs⟩ ->
   aBr m (.agg [vi k,.sl Po (st.map cZ),.sl Po (op.map aN),.sl Po (nd.map bF),.str key,vi p,.sl Po (rs.map aN)]):=λop rs key h1 h2 h3 h4 h5 h6 h7=>⟨⟨k,st,op,nd,key,p,rs⟩,rfl,⟨Rj,by show k<=2;omega⟩,bd,⟨h1,h3⟩,h2,h4,lx,xh.1,h5,⟨hp0,by show p<=8;omega⟩,xh.2,h6,h7⟩
 have ru:k=0∨k=1∨k=2:=omT;simp only[go_sem,seval,g5];simp only[jU];rcases ru with rfl|rfl|rfl
 .simp only[go_sem,seval,g0];refine bB (bA ht (m:=3) deT) hl (i:=i4) uWb ?_;rintro val i5 ⟨x,rfl,jr,lz⟩;have wk:AR.wrap (2+x)=2+x:=wrap_i64 omT omT;simp only[go_sem,seval,hlt,aR,wk];refine aQq ht hp hl hlt (n:=2+x) omT omT (by simp only[go_sem,seval,g0]) (by simp only[go_sem,seval,g5]) uWc uWc ?_;intro ρ3 i6 o3 o4 w1 w2 op rs im a1 a2 a3 a4 D4 hgr;have k0:ρ3 0=.ptr o v 0:=by rw[im 0 rfl];simp only[go_sem,seval,g0]
  have k4:ρ3 4=.ptr H.length 1 0:=by rw[im 4 rfl];simp only[go_sem,seval,g4]
  have k5:ρ3 5=.ptr (H.length+1) 1 0:=by rw[im 5 rfl];simp only[go_sem,seval,g5]
  have k7:ρ3 7=vi (2+x):=by rw[im 7 rfl];simp only[go_sem,seval]
  obtain⟨f2,l2,o3',m1,m2,m3⟩:=D4.dw (aC bO _);obtain⟨f3,l3,o4',n1,n2,n3⟩:=hgr.dw (aC bO _);simp only[go_sem,seval,k0,k7];refine bB (bA ht (m:=2+x) omT) hl (i:=i6) uWb ?_;rintro val i7 ⟨y,rfl,oj,tc⟩;obtain⟨yn,rfl⟩:=DN oj;have hdy:=λH=>hd yn H omT;simp only[go_sem,seval,k4,k5,hlt,aR,hdy,hg.ak,D4.ak,hgr.ak,qe,iq,yz,m1,m2,m3,n1,n2,n3,uM,aAS,aW,aA (aC cA _),aA (aC bO _),aA (aC aU _)];exact⟨⟨i7,rfl⟩,fin op rs (dec yn) omT a2 a3 a4 (.inr ⟨yn,omT,rfl⟩) (by rw[Vx rfl];omega) (.inr ⟨by show (0:Int)≠2;decide,yn,omT,rfl,λ_=>by show yn<op.length;omega⟩)⟩
 .simp only[go_sem,seval,g0];refine bB (bA ht (m:=200) deT) hl (i:=i4) uWb ?_;rintro val i7 ⟨y,rfl,oj,tc⟩;obtain⟨yn,rfl⟩:=DN oj;have hdy:=λH=>hd yn H omT;simp only[go_sem,seval,g4,g5,hlt,aR,hdy,hg.ak,qe,iq,yz,aW,aA (aC cA _),aA (aC aU _)];exact⟨⟨i7,rfl⟩,fin [] [] (dec yn) siT siT rfl siT (.inr ⟨yn,omT,rfl⟩) rfl (.inr ⟨by show (1:Int)≠2;decide,yn,omT,rfl,λh=>Vv h (by show ¬(1:Int)=0;decide)⟩)⟩
 simp only[go_sem,seval,g0];refine bB hp hl (i:=i4) uWb ?_;rintro val i7 ⟨s,rfl,G6⟩;simp only[go_sem,seval,g4,g5,hlt,aR,hg.ak,qe,iq,yz,aW,aA (aC cA _),aA (aC aU _)];exact⟨⟨i7,rfl⟩,fin [] [] s siT siT rfl siT (.inl G6) rfl (.inl ⟨rfl,λh=>by have:=(by decide:∀s∈aQm,s≠[]) s G6;exact this h⟩)⟩
abbrev nD:=bTw 207 (bJ6 2661)
abbrev eE:LN:=[]
abbrev nE:=bTw 207 (bIF 37 [(83,.region Pa nD)])
def dM:=(.mk _:bb 207 (bIC [(37,nE)])).x
def eF:=(.mk _:bb 141 bTx).x
def tK:=(.mk _:bb 92 (bIF 13 [])).x
def rJ:=(.mk _:bb 92 (bIC [(13,tK)])).x
def aFa:=(.mk _:bb 93 bTx).x
section
variable {A:af}{tB:Nat}
def aMk(h:Has A 207 dM)(l:List Fact)(s:Fact)(fl:Bool)(hl:l.length<=1000000000)(H:LO):aG A 207 [.sl fl (l.map aI),.agg (aI s)] H=N1 (vi (aMW (λx=>eqv s x) l),H,[]):=by
 refine h.call ?_;simp only[dM];simp only[go_sem,↓aB,seval,lF.len,lF.still,lF.ga];refine bJ (id:=0) (λi ρ1 H1 wr=>wr=[]/\H1=H/\ρ1 8=vi i/\∀j (hj:j<i) (hl:j<l.length),(eqv s l[j])=Po) l.length
  (λρ1 H1 wr=>wr=[]/\H1=H/\∀j (hl:j<l.length),(eqv s l[j])=Po)
  bIv rfl ⟨rfl,siT,rfl,λj hj=>omT⟩ ?_ ?_
 .rintro i ρ1 H1 dc mg ⟨rfl,rfl,e8,hn⟩ hf;have e0:=hf 0 rfl;have e3:=hf 3 rfl;have e7:=hf 7 rfl;simp only[go_sem,↓aB,seval,e8,e7];refine aD (λhb=>?_) (λhb=>?_)
  .have hlt:i<l.length:=uWe
   have hg:(l.map aI)[i]? = N1 (aI l[i]):=getElem?_map_of hlt;have gq:0<=i:=omT;have kx:((i:Int)).toNat=i:=omT;have Qe:=wS (i:=i) omT;have D0:=aLf (aC1 (a:=s) (b:=l[i]));simp only[go_sem,↓aB,seval,e8];refine aY (aq:=eE) rfT rfT ?_;cases hc:(eqv s l[i])with
   |true=>rw[hc]at D0;simp only[go_sem,↓aB,seval,eE,e0,e3,hg,gq,kx,D0,lF.len,lF.take];exact (aLT hlt hc λj hj=>hn j hj omT).symm ▸ rfl
   |false=>
    rw[hc]at D0;simp only[go_sem,↓aB,seval,eE,e0,e3,e8,hg,gq,kx,D0,Qe,lF.len,lF.take];refine⟨hlt,λj hj mo=>?_⟩;by_cases e:j=i
    .subst e;exact hc
    exact hn j omT mo
  have hi:i=l.length:=by simp at hb;omega
  subst hi;simp only[go_sem,seval];exact λj hj=>hn j hj hj
 rintro ρ' H' ba ⟨rfl,rfl,hn⟩ hf;simp only[go_sem,↓aB,seval,aGq hn]
def uN(h:Has A 141 eF)(hi:Has A 207 dM)(l:List Fact)(s:Fact)(fl:Bool)(hl:l.length<=1000000000)(H:LO):aG A 141 [.sl fl (l.map aI),.agg (aI s)] H=N1 (.bool (l.any λx=>eqv s x),H,[]):=by refine h.call ?_;simp only[eF];simp only[go_sem,↓aB,seval,λH=>aMk hi l s Po hl H,aLU,lF.len,lF.still,lF.ga,lF.take,aS (eL s)]
def aHb(bk fk:Int):Bool:=if fk=0 then bk != 4 else if fk=1 then bk==3 else if fk=2∨fk=3∨fk=4 then bk==4 else if fk=5 then bk==5 else if fk=6 then bk==6 else Po
def aJF(h:Has A 92 rJ)(bk fk:Int)(H:LO):aG A 92 [vi bk,vi fk] H=N1 (.bool (aHb bk fk),H,[]):=by
 refine h.call ?_;simp only[rJ,tK,aHb];by_cases e0:fk=0
 .simp only[go_sem,↓aB,seval,e0]
 have n0:(fk==0)=false:=uWE
 by_cases e1:fk=1
 .simp only[go_sem,↓aB,seval,e1]
 have n1:(fk==1)=false:=uWh
 by_cases e2:fk=2
 .simp only[go_sem,↓aB,seval,e2,true_or]
 have n2:(fk==2)=false:=uWp
 by_cases e3:fk=3
 .simp only[go_sem,↓aB,seval,e3,true_or,or_true]
 have n3:(fk==3)=false:=uWf
 by_cases e4:fk=4
 .simp only[go_sem,↓aB,seval,e4,or_true]
 have n4:(fk==4)=false:=uXf
 by_cases e5:fk=5
 .simp only[go_sem,↓aB,seval,e5,or_self]
 have n5:(fk==5)=false:=uWt
 by_cases e6:fk=6
 .simp only[go_sem,↓aB,seval,e6,or_self]
 have n6:(fk==6)=false:=uWD
 simp only[go_sem,↓aB,seval,e0,e1,e2,e3,e4,e5,e6,n0,n1,n2,n3,n4,n5,n6,or_self]
noncomputable def jY(b:Block):List Fact:=if dQ b then eM b 0 else []
def aHO{b:Block}(hb:b.Ok):(jY b).length<=1792:=by
 unfold jY;split
 .exact yT hb 7
 exact FF _
structure Wa(A:af)(tB:Nat):Prop where
 fam:wz A
 facts:Has A 206 oZ
 usable:Has A 140 yV
 valid:oh A tB
 con:Has A 141 eF
 ind:Has A 207 dM
 holds:Has A 93 aFa
 possible:Has A 92 rJ
def aVk(F:Wa A tB)(b:Block)(hb:b.Ok)(H:LO):aG A 140 [.agg (aO ⟨[97],[b],[],[]⟩)] H=N1 (aSo (jY b),H,[]):=by
 obtain⟨R,h1,h2⟩:=aH7 F.fam F.facts F.usable ⟨[97],[b],[],[]⟩ ⟨(by show ([97]:Str).length<=1000;decide),by show ([b]:List Block).length<=16;simp,λx hx=>by rw[CG.1 hx];exact hb,FF _,(λ_ h=>by cases h),FF _,(λ_ h=>by cases h)⟩ (P:=dQ b=Pa) (P':=dQ b=Pa)
  (λH=>⟨if dQ b then 0 else 1,Ws F.valid b hb H,λh=>by cases hB:dQ b<;>simp[hB]at h ⊢,λh=>by rw[h];rfl⟩) H
 rw[h1];rcases h2 with⟨rfl,hn⟩ | ⟨hp,rfl⟩
 .have:dQ b=false:=by simpa using hn
  simp[jY,this]
 have:tI ⟨[97],[b],[],[]⟩=eM b 0:=by show mI [b] 1=_;simp[mI]
 rw[this];simp[jY,hp]
def aOr(F:Wa A tB)(b:Block)(hb:b.Ok)(f:Fact)(H:LO):aG A 93 [.agg (aE b),.agg (aI f)] H=N1 (.bool ((jY b).any λx=>eqv { f with block:=0 } x),H,[]):=by
 refine F.holds.call ?_;have hu:=λH=>aVk F b hb H;have ax:=aHO hb;have hc:=λH=>uN F.con F.ind (jY b) { f with block:=0 } Po omT H;simp only[aFa];simp only[aO,BI,BY]at hu;simp only[aI]at hc ⊢;cases hR:jY b with
 |nil=>simp only[hR,aFF,BY]at hu hc;simp only[go_sem,↓aB,seval,hu,hc,bT.len,bT.still,bT.ga,bT.take,aS (bG b)]
 |cons x r=>simp only[hR,aDI]at hu hc;generalize (x::r).map aI=rows at *;simp only[go_sem,↓aB,seval,hu,hc,bT.len,bT.still,bT.ga,bT.take,aS (bG b)]
end
section
variable {A:af}{tB tP:Nat}
def aVl(F:og A tB tP)(b:Block)(hb:b.Ok)(hB:dQ b=Pa)(hv:b.kind=1->aBV b.expr=0)(h4:b.kind≠4)(hc:∀H,aG A 91 [.agg (aE b)] H=N1 (vi 0,H,[]))(H:LO):aG A 94 [.agg (aE b)] H=N1 (.tup [.str (wB b),vi 0],H,[]):=by
 obtain⟨op,n,ks,ig⟩:=eW b;refine F.text.call ?_;have qv:=bG b;have Xz:=λX=>aQe F.ways X;simp only[aH2];simp only[go_sem,↓aB,seval,cF,bT.take,bT.still,bT.ga,aS qv,hc];refine aY (aq:=aBZ) (H0:=_) (by simp only[go_sem,seval,cS];rfl) rfT ?_;have pk:FW 1 (aE b)=[vi b.kind]:=by rw[ig];rfl
 have hle:(1:Nat)<=13:=deT;obtain⟨j,hj,hj1,f1,f2,hj2,hj3⟩:=aYc F b hb hB hv h4;have hfw:=aSi j hj hj1 hj2;simp only[go_sem,↓aB,seval,aBZ,Xz,pk,hle,cF,hfw,eH,dG,aL,bT.take,aS qv,aK qv,hj3]
end
def aCE{b:Block}{at':Int}{f:Fact}(h:f∈eM b at'):∃k,k<7/\lJ (aBp k) b.kind=Pa/\∃p∈aWq b k,f=⟨k,at',p.1,p.2⟩:=by
 unfold eM nO at h;obtain⟨k,hk,h⟩:=IM.1 h;unfold aF8 at h;split at h
 .rename_i hh;obtain⟨p,hp,e⟩:=DB.1 h;exact⟨k,HE.1 hk,hh,p,hp,e.symm⟩
 cases h
def aVm{l:List Shape}{kind:Int}{p:Nat×Nat}{n m:Nat}(h:p∈bJ7 l kind n m):p.1<n/\p.2<m:=aDs.1 (OK.1 h).1
def aAT:=(.mk _:bb 56 (bIF 55 [])).x
abbrev aHc:=bTw 56 (bJ6 5039)
abbrev aAU:LN:=[]
abbrev aHd:=bTw 56 (bJ6 20399)
abbrev aAV:LN:=[]
def aAW:=(.mk _:bb 56 (bIF 111 [(78,.region Pa aHc),(318,.region Pa aHd)])).x
def aAX:=(.mk _:bb 56 (bIC [(55,aAT),(111,aAW)])).x
structure Told(E:Int->Int->List Shape->Int)(x:Item)(f:Fact):Prop where
 b0:0<=f.block
 b1:f.block<x.blocks.length
 right:∀b,x.blocks[f.block.toNat]? = N1 b->dQ b=Pa/\nU E b=0/\f∈eM b f.block
def aVn{k:Nat}{b:Block}(hk:k<7)(h:lJ (aBp k) b.kind=Pa)(hb:0<=b.kind):aHb b.kind k=true:=by
 match k,hk with
 |0,_=>simp[lJ,aBp]at h;simp[aHb];omega
 |1,_=>simp[lJ,aBp]at h;simp[aHb];omega
 |2,_=>simp[lJ,aBp]at h;simp[aHb];omega
 |3,_=>simp[lJ,aBp]at h;simp[aHb];omega
 |4,_=>simp[lJ,aBp]at h;simp[aHb];omega
 |5,_=>simp[lJ,aBp]at h;simp[aHb];omega
 |6,_=>simp[lJ,aBp]at h;simp[aHb];omega
def aVo{k:Nat}{b:Block}(hk:k<7)(h:lJ (aBp k) b.kind=Pa):(k=0/\b.kind≠4)∨(0<k/\b.kind=aBp k):=by
 match k,hk with
 |0,_=>simp[lJ,aBp]at h;left;exact⟨rfl,omT⟩
 |1,_=>simp[lJ,aBp]at h;right;exact⟨deT,by simp[aBp];omega⟩
 |2,_=>simp[lJ,aBp]at h;right;exact⟨deT,by simp[aBp];omega⟩
 |3,_=>simp[lJ,aBp]at h;right;exact⟨deT,by simp[aBp];omega⟩
 |4,_=>simp[lJ,aBp]at h;right;exact⟨deT,by simp[aBp];omega⟩
 |5,_=>simp[lJ,aBp]at h;right;exact⟨deT,by simp[aBp];omega⟩
 |6,_=>simp[lJ,aBp]at h;right;exact⟨deT,by simp[aBp];omega⟩
def aOs{b:Block}{f:Fact}{n m:Int}(h:f∈eM b n):({ f with block:=m }:Fact)∈eM b m:=by obtain⟨k,hk,hh,p,hp,rfl⟩:=aCE h;unfold eM nO;refine IM.2 ⟨k,HE.2 hk, ?_⟩;unfold aF8;rw[Vx hh];exact DB.2 ⟨p,hp,rfl⟩
abbrev aHP:=bTw 96 (bJ6 95)
abbrev jZ:LN:=[]
def aCF:=(.mk _:bb 96 (bIC [(95,.region Pa aHP)])).x
section
variable {A:af}{E:Int->Int->List Shape->Int}
def aSr(hE:aCD A E)(hI:∀s t:Shape,s.points.length<=1000->t.points.length<=1000->∀H,∃r:Bool,aG A 144 [.agg (aH s),.agg (aH t)] H=N1 (.bool r,H,[]))(hL:∀s t:Shape,s.points.length<=1000->t.points.length<=1000->∀H,∃r:Bool,aG A 145 [.agg (aH s),.agg (aH t)] H=N1 (.bool r,H,[]))(hG:∀s t:Shape,s.points.length<=1000->t.points.length<=1000->∀H,∃r:Bool,aG A 146 [.agg (aH s),.agg (aH t)] H=N1 (.bool r,H,[]))(h:Has A 96 aCF)(w hh:Int)(l:List Shape)(f:Fact)(H:LO)(hl:∀s∈l,vQ s=Pa)(hw:1<=w/\w<=1000)(hh2:1<=hh/\hh<=1000)(hl8:l.length<=8)(ha0:0<=f.a)(qw:0<=f.b)(ha:f.a<l.length)(hb:f.b<l.length)(z8:2<=f.kind)(hk4:f.kind<=4):∃(r:Bool)(e:Int),aG A 96 [.agg (aDn w hh l),.agg (aI f)] H=N1 (.tup [.bool r,vi e],H,[]):=by
 obtain⟨v,H',wr,h1,rfl,rfl,m,e,rfl⟩:=h.bp (args:=[.agg (aDn w hh l),.agg (aI f)]) (H:=H) (K:=λv H' wr=>wr=[]/\H'=H/\∃(r:Bool)(e:Int),v=.tup [.bool r,vi e]) (by
  have hv:=λH=>hE w hh l hw hh2 hl8 hl H;have Wo:∀s∈l,s.points.length<=1000:=λs hm=>by
   have q1:=hl s hm;unfold vQ at q1;simp only[AI,eG]at q1;omega
  simp only[aCF];simp only[aDn,aI]at hv ⊢;cases e1:(E w hh l != 0)with
  |true=>simp only[go_sem,↓aB,seval,hv,e1];exact⟨_,_,rfl⟩
  |false=>
   have hk:f.kind=2∨f.kind=3∨f.kind=4:=omT;have hpa:f.a.toNat<l.length:=omT;have hpb:f.b.toNat<l.length:=omT;have hga:(l.map aH)[f.a.toNat]? = N1 (aH l[f.a.toNat]):=by rw[BN,AP hpa];rfl
   have Gt:(l.map aH)[f.b.toNat]? = N1 (aH l[f.b.toNat]):=by rw[BN,AP hpb];rfl
   obtain⟨sa,hsa,ea⟩:∃s:Shape,s.points.length<=1000/\(l.map aH)[f.a.toNat]? = N1 (aH s):=⟨_,Wo _ (AS hpa),hga⟩;obtain⟨sb,hsb,eb⟩:∃s:Shape,s.points.length<=1000/\(l.map aH)[f.b.toNat]? = N1 (aH s):=⟨_,Wo _ (AS hpb),Gt⟩;have fI:kJ Go.BinOp.eql vd.func (AV.fn 144 [] []) AV.bx=N1 (.bool Po):=rfl;have fL:kJ Go.BinOp.eql vd.func (AV.fn 145 [] []) AV.bx=N1 (.bool Po):=rfl;have fG:kJ Go.BinOp.eql vd.func (AV.fn 146 [] []) AV.bx=N1 (.bool Po):=rfl;have c1:decide ((if f.b<f.a then f.b else f.a)<0)=false:=by simp;split<;>omega
   have c2:decide ((if f.a<f.b then f.b else f.a) ≥ (l.length:Int))=false:=by simp;split<;>omega
   rcases hk with hk|hk|hk
   .rw[hk];obtain⟨r,hr⟩:=hI sa sb hsa hsb (H++[ah.map 1 [(AV.int AR 2,AV.fn 144 [] []),(AV.int AR 3,AV.fn 145 [] []),(AV.int AR 4,AV.fn 146 [] [])]]);simp only[aH]at ea eb hr;simp only[go_sem,↓aB,seval,hv,e1,fI,c1,c2];refine aY (aq:=jZ) rfT rfT ?_;simp only[go_sem,↓aB,seval,jZ,ea,eb,hr,ha0,qw];exact⟨_,_,rfl⟩
   .rw[hk];obtain⟨r,hr⟩:=hL sa sb hsa hsb (H++[ah.map 1 [(AV.int AR 2,AV.fn 144 [] []),(AV.int AR 3,AV.fn 145 [] []),(AV.int AR 4,AV.fn 146 [] [])]]);simp only[aH]at ea eb hr;simp only[go_sem,↓aB,seval,hv,e1,fL,c1,c2];refine aY (aq:=jZ) rfT rfT ?_;simp only[go_sem,↓aB,seval,jZ,ea,eb,hr,ha0,qw];exact⟨_,_,rfl⟩
   rw[hk];obtain⟨r,hr⟩:=hG sa sb hsa hsb (H++[ah.map 1 [(AV.int AR 2,AV.fn 144 [] []),(AV.int AR 3,AV.fn 145 [] []),(AV.int AR 4,AV.fn 146 [] [])]]);simp only[aH]at ea eb hr;simp only[go_sem,↓aB,seval,hv,e1,fG,c1,c2];refine aY (aq:=jZ) rfT rfT ?_;simp only[go_sem,↓aB,seval,jZ,ea,eb,hr,ha0,qw];exact⟨_,_,rfl⟩)
 exact⟨m,e,h1⟩
structure Yl(A:af):Prop where
 fns:PlaneFns A
 within:Has A 232 oY
 con:aAA A 203 2 Pa
 in1:Has A 231 oP
 inside:Has A 144 aAI
 box:Has A 235 aDo
 left:Has A 145 aEv
 length:Has A 236 tC
 longer:Has A 146 aAF
 holds:Has A 96 aCF
def aVp(P:Yl A)(hE:aCD A E)(b:Block)(f:Fact)(H:LO)(hb:b.Ok)(hl:∀s∈b.aw,vQ s=Pa)(hw:1<=b.w/\b.w<=1000)(hh:1<=b.h/\b.h<=1000)(h8:b.aw.length<=8)(a0:0<=f.a)(b0:0<=f.b)(a1:f.a<b.aw.length)(b1:f.b<b.aw.length)(k2:2<=f.kind)(k4:f.kind<=4):∃(r:Bool)(e:Int),aG A 96 [.agg (aDn b.w b.h b.aw),.agg (aI f)] H=N1 (.tup [.bool r,vi e],H,[]):=
 aSr hE (λs t hs ht H=>aQ9 P.fns P.within P.con P.in1 P.inside s t hs ht H) (λs t hs ht H=>aV5 P.box P.left s t hs ht H) (λs t hs ht H=>aQ5 P.fns P.length P.longer s t hs ht H) P.holds b.w b.h b.aw f H hl hw hh h8 a0 b0 a1 b1 k2 k4
end
def aII{n:Nat}:∀{l:LA},dJ n l=Pa->∀(i:Nat) a,l[i]? = N1 a->a.under n=Pa
 | [],_,i,a,h=>by simp at h
 |v::r,hu,i,a,h=>by
  simp only[dJ,AI]at hu;cases i with
  |zero=>simp at h;subst h;exact hu.1
  |succ i=>exact aII hu.2 i a uWg
noncomputable def aFb(A:af)(f:Nat):aIP:=λargs _=>if dJ 0 args=Pa then
  match aG A f args []with
  |some (v,[],[])=>if v.atomic=Pa then N1 (v,[],[])else N2
  |_=>N2
 else N2
def aQr{A:af}{f:Nat}{args:LA}{H:LO}{r}(h:aFb A f args H=N1 r):∃v,r=(v,[],[])/\v.atomic=Pa/\dJ 0 args=Pa/\aG A f args []=N1 (v,[],[]):=by
 unfold aFb at h;split at h
 .rename_i hu;split at h
  .rename_i v hc;split at h
   .rename_i ha;cases h;exact⟨v,rfl,ha,hu,hc⟩
   cases h
  cases h
 cases h
def aQs{A:af}{f:Nat}{args:LA}{v:AV}(hu:dJ 0 args=Pa)(ha:v.atomic=Pa)(h:aG A f args []=N1 (v,[],[]))(H:LO):aFb A f args H=N1 (v,[],[]):=by unfold aFb;rw[Vx hu,h];dsimp only;rw[Vx ha]
def aSs{P:Program}{ab:cu}{A:af}(hA:Good P ab A)(B4:∀n row,ab.row n=N1 row->dJ 0 row=Pa){f:Nat}(hf:∃F,P.funcs[f]? = N1 F/\(F.name == "runtime.NumGoroutine")=Po/\F.body.isNone=Po):gS P ab λf' args H=>if f'=f then (aFb A f args H).map (cT H)else none:=by
 refine oC hf λargs H v ws ns hp g w xs hw hg hx=>?_;obtain⟨v',e,jk,hu,hc⟩:=aQr hp;cases e;obtain⟨n,hc⟩:=oM hc;have od:WF (g.cut 0) [] w:=by
  refine⟨hw.perm,λo l h=>by simp[G.cut]at h,λo l h=>by simp[G.cut]at h,λo x l _ h=>by simp[G.cut]at h,λo l x h=>?_,λo l x h=>?_,λo o' l l' x x' h=>?_,⟨λb y hy=>⟨(hw.whole.blocks b y hy).1,λo l z hz=>?_⟩,hw.whole.io⟩⟩
  all_goals first
   | (have:=h.Pr;simp at this;done)
   | (have:=hz.Pr;simp at this;done)
 have Q6:bM P ab (g.cut 0):=⟨λn row e=>by
  obtain⟨h1,h2⟩:=hg.row n row e;exact⟨h1.cut (by simpa [AV.under]using B4 n row e),h2⟩,hg.code⟩
 have jr:fU (g.cut 0) args xs:=⟨hx.1,λi a x e1 e2=>(hx.2 i a x e1 e2).cut (aII hu i a e1)⟩;refine (((sU hA n).1 f args [] v [] [] hc (g.cut 0) w xs od Q6 jr).2).mono λe w' he=>?_;cases e with
 |panicked c=>exact he
 |outgrown=>exact he
 |returned x=>
  obtain⟨g',hs,hr⟩:=he;have kh:w'.os=w.os/\w'.output=w.output:=by have e1:=hs.wf.whole.io;have e2:=hs.le.io;have e3:=hw.whole.io;rw[e2]at e1;have e4:(w.os,w.output)=(w'.os,w'.output):=e3.symm.trans e1;exact⟨(congrArg Prod.fst e4).symm,(congrArg Prod.snd e4).symm⟩
  refine⟨g,uWJ, ?_⟩;cases v<;>first | (simp[AV.atomic,AV.atom]at jk;done) | exact ai.atomic hr jk
def gQ:=(.mk _:bb 36 bTx).x
abbrev lY:=bTw 37 (bIF 76079 [])
abbrev uP:LN:=[20,21,22,25,26,27,28,29,7,23,24,8]
abbrev uQ:=bTw 37 (bIF 303 [(297,lY)])
def gC:=(.mk _:bb 37 (bIC [(303,uQ)])).x
abbrev uR:=bTw 61 (bJ6 18815)
abbrev lZ:LN:=[1,5]
abbrev uS:=bTw 61 (bIF 2431 [(9,.region Pa uR)])
def gD:=(.mk _:bb 61 (bIC [(2431,uS)])).x
abbrev uU:=bTw 35 (bJ6 85)
abbrev mA:LN:=[1,3,7]
def gE:=(.mk _:bb 35 (bIC [(85,.region Pa uU)])).x
abbrev bTp(op:Int)(a:List Int):Prop:=∃x y r,a=x::y::r/\(op≠3->r=[])/\(op=4->y<=x)/\y≠0
abbrev bIk(op:Int)(a:List Int):Prop:=(3<=op/\op<=6)/\(1<=a.length/\a.length<=3)/\(∀n∈a,0<=n/\n<=999999)/\bTp op a
abbrev aVw(v:AV):Prop:=∃(op:Int)(a:List Int),v=.agg [vi op,.sl Po (a.map bF)]/\bIk op a
def aVx{A:af}(h:Has A 36 gQ)(ht:fR A):dI A 36 [] aVw:=by
 refine h.gen (by simp[gQ]) (λn=>bIv) ?_;intro l i o v H hl hlt ho;simp only[gQ];simp only[go_sem,seval];refine bB (bA ht (m:=5) deT) hl (i:=i) uWd ?_;rintro val i1 ⟨x,rfl,jr,lz⟩;obtain⟨op,Qx,cx⟩:=aQk [3,3,4,5,6] jr lz;simp only[DR,bF]at cx;have hopb:3<=op/\op<=6:=by have:∀n∈([3,3,4,5,6]:List Int),3<=n/\n<=6:=deT;exact this _ Qx
 simp only[go_sem,seval,hlt,fN,jr,cx];refine bB (bA ht (m:=6) deT) hl (i:=i1) uWb ?_;rintro val i2 ⟨y,rfl,oj,tc⟩;obtain⟨a,ha,wm⟩:=aQk [0,5,99,123,1005,47] oj tc;simp only[DR,bF]at wm;have hab:0<=a/\a<=1005:=by have:∀n∈([0,5,99,123,1005,47]:List Int),0<=n/\n<=1005:=deT;exact this _ ha
 simp only[go_sem,seval,hlt,aR,oj,wm];refine bB (bA ht (m:=6) deT) hl (i:=i2) uWb ?_;rintro val i3 ⟨z,rfl,me,Wg⟩;obtain⟨b,hb,M8⟩:=aQk [3,9,12,58,1,70] me Wg;simp only[DR,bF]at M8;have hbb:1<=b/\b<=70:=by have:∀n∈([3,9,12,58,1,70]:List Int),1<=n/\n<=70:=deT;exact this _ hb
 have hw:AR.wrap (a+b)=a+b:=wrap_i64 omT omT;have fin:∀ns:List Int,1<=ns.length/\ns.length<=3->(∀n∈ns,0<=n/\n<=999999)->bTp op ns->aVw (.agg [vi op,.sl Po (ns.map bF)]):=λns h1 h2 h3=>⟨op,ns,rfl,hopb,h1,h2,h3⟩;simp only[go_sem,seval,hlt,aR,me,M8];refine aD (λhbr=>?_) (λhbr=>?_)
 .simp only[go_sem,seval,hlt,hw,aW,aA (aC aU _)];exact⟨⟨i3,rfl⟩,fin [a+b,b] siT (by intro n hn;simp only[BD,CC,or_false]at hn;rcases hn with rfl|rfl<;>omega) ⟨_,_,_,rfl,λ_=>rfl,λ_=>omT,omT⟩⟩
 have n4:op≠4:=by simpa using hbr
 simp only[go_sem,seval,hbr];refine aD (λC4=>?_) (λC4=>?_)
 .simp only[go_sem,seval,C4];refine bB (bA ht (m:=3) deT) hl (i:=i3) uWb ?_;rintro val i4 ⟨w,rfl,od,dy⟩;have S9:(op==3)=true:=by simpa using C4
  simp only[go_sem,seval,hlt,aR,S9];refine aD (λhbr4=>?_) (λhbr4=>?_)
  .simp only[go_sem,seval,hlt,aW,aA (aC aU _)];exact⟨⟨i4,rfl⟩,fin [a,b,808] siT (by intro n hn;simp only[BD,CC,or_false]at hn;rcases hn with rfl|rfl|rfl<;>omega) ⟨_,_,_,rfl,λh=>Vv (by simpa using S9) h,λh=>Vv h n4,omT⟩⟩
  simp only[go_sem,seval,hlt,aW,aA (aC aU _)];exact⟨⟨i4,rfl⟩,fin [a,b] siT (by intro n hn;simp only[BD,CC,or_false]at hn;rcases hn with rfl|rfl<;>omega) ⟨_,_,_,rfl,λ_=>rfl,λh=>Vv h n4,omT⟩⟩
 have S9:(op==3)=false:=by
  cases hq:(op==3)with
  |false=>rfl
  |true=>rw[hq]at C4;cases C4
 simp only[go_sem,seval,S9,hlt,aW,aA (aC aU _)];exact⟨⟨i3,rfl⟩,fin [a,b] siT (by intro n hn;simp only[BD,CC,or_false]at hn;rcases hn with rfl|rfl<;>omega) ⟨_,_,_,rfl,λ_=>rfl,λh=>Vv h n4,omT⟩⟩
abbrev aIJ(r:List Str):Prop:=1<=r.length/\r.length<=3/\∀s∈r,s∈aQm
abbrev bHW(rows:List (List Str)):Prop:=1<=rows.length/\rows.length<=3/\(∀r∈rows,aIJ r)/\∃c:Nat,∀r∈rows,r.length=c
abbrev aTk(v:AV):Prop:=∃rows:List (List Str),v=.agg [.sl Po (rows.map bY)]/\bHW rows
def aSu{A:af}(hp:dI A 41 [] aIG){H:LO}{Q:bf->bN->LO->LN->Prop}{tg}{l:List Int}(hl:jP l){o v:Nat}(hlt:o<H.length){i:Int}{o0 o1 o2 o3:ah}{c:Int}(jg:1<=c)(mj:c<=3){ρ:bN}(e0:ρ 0=.ptr o v 0)(e5:ρ 5=vi c)(e7:ρ 7=.sl Pa [])(e8:ρ 8=vi 0)(hQ:∀ρ' i' o2 (r:List Str),(∀t,uP.contains t=Po->ρ' t=ρ t)->aIJ r/\r.length=c.toNat->ew (H.length+2) 1 (r.map aN) (ρ' 7) o2->Q (.exit 2) ρ' (H.set o (.box v (aM l i'))++[o0,o1,o2,o3]) [o]):wl A 37 ⟨H.length,[2,3,29,34]⟩ lY ρ (H.set o (.box v (aM l i))++[o0,o1,o2,o3]) [o] Q tg:=by
 refine bJ (λj ρ1 H1 wr=>wr=[o]/\ρ1 8=vi j/\∃i' o2,∃r:List Str,H1=H.set o (.box v (aM l i'))++[o0,o1,o2,o3]/\ew (H.length+2) 1 (r.map aN) (ρ1 7) o2/\r.length=j/\∀a∈r,a∈aQm) c.toNat
  (λρ1 H1 wr=>wr=[o]/\∃i' o2,∃r:List Str,H1=H.set o (.box v (aM l i'))++[o0,o1,o2,o3]/\ew (H.length+2) 1 (r.map aN) (ρ1 7) o2/\aIJ r/\r.length=c.toNat)
  bIv rfl ⟨rfl,e8,i,o2,[],rfl,by rw[e7];exact .nil _,rfl,siT⟩ ?_ (by
   rintro ρ' H' ba ⟨rfl,i',o2,r,rfl,hg,hr⟩ hf;exact hQ ρ' i' o2 r hf hr hg)
 rintro j ρ1 H1 dc mo ⟨rfl,e8,i',o2,r,rfl,hg,gu,il⟩ hf;have f0:ρ1 0=.ptr o v 0:=(hf 0 rfl).trans e0;have f5:ρ1 5=vi c:=(hf 5 rfl).trans e5;simp only[go_sem,seval,f5,e8];refine aD (λhb=>?_) (λhb=>?_)
 .have cr:j<c.toNat:=uWa
  simp only[go_sem,seval,f0,e8];refine bB hp hl (i:=i') uWa ?_;rintro val i3 ⟨s,rfl,hs⟩;obtain⟨v',o',eu,db⟩:=hg.app (new:=[[.str s]]) (bytes:=16) siT rfT uWa;rw[show r.map aN++[[.str s]]=(r++[s]).map aN by simp[aN]]at eu;simp only[go_sem,seval,hlt,aR,db];rw[dW omT]
  grind
 have cr:j=c.toNat:=uWa
 subst cr;simp only[go_sem,seval]
 grind
def aSv{A:af}(h:Has A 37 gC)(ht:fR A)(hp:dI A 41 [] aIG):dI A 37 [] aTk:=by
 refine h.gen (by simp[gC]) (λn=>bIv) ?_;intro l i o v H hl hlt ho;simp only[gC];simp only[go_sem,seval];refine bB (bA ht (m:=3) deT) hl (i:=i) uWa ?_;rintro val i1 ⟨x,rfl,jr,lz⟩;have wk:AR.wrap (1+x)=1+x:=wrap_i64 omT omT;simp only[go_sem,seval,hlt,fN,wk];refine bB (bA ht (m:=3) deT) hl (i:=i1) uWa ?_;rintro val i2 ⟨y,rfl,oj,tc⟩;have Xz:AR.wrap (1+y)=1+y:=wrap_i64 omT omT;simp only[go_sem,seval,hlt,aR,Xz];refine bJ (id:=0) (λj ρ1 H1 wr=>wr=[o]/\ρ1 6=vi j/\∃i' o2 o3 w,∃rows:List (List Str),H1=H.set o (.box v (aM l i'))++[.box 1 [.sl Pa []],.box 1 [w],o2,o3]/\ew (H.length+3) 1 (rows.map bY) w o3/\rows.length=j/\∀a∈rows,aIJ a/\a.length=(1+y).toNat) (1+x).toNat
  (λρ1 H1 wr=>wr=[o]/\∃i' o2 o3 w,∃rows:List (List Str),H1=H.set o (.box v (aM l i'))++[.box 1 [.sl Pa []],.box 1 [w],o2,o3]/\ew (H.length+3) 1 (rows.map bY) w o3/\rows.length=(1+x).toNat/\∀a∈rows,aIJ a/\a.length=(1+y).toNat)
  bIv rfl ⟨uWa,uWc,i2,.gone 0,.gone 0,.sl Pa [],[],rfl,.nil _,rfl,siT⟩ ?_ ?_
 .rintro j ρ1 H1 dc mo ⟨rfl,e6,i',o2,o3,w,rows,rfl,hg,gu,il⟩ hf;have e0:ρ1 0=.ptr o v 0:=by rw[hf 0 rfl];simp only[go_sem,seval]
  have e3:ρ1 3=.ptr (H.length+1) 1 0:=by rw[hf 3 rfl];simp only[go_sem,seval]
  have e4:ρ1 4=vi (1+x):=by rw[hf 4 rfl];simp only[go_sem,seval]
  have e5:ρ1 5=vi (1+y):=by rw[hf 5 rfl];simp only[go_sem,seval]
  simp only[go_sem,seval,e4,e6];refine aD (λhb=>?_) (λhb=>?_)
  .have cr:j<(1+x).toNat:=uWa
   simp only[go_sem,seval];refine aSu hp hl hlt (c:=1+y) omT omT (by simp only[go_sem,seval,e0]) (by simp only[go_sem,seval,e5]) uWc uWc ?_;intro ρ2 i4 o2' r cq hr qu;have g3:ρ2 3=.ptr (H.length+1) 1 0:=by rw[cq 3 rfl];simp only[go_sem,seval,e3]
   have g6:ρ2 6=vi j:=by rw[cq 6 rfl];simp only[go_sem,seval,e6]
   obtain⟨ff,lf,o2'',D1,D4,Ym⟩:=qu.dw (aC bO _);have hle:∀H',H'[H.length+2]? = N1 o2'->dw H' (ρ2 7)=N1 (.sl ff (r.map aN),lf):=by
    intro H' hh;have:=D1 H' hh;obtain⟨ver,h7,_⟩:=qu.inv (by
     intro hnil;have:=congrArg FN hnil
     grind)
    rw[h7]at this ⊢;exact this
   obtain⟨v',o',eu,db⟩:=hg.app (new:=[[.sl Po (r.map aN)]]) (bytes:=24) siT rfT uWa;rw[show rows.map bY++[[.sl Po (r.map aN)]]=(rows++[r]).map bY by simp[bY]]at eu;simp only[go_sem,seval,g3,g6,hle,D4,Ym,db,eu.aj,eu.ak];rw[dW omT];refine⟨cr,rfl,i4,o2'',o',v',rows++[r],rfl,eu,uWV, ?_⟩;exact pS il hr
  have cr:j=(1+x).toNat:=uWa
  subst cr;simp only[go_sem,seval];exact⟨i',o2,o3,w,rows,rfl,hg,gu,il⟩
 rintro ρ2 H2 en ⟨rfl,i',o2,o3,w,rows,rfl,hg,gu,il⟩ hf;have e2:ρ2 2=.ptr H.length 1 0:=by rw[hf 2 rfl];simp only[go_sem,seval]
 have e3:ρ2 3=.ptr (H.length+1) 1 0:=by rw[hf 3 rfl];simp only[go_sem,seval]
 have bl:rows.map bY≠[]:=by
  intro h;have:=congrArg FN h
  grind
 obtain⟨ver,e4,rfl⟩:=hg.inv bl;simp only[go_sem,seval,e2,e3,e4,hlt,aT (aC cU _),aA (aC cU _),aA (aC aU _),aW];exact⟨⟨i',rfl⟩,rows,rfl,omT,omT,λr hr=>(il r hr).1,_,λr hr=>(il r hr).2⟩
inductive Deep:Bool->Nat->Expr->Prop where
 |mk (c:Bool) (d:Nat) (op n:Int) (kids:List Expr):(∀e∈kids,Deep Po d e)->(kids.length=0/\(op=0/\0<=n/\n<=999999∨op=1/\0<=n/\n<=25)∨n=0/\(kids.length=1/\(op=2∨op=8)∨kids.length=2/\(3<=op/\op<=7∨c=Pa/\9<=op/\op<=10)))->Deep c (d+1) (.mk op n kids)
def Deep.top{d:Nat}{e:Expr}(h:Deep Po d e):Deep Pa d e:=by
 cases h with
 |mk _ d op n kids h4 h5=>
  refine .mk _ _ _ _ _ h4 ?_
  grind
def bF1{d:Nat}{c:Bool}{op n:Int}{kids:List Expr}(h:Deep c d (.mk op n kids)):kids.length<=2:=by cases h;omega
def Deep.ok:∀{d:Nat}{c:Bool}{e:Expr},Deep c d e->e.Ok/\gY e<=2 ^ d - 1
 |0,_,e,h=>by cases h
 |d+1,c,.mk op n kids,h=>by
  have h3:=bF1 h;cases h with
  |mk _ _ _ _ _ h4 h5=>
   refine⟨.mk _ _ _ uWa uWa omT λe he=>(Deep.ok (h4 e he)).1, ?_⟩;have hk:cP kids<=2*(2 ^ d - 1):=by
    match kids,h3,h4 with
    | [],_,_=>simp[cP]
    | [a],_,h4=>have:=(Deep.ok (h4 a siT)).2;simp only[cP];omega
    | [a,b],_,h4=>have h5:=(Deep.ok (h4 a siT)).2;have h6:=(Deep.ok (h4 b siT)).2;simp only[cP];omega
    |_::_::_::_,h3,_=>simp at h3
   grind [Nat.one_le_two_pow,gY,PL]
abbrev aFd(c:Bool)(d:Nat)(v:AV):Prop:=∃e:Expr,v=.agg (aF e)/\Deep c d e
def arity(op:Int):Int:=if op=0 then 0 else if op=1 then 0 else if op=2 then 1 else if op=8 then 1 else 2
def aOv{A:af}(h:Has A 103 oI) op (H:LO):aG A 103 [vi op] H=N1 (vi (arity op),H,[]):=by
 refine h.call ?_;simp only[oI];by_cases h0:op=0
 .subst h0;simp only[go_sem,seval,arity]
 by_cases h1:op=1
 .subst h1;simp only[go_sem,seval,arity]
 by_cases h2:op=2
 .subst h2;simp only[go_sem,seval,arity]
 by_cases h8:op=8
 .subst h8;simp only[go_sem,seval,arity]
 simp only[go_sem,seval,arity,aF9 h0,aF9 h1,aF9 h2,aF9 h8,h0,h1,h2,h8]
def aSw op:0<=arity op/\arity op<=2:=by grind [arity]
def aQw{op:Int}(h1:2<=op)(h2:op<=8):(arity op).toNat=1/\(op=2∨op=8)∨(arity op).toNat=2/\3<=op/\op<=7:=by
 unfold arity
 grind
def aNp{A:af}(h:Has A 61 gD)(ht:fR A)(har:∀(op:Int)(H:LO),aG A 103 [vi op] H=N1 (vi (arity op),H,[])):∀d:Nat,d<=3->dI A 61 [vi d] (aFd Po (d+1))
 |d,hd=>by
  have ih:∀d',d=d'+1->dI A 61 [vi d'] (aFd Po (d'+1)):=λd' hd'=>aNp h ht har d' omT;refine h.gen (by simp[gD]) (λn=>bIv) ?_;intro l i o v H hl hlt ho;have leaf:∀op n:Int,(op=0/\0<=n/\n<=999999∨op=1/\0<=n/\n<=25)->aFd Po (d+1) (.agg [vi op,vi n,.sl Po []]):=λop n h=>⟨.mk op n [],rfl,.mk _ _ _ _ _ siT (.inl ⟨rfl,h⟩)⟩;simp only[gD];simp only[go_sem,seval];refine bB (bA ht (m:=12) deT) hl (i:=i) uWd ?_;rintro val i1 ⟨k,rfl,Rj,Ch⟩;cases d with
  |zero=>
   have hkm:0<=k.tmod 3/\k.tmod 3<3:=⟨HV _ Rj,GX _ deT⟩;simp only[go_sem,seval,hlt,fN,tS (b:=3) deT];refine aD (λhb=>?_) (λhb=>?_)
   .simp only[go_sem,seval];refine bB (bA ht (m:=6) deT) hl (i:=i1) uWb ?_;rintro val i2 ⟨x,rfl,jr,lz⟩;obtain⟨n,hn,cx⟩:=aQk [0,1,7,12,100,999999] jr lz;simp only[DR,bF]at cx;have yh:0<=n/\n<=999999:=by
     have:∀n∈([0,1,7,12,100,999999]:List Int),0<=n/\n<=999999:=deT;exact this _ hn
    simp only[go_sem,seval,hlt,aR,jr,cx,aW,aA (aC aU _)];exact⟨⟨i2,rfl⟩,leaf 0 n (.inl ⟨rfl,yh⟩)⟩
   simp only[go_sem,seval];refine aD (λdp=>?_) (λdp=>?_)
   .simp only[go_sem,seval];refine bB (bA ht (m:=4) deT) hl (i:=i1) uWb ?_;rintro val i2 ⟨x,rfl,jr,lz⟩;simp only[go_sem,seval,hlt,aR,aW,aA (aC aU _)];exact⟨⟨i2,rfl⟩,leaf 1 x (.inr ⟨rfl,jr,omT⟩)⟩
   exfalso;simp at hb dp;omega
  |succ d'=>
   have hd0:decide ((((d'+1:Nat):Int))<=0)=false:=by first | (simp;done)|(simp;omega)
   have q9:(((d'+1:Nat):Int))=(d':Int)+1:=rfl;simp only[go_sem,seval,hlt,fN,hd0];refine aD (λhb=>?_) (λhb=>?_)
   .simp only[go_sem,seval];refine bB (bA ht (m:=6) deT) hl (i:=i1) uWb ?_;rintro val i2 ⟨x,rfl,jr,lz⟩;obtain⟨n,hn,cx⟩:=aQk [0,1,7,12,100,999999] jr lz;simp only[DR,bF]at cx;have yh:0<=n/\n<=999999:=by
     have:∀n∈([0,1,7,12,100,999999]:List Int),0<=n/\n<=999999:=deT;exact this _ hn
    simp only[go_sem,seval,hlt,aR,jr,cx,aW,aA (aC aU _)];exact⟨⟨i2,rfl⟩,leaf 0 n (.inl ⟨rfl,yh⟩)⟩
   simp only[go_sem,seval];refine aD (λdp=>?_) (λdp=>?_)
   .simp only[go_sem,seval];refine bB (bA ht (m:=4) deT) hl (i:=i1) uWb ?_;rintro val i2 ⟨x,rfl,jr,lz⟩;simp only[go_sem,seval,hlt,aR,aW,aA (aC aU _)];exact⟨⟨i2,rfl⟩,leaf 1 x (.inr ⟨rfl,jr,omT⟩)⟩
   simp only[go_sem,seval];refine bB (bA ht (m:=7) deT) hl (i:=i1) uWb ?_;rintro val i2 ⟨x,rfl,jr,lz⟩;have wk:AR.wrap (2+x)=2+x:=wrap_i64 omT omT;simp only[go_sem,seval,hlt,aR,wk];have j8:=aSw (2+x);refine bJ (id:=0) (λj ρ1 H1 wr=>wr=[o]/\ρ1 8=vi j/\∃i' o2 w,∃kids:List Expr,H1=H.set o (.box v (aM l i'))++[.box 1 [vi 0,vi 0,.sl Pa []],.box 1 [vi (2+x),vi 0,w],o2]/\ew (H.length+2) 3 (kids.map aF) w o2/\kids.length=j/\∀a∈kids,Deep Po (d'+1) a) (arity (2+x)).toNat
    (λρ1 H1 wr=>wr=[o]/\∃i' o2 w,∃kids:List Expr,H1=H.set o (.box v (aM l i'))++[.box 1 [vi 0,vi 0,.sl Pa []],.box 1 [vi (2+x),vi 0,w],o2]/\ew (H.length+2) 3 (kids.map aF) w o2/\kids.length=(arity (2+x)).toNat/\∀a∈kids,Deep Po (d'+1) a)
    bIv rfl ⟨uWc,uWc,i2,.gone 0,.sl Pa [],[],uWc,.nil _,rfl,siT⟩ ?_ ?_
   .rintro j ρ1 H1 dc mo ⟨rfl,e8,i',o2,w,kids,rfl,hg,zp,hko⟩ hf;have e0:ρ1 0=.ptr o v 0:=by rw[hf 0 rfl];simp only[go_sem,seval]
    have e1:ρ1 1=vi ((d':Int)+1):=by rw[hf 1 rfl];simp only[go_sem,seval];rfl
    have e6:ρ1 6=vi (2+x):=by rw[hf 6 rfl];simp only[go_sem,seval]
    have e7:ρ1 7=.ptr (H.length+1) 1 0:=by rw[hf 7 rfl];simp only[go_sem,seval]
    simp only[go_sem,seval,e6,e8,har];refine aD (λD3=>?_) (λD3=>?_)
    .have cr:j<(arity (2+x)).toNat:=by simp at D3;omega
     have F3:AR.wrap ((d':Int)+1 - 1)=(d':Int):=by rw[wrap_i64 omT omT];omega
     have bl:(H.length+1==o)=false:=soT;simp only[go_sem,seval];refine aY (aq:=lZ) rfT rfT ?_;simp only[go_sem,seval,lZ,e0,e1,e7,F3];refine eB (ih d' rfl) hl (i:=i') uWb ?_;rintro val i3 ⟨e,rfl,he⟩;obtain⟨w',o',eu,db⟩:=hg.app (new:=[aF e]) (bytes:=40) siT (by rw[aCj,pA];rfl) (by rw[AF,zp];simp;omega);rw[show kids.map aF++[aF e]=(kids++[e]).map aF by simp]at eu;simp only[go_sem,seval,hlt,e8,aR,pA,aK (aV _),bR (aV _),db,eu.ak,eu.aj,eH,dG,bl,aL];rw[dW omT];refine⟨cr,rfl,i3,o',w',kids++[e],rfl,eu,by simp[zp], ?_⟩;exact pS hko he
    have cr:j=(arity (2+x)).toNat:=by simp at D3;omega
    subst cr;simp only[go_sem,seval];exact⟨i',o2,w,kids,rfl,hg,zp,hko⟩
   rintro ρ2 H2 en ⟨rfl,i',o2,w,kids,rfl,hg,zp,hko⟩ hf;have e4:ρ2 4=.ptr H.length 1 0:=by rw[hf 4 rfl];simp only[go_sem,seval]
   have e7:ρ2 7=.ptr (H.length+1) 1 0:=by rw[hf 7 rfl];simp only[go_sem,seval]
   obtain⟨ff,lf,o2'',D1,D4,Ym⟩:=hg.dw (aC aV _);simp only[go_sem,seval,e4,e7,hlt,hg.ak,D1,D4,Ym,aA (aC aV _),aA (aC aU _),aW];exact⟨⟨i',rfl⟩,.mk (2+x) 0 kids,by rw[aF,bD],.mk _ _ _ _ _ hko (.inr ⟨rfl,by rw[zp];have:=aQw (op:=2+x) omT omT;omega⟩)⟩
abbrev rL:=bTw 38 (bJ6 11)
abbrev kW:LN:=[1,3,6,8]
abbrev rM:=bTw 38 (bJ6 87)
abbrev kX:LN:=[1,3,6]
abbrev rN:=bTw 38 (bJ6 351)
abbrev kY:LN:=[1,7]
abbrev rO:=bTw 38 (bJ6 479)
abbrev kZ:LN:=[1,4,6]
abbrev rP:=bTw 38 (bJ6 1215)
abbrev lA:LN:=[1,4,7,9]
abbrev bKC:=bTw 38 (bJ6 3775)
abbrev lB:LN:=[]
def fD:=(.mk _:bb 38 (bIC [(11,.region Pa rL),(87,.region Pa rM),(351,.region Pa rN),(479,.region Pa rO),(1215,.region Pa rP),(3775,.region Pa bKC)])).x
def bKD:=(.mk _:bb 62 bTx).x
def aSx{A:af}(h:Has A 35 gE)(ht:fR A)(qt:∀d:Nat,d<=3->dI A 61 [vi d] (aFd Po (d+1))):dI A 35 [vi 3] (aFd Pa 4):=by
 refine h.gen (by simp[gE]) (λn=>bIv) ?_;intro l i o v H hl hlt ho;have h2:dI A 61 [vi 2] (aFd Po 3):=qt 2 deT;have h3:dI A 61 [vi 3] (aFd Po 4):=qt 3 deT;have gn:AR.wrap 2=2:=wrap_i64 deT deT;simp only[gE];simp only[go_sem,seval];refine bB (bA ht (m:=4) deT) hl (i:=i) uWd ?_;rintro val i1 ⟨x,rfl,jr,lz⟩;simp only[go_sem,seval,hlt,fN];refine aD (λhb=>?_) (λhb=>?_)
 .simp only[go_sem,seval,hlt,gn];refine bB h2 hl (i:=i1) uWb ?_;rintro val i2 ⟨a,rfl,ha⟩;simp only[go_sem,seval,hlt,aR,pA,bID (aV _)];refine aY (aq:=mA) rfT rfT ?_;simp only[go_sem,seval,mA];refine eB (bA ht (m:=2) deT) hl (i:=i2) uWb ?_;rintro val i3 ⟨y,rfl,oj,tc⟩;have Xz:AR.wrap (9+y)=9+y:=wrap_i64 omT omT;have pk:∀e:Expr,FW 3 (aF e)=aF e:=λe=>CH (by rw[pA];exact AQ _);have bl:(H.length+1==o)=false:=soT;simp only[go_sem,seval,hlt,aR,Xz,gn,pA,pk,aK (aV _),bR (aV _)];refine eB h2 hl (i:=i3) uWb ?_;rintro val i4 ⟨b,rfl,dp⟩;simp only[go_sem,seval,hlt,aR,pA,aK (aV _),bR (aV _),eH,dG,bl,aL,aW,dC (aV _),aA (aC aU _)];refine⟨⟨i4,rfl⟩,.mk (9+y) 0 [a,b],rfl,.mk _ _ _ _ _ ?_ (.inr ⟨rfl,.inr ⟨rfl,.inr ⟨rfl,omT,omT⟩⟩⟩)⟩;intro e he;simp only[BD,CC,or_false]at he;rcases he with rfl|rfl
  .exact ha
  exact dp
 simp only[go_sem,seval];refine bB h3 hl (i:=i1) uWb ?_;rintro val i2 ⟨a,rfl,ha⟩;have pk:FW 3 (aF a)=aF a:=CH (by rw[pA];exact AQ _);simp only[go_sem,seval,hlt,aR,pA,bID (aV _),pk,aS (aV _),aK (aV _),aW,dC (aV _),aA (aC aU _)];exact⟨⟨i2,rfl⟩,a,rfl,ha.top⟩
abbrev lC:=bTw 39 (bIF 39397679 [])
abbrev rS:LN:=[32,33,34,37,38,39,40,41,42,43,44,45,46,47,12,48,49,50,51,52,53,54,55,56,57,9,35,36,11]
abbrev lD:=bTw 39 (bIF 76079 [(601,lC)])
abbrev rT:LN:=[24,25,26,9,29,30,31,10,11,32,33,34,37,38,39,40,41,42,43,44,45,46,47,12,48,49,50,51,52,53,54,55,56,57,9,35,36,11,58,59,60,61,7,27,28,8]
abbrev rU:=bTw 39 (bIF 303 [(297,lD)])
def fE:=(.mk _:bb 39 (bIC [(303,rU)])).x
abbrev bGG(n:ct):Prop:=(-1<=n.step/\n.step<=48)/\(0<=n.length/\n.length<=4)/\(-1<=n.alter/\n.alter<=1)/\(0<=n.step∨n.alter=0)
def bGG.ok{n:ct}(h:bGG n):n.Ok:=by obtain⟨h1,h2,h3⟩:=h;constructor<;>(grind)
abbrev aZI(b:List ct):Prop:=1<=b.length/\b.length<=4/\∀n∈b,bGG n
abbrev aOw(h:List (List ct)):Prop:=1<=h.length/\h.length<=3/\∀b∈h,aZI b
abbrev bIl(m:List (List (List ct))):Prop:=1<=m.length/\m.length<=2/\(∀h∈m,aOw h)/\∃c:Nat,∀h∈m,h.length=c
abbrev aNq(v:AV):Prop:=∃m:List (List (List ct)),v=.agg [.sl Po (m.map bS)]/\bIl m
def ew.M9{id k:Nat}{rows:List LA}{v:AV}{o:ah}(h:ew id k rows v o)(bl:rows≠[])(hd:gG rows=Pa):∃l o',(∀H,H[id]? = N1 o->aA2 H v=N1 (.sl Po rows,l))/\(∀H,H[id]? = N1 o->Go.AM.dw H v=N1 (.sl Po rows,l))/\(∀H,H[id]? = N1 o->dL H l=H.set id o')/\(∀b wr,b<=id->bE b wr l=wr):=by
 obtain⟨ver,rfl,rfl⟩:=h.inv bl;obtain⟨f,l,o',h1,h2,h3⟩:=h.dw hd;cases h with
 |obj=>
  have key:∀H:LO,H[id]? = N1 (.vec ver k rows)->aA2 H (.sr id ver rows.length)=N1 (.sl Po rows,[id]):=by
   intro H ho;show (match H[id]? with
    |some (.vec v' _ bt)=>if v'=ver/\bt.length=rows.length/\bt.all (λr=>r.all AV.still)then N1 (AV.sl Po bt,[id])else N2
    |_=>N2)=_
   rw[ho];simp only[aT hd,and_self,Vu]
  refine⟨[id],.gone ver,key,key,λH ho=>?_,λb wr hb=>?_⟩
  .simp only[dL,ho];rfl
  unfold bE;rw[Vw omT];rfl
def aHk{α β:Type}{f:α->β}{l:List α}(h:1<=l.length):l.map f≠[]:=by
 intro hn
 simp_all
def aJI{A:af}(ht:fR A){H:LO}{Q:bf->bN->LO->LN->Prop}{tg}{l:List Int}(hl:jP l){o v:Nat}(hlt:o<H.length){i:Int}{o0 o1 o2 o3 o4 o5:ah}{c:Int}(jg:1<=c)(mj:c<=4){ρ:bN}(e0:ρ 0=.ptr o v 0)(e10:ρ 10=vi c)(e9:ρ 9=.sl Pa [])(e11:ρ 11=vi 0)(hQ:∀ρ' i' o2 o3 (r:List ct),(∀t,rS.contains t=Po->ρ' t=ρ t)->aZI r->ew (H.length+3) 3 (r.map bV) (ρ' 9) o3->Q (.exit 4) ρ' (H.set o (.box v (aM l i'))++[o0,o1,o2,o3,o4,o5]) [o]):wl A 69 ⟨H.length,[2,3,12,57,61,66]⟩ lC ρ (H.set o (.box v (aM l i))++[o0,o1,o2,o3,o4,o5]) [o] Q tg:=by
 refine bJ (λj ρ1 H1 wr=>wr=[o]/\ρ1 11=vi j/\∃i' o2 o3,∃r:List ct,H1=H.set o (.box v (aM l i'))++[o0,o1,o2,o3,o4,o5]/\ew (H.length+3) 3 (r.map bV) (ρ1 9) o3/\r.length=j/\∀a∈r,bGG a) c.toNat
  (λρ1 H1 wr=>wr=[o]/\∃i' o2 o3,∃r:List ct,H1=H.set o (.box v (aM l i'))++[o0,o1,o2,o3,o4,o5]/\ew (H.length+3) 3 (r.map bV) (ρ1 9) o3/\aZI r)
  bIv rfl ⟨rfl,e11,i,o2,o3,[],rfl,by rw[e9];exact .nil _,rfl,siT⟩ ?_ (by
   rintro ρ' H' ba ⟨rfl,i',o2,o3,r,rfl,hg,hr⟩ hf;exact hQ ρ' i' o2 o3 r hf hr hg)
 rintro j ρ1 H1 dc mo ⟨rfl,e11,i',o2,o3,r,rfl,hg,gu,il⟩ hf;have f0:ρ1 0=.ptr o v 0:=(hf 0 rfl).trans e0;have f10:ρ1 10=vi c:=(hf 10 rfl).trans e10;simp only[go_sem,seval,f10,e11];refine aD (λhb=>?_) (λhb=>?_)
 .have cr:j<c.toNat:=uWa
  simp only[go_sem,seval,f0];refine bB (bA ht (m:=21) deT) hl (i:=i') uWa ?_;rintro val i2 ⟨x,rfl,jr,lz⟩;have wk:AR.wrap (14+x)=14+x:=wrap_i64 omT omT;simp only[go_sem,seval,hlt,aR,wk];refine bB (bA ht (m:=5) deT) hl (i:=i2) uWa ?_;rintro val i3 ⟨y,rfl,oj,tc⟩;simp only[go_sem,seval,hlt,aR];refine bB (bA ht (m:=5) deT) hl (i:=i3) uWa ?_;rintro val i4 ⟨z,rfl,me,Wg⟩;obtain⟨n,hn,cx⟩:=aQk [0,0,0,-1,1] me Wg;simp only[DR,bF]at cx;have yh : -1<=n/\n<=1:=by
   have:∀n∈([0,0,0,-1,1]:List Int),-1<=n/\n<=1:=deT
   grind
  simp only[go_sem,seval,hlt,aR,me,cx];refine bB (bA ht (m:=6) deT) hl (i:=i4) uWa ?_;rintro val i5 ⟨w,rfl,od,dy⟩;simp only[go_sem,seval,hlt,aR];refine aD (λdp=>?_) (λdp=>?_)
  .obtain⟨v',o',eu,db⟩:=hg.app (new:=[[vi (-1),vi y,vi 0]]) (bytes:=24) siT rfT uWa;rw[show r.map bV++[[vi (-1),vi y,vi 0]]=(r++[ct.mk (-1) y 0]).map bV by simp[bV]]at eu;simp only[go_sem,seval,db,e11];rw[dW omT]
   grind
  obtain⟨v',o',eu,db⟩:=hg.app (new:=[[vi (14+x),vi y,vi n]]) (bytes:=24) siT rfT uWa;rw[show r.map bV++[[vi (14+x),vi y,vi n]]=(r++[ct.mk (14+x) y n]).map bV by simp[bV]]at eu;simp only[go_sem,seval,db,e11];rw[dW omT];refine⟨cr,rfl,i5,_,o',r++[ct.mk (14+x) y n],rfl,eu,uWV, ?_⟩
  grind
 have cr:j=c.toNat:=uWa
 subst cr;simp only[go_sem,seval]
 grind
def aLi{A:af}(ht:fR A){H:LO}{Q:bf->bN->LO->LN->Prop}{tg}{l:List Int}(hl:jP l){o v:Nat}(hlt:o<H.length){i:Int}{o0 o1 o2 o3 o4 o5:ah}{c:Int}(jg:1<=c)(mj:c<=3){ρ:bN}(e0:ρ 0=.ptr o v 0)(e5:ρ 5=vi c)(e7:ρ 7=.sl Pa [])(e8:ρ 8=vi 0)(hQ:∀ρ' i' o2 o3 o4 (r:List (List ct)),(∀t,rT.contains t=Po->ρ' t=ρ t)->aOw r/\r.length=c.toNat->ew (H.length+4) 1 (r.map gH) (ρ' 7) o4->Q (.exit 2) ρ' (H.set o (.box v (aM l i'))++[o0,o1,o2,o3,o4,o5]) [o]):wl A 69 ⟨H.length,[2,3,12,57,61,66]⟩ lD ρ (H.set o (.box v (aM l i))++[o0,o1,o2,o3,o4,o5]) [o] Q tg:=by
 refine bJ (λj ρ1 H1 wr=>wr=[o]/\ρ1 8=vi j/\∃i' o2 o3 o4,∃r:List (List ct),H1=H.set o (.box v (aM l i'))++[o0,o1,o2,o3,o4,o5]/\ew (H.length+4) 1 (r.map gH) (ρ1 7) o4/\r.length=j/\∀a∈r,aZI a) c.toNat
  (λρ1 H1 wr=>wr=[o]/\∃i' o2 o3 o4,∃r:List (List ct),H1=H.set o (.box v (aM l i'))++[o0,o1,o2,o3,o4,o5]/\ew (H.length+4) 1 (r.map gH) (ρ1 7) o4/\aOw r/\r.length=c.toNat)
  bIv rfl ⟨rfl,e8,i,o2,o3,o4,[],rfl,by rw[e7];exact .nil _,rfl,siT⟩ ?_ (by
   rintro ρ' H' ba ⟨rfl,i',o2,o3,o4,r,rfl,hg,hr⟩ hf;exact hQ ρ' i' o2 o3 o4 r hf hr hg)
 rintro j ρ1 H1 dc mo ⟨rfl,e8,i',o2,o3,o4,r,rfl,hg,gu,il⟩ hf;have f0:ρ1 0=.ptr o v 0:=(hf 0 rfl).trans e0;have f5:ρ1 5=vi c:=(hf 5 rfl).trans e5;simp only[go_sem,seval,f5,e8];refine aD (λhb=>?_) (λhb=>?_)
 .have cr:j<c.toNat:=uWa
  simp only[go_sem,seval,f0];refine bB (bA ht (m:=4) deT) hl (i:=i') uWa ?_;rintro val i2 ⟨x,rfl,jr,lz⟩;have wk:AR.wrap (1+x)=1+x:=wrap_i64 omT omT;simp only[go_sem,seval,hlt,aR,wk];refine aJI ht hl hlt (c:=1+x) omT omT (by simp only[go_sem,seval,f0]) uWc uWc uWc ?_;intro ρ2 i4 o2' o3' b cq dp qu;have g7:ρ2 7=ρ1 7:=by rw[cq 7 rfl];simp only[go_sem,seval]
  have g8:ρ2 8=vi j:=by rw[cq 8 rfl];simp only[go_sem,seval,e8]
  obtain⟨lf,o3'',h1,h2,D4,Ym⟩:=qu.M9 (aHk dp.1) (aC aD9 _);obtain⟨v',o',eu,db⟩:=hg.app (new:=[[.sl Po (b.map bV)]]) (bytes:=24) siT rfT uWa;rw[show r.map gH++[[.sl Po (b.map bV)]]=(r++[b]).map gH by simp[gH]]at eu;simp only[go_sem,seval,g7,g8,h2,D4,Ym,db];rw[dW omT];refine⟨cr,rfl,i4,o2',o3'',o',r++[b],rfl,eu,uWV, ?_⟩;exact pS il dp
 have cr:j=c.toNat:=uWa
 subst cr;simp only[go_sem,seval]
 grind
def aOx{A:af}(h:Has A 39 fE)(ht:fR A):dI A 39 [] aNq:=by
 refine h.gen (by simp[fE]) (λn=>bIv) ?_;intro l i o v H hl hlt ho;simp only[fE];simp only[go_sem,seval];refine bB (bA ht (m:=2) deT) hl (i:=i) uWa ?_;rintro val i1 ⟨x,rfl,jr,lz⟩;have wk:AR.wrap (1+x)=1+x:=wrap_i64 omT omT;simp only[go_sem,seval,hlt,fN,wk];refine bB (bA ht (m:=3) deT) hl (i:=i1) uWa ?_;rintro val i2 ⟨y,rfl,oj,tc⟩;have Xz:AR.wrap (1+y)=1+y:=wrap_i64 omT omT;simp only[go_sem,seval,hlt,aR,Xz];refine bJ (id:=0) (λj ρ1 H1 wr=>wr=[o]/\ρ1 6=vi j/\∃i' o2 o3 o4 o5 w,∃rows:List (List (List ct)),H1=H.set o (.box v (aM l i'))++[.box 1 [.sl Pa []],.box 1 [w],o2,o3,o4,o5]/\ew (H.length+5) 1 (rows.map bS) w o5/\rows.length=j/\∀a∈rows,aOw a/\a.length=(1+y).toNat) (1+x).toNat
  (λρ1 H1 wr=>wr=[o]/\∃i' o2 o3 o4 o5 w,∃rows:List (List (List ct)),H1=H.set o (.box v (aM l i'))++[.box 1 [.sl Pa []],.box 1 [w],o2,o3,o4,o5]/\ew (H.length+5) 1 (rows.map bS) w o5/\rows.length=(1+x).toNat/\∀a∈rows,aOw a/\a.length=(1+y).toNat)
  bIv rfl ⟨uWa,uWc,i2,.gone 0,.gone 0,.gone 0,.gone 0,.sl Pa [],[],rfl,.nil _,rfl,siT⟩ ?_ ?_
 .rintro j ρ1 H1 dc mo ⟨rfl,e6,i',o2,o3,o4,o5,w,rows,rfl,hg,gu,il⟩ hf;have e0:ρ1 0=.ptr o v 0:=by rw[hf 0 rfl];simp only[go_sem,seval]
  have e3:ρ1 3=.ptr (H.length+1) 1 0:=by rw[hf 3 rfl];simp only[go_sem,seval]
  have e4:ρ1 4=vi (1+x):=by rw[hf 4 rfl];simp only[go_sem,seval]
  have e5:ρ1 5=vi (1+y):=by rw[hf 5 rfl];simp only[go_sem,seval]
  simp only[go_sem,seval,e4,e6];refine aD (λhb=>?_) (λhb=>?_)
  .have cr:j<(1+x).toNat:=by simp at hb;omega
   simp only[go_sem,seval];refine aLi ht hl hlt (c:=1+y) omT omT (by simp only[go_sem,seval,e0]) (by simp only[go_sem,seval,e5]) uWc uWc ?_;intro ρ2 i4 o2' o3' o4' r cq hr qu;have g3:ρ2 3=.ptr (H.length+1) 1 0:=by rw[cq 3 rfl];simp only[go_sem,seval,e3]
   have g6:ρ2 6=vi j:=by rw[cq 6 rfl];simp only[go_sem,seval,e6]
   obtain⟨lf,o4'',h1,h2,D4,Ym⟩:=qu.M9 (aHk hr.1.1) (aC aFA _);obtain⟨v',o',eu,db⟩:=hg.app (new:=[[.sl Po (r.map gH)]]) (bytes:=24) siT rfT (by rw[AF,gu];simp;omega);rw[show rows.map bS++[[.sl Po (r.map gH)]]=(rows++[r]).map bS by simp[bS]]at eu;simp only[go_sem,seval,g3,g6,h2,D4,Ym,db,eu.aj,eu.ak];rw[dW omT];refine⟨cr,rfl,i4,o2',o3',o4'',o',v',rows++[r],rfl,eu,uWV, ?_⟩;exact pS il hr
  have cr:j=(1+x).toNat:=by simp at hb;omega
  subst cr;simp only[go_sem,seval];exact⟨i',o2,o3,o4,o5,w,rows,rfl,hg,gu,il⟩
 rintro ρ2 H2 en ⟨rfl,i',o2,o3,o4,o5,w,rows,rfl,hg,gu,il⟩ hf;have e2:ρ2 2=.ptr H.length 1 0:=by rw[hf 2 rfl];simp only[go_sem,seval]
 have e3:ρ2 3=.ptr (H.length+1) 1 0:=by rw[hf 3 rfl];simp only[go_sem,seval]
 obtain⟨ver,e4,rfl⟩:=hg.inv (aHk omT);simp only[go_sem,seval,e2,e3,e4,hlt,aT (aC bLc _),aA (aC bLc _),aA (aC aU _),aW];exact⟨⟨i',rfl⟩,rows,rfl,omT,omT,λr hr=>(il r hr).1,_,λr hr=>(il r hr).2⟩
def lK:=(.mk _:bb 18 (bIF 27 [])).x
def fT:=(.mk _:bb 18 (bIC [(27,lK)])).x
abbrev P4(x y w h:Int):List (Int×Int):=[(x,y),(x+w,y),(x+w,y+h),(x,y+h)]
abbrev bHQ(n m:Nat)(f:Int->Int->Shape):List Shape:=(GZ n).flatMap λ(i:Nat)=>(GZ m).map λ(j:Nat)=>f i j
def bEo{n m:Nat}{f:Int->Int->Shape}{x y:Int}(hx:0<=x)(lz:x<n)(hy:0<=y)(tc:y<m):f x y∈bHQ n m f:=by obtain⟨i,rfl⟩:=DN hx;obtain⟨j,rfl⟩:=DN hy;exact IM.2 ⟨i,HE.2 (show i<n by omega),DB.2 ⟨j,HE.2 (show j<m by omega),rfl⟩⟩
def bE7:List Shape:=bHQ 4 9 (λx y=>⟨2,P4 2 2 (24+x) (30+y)⟩)++(bHQ 5 8 (λx y=>⟨0,[(10+x,12+y)]⟩)++(bHQ 4 6 (λx y=>⟨1,[(36+x,4),(36+x+8,10+y),(36+x,30)]⟩) ++
 (bHQ 4 12 (λx y=>⟨2,P4 (36+x) 5 10 (12+y)⟩)++bHQ 20 1 (λx y=>⟨1,[(36,44),(36+x+3,44)]⟩))))
def bIm(a:Shape):Bool:=decide (0<=a.kind)&&decide (a.kind<=2)&&decide (1<=a.points.length)&&decide (a.points.length<=4)&&a.points.all λp=>decide (0<=p.1)&&decide (p.1<=60)&&decide (0<=p.2)&&decide (p.2<=50)
def bGH:bE7.all bIm=true:=bIv
def bEp{a:Shape}(h:a∈bE7):(0<=a.kind/\a.kind<=2)/\(1<=a.points.length/\a.points.length<=4)/\∀p∈a.points,(0<=p.1/\p.1<=60)/\0<=p.2/\p.2<=50:=by
 have:=AO.1 bGH a h;simp only[bIm,AI,decide_eq_true_eq,AO]at this
 grind
def bHr{a:Shape}(h:a∈bE7):a.Ok:=by obtain⟨h1,h2,h3⟩:=bEp h;exact⟨uWa,omT,λp hp=>by grind⟩
def bHs(s:List Shape):Prop:=(∀a∈s,a∈bE7)/\∃a r,s=a::r/\a.kind=2
def bHs.app{s:List Shape}(h:bHs s){a:Shape}(ha:a∈bE7):bHs (s++[a]):=by obtain⟨h1,b,r,rfl,h2⟩:=h;exact⟨λx hx=>by grind,b,r++[a],rfl,h2⟩
abbrev bGI(s:List Shape):Prop:=(2<=s.length/\s.length<=4)/\bHs s
abbrev aNr(v:AV):Prop:=∃s:List Shape,v=.agg [vi 60,vi 50,.sl Po (s.map aH)]/\bGI s
def cV(k:Int):Block:=⟨k,[],.mk 0 0 [],0,[],[],0,0,[],[],[]⟩
def aCH:eA 0:=uWa
def aQx:(Expr.mk 0 0 []).Ok:=.mk _ _ _ aCH aCH siT siT
def oJ{k:Int}(hk:eA k):(cV k).Ok:=by constructor<;>first | exact hk | exact aCH | exact aQx | (simp[cV,gY,cP];done)
inductive kf:Block->Prop where
 |text {r:List mr}:bGD r->kf { cV 0 with runs:=r }
 |form {e:Expr}:Deep Pa 4 e->kf { cV 1 with expr:=e }
 |col {op:Int} {a:List Int}:bIk op a->kf { cV 2 with dn:=op,eg:=a }
 |cd {g:List (List Str)}:bHW g->kf { cV 3 with cd:=g }
 |fig {s:List Shape}:bGI s->kf { cV 4 with w:=60,h:=50,aw:=s }
 |mel {m:List (List (List ct))}:bIl m->kf { cV 5 with bo:=m }
 |lst {l:List Str}:bHc l->kf { cV 6 with lines:=l }
def bGJ{s:Str}(h:s∈mq):s.length<=60:=(by decide:∀s∈mq,s.length<=60) s h
def kf.ok{b:Block}(hb:kf b):b.Ok:=by
 have z8:∀k:Int,0<=k->k<=60->eA k:=λk h0 h1=>by grind
 have hk:∀k:Int,0<=k->k<=6->eA k:=λk h0 h1=>z8 k h0 omT;cases hb with
 |text h=>exact { oJ (hk 0 deT deT)with vw:=HX h.2.1 deT,runs:=λa ha=>(h.2.2.1 a ha).1 }
 |form h=>exact { oJ (hk 1 deT deT)with expr:=h.ok.1,size:=HX h.ok.2 deT }
 |col h=>exact { oJ (hk 2 deT deT)with dn:=z8 _ (Jo deT h.1.1) (Jo h.1.2 deT),tj:=HX h.2.1.2 deT,eg:=λn hn=>by grind }
 |cd h=>exact { oJ (hk 3 deT deT)with uu:=HX h.2.1 deT,cd:=λx hx=>⟨uWa,λs hs=>by grind [bDR]⟩ }
 |fig h=>exact { oJ (hk 4 deT deT)with w:=z8 60 deT deT,h:=z8 50 deT deT,fg:=HX h.1.2 deT,aw:=λa ha=>bHr (h.2.1 a ha) }
 |mel h=>exact { oJ (hk 5 deT deT)with uv:=HX h.2.1 deT,bo:=λx hx=>⟨by have:=(h.2.2.1 x hx).2.1;omega,λy hy=>⟨by have:=((h.2.2.1 x hx).2.2 y hy).2.1;omega,λn hn=>(((h.2.2.1 x hx).2.2 y hy).2.2 n hn).ok⟩⟩ }
 |lst h=>exact { oJ (hk 6 deT deT)with vz:=HX h.2.1 deT,lines:=λs hs=>by have:=bGJ (h.2.2 s hs);grind }
abbrev aMn(k:Int)(v:AV):Prop:=∃b:Block,v=.agg (aE b)/\b.kind=k/\kf b
def aQy{A:af}(h:Has A 18 fT)(hr:dI A 34 [] aQn)(he:dI A 35 [vi 3] (aFd Pa 4))(hs:dI A 36 [] aVw)(hg:dI A 37 [] aTk)(hf:dI A 38 [] aNr)(hm:dI A 39 [] aNq)(hn:dI A 40 [] aQo){k:Int}(Rj:0<=k)(Ch:k<7):dI A 18 [vi k] (aMn k):=by
 refine h.gen (by simp[fT]) (λn=>bIv) ?_;intro l i o v H hl hlt ho;have ru:k=0∨k=1∨k=2∨k=3∨k=4∨k=5∨k=6:=omT;simp only[fT,lK];rcases ru with rfl|rfl|rfl|rfl|rfl|rfl|rfl
 .simp only[go_sem,seval];refine bB hr hl (i:=i) uWd ?_;rintro val i1 ⟨r,rfl,hM⟩;simp only[go_sem,seval,hlt,fN,aW,aA (aC cA _),aA (aC aU _)];exact⟨⟨i1,rfl⟩,{ cV 0 with runs:=r },uWG,rfl,.text hM⟩
 .simp only[go_sem,seval];refine bB he hl (i:=i) uWd ?_;rintro val i1 ⟨⟨op,n,kids⟩,rfl,hd⟩;simp only[aF,bD];simp only[go_sem,seval,hlt,fN,aW,aA (aC aV _),aA (aC aU _)];exact⟨⟨i1,rfl⟩,{ cV 1 with expr:=.mk op n kids },by simp[aE,cV,aF,bD],rfl,.form hd⟩
 .simp only[go_sem,seval];refine bB hs hl (i:=i) uWd ?_;rintro val i1 ⟨op,a,rfl,hM⟩;simp only[go_sem,seval,hlt,fN,aW,aA (aC aU _)];exact⟨⟨i1,rfl⟩,{ cV 2 with dn:=op,eg:=a },uWG,rfl,.col hM⟩
 .simp only[go_sem,seval];refine bB hg hl (i:=i) uWd ?_;rintro val i1 ⟨r,rfl,hM⟩;simp only[go_sem,seval,hlt,fN,aW,aA (aC cU _),aA (aC aU _)];exact⟨⟨i1,rfl⟩,{ cV 3 with cd:=r },uWG,rfl,.cd hM⟩
 .simp only[go_sem,seval];refine bB hf hl (i:=i) uWd ?_;rintro val i1 ⟨s,rfl,hM⟩;simp only[go_sem,seval,hlt,fN,aW,aA (aC bW _),aA (aC aU _)];exact⟨⟨i1,rfl⟩,{ cV 4 with w:=60,h:=50,aw:=s },uWG,rfl,.fig hM⟩
 .simp only[go_sem,seval];refine bB hm hl (i:=i) uWd ?_;rintro val i1 ⟨m,rfl,hM⟩;simp only[go_sem,seval,hlt,fN,aW,aA (aC bLc _),aA (aC aU _)];exact⟨⟨i1,rfl⟩,{ cV 5 with bo:=m },uWG,rfl,.mel hM⟩
 simp only[go_sem,seval];refine bB hn hl (i:=i) uWd ?_;rintro val i1 ⟨r,rfl,hM⟩;simp only[go_sem,seval,hlt,fN,aW,aA (aC bO _),aA (aC aU _)];exact⟨⟨i1,rfl⟩,{ cV 6 with lines:=r },uWG,rfl,.lst hM⟩
noncomputable def aNn(A:af)(f:Nat)(w hh:Int)(l:List Shape):Int:=match aG A f [.agg (aDn w hh l)] []with
 |some (.int .i64 e,_,_)=>e
 |_=>0
noncomputable def shV(A:af)(f:Nat)(s:Shape):Bool:=match aG A f [.agg (aH s)] []with
 |some (.bool b,_,_)=>b
 |_=>Po
def bF2{A A1:af}{f:Nat}(h:∀s:Shape,s.points.length<=1000->0<=s.kind/\s.kind<=2->∃r:Bool,aG A1 f [.agg (aH s)] []=N1 (.bool r,[],[]))(hp:A.bq f=N1 (aFb A1 f)):bEZ A f (shV A1 f):=by
 intro s hs hk H;obtain⟨r,hr⟩:=h s hs hk;have h1:shV A1 f s=r:=by unfold shV;rw[hr]
 rw[h1];refine dT ?_;rw[hp];show aFb A1 _ _ H=_;refine aQs ?_ rfl hr H;have h2:dJ 0 (aH s)=true:=dC (bW s);simp[dJ,AV.under,h2]
structure Rp(A:af):Prop extends PlaneFns A where
 shaped:Has A 201 aAz
 simple:Has A 205 tA
def bF3{A A1:af}(F:Rp A1)(h4:A.bq 201=N1 (aFb A1 201))(h6:A.bq 205=N1 (aFb A1 205)):bEZ A 201 (shV A1 201)/\bEZ A 205 (shV A1 205):=⟨bF2 (λs hs hk=>aQ4 F.toPlaneFns F.shaped s hs hk []) h4,bF2 (λs hs _=>aQ3 F.toPlaneFns F.simple s hs []) h6⟩
def bIf{A1:af}{q4 q6:Shape->Bool}(F:ij A1 q4 q6)(h:∀a∈bE7,q4 a=Pa/\q6 a=Pa)(s:List Shape)(hs:bGI s):aNn A1 139 60 50 s=0:=by
 obtain⟨e,he,h0⟩:=aJz F 60 50 s deT deT (by have:=hs.1;omega) (λa ha=>by
  obtain⟨a1,a2,a3⟩:=bEp (hs.2.1 a ha);simp only[vQ,aKG,AI,AO,eG];exact⟨a1,omT,λp hp=>by have:=a3 p hp;omega⟩) []
 unfold aNn;rw[he];exact h0 λa ha=>by
  obtain⟨a1,a2,a3⟩:=bEp (hs.2.1 a ha);exact⟨h a (hs.2.1 a ha),omT,a3⟩
def aOt{A A1:af}{q4 q6:Shape->Bool}(F:ij A1 q4 q6)(hp:A.bq 139=N1 (aFb A1 139)):aCD A (aNn A1 139):=by
 intro w hh l hw hh2 hl hs H;obtain⟨e,he,_⟩:=aJz F w hh l hw hh2 hl hs [];have h1:aNn A1 139 w hh l=e:=by unfold aNn;rw[he]
 rw[h1];refine dT ?_;rw[hp];show aFb A1 _ _ H=_;refine aQs ?_ rfl he H;have hd:gG (l.map aH)=true:=aC bW _;have h2:eR 0 (l.map aH)=true:=aA hd;simp[dJ,AV.under,h2]
noncomputable def bGO(f:Nat):Option aIP:=match f with
 |201=>N1 (aFb AK 201)
 |205=>N1 (aFb AK 205)
 |f=>aMX f
noncomputable def AMs:af:=⟨fnK,bGO⟩
def bHY:Good Go.Proofs.Tryz.prog aBx AMs:=aLW rfl bIv rfl λf p h=>by
 have h:bGO f=N1 p:=h;unfold bGO at h;split at h
 .cases h;exact .inr (aSs aRS aBi ⟨Go.Proofs.Tryz.f201,Go.Proofs.Tryz.func201,bIv,bIv⟩)
 .cases h;exact .inr (aSs aRS aBi ⟨Go.Proofs.Tryz.f205,Go.Proofs.Tryz.func205,bIv,bIv⟩)
 exact .inr (aT6.bq f p h)
noncomputable def bFK(f:Nat):Option aIP:=match f with
 |139=>N1 (aFb AMs 139)
 |f=>bGO f
noncomputable def AM2:af:=⟨fnK,bFK⟩
def bHe:Good Go.Proofs.Tryz.prog aBx AM2:=aLW rfl bIv rfl λf p h=>by
 have h:bFK f=N1 p:=h;unfold bFK at h;split at h
 .cases h;exact .inr (aSs bHY aBi ⟨Go.Proofs.Tryz.f139,Go.Proofs.Tryz.func139,bIv,bIv⟩)
 exact .inr (bHY.bq f p h)
noncomputable def aVq(f:Nat):Option aIP:=match f with
 |96=>N1 (aFb AM2 96)
 |f=>bFK f
noncomputable def AM0:af:=⟨fnK,aVq⟩
def bBh:Good Go.Proofs.Tryz.prog aBx AM0:=aLW rfl bIv rfl λf p h=>by
 have h:aVq f=N1 p:=h;unfold aVq at h;split at h
 .cases h;exact .inr (aSs bHe aBi ⟨Go.Proofs.Tryz.f96,Go.Proofs.Tryz.func96,bIv,bIv⟩)
 exact .inr (bHe.bq f p h)
def pieces(m:UInt8)(s:Str):List Str:=if h:s=[] then [] else (m::s.take 59)::pieces 43 (s.drop 59)
termination_by s.length
decreasing_by
 have:0<s.length:=List.length_pos_iff.2 h;simp;omega
def bFG{n:Int}(h:eA n):(dec n.toNat).length<=20:=aGn 19 n.toNat (by have:=h.2;show _<100000000000000000000;omega)
def bF4:∀l:List Int,(∀n∈l,eA n)->(aUN l).length<=21*l.length
 | [],_=>FF _
 |n::l,h=>by
  have h1:=bFG (h n siT);have h2:=bF4 l (λm hm=>h m (BZ _ hm));simp only[aUN,AW,BA];omega
def bHt(e:Expr)(h:e.Ok):(wX e).length<=24*gY e:=by
 induction h with
 |mk op n kids ho hn hl hk ih=>
  match kids,ih with
  | [],_=>
   have h1:=bFG hn;simp only[wX,gY,cP];split
   .omega
   simp
  | [a],ih=>have h1:=ih a siT;have h2:=uE (e:=a) (L:=3) (s:=wX a);have h3:=uE (e:=a) (L:=1) (s:=wX a);simp only[wX,gY,cP];split<;>simp<;>omega
  | [a,b],ih=>have h1:=ih a siT;have h2:=ih b siT;have h3:=uE (e:=a) (L:=4) (s:=wX a);have h4:=uE (e:=b) (L:=3) (s:=wX b);have h5:=uE (e:=a) (L:=(max 1 (lev op))) (s:=wX a);have h6:=uE (e:=b) (L:=(lev op+1)) (s:=wX b);simp only[wX,gY,cP];split<;>simp<;>omega
  |_::_::_::_,_=>simp[wX]
def bF5:∀(l:List mr)(p:Int),(∀r∈l,r.Ok)->(aHA p l).length<=2002*l.length
 | [],_,_=>FF _
 |r::l,p,h=>by
  have h1:=bF5 l r.gg (λq hq=>h q (BZ _ hq));have h2:=yS r.text;have h3:r.text.length<=1000:=(h r siT).text;simp only[aHA,BA,AW];split<;>simp<;>omega
def bOj{g:List (List Str)}{n m:Nat}(hn:g.length<=n)(hg:∀r∈g,r.length<=m/\∀s∈r,lI s):(aRX g).length<=n*(m*2001+1):=by
 have h1:∀r∈g,(sb [124] (r.map (esc mG))).length<=m*2001:=λr hr=>by
  obtain⟨h2,h3⟩:=hg r hr;have:=aF7 (sep:=[124]) (M:=2000) (l:=r.map (esc mG)) (λs hs=>by
   obtain⟨t,ht,rfl⟩:=DB.1 hs;have:=aSf t;have h4:t.length<=1000:=h3 t ht;omega)
  rw[AF]at this;exact HX this (BO _ h2)
 have:=aF7 (sep:=[59]) (M:=m*2001) (l:=g.map λr=>sb [124] (r.map (esc mG))) (λs hs=>by
  obtain⟨r,hr,rfl⟩:=DB.1 hs;exact h1 r hr)
 rw[AF]at this;exact HX this (BO _ hn)
def bOM{b:Block}(h:b.Ok){M:Nat}(hM:100000<=M)(hG:(aRX b.cd).length<=M):(wB b).length<=M:=by
 unfold wB;split
 .have:=bF5 b.runs 0 h.runs;have:=h.vw;omega
 split
 .have:=bHt b.expr h.expr;have:=h.size;omega
 split
 .have:=bF4 b.eg h.eg;have:=h.tj;simp only[aWn,AW];omega
 split
 .exact hG
 split
 .have h1:∀r∈b.bo,(sb [124] (r.map aO9)).length<=2000:=λr hr=>by
   obtain⟨h2,h3⟩:=h.bo r hr;have:=aF7 (sep:=[124]) (M:=80) (l:=r.map aO9) (λs hs=>by
    obtain⟨t,ht,rfl⟩:=DB.1 hs;exact aSe (h3 t ht).1)
   rw[AF]at this;have e:[(124:UInt8)].length=1:=rfl;rw[e]at this;omega
  have:=aF7 (sep:=[47]) (M:=2000) (l:=b.bo.map λh=>sb [124] (h.map aO9)) (λs hs=>by
   obtain⟨r,hr,rfl⟩:=DB.1 hs;exact h1 r hr)
  rw[AF]at this;have e:[(47:UInt8)].length=1:=rfl;rw[e]at this;have:=h.uv;unfold aJm;omega
 have:=aF7 (sep:=[126,124]) (M:=2000) (l:=b.lines.map (esc mL)) (λs hs=>by
  obtain⟨t,ht,rfl⟩:=DB.1 hs;have:=yS t;have h4:t.length<=1000:=h.lines t ht;omega)
 rw[AF]at this;have e:[(126:UInt8),124].length=2:=rfl;rw[e]at this;have:=h.vz;unfold aPJ;omega
def bHX{b:Block}(h:b.Ok):(wB b).length<=1000000:=bOM h deT (HX (bOj h.uu h.cd) deT)
abbrev bHd(A:af)(P:Block->Fact->Bool):Prop:=∀(b:Block)(f:Fact),b.Ok->(∀s∈b.aw,vQ s=Pa)->1<=b.w/\b.w<=1000->1<=b.h/\b.h<=1000->b.aw.length<=8->0<=f.a->0<=f.b->f.a<b.aw.length->f.b<b.aw.length->2<=f.kind->f.kind<=4 ->
  ∃e:Int,∀H:LO,aG A 96 [.agg (aDn b.w b.h b.aw),.agg (aI f)] H=N1 (.tup [.bool (P b f),vi e],H,[])
noncomputable def bGK(A:af)(n:Nat)(b:Block)(f:Fact):Bool:=match aG A n [.agg (aDn b.w b.h b.aw),.agg (aI f)] []with
 |some (.tup [.bool r,_],_,_)=>r
 |_=>Po
def bGd{A A1:af}{E:Int->Int->List Shape->Int}(F:Yl A1)(hE:aCD A1 E)(hp:A.bq 96=N1 (aFb A1 96)):bHd A (bGK A1 96):=by
 intro b f hb hl hw hh h8 a0 b0 a1 b1 k2 k4;obtain⟨r,e,he⟩:=aVp F hE b f [] hb hl hw hh h8 a0 b0 a1 b1 k2 k4;have h1:bGK A1 96 b f=r:=by unfold bGK;rw[he]
 refine⟨e,λH=>?_⟩;rw[h1];refine dT ?_;rw[hp];show aFb A1 _ _ H=_;refine aQs ?_ rfl he H;have hd:gG (b.aw.map aH)=true:=aC bW _
 grind [eR,aH,aA,aI,dJ,AV.under]
def Val(P:Block->Fact->Bool)(b:Block)(f:Fact)(s:Str):Prop:=
 if f.kind=0 then s=wB b else if f.kind=1 then ∃r,b.cd[f.a.toNat]? = N1 r/\r[f.b.toNat]? = N1 s
 else if f.kind=5 then ∃r l,b.bo[f.b.toNat]? = N1 r/\r[f.a.toNat]? = N1 l/\s=aO9 l else if f.kind=6 then b.lines[f.a.toNat]? = N1 s else s=if P b f then [121,101,115] else [110,111]
def Val.inj{P:Block->Fact->Bool}{b:Block}{f:Fact}{s t:Str}(h:Val P b f s)(h2:Val P b f t):s=t:=by
 unfold Val at h h2
 grind
structure Qb(A:af)(E:Int->Int->List Shape->Int)(P:Block->Fact->Bool)(tB tP:Nat):Prop where
 hold:Wa A tB
 text:og A tB tP
 check:Has A 91 tE
 fig:aCD A E
 value:Has A 56 aAX
 ph:bHd A P
section
variable {A:af}{tB tP:Nat}{E:Int->Int->List Shape->Int}{P:Block->Fact->Bool}
def bEL(F:Qb A E P tB tP)(x:Item)(hx:x.Ok)(f:Fact)(hf:Told E x f)(H:LO):∃s:Str,(s.length<=1000000/\∀b,x.blocks[f.block.toNat]? = N1 b->Val P b f s)/\aG A 56 [.agg (aO x),.agg (aI f)] H=N1 (.tup [.str s,vi 0],H,[]):=by
 obtain⟨t0,t1,t2⟩:=hf;have hlt:f.block.toNat<x.blocks.length:=omT;have Gt:=AP hlt;rw[Gt];have td:=hx.blocks _ (AS hlt);obtain⟨hB,hC,hm⟩:=t2 _ Gt;have cj:(x.blocks.map aE)[f.block.toNat]? = N1 (aE x.blocks[f.block.toNat]):=uWa
 clear Gt;generalize x.blocks[f.block.toNat]=b at *;have hlt0:decide (f.block<0)=false:=soT;have nj:decide (f.block ≥ (x.blocks.length:Int))=false:=soT;have hchk:∀H,aG A 91 [.agg (aE b)] H=N1 (vi 0,H,[]):=λH=>by
  rw[aMj F.fig F.hold.valid F.text.form F.check b td H,hC]
 have qv:=bG b;have iz:(aE b).all AV.ak=true:=bID qv;have hK:xU b=true:=yU hB;obtain⟨k,hk,hh,⟨pa,pb⟩,hp,hfe⟩:=aCE hm;have dx:0<=b.kind:=by
  unfold xU at hK
  grind
 have M6:=λH=>aJF F.hold.possible b.kind f.kind H;have hpo:aHb b.kind f.kind=true:=by rw[hfe];exact aVn hk hh dx
 rw[hpo]at M6;have C1:=λH=>aOr F.hold b td f H;have mw:((jY b).any λy=>eqv { f with block:=0 } y)=true:=by refine List.any_eq_true.2 ⟨{ f with block:=0 }, ?_,by simp[eqv]⟩;unfold jY;rw[Vx hB];exact aOs hm
 rw[mw]at C1;have S5:FW 1 (aE b)=[vi b.kind]:=by obtain⟨op,n,ks,ig⟩:=eW b;rw[ig];rfl
 obtain⟨r,H',ba,e1,rfl,rfl,s,G6,rfl⟩:=F.value.bp (args:=[.agg (aO x),.agg (aI f)]) (H:=H) (K:=λr H' wr=>wr=[]/\H'=H/\∃s:Str,(s.length<=1000000/\Val P b f s)/\r=.tup [.str s,vi 0]) (by
  simp only[aAX];simp only[aI]at C1 ⊢;simp only[go_sem,↓aB,seval,aO,hlt0,nj,cj,hchk,t0,cF,bT.take,bT.ga,aS qv,iz];simp only[aAT];simp only[go_sem,↓aB,seval,M6,C1,S5,cF,bT.take,bT.ga,aS qv];simp only[aAW];have htk7:FW 1 (KW 7 (aE b))=[.sl Po (b.cd.map bY)]:=by obtain⟨op,n,ks,ig⟩:=eW b;rw[ig];rfl
  have htk11:FW 1 (KW 11 (aE b))=[.sl Po (b.bo.map bS)]:=by obtain⟨op,n,ks,ig⟩:=eW b;rw[ig];rfl
  have htk12:FW 1 (KW 12 (aE b))=[.sl Po (b.lines.map aN)]:=by obtain⟨op,n,ks,ig⟩:=eW b;rw[ig];rfl
  have htk8:FW 3 (KW 8 (aE b))=[vi b.w,vi b.h,.sl Po (b.aw.map aH)]:=by obtain⟨op,n,ks,ig⟩:=eW b;rw[ig];rfl
  have hfa:f.a=(pa:Int):=by rw[hfe]
  have hfb:f.b=(pb:Int):=by rw[hfe]
  have qo:f.kind=(k:Int):=by rw[hfe]
  have hkd:=aVo hk hh;have pn:∀n:Nat,(0:Int)<=(n:Int):=λn=>by omega
  have ta:f.a.toNat=pa:=omT;have tb:f.b.toNat=pb:=omT;by_cases c0:k=0
  .subst c0;have h4:b.kind≠4:=uWa
   have hv:b.kind=1->aBV b.expr=0:=λh=>by unfold nU at hC;grind
   have Mm:=λH=>aVl F.text b td hB hv h4 hchk H;have qo:f.kind=0:=qo;simp only[go_sem,↓aB,seval,qo,Mm,cF,bT.take,bT.ga,aS qv];exact⟨_,⟨bHX td,by unfold Val;grind⟩,rfl⟩
  have pt:b.kind=aBp k:=uWa
  by_cases c1:k=1
  .subst c1;have qo:f.kind=1:=qo;have hp:(pa,pb)∈qA b.cd.length (aFt b):=hp;obtain⟨g1,g2⟩:=aDs.1 hp;have pt:b.kind=3:=pt;unfold xU at hK;rw[Vw omT,Vw omT,Vw omT,Vx pt]at hK;simp only[AI,AO]at hK;have cn:=hK.2 _ (AS g1);have hTx:=(td.cd _ (AS g1)).2;have hR:=AP g1;have fh:=mgE bY g1;generalize b.cd[pa]=r at *;have gu:pb<r.length:=by
    unfold aUQ at cn;simp only[AI]at cn;have:=cn.1;simp at this;have hcn:aFt b=(b.cd.headD []).length:=rfl
    grind
   have aIc:=mgE aN gu;simp only[go_sem,↓aB,seval,qo];refine aY (aq:=aAU) rfT rfT ?_;simp only[go_sem,↓aB,seval,aAU,hfa,hfb,htk7,fh,aIc,bY,aN,cF];exact⟨_,⟨HX (hTx _ (AS gu)) deT,by unfold Val;grind⟩,rfl⟩
  by_cases c5:k=5
  .subst c5;have qo:f.kind=5:=qo;have hp:(pa,pb)∈qA (aFu b) b.bo.length:=hp;obtain⟨g1,g2⟩:=aDs.1 hp;have pt:b.kind=5:=pt;unfold xU at hK;rw[Vw omT,Vw omT,Vw omT,Vw omT,Vw omT,Vx pt]at hK;unfold aUO at hK;simp only[AI,AO]at hK;have cn:=hK.2 _ (AS g2);have il:=td.bo _ (AS g2);have hR:=AP g2;have fh:=mgE bS g2;generalize b.bo[pb]=r at *;unfold aKL at cn;simp only[AI,AO]at cn;have gu:pa<r.length:=by
    have hcn:aFu b=(b.bo.headD []).length:=rfl
    grind
   have sk:=cn.2.2 _ (AS gu);have Bs:=il.2 _ (AS gu);have aIc:=mgE gH gu;have hR2:=AP gu;generalize r[pa]=br at *;unfold aT9 at sk;simp only[AI,AO]at sk;have hwb:=λH=>aDB F.text.wrt.toMelFns br Bs.1 sk.2 H;simp only[go_sem,↓aB,seval,qo];refine aY (aq:=aAV) rfT rfT ?_;simp only[go_sem,↓aB,seval,aAV,hfa,hfb,htk11,fh,aIc,bS,gH,hwb,cF];exact⟨_,⟨HX (aSe Bs.1) deT,by unfold Val;grind⟩,rfl⟩
  by_cases c6:k=6
  .subst c6;have qo:f.kind=6:=qo;have hp:(pa,pb)∈qA b.lines.length 1:=hp;obtain⟨g1,g2⟩:=aDs.1 hp;have fh:=mgE aN g1;simp only[go_sem,↓aB,seval,qo,hfa,htk12,fh,aN,cF];exact⟨_,⟨HX (td.lines _ (AS g1)) deT,by unfold Val;grind⟩,rfl⟩
  have hkr:k=2∨k=3∨k=4:=omT;have hk4:b.kind=4:=by rcases hkr with rfl|rfl|rfl<;>exact pt
  have hp':pa<b.aw.length/\pb<b.aw.length:=by rcases hkr with rfl|rfl|rfl<;>exact aVm (p:=(pa,pb)) hp
  unfold xU at hK;rw[Vw omT,Vw omT,Vw omT,Vw omT,Vx hk4]at hK;simp only[AI,eG,AO]at hK;have n0:(f.kind==0)=false:=uWa
  have n1:(f.kind==1)=false:=uWa
  have n5:(f.kind==5)=false:=uWa
  have n6:(f.kind==6)=false:=uWa
  obtain⟨e,hph⟩:=F.ph b f td hK.2.2 hK.1.1 hK.1.2 omT omT omT omT omT omT omT;simp only[aI]at hph;have V:Val P b f (if P b f then [121,101,115] else [110,111]):=by unfold Val;rw[Vw omT,Vw omT,Vw omT,Vw omT]
  cases hP:P b f with
  |true=>
   rw[hP]at hph V;simp only[go_sem,↓aB,seval,n0,n1,n5,n6,htk8,hph,cF]
   grind
  |false=>
   rw[hP]at hph V;simp only[go_sem,↓aB,seval,n0,n1,n5,n6,htk8,hph,cF]
   grind)
 grind
end
abbrev uV:=bTw 19 (bJ6 181)
abbrev mB:LN:=[2,4,12,17]
abbrev uW:=bTw 19 (bJ6 75)
abbrev mC:LN:=[6,10,12]
abbrev uX:=bTw 19 (bJ6 151)
abbrev mD:LN:=[8,12]
def gF:=(.mk _:bb 19 (bIC [(181,.region Pa uV),(75,.region Pa uW),(151,.region Pa uX)])).x
def bFo(b:Block)(at':Int)(f:Fact):Prop:=f.block=at'/\(
 f.kind=0/\b.kind≠4/\f.a=0/\f.b=0 ∨
 f.kind=1/\b.kind=3/\(0<=f.a/\f.a<b.cd.length)/\0<=f.b/\f.b<(b.cd.headD []).length ∨
 f.kind=2/\b.kind=4/\(0<f.a/\f.a<b.aw.length)/\f.b=0 ∨
 (f.kind=3∨f.kind=4)/\b.kind=4/\(0<=f.a/\f.a<b.aw.length)/\(0<=f.b/\f.b<b.aw.length)/\f.a≠f.b ∨
 f.kind=5/\b.kind=5/\(0<=f.a/\f.a<(b.bo.headD []).length)/\0<=f.b/\f.b<b.bo.length ∨
 f.kind=6/\b.kind=6/\(0<=f.a/\f.a<b.lines.length)/\f.b=0)
abbrev aLj(b:Block)(at':Int)(v:AV):Prop:=∃f:Fact,v=.agg (aI f)/\bFo b at' f
structure Sj(b:Block):Prop where
 lens:b.aw.length<=4/\b.cd.length<=3/\b.bo.length<=2/\b.lines.length<=3
 ye:b.kind=4->2<=b.aw.length
 cd:b.kind=3->1<=b.cd.length/\∀r∈b.cd,aIJ r
 L7:b.kind=5->1<=b.bo.length/\∀h∈b.bo,aOw h
 mq:b.kind=6->1<=b.lines.length
 kind:0<=b.kind/\b.kind<=6
def kf.lens{b:Block}(hb:kf b):Sj b:=by
 cases hb with
 |text h=>exact⟨⟨FF _,FF _,FF _,FF _⟩,(λh=>Vv h (by show ¬0=4;decide)),(λh=>Vv h (by show ¬0=3;decide)),(λh=>Vv h (by show ¬0=5;decide)),(λh=>Vv h (by show ¬0=6;decide)),by show 0<=0/\0<=6;decide⟩
 |form h=>exact⟨⟨FF _,FF _,FF _,FF _⟩,(λh=>Vv h (by show ¬1=4;decide)),(λh=>Vv h (by show ¬1=3;decide)),(λh=>Vv h (by show ¬1=5;decide)),(λh=>Vv h (by show ¬1=6;decide)),by show 0<=1/\1<=6;decide⟩
 |col h=>exact⟨⟨FF _,FF _,FF _,FF _⟩,(λh=>Vv h (by show ¬2=4;decide)),(λh=>Vv h (by show ¬2=3;decide)),(λh=>Vv h (by show ¬2=5;decide)),(λh=>Vv h (by show ¬2=6;decide)),by show 0<=2/\2<=6;decide⟩
 |cd h=>exact⟨⟨FF _,h.2.1,FF _,FF _⟩,(λh=>Vv h (by show ¬3=4;decide)),λ_=>⟨h.1,h.2.2.1⟩,(λh=>Vv h (by show ¬3=5;decide)),(λh=>Vv h (by show ¬3=6;decide)),by show 0<=3/\3<=6;decide⟩
 |fig h=>exact⟨⟨h.1.2,FF _,FF _,FF _⟩,λ_=>h.1.1,(λh=>Vv h (by show ¬4=3;decide)),(λh=>Vv h (by show ¬4=5;decide)),(λh=>Vv h (by show ¬4=6;decide)),by show 0<=4/\4<=6;decide⟩
 |mel h=>exact⟨⟨FF _,FF _,h.2.1,FF _⟩,(λh=>Vv h (by show ¬5=4;decide)),(λh=>Vv h (by show ¬5=3;decide)),λ_=>⟨h.1,h.2.2.1⟩,(λh=>Vv h (by show ¬5=6;decide)),by show 0<=5/\5<=6;decide⟩
 |lst h=>exact⟨⟨FF _,FF _,FF _,h.2.1⟩,(λh=>Vv h (by show ¬6=4;decide)),(λh=>Vv h (by show ¬6=3;decide)),(λh=>Vv h (by show ¬6=5;decide)),λ_=>h.1,by show 0<=6/\6<=6;decide⟩
abbrev aBt(A:af)(f:Nat)(args:LA)(P:AV->Prop):Prop:=∀(l:List Int)(i:Int)(o v:Nat)(H:LO),jP l->H[o]? = N1 (.box v (aM l i)) ->
 ∃val i' wr,aG A f (.ptr o v 0::args) H=N1 (val,H.set o (.box v (aM l i')),wr)/\(wr=[]∨wr=[o])/\P val
def Has.gen'{A:af}{name:Nat}{fn:bw}(h:Has A name fn){args:LA}{P:AV->Prop}(hN:args.length+1<=fn.ntmps)(hok:∀n,dK fn.ntmps ⟨n,fn.sites⟩ fn.body=Pa)(hw:∀(l:List Int) i (o v:Nat) (H:LO),jP l->o<H.length->H[o]? = N1 (.box v (aM l i)) ->wc A fn.ntmps ⟨H.length,fn.sites⟩ fn.body (pO (.ptr o v 0::args)) (H++AX fn.sites.length (.gone 0)) [] (aRz H.length fn.results (λval H' wr=>(∃i',H'=H.set o (.box v (aM l i')))/\(wr=[]∨wr=[o])/\P val) ⟨⟩) ⟨⟩):aBt A name args P:=by
 intro l i o v H hl ho;obtain⟨val,H',wr,h1,⟨i',rfl⟩,gn,h2⟩:=h.bp (hw l i o v H hl (getElem?_lt ho) ho) (CI (by simpa using hN)) (hok _)
 grind
def aSz{A:af}(h:Has A 19 gF)(ht:fR A){b:Block}(hb:kf b){at':Int}(ha0:0<=at')(M1:at'<=1000):aBt A 19 [.agg (aE b),vi at'] (aLj b at'):=by
 refine h.gen' (by simp[gF]) (λn=>bIv) ?_;intro l i o v H hl hlt ho;have hb:=hb.lens;obtain⟨qe,iq,yz,hl4⟩:=hb.lens;have fin:∀k x y:Int,bFo b at' ⟨k,at',x,y⟩->aLj b at' (.agg [vi k,vi at',vi x,vi y]):=λk x y h=>⟨⟨k,at',x,y⟩,rfl,h⟩;have whole:b.kind≠4->aLj b at' (.agg [vi 0,vi at',vi 0,vi 0]):=λh=>fin 0 0 0 ⟨rfl,.inl ⟨rfl,h,rfl,rfl⟩⟩;simp only[gF];cases nz:b.expr with|mk op n kids=>
 by_cases k6:b.kind=6
 .have hn:=hb.mq k6;simp only[go_sem,seval,aE,nz,aF,bD,k6];refine bB (bA ht (m:=3) deT) hl (i:=i) uWd ?_;rintro val i1 ⟨x,rfl,jr,lz⟩;simp only[go_sem,seval,hlt,fN];refine aD (λfo=>?_) (λfo=>?_)
  .simp only[go_sem,seval,hlt];refine bB (bA ht (m:=b.lines.length) omT) hl (i:=i1) uWb ?_;rintro val i2 ⟨y,rfl,oj,tc⟩;simp only[go_sem,seval,hlt,aR,aW,aA (aC aU _)];exact⟨⟨i2,rfl⟩,.inr trivial,fin 6 y 0 ⟨rfl,.inr (.inr (.inr (.inr (.inr ⟨rfl,k6,⟨oj,tc⟩,rfl⟩))))⟩⟩
  simp only[go_sem,seval,hlt,aW,aA (aC aU _)];exact⟨⟨i1,rfl⟩,.inr trivial,whole omT⟩
 by_cases k5:b.kind=5
 .have hn:=hb.L7 k5;cases tz:b.bo with
  |nil=>rw[tz]at hn;simp at hn
  |cons h0 hr=>
  have ft:=hn.2 h0 (by rw[tz];simp);rw[tz]at yz;simp only[AW]at yz;simp only[go_sem,seval,aE,nz,aF,bD,k5,tz];refine bB (bA ht (m:=3) deT) hl (i:=i) uWd ?_;rintro val i1 ⟨x,rfl,jr,lz⟩;simp only[go_sem,seval,hlt,fN];refine aD (λfo=>?_) (λfo=>?_)
  .simp only[go_sem,seval];refine aY (aq:=mD) rfT rfT ?_;simp only[go_sem,seval,mD,hlt,bS];refine eB (bA ht (m:=h0.length) (by have:=ft.1;omega)) hl (i:=i1) uWb ?_;rintro val i2 ⟨y,rfl,oj,tc⟩;simp only[go_sem,seval,hlt,aR];refine eB (bA ht (m:=((hr.length+1:Nat):Int)) omT) hl (i:=i2) uWb ?_;rintro val i3 ⟨z,rfl,me,Wg⟩;have bl:(H.length==o)=false:=soT;simp only[go_sem,seval,hlt,aR,aW,aA (aC aU _),eH,dG,bl,aL];have:=ft.2.1;exact⟨⟨i3,rfl⟩,.inr trivial,fin 5 y z ⟨rfl,.inr (.inr (.inr (.inr (.inl ⟨rfl,k5,by rw[tz];exact⟨oj,tc⟩,me,by rw[tz];exact Wg⟩))))⟩⟩
  simp only[go_sem,seval,hlt,aW,aA (aC aU _)];exact⟨⟨i1,rfl⟩,.inr trivial,whole omT⟩
 by_cases k3:b.kind=3
 .have hn:=hb.cd k3;cases tz:b.cd with
  |nil=>rw[tz]at hn;simp at hn
  |cons h0 hr=>
  have ft:=hn.2 h0 (by rw[tz];simp);rw[tz]at iq;simp only[AW]at iq;simp only[go_sem,seval,aE,nz,aF,bD,k3,tz];refine bB (bA ht (m:=3) deT) hl (i:=i) uWd ?_;rintro val i1 ⟨x,rfl,jr,lz⟩;simp only[go_sem,seval,hlt,fN];refine aD (λfo=>?_) (λfo=>?_)
  .simp only[go_sem,seval];refine aY (aq:=mC) rfT rfT ?_;simp only[go_sem,seval,mC,hlt,bY];refine eB (bA ht (m:=((hr.length+1:Nat):Int)) omT) hl (i:=i1) uWb ?_;rintro val i2 ⟨y,rfl,oj,tc⟩;simp only[go_sem,seval,hlt,aR];refine eB (bA ht (m:=h0.length) (by have:=ft.1;omega)) hl (i:=i2) uWb ?_;rintro val i3 ⟨z,rfl,me,Wg⟩;have bl:(H.length==o)=false:=soT;simp only[go_sem,seval,hlt,aR,aW,aA (aC aU _),eH,dG,bl,aL];have:=ft.2.1;exact⟨⟨i3,rfl⟩,.inr trivial,fin 1 y z ⟨rfl,.inr (.inl ⟨rfl,k3,by rw[tz];exact⟨oj,tc⟩,me,by rw[tz];exact Wg⟩)⟩⟩
  simp only[go_sem,seval,hlt,aW,aA (aC aU _)];exact⟨⟨i1,rfl⟩,.inr trivial,whole omT⟩
 by_cases k4:b.kind=4
 .have hn:=hb.ye k4;have od:AR.wrap ((b.aw.length:Int) - 1)=(b.aw.length:Int) - 1:=wrap_i64 omT omT;simp only[go_sem,seval,aE,nz,aF,bD,k4];refine bB (bA ht (m:=b.aw.length) omT) hl (i:=i) uWd ?_;rintro val i1 ⟨x,rfl,jr,lz⟩;simp only[go_sem,seval,hlt,fN];refine aY (aq:=mB) (H0:=_) (by simp only[go_sem,seval,cS];rfl) rfT ?_;simp only[go_sem,seval,mB];refine eB (bA ht (m:=2) deT) hl (i:=i1) uWb ?_;rintro val i2 ⟨y,rfl,oj,tc⟩;obtain⟨kd,hkd,cx⟩:=aQk [3,4] oj tc;simp only[DR,bF]at cx;have hkb:kd=3∨kd=4:=by
   simp only[BD,CC,or_false]at hkd;omega
  have wk:AR.wrap (x+1)=x+1:=wrap_i64 omT omT;have bl:(H.length==o)=false:=soT;have hne2:(H.length+2==o)=false:=soT;simp only[go_sem,seval,hlt,aR,oj,cx,wk,od];refine eB (bA ht (m:=(b.aw.length:Int) - 1) omT) hl (i:=i2) uWb ?_;rintro val i3 ⟨z,rfl,me,Wg⟩;have hwz:AR.wrap (x+1+z)=x+1+z:=wrap_i64 omT omT;have Ni:(b.aw.length:Int)≠0:=omT;have hr0:=HV (b.aw.length:Int) (a:=x+1+z) omT;have gj:=GX (x+1+z) (b:=(b.aw.length:Int)) omT;simp only[go_sem,seval,hlt,aR,hwz,tS Ni,eH,dG,hne2,aL];refine bB (bA ht (m:=3) deT) hl (i:=i3) uWb ?_;rintro val i4 ⟨w,rfl,od,dy⟩;have hne3:x≠(x+1+z).tmod b.aw.length:=by
   by_cases hc:x+1+z<b.aw.length
   .rw[Int.tmod_eq_of_lt omT hc];omega
   have:x+1+z=(x+1+z - b.aw.length)+b.aw.length:=omT;rw[this,Ai omT,Int.add_emod_right,Int.emod_eq_of_lt omT omT];omega
  have last:=fin kd x ((x+1+z).tmod b.aw.length) ⟨rfl,.inr (.inr (.inr (.inl ⟨hkb,k4,⟨jr,lz⟩,⟨hr0,gj⟩,hne3⟩)))⟩;simp only[go_sem,seval,hlt,aR];refine aD (λfo=>?_) (λfo=>?_)
  .have dp:(w==0)=true:=by simpa using fo
   simp only[go_sem,seval,dp];refine aD (λD3=>?_) (λD3=>?_)
   .simp only[go_sem,seval,hlt,aW,aA (aC aU _)];exact⟨⟨i4,rfl⟩,.inr trivial,fin 2 x 0 ⟨rfl,.inr (.inr (.inl ⟨rfl,k4,⟨by simp at D3;omega,lz⟩,rfl⟩))⟩⟩
   simp only[go_sem,seval,hlt,aW,aA (aC aU _)];exact⟨⟨i4,rfl⟩,.inr trivial,last⟩
  have dp:(w==0)=false:=by
   cases hq:(w==0)with
   |false=>rfl
   |true=>rw[hq]at fo;cases fo
  simp only[go_sem,seval,dp,hlt,aW,aA (aC aU _)];exact⟨⟨i4,rfl⟩,.inr trivial,last⟩
 simp only[go_sem,seval,aE,nz,aF,bD,aF9 k3,aF9 k4,aF9 k5,aF9 k6];exact⟨⟨i,(aJo ho).symm⟩,.inl trivial,whole omT⟩
def bFo.small{b:Block}(hb:Sj b){at':Int}{f:Fact}(h:bFo b at' f):f.block=at'/\(0<=f.kind/\f.kind<=6)/\(0<=f.a/\f.a<=4)/\0<=f.b/\f.b<=4:=by
 have g:b.kind=3->(b.cd.headD []).length<=3:=λk=>by
  cases hg:b.cd with
  |nil=>decide
  |cons r _=>exact ((hb.cd k).2 r (by rw[hg];simp)).2.1
 have m:b.kind=5->(b.bo.headD []).length<=3:=λk=>by
  cases hg:b.bo with
  |nil=>decide
  |cons r _=>exact ((hb.L7 k).2 r (by rw[hg];simp)).2.1
 obtain⟨l1,l2,l3,l4⟩:=hb.lens;obtain⟨h0,h⟩:=h
 grind
abbrev rV:=bTw 5 (bIF 82991407 [])
abbrev aCI:LN:=[63,64,65,68,69,70,71,13,72,73,74,75,76,77,78,79,80,81,82,66,67,12]
abbrev rW:=bTw 5 (bIF 153903 [(633,rV)])
abbrev aCJ:LN:=[45,46,47,50,51,52,53,10,54,55,56,57,58,59,60,61,62,11,12,63,64,65,68,69,70,71,13,72,73,74,75,76,77,78,79,80,81,82,66,67,12,48,49,9]
abbrev aCK:=bTw 5 (bJ6 4815151)
abbrev rX:LN:=[1,6]
abbrev rY:=bTw 5 (bIF 620847 [(9,.region Pa aCK)])
abbrev aCL:LN:=[85,86,87,90,91,92,93,94,95,96,97,98,99,88,89,15]
abbrev rZ:=bTw 5 (bIF 303 [(601,rW),(2425,rY)])
abbrev aCM:LN:=[32,33,34,37,38,39,40,41,7,42,43,44,8,9,45,46,47,50,51,52,53,10,54,55,56,57,58,59,60,61,62,11,12,63,64,65,68,69,70,71,13,72,73,74,75,76,77,78,79,80,81,82,66,67,12,48,49,9,83,84,14,15,85,86,87,90,91,92,93,94,95,96,97,98,99,88,89,15,100,101,102,103,104,105,35,36,6]
def pM:=(.mk _:bb 5 (bIC [(303,rZ)])).x
def FIn(bs:List Block)(f:Fact):Prop:=0<=f.block/\∃b,bs[f.block.toNat]? = N1 b/\bFo b f.block f
def FIn.app{bs l:List Block}{f:Fact}(h:FIn bs f):FIn (bs++l) f:=by obtain⟨h0,b,h1,h2⟩:=h;exact⟨h0,b,uWa,h2⟩
abbrev FsP(P:Fact->Prop)(fs:List Fact):Prop:=(∀f∈fs,P f)/\fs.Nodup
def FsP.app{P:Fact->Prop}{fs:List Fact}{f:Fact}(h:FsP P fs)(hf:P f)(hn:(fs.any λa=>eqv a f)=Po):FsP P (fs++[f]):=by refine⟨pS h.1 hf,NO.2 ⟨h.2,siT,λa ha b hb=>?_⟩⟩;rw[CG.1 hb];rintro rfl;have:=List.any_eq_false.1 hn a ha;simp[eqv]at this
abbrev bF7:List Str:=[[102,105,114,115,116],[113,50],[108,97,115,116]]
abbrev bEq:List Str:=[[84,101,115,116],[89,101,97,114,32,55,44,32,112,97,114,116,32,50],[65]]
structure w9(x:Item):Prop where
 name:x.name∈bF7
 zq:1<=x.blocks.length/\x.blocks.length<=3
 block:∀b∈x.blocks,kf b
 B1:x.facts.length<=6
 fact:∀f∈x.facts,FIn x.blocks f
 tj:x.ask.length<=2
 ask:∀q∈x.ask,jt x.facts.length q
 nodup:x.facts.Nodup
structure Wi(x:jm):Prop where
 title:x.title∈bEq
 G8:1<=x.items.length/\x.items.length<=3
 item:∀i∈x.items,w9 i
 names:x.items.map Item.name=bF7.take x.items.length
def w9.ok{x:Item}(h:w9 x):x.Ok:=by obtain⟨h1,h2,h3,h4,h5,h6,h7,_⟩:=h;refine⟨(by decide:∀s∈bF7,s.length<=1000) _ h1,omT,λb hb=>(h3 b hb).ok,omT,λf hf=>?_,omT,λq hq=>(h7 q hq).ok omT⟩;obtain⟨a0,b,a1,a2⟩:=h5 f hf;have a3:=a2.small (h3 b (AN a1)).lens;constructor<;>(grind)
def Wi.ok{x:jm}(h:Wi x):x.Ok:=⟨(by decide:∀s∈bEq,s.length<=1000) _ h.title,by have:=h.G8;omega,λi hi=>(h.item i hi).ok⟩
abbrev aYl(v:AV):Prop:=∃x:jm,v=dE x/\Wi x
def aQz{A:af}{f:Nat}{args:LA}{P:AV->Prop}(hs:aBt A f args P){l:List Int}{i:Int}{o v:Nat}{H H2:LO}(hl:jP l)(ho:H[o]? = N1 (.box v (aM l i))){site:Option Nat}{q:Bool}{k:AV×LO×LN->Prop}{tg}(hk:∀val i' wr,(wr=[]∨wr=[o])->P val->bnd (dY site q H2 (N1 (val,H.set o (.box v (aM l i')),wr))) k):aCi (dY site q H2 (aG A f (.ptr o v 0::args) H)) k tg:=by obtain⟨val,i',wr,h1,h2,h3⟩:=hs l i o v H hl ho;rw[h1];exact hk val i' wr h2 h3
def aEB(b:Block):FW 13 (aE b)=aE b:=CH (by rw[cF];grind)
def aNt(f:Fact):(aI f).length=4:=rfl
def aLm(f:Fact):FW 4 (aI f)=aI f:=CH (AQ _)
def aQA{A:af}(hh:∀(l:List Fact),l.length<=1000->∀(f:Fact)(H:LO),aG A 20 [.sl Po (l.map aI),.agg (aI f)] H=N1 (.bool (l.any λa=>eqv a f),H,[])){id:Nat}{rows:List LA}{fs:List Fact}(hr:rows=fs.map aI)(hfs:fs.length<=1000){w:AV}{o:ah}(hg:ew id 4 rows w o)(f:Fact)(H:LO)(site:Option Nat)(ho:H[id]? = N1 o):cX (aG A) H site (.fn 20 [] []) [w,.agg (aI f)]=N1 (.bool (fs.any λa=>eqv a f),H,[]):=by
 have hb:=hh fs hfs f;cases hg with
 |nil=>have dp:=hb H;rw[<- hr]at dp;simp only[go_sem,seval,aS (eL _),aK (eL _),dp]
 |obj ver=>
  have bd:(rows.all λr=>r.all AV.still)=true:=by rw[hr];exact aT (aC eL _)
  rw[<- hr]at hb;simp only[go_sem,seval,aS (eL _),aK (eL _),ho,bd,hb]
abbrev aNu:LN:=[2,22,4,7,10,58,13,81,98,104]
def aVy{A:af}(hf:∀{b:Block},kf b->∀{a:Int},0<=a->a<=1000->aBt A 19 [.agg (aE b),vi a] (aLj b a))(hh:∀(l:List Fact),l.length<=1000->∀(f:Fact)(H:LO),aG A 20 [.sl Po (l.map aI),.agg (aI f)] H=N1 (.bool (l.any λa=>eqv a f),H,[])){H:LO}{Q:bf->bN->LO->LN->Prop}{tg}{l:List Int}(hl:jP l){i:Int}{o0 o2 o5 o6 o7 o8 o9:ah}{v7 v10:Nat}{c0 c1 c2 c3:AV}{b:Block}(hb:kf b){k:Nat}(hk:k<=10){n:Int}(gq:0<=n)(hn:n<=2){fs:List Fact}(I9:fs.length<=10){P:Fact->Prop}(hP:∀f,bFo b k f->P f)(k9:FsP P fs)(hg:ew (H.length+7) 4 (fs.map aI) c2 o7){ρ:bN}(e3:ρ 3=.ptr (H.length+1) 1 0)(e7:ρ 7=.ptr (H.length+3) v7 0)(e9:ρ 9=vi k)(e10:ρ 10=.ptr (H.length+4) v10 0)(e11:ρ 11=vi n)(e12:ρ 12=vi 0)(hQ:∀ρ' i' o6 o7 c2 (fs':List Fact),(∀t,aCI.contains t=Po->ρ' t=ρ t)->fs'.length<=fs.length+2->FsP P fs'->ew (H.length+7) 4 (fs'.map aI) c2 o7 ->Q (.exit 4) ρ' (H++[o0,.box 1 (aM l i'),o2,.box v7 [c0,c1,c2,c3],.box v10 (aE b),o5,o6,o7,o8,o9]) []):wl A 107 ⟨H.length,aNu⟩ rV ρ (H++[o0,.box 1 (aM l i),o2,.box v7 [c0,c1,c2,c3],.box v10 (aE b),o5,o6,o7,o8,o9]) [] Q tg:=by
 refine bJ (λj ρ1 H1 wr=>wr=[]/\ρ1 12=vi j/\∃i' o6 o7 c2,∃fs':List Fact,H1=H++[o0,.box 1 (aM l i'),o2,.box v7 [c0,c1,c2,c3],.box v10 (aE b),o5,o6,o7,o8,o9]/\ew (H.length+7) 4 (fs'.map aI) c2 o7/\fs'.length<=fs.length+j/\FsP P fs') n.toNat
  (λρ1 H1 wr=>wr=[]/\∃i' o6 o7 c2,∃fs':List Fact,H1=H++[o0,.box 1 (aM l i'),o2,.box v7 [c0,c1,c2,c3],.box v10 (aE b),o5,o6,o7,o8,o9]/\ew (H.length+7) 4 (fs'.map aI) c2 o7/\fs'.length<=fs.length+2/\FsP P fs')
  bIv rfl ⟨rfl,e12,i,o6,o7,c2,fs,rfl,hg,AQ _,k9⟩ ?_ (by
   rintro ρ' H' ba ⟨rfl,i',o6,o7,c2,fs',rfl,hg,h1,h2⟩ hf;exact hQ ρ' i' o6 o7 c2 fs' hf h1 h2 hg)
 rintro j ρ1 H1 dc mo ⟨rfl,e12,i',o6,o7,c2,fs',rfl,hg,gu,il⟩ Pw;have f3:ρ1 3=.ptr (H.length+1) 1 0:=(Pw 3 rfl).trans e3;have f7:ρ1 7=.ptr (H.length+3) v7 0:=(Pw 7 rfl).trans e7;have f9:ρ1 9=vi k:=(Pw 9 rfl).trans e9;have f10:ρ1 10=.ptr (H.length+4) v10 0:=(Pw 10 rfl).trans e10;have f11:ρ1 11=vi n:=(Pw 11 rfl).trans e11;simp only[go_sem,↓aB,seval,f11,e12];refine aD (λfo=>?_) (λfo=>?_)
 .have cr:j<n.toNat:=by simp at fo;omega
  simp only[go_sem,↓aB,seval,f3,f9,f10,cF,aEB,aS (bG _),aK (bG _)];refine aQz (hf hb (a:=(k:Int)) omT omT) hl (i:=i') uWc ?_;rintro val i3 dc ma ⟨f,rfl,hfok⟩;have hw:bE H.length [] dc=[]:=by rcases ma with rfl|rfl<;>simp only[go_sem,seval]
  have az:=aQA hh rfl omT hg f;simp only[go_sem,↓aB,seval,az,hw,f7,aNt,aLm,bID (eL _)];refine aD (λdp=>?_) (λdp=>?_)
  .obtain⟨v',o',eu,db⟩:=hg.app (new:=[aI f]) (bytes:=32) siT rfT (by simp only[AF,AW,AZ];omega);rw[show fs'.map aI++[aI f]=(fs'++[f]).map aI by simp]at eu;simp only[go_sem,↓aB,seval,f7,e12,aNt,aLm,aS (eL _),aK (eL _),bR (eL _),db,eu.ak,eu.aj];rw[dW omT];exact⟨cr,rfl,i3,_,o',v',fs'++[f],rfl,eu,soT,il.app (hP f hfok) (by simpa using dp)⟩
  simp only[go_sem,↓aB,seval,e12];rw[dW omT];exact⟨cr,rfl,i3,_,o7,c2,fs',rfl,hg,omT,il⟩
 have cr:j=n.toNat:=by simp at fo;omega
 subst cr;simp only[go_sem,seval];exact⟨i',o6,o7,c2,fs',rfl,hg,omT,il⟩
def aSA{A:af}(ht:fR A)(dx:∀{k:Int},0<=k->k<7->dI A 18 [vi k] (aMn k))(hf:∀{b:Block},kf b->∀{a:Int},0<=a->a<=1000->aBt A 19 [.agg (aE b),vi a] (aLj b a))(hh:∀(l:List Fact),l.length<=1000->∀(f:Fact)(H:LO),aG A 20 [.sl Po (l.map aI),.agg (aI f)] H=N1 (.bool (l.any λa=>eqv a f),H,[])){H:LO}{Q:bf->bN->LO->LN->Prop}{tg}{l:List Int}(hl:jP l){i:Int}{o0 o2 o4 o5 o6 o7 o8 o9:ah}{v7:Nat}{c0 c3:AV}{n:Int}(gq:1<=n)(hn:n<=3){ρ:bN}(e3:ρ 3=.ptr (H.length+1) 1 0)(e7:ρ 7=.ptr (H.length+3) v7 0)(e8:ρ 8=vi n)(e9:ρ 9=vi 0)(hQ:∀ρ' i' o4 o5 o6 o7 c1 c2 (bs:List Block) (fs:List Fact),(∀t,aCJ.contains t=Po->ρ' t=ρ t)->1<=bs.length/\bs.length<=3->(∀b∈bs,kf b)->fs.length<=6->FsP (FIn bs) fs ->ew (H.length+5) 13 (bs.map aE) c1 o5->ew (H.length+7) 4 (fs.map aI) c2 o7 ->Q (.exit 2) ρ' (H++[o0,.box 1 (aM l i'),o2,.box v7 [c0,c1,c2,c3],o4,o5,o6,o7,o8,o9]) []):wl A 107 ⟨H.length,aNu⟩ rW ρ (H++[o0,.box 1 (aM l i),o2,.box v7 [c0,.sl Pa [],.sl Pa [],c3],o4,o5,o6,o7,o8,o9]) [] Q tg:=by
 refine bJ (λj ρ1 H1 wr=>wr=[]/\ρ1 9=vi j/\∃i' o4 o5 o6 o7 c1 c2,∃bs:List Block,∃fs:List Fact,H1=H++[o0,.box 1 (aM l i'),o2,.box v7 [c0,c1,c2,c3],o4,o5,o6,o7,o8,o9] /\
   ew (H.length+5) 13 (bs.map aE) c1 o5/\ew (H.length+7) 4 (fs.map aI) c2 o7/\bs.length=j/\(∀b∈bs,kf b)/\fs.length<=2*j/\FsP (FIn bs) fs) n.toNat
  (λρ1 H1 wr=>wr=[]/\∃i' o4 o5 o6 o7 c1 c2,∃bs:List Block,∃fs:List Fact,H1=H++[o0,.box 1 (aM l i'),o2,.box v7 [c0,c1,c2,c3],o4,o5,o6,o7,o8,o9] /\
   ew (H.length+5) 13 (bs.map aE) c1 o5/\ew (H.length+7) 4 (fs.map aI) c2 o7/\(1<=bs.length/\bs.length<=3)/\(∀b∈bs,kf b)/\fs.length<=6/\FsP (FIn bs) fs)
  bIv rfl ⟨rfl,e9,i,o4,o5,o6,o7,.sl Pa [],.sl Pa [],[],[],rfl,.nil _,.nil _,rfl,siT,siT,siT,siT⟩ ?_ (by
   rintro ρ' H' ba ⟨rfl,i',o4,o5,o6,o7,c1,c2,bs,fs,rfl,hg,qu,h1,h2,h3,h4⟩ hf;exact hQ ρ' i' o4 o5 o6 o7 c1 c2 bs fs hf h1 h2 h3 h4 hg qu)
 rintro j ρ1 H1 dc mo ⟨rfl,e9,i',o4,o5,o6,o7,c1,c2,bs,fs,rfl,hg,qu,zo,td,I9,k9⟩ Pw;have f3:ρ1 3=.ptr (H.length+1) 1 0:=(Pw 3 rfl).trans e3;have f7:ρ1 7=.ptr (H.length+3) v7 0:=(Pw 7 rfl).trans e7;have f8:ρ1 8=vi n:=(Pw 8 rfl).trans e8;simp only[go_sem,↓aB,seval,f8,e9];refine aD (λfo=>?_) (λfo=>?_)
 .have cr:j<n.toNat:=by simp at fo;omega
  simp only[go_sem,↓aB,seval,f3];refine bB (bA ht (m:=7) deT) hl (i:=i') uWc ?_;rintro val i3 ⟨x,rfl,jr,lz⟩;simp only[go_sem,↓aB,seval];refine bB (dx jr lz) hl (i:=i3) uWc ?_;rintro val i4 ⟨b,rfl,hbk1,hmb⟩;obtain⟨v',o',eu,db⟩:=hg.app (new:=[aE b]) (bytes:=216) siT (by rw[aCj,cF];rfl) (by simp only[AF,AW,AZ];omega);rw[show bs.map aE++[aE b]=(bs++[b]).map aE by simp]at eu;simp only[go_sem,↓aB,seval,f3,f7,cF,aEB,bID (bG _),aS (bG _),aK (bG _),bR (bG _),db,eu.ak,eu.aj];refine bB (bA ht (m:=2) deT) hl (i:=i4) uWc ?_;rintro val i5 ⟨y,rfl,oj,tc⟩;have Xz:AR.wrap (1+y)=1+y:=wrap_i64 omT omT;simp only[go_sem,↓aB,seval,Xz];refine aVy hf hh hl hmb (k:=j) omT (n:=1+y) omT omT (fs:=fs) omT (P:=FIn (bs++[b])) (λf h=>⟨by rw[h.1];omega,b,by rw[h.1,AT,<- zo];simp,by rw[h.1];exact h⟩) ⟨λf h=>(k9.1 f h).app,k9.2⟩ qu uWy (by simp only[go_sem,seval,f7]) (by simp only[go_sem,seval,e9]) uWc uWc uWc ?_;intro ρ2 i6 o6' o7' c2' fs' cq hfl' hfo' hg2';have g9:ρ2 9=vi j:=by rw[cq 9 rfl];simp only[go_sem,seval,e9]
  simp only[go_sem,↓aB,seval,g9];rw[dW omT];exact⟨cr,rfl,i6,_,o',o6',o7',v',c2',bs++[b],fs',rfl,eu,hg2',by simp[zo],pS td hmb,omT,hfo'⟩
 have cr:j=n.toNat:=by simp at fo;omega
 subst cr;simp only[go_sem,seval];exact⟨i',o4,o5,o6,o7,c1,c2,bs,fs,rfl,hg,qu,omT,td,omT,k9⟩
def aVz(q:Question):(gR q).length=7:=rfl
def aYm{A:af}(hqg:∀{m:Nat},m<=10->dI A 21 [vi m] (aBr m)){H:LO}{Q:bf->bN->LO->LN->Prop}{tg}{l:List Int}(hl:jP l){i:Int}{o0 o2 o4 o5 o6 o7 o8 o9:ah}{v7:Nat}{c0 c1 c2:AV}{fs:List Fact}(I9:fs.length<=6)(qu:ew (H.length+7) 4 (fs.map aI) c2 o7){n:Int}(gq:0<=n)(hn:n<=2){ρ:bN}(e3:ρ 3=.ptr (H.length+1) 1 0)(e7:ρ 7=.ptr (H.length+3) v7 0)(e14:ρ 14=vi n)(e15:ρ 15=vi 0)(hQ:∀ρ' i' o8 c3 (qs:List Question),(∀t,aCL.contains t=Po->ρ' t=ρ t)->qs.length<=2->(∀q∈qs,jt fs.length q)->ew (H.length+8) 7 (qs.map gR) c3 o8 ->Q (.exit 6) ρ' (H++[o0,.box 1 (aM l i'),o2,.box v7 [c0,c1,c2,c3],o4,o5,o6,o7,o8,o9]) []):wl A 107 ⟨H.length,aNu⟩ rY ρ (H++[o0,.box 1 (aM l i),o2,.box v7 [c0,c1,c2,.sl Pa []],o4,o5,o6,o7,o8,o9]) [] Q tg:=by
 refine bJ (λj ρ1 H1 wr=>wr=[]/\ρ1 15=vi j/\∃i' o8 c3,∃qs:List Question,H1=H++[o0,.box 1 (aM l i'),o2,.box v7 [c0,c1,c2,c3],o4,o5,o6,o7,o8,o9] /\
   ew (H.length+8) 7 (qs.map gR) c3 o8/\qs.length=j/\∀q∈qs,jt fs.length q) n.toNat
  (λρ1 H1 wr=>wr=[]/\∃i' o8 c3,∃qs:List Question,H1=H++[o0,.box 1 (aM l i'),o2,.box v7 [c0,c1,c2,c3],o4,o5,o6,o7,o8,o9] /\
   ew (H.length+8) 7 (qs.map gR) c3 o8/\qs.length<=2/\∀q∈qs,jt fs.length q)
  bIv rfl ⟨rfl,e15,i,o8,.sl Pa [],[],rfl,.nil _,rfl,siT⟩ ?_ (by
   rintro ρ' H' ba ⟨rfl,i',o8,c3,qs,rfl,hg,h1,h2⟩ hf;exact hQ ρ' i' o8 c3 qs hf h1 h2 hg)
 rintro j ρ1 H1 dc mo ⟨rfl,e15,i',o8,c3,qs,rfl,hg,hql,hqo⟩ Pw;have f3:ρ1 3=.ptr (H.length+1) 1 0:=(Pw 3 rfl).trans e3;have f7:ρ1 7=.ptr (H.length+3) v7 0:=(Pw 7 rfl).trans e7;have f14:ρ1 14=vi n:=(Pw 14 rfl).trans e14;simp only[go_sem,↓aB,seval,f14,e15];refine aD (λfo=>?_) (λfo=>?_)
 .have cr:j<n.toNat:=by simp at fo;omega
  simp only[go_sem,seval];refine aY (aq:=rX) rfT rfT ?_;simp only[go_sem,↓aB,seval,rX,f3,f7,qu.len];refine eB (hqg (m:=fs.length) omT) hl (i:=i') uWc ?_;rintro val i3 ⟨q,rfl,hmq⟩;obtain⟨v',o',eu,db⟩:=hg.app (new:=[gR q]) (bytes:=128) siT rfT (by simp only[AF,AW,AZ];omega);rw[show qs.map gR++[gR q]=(qs++[q]).map gR by simp]at eu;simp only[go_sem,↓aB,seval,f7,e15,aVz,aK (aBI _),bR (aBI _),db,eu.ak,eu.aj,eH,dG,aL];rw[dW omT];exact⟨cr,rfl,i3,o',v',qs++[q],rfl,eu,by simp[hql],pS hqo hmq⟩
 have cr:j=n.toNat:=by simp at fo;omega
 subst cr;simp only[go_sem,seval];exact⟨i',o8,c3,qs,rfl,hg,omT,hqo⟩
structure Gens(A:af):Prop where
 take:fR A
 block:∀{k:Int},0<=k->k<7->dI A 18 [vi k] (aMn k)
 fact:∀{b:Block},kf b->∀{a:Int},0<=a->a<=1000->aBt A 19 [.agg (aE b),vi a] (aLj b a)
 has:∀(l:List Fact),l.length<=1000->∀(f:Fact)(H:LO),aG A 20 [.sl Po (l.map aI),.agg (aI f)] H=N1 (.bool (l.any λa=>eqv a f),H,[])
 jd:∀{m:Nat},m<=10->dI A 21 [vi m] (aBr m)
def aVB{A:af}(G:Gens A){H:LO}{Q:bf->bN->LO->LN->Prop}{tg}{l:List Int}(hl:jP l){i:Int}{o0 o3 o4 o5 o6 o7 o8 o9:ah}{v4:Nat}{c0:AV}{n:Int}(gq:1<=n)(hn:n<=3){ρ:bN}(e3:ρ 3=.ptr (H.length+1) 1 0)(e4:ρ 4=.ptr (H.length+2) v4 0)(e5:ρ 5=vi n)(e6:ρ 6=vi 0)(hQ:∀ρ' i' o3 o4 o5 o6 o7 o8 o9 c1 (xs:List Item),(∀t,aCM.contains t=Po->ρ' t=ρ t)->1<=xs.length/\xs.length<=3->(∀x∈xs,w9 x)/\xs.map Item.name=bF7.take xs.length->ew (H.length+9) 4 (xs.map aO) c1 o9 ->Q (.exit 0) ρ' (H++[o0,.box 1 (aM l i'),.box v4 [c0,c1],o3,o4,o5,o6,o7,o8,o9]) []):wl A 107 ⟨H.length,aNu⟩ rZ ρ (H++[o0,.box 1 (aM l i),.box v4 [c0,.sl Pa []],o3,o4,o5,o6,o7,o8,o9]) [] Q tg:=by
 refine bJ (λj ρ1 H1 wr=>wr=[]/\ρ1 6=vi j/\∃i' o3 o4 o5 o6 o7 o8 o9 c1,∃xs:List Item,H1=H++[o0,.box 1 (aM l i'),.box v4 [c0,c1],o3,o4,o5,o6,o7,o8,o9] /\
   ew (H.length+9) 4 (xs.map aO) c1 o9/\xs.length=j/\(∀x∈xs,w9 x)/\xs.map Item.name=bF7.take xs.length) n.toNat
  (λρ1 H1 wr=>wr=[]/\∃i' o3 o4 o5 o6 o7 o8 o9 c1,∃xs:List Item,H1=H++[o0,.box 1 (aM l i'),.box v4 [c0,c1],o3,o4,o5,o6,o7,o8,o9] /\
   ew (H.length+9) 4 (xs.map aO) c1 o9/\(1<=xs.length/\xs.length<=3)/\(∀x∈xs,w9 x)/\xs.map Item.name=bF7.take xs.length)
  bIv rfl ⟨rfl,e6,i,o3,o4,o5,o6,o7,o8,o9,.sl Pa [],[],rfl,.nil _,rfl,siT,rfl⟩ ?_ (by
   rintro ρ' H' ba ⟨rfl,i',o3,o4,o5,o6,o7,o8,o9,c1,xs,rfl,hg,h1,h2⟩ hf;exact hQ ρ' i' o3 o4 o5 o6 o7 o8 o9 c1 xs hf h1 h2 hg)
 rintro j ρ1 H1 dc mo ⟨rfl,e6,i',o3,o4,o5,o6,o7,o8,o9,c1,xs,rfl,hg,n9,hxo,hxn⟩ Pw;have f3:ρ1 3=.ptr (H.length+1) 1 0:=(Pw 3 rfl).trans e3;have f4:ρ1 4=.ptr (H.length+2) v4 0:=(Pw 4 rfl).trans e4;have f5:ρ1 5=vi n:=(Pw 5 rfl).trans e5;simp only[go_sem,↓aB,seval,f5,e6];refine aD (λfo=>?_) (λfo=>?_)
 .have cr:j<n.toNat:=by simp at fo;omega
  obtain⟨nm,hnm,cx⟩:=aQl bF7 (x:=(j:Int)) omT soT;have hnmj:bF7[j]? = N1 nm:=by
   simp only[AT,BN]at cx;cases hj:bF7[j]? with
   |none=>rw[hj]at cx;cases cx
   |some s=>rw[hj]at cx;cases cx;rfl
  simp only[DR,aN,AT]at cx;simp only[go_sem,↓aB,seval,f3,e6,cx];refine bB (bA G.take (m:=3) deT) hl (i:=i') uWc ?_;rintro val i3 ⟨x,rfl,jr,lz⟩;have wk:AR.wrap (1+x)=1+x:=wrap_i64 omT omT;simp only[go_sem,↓aB,seval,wk];refine aSA G.take G.block G.fact G.has hl (n:=1+x) omT omT uWy uWc uWc uWc ?_;intro ρ2 i4 p4 p5 p6 p7 d1 d2 bs fs cq zo td I9 k9 Gt hgf;have g3:ρ2 3=.ptr (H.length+1) 1 0:=by rw[cq 3 rfl];simp only[go_sem,seval,f3]
  have g4:ρ2 4=.ptr (H.length+2) v4 0:=by rw[cq 4 rfl];simp only[go_sem,seval,f4]
  have g6:ρ2 6=vi j:=by rw[cq 6 rfl];simp only[go_sem,seval,e6]
  have g7:ρ2 7=.ptr (H.length+3) (o3.ver+1) 0:=by rw[cq 7 rfl];simp only[go_sem,seval]
  simp only[go_sem,↓aB,seval,g3];refine bB (bA G.take (m:=3) deT) hl (i:=i4) uWc ?_;rintro val i5 ⟨y,rfl,oj,tc⟩;simp only[go_sem,↓aB,seval];refine aYm G.jd hl I9 hgf (n:=y) omT omT (by simp only[go_sem,seval,g3]) (by simp only[go_sem,seval,g7]) uWc uWc ?_;intro ρ3 i6 p8 d3 qs im hql hqo hgq;have k4:ρ3 4=.ptr (H.length+2) v4 0:=by rw[im 4 rfl];simp only[go_sem,seval,g4]
  have k6:ρ3 6=vi j:=by rw[im 6 rfl];simp only[go_sem,seval,g6]
  have k7:ρ3 7=.ptr (H.length+3) (o3.ver+1) 0:=by rw[im 7 rfl];simp only[go_sem,seval,g7]
  obtain⟨b1,b2,b3,b4,b5,b6⟩:=Gt.dw (aC bG _);obtain⟨q1,q2,q3,q4,q5,q6⟩:=hgq.dw (aC aBI _);obtain⟨r1,r2,r3,r4,r5,r6⟩:=hgf.dw (aC eL _);obtain⟨v',o',eu,db⟩:=hg.app (new:=[[.str nm,.sl Po (bs.map aE),.sl Po (fs.map aI),.sl Po (qs.map gR)]]) (bytes:=88) siT rfT (by simp only[AF,AW,AZ];omega);rw[show xs.map aO++[[.str nm,.sl Po (bs.map aE),.sl Po (fs.map aI),.sl Po (qs.map gR)]]=(xs++[Item.mk nm bs fs qs]).map aO by simp[aO]]at eu;simp only[go_sem,↓aB,seval,k4,k6,k7,b4,b5,b6,q4,q5,q6,r4,r5,r6,uM,aAS,db,eu.ak,eu.aj];rw[dW omT];refine⟨cr,rfl,i6,_,_,_,_,_,_,o',v',xs++[Item.mk nm bs fs qs],rfl,eu,by simp[n9],pS hxo ⟨hnm,zo,td,I9,k9.1,hql,hqo,k9.2⟩, ?_⟩;rw[DQ,hxn,BA,List.length_singleton,n9,List.take_add_one,hnmj];rfl
 have cr:j=n.toNat:=by simp at fo;omega
 subst cr;simp only[go_sem,seval];exact⟨i',o3,o4,o5,o6,o7,o8,o9,c1,xs,rfl,hg,omT,hxo,hxn⟩
def aQB{A:af}(h:Has A 5 pM)(G:Gens A){l:List Int}(hl:jP l)(H:LO):∃v H' wr,aG A 5 [.sl Po (l.map bF)] H=N1 (v,H',wr)/\(H'=H/\wr=[]/\aYl v):=by
 refine h.bp ?_;have hb:dU l.length N2 (N1 (.int .i64 (if (400:Int)<l.length then 400 else l.length))) N2=N1 (0,min l.length 400,l.length):=by
  by_cases hc:(400:Int)<l.length
  .rw[Vx hc];simp only[dU,iL];rw[Vx ⟨deT,omT⟩];simp;omega
  rw[Vw hc];simp only[dU,iL];rw[Vx ⟨omT,omT⟩];simp;omega
 have hh:dF 1 (l.map bF)=true:=by cases l<;>rfl
 have pk:FW (min l.length 400) (l.map bF)=(l.take (min l.length 400)).map bF:=List.map_take.symm;have iq:jP (l.take (min l.length 400)):=λa ha=>hl a (List.mem_of_mem_take ha);generalize l.take (min l.length 400)=l2 at pk iq;simp only[pM];simp only[go_sem,↓aB,seval,hb,hh,pk];refine bB (bA G.take (m:=3) deT) iq (i:=0) uWc ?_;rintro val i1 ⟨x,rfl,jr,lz⟩;obtain⟨nm,hnm,cx⟩:=aQl bEq jr lz;simp only[DR,aN]at cx;simp only[go_sem,↓aB,seval,jr,cx];refine bB (bA G.take (m:=3) deT) iq (i:=i1) uWc ?_;rintro val i2 ⟨y,rfl,oj,tc⟩;have Xz:AR.wrap (1+y)=1+y:=wrap_i64 omT omT;simp only[go_sem,↓aB,seval,Xz];refine aVB G iq (n:=1+y) omT omT uWc uWc uWc uWc ?_;intro ρ2 i3 o3 o4 o5 o6 o7 o8 o9 c1 xs cq n9 hxo hg;have g2:ρ2 2=.ptr H.length 1 0:=by rw[cq 2 rfl];simp only[go_sem,seval]
 have g4:ρ2 4=.ptr (H.length+2) 1 0:=by rw[cq 4 rfl];simp only[go_sem,seval]
 obtain⟨b1,b2,b3,b4,b5,b6⟩:=hg.dw (aC dV _);simp only[go_sem,↓aB,seval,g2,g4,hg.ak,b4,b5,b6,aA (aC dV _)];exact⟨jm.mk nm xs,rfl,hnm,n9,hxo.1,hxo.2⟩
def gX:=(.mk _:bb 346 bTx).x
def aJJ:∀(k n:Nat),n<10 ^ (k+1)->nC (k+1) n=dec n
 |0,n,h=>by
  have h':n<10:=uWg
  rw[dec,nC,Vx h',Vx h']
 |k+1,n,h=>by
  rw[dec,nC];split
  .rfl
  rw[aJJ k (n / 10) (by rw[PL]at h;omega)]
section
variable {A:af}
def aLn(hp:A.bq 378=N1 oN){n:Int}(h0:0<=n)(h9:n<=999999):fY A 378 [.int .u64 n,vi 10] (dec n.toNat):=by
 intro H t v hb ht;have e7:nC 7 n.toNat=dec n.toNat:=aJJ 6 _ (by have:(10:Nat) ^ (6+1)=10000000:=deT;omega);cases hb with
 |nil=>refine (oL (n:=0) ?_);unfold dD qL;rw[hp];show (match oN [.sl Pa [],.int .u64 n,.int .i64 10] H with | some r=>N1 (cT H r) | none=>_)=_;simp only[oN];rw[Vx ⟨h0,omT,trivial⟩,e7];simp[cT,eU];rfl
 |obj id ver t ho=>refine (oL (n:=0) ?_);unfold dD qL;rw[hp];show (match oN [.sr id ver t.length,.int .u64 n,.int .i64 10] H with | some r=>N1 (cT H r) | none=>_)=_;simp only[oN,ho];rw[Vx ⟨trivial,kG t,h0,omT,omT,trivial,aEk t⟩,e7];simp only[cT,eU,AJ,BI,BY,vX];rfl
abbrev bCn:LO:=[.gone 0,.gone 0]
def aLo(h:Has A 346 gX)(hp:A.bq 378=N1 oN){n:Int}(h0:0<=n)(h9:n<=999999):fY A 346 [vi n,vi 10] (dec n.toNat):=by
 intro H t v hb ht;obtain⟨v1,H1,dc,h1,h2⟩:=h.bp (args:=[v,vi n,vi 10]) (H:=H) (K:=λv' H'' ba=>N1 (v',H'',ba)=oX H t (dec n.toNat) v) (by
  have hw:IntKind.u64.wrap n=n:=by unfold GA;simp[LK,KC];omega
  have hn:decide (n<0)=false:=by rw[decide_eq_false_iff_not];omega
  obtain⟨o,ver,jk,kq⟩:=hb.call (L:=bCn) (i:=1) ht deT (aLn hp h0 h9);simp only[gX];simp only[go_sem,↓aB,seval,pT,hw,hn,kq];exact jk.done rfl _)
 rw[h1,h2]
def aMs(h:Has A 317 vW)(hi:Has A 346 gX)(hp:A.bq 378=N1 oN):aBk A:=by
 intro n h0 h9 H t v hb ht;obtain⟨v1,H1,dc,h1,h2⟩:=h.bp (args:=[v,vi n,vi 10]) (H:=H) (K:=λv' H'' ba=>N1 (v',H'',ba)=oX H t (dec n.toNat) v) (by
  obtain⟨o,ver,jk,kq⟩:=hb.call (L:=[.gone 0]) (i:=0) ht deT (aLo hi hp h0 h9);rw[Nat.add_zero]at kq;simp only[vW];simp only[go_sem,↓aB,seval,kq];exact jk.done rfl _)
 rw[h1,h2]
end
def bEM{s:Str}(h:s∈aQm):vP 1 200 s=Pa/\vP 0 20 s=Pa/\vP 0 40 s=true:=(by decide:∀s∈aQm,vP 1 200 s=Pa/\vP 0 20 s=Pa/\vP 0 40 s=Pa) s h
def bED{r:List mr}(h:bGD r):aGx r=true:=by
 obtain⟨h1,h2,h3,x,hx,h4⟩:=h;simp only[aGx,aWm,aUL,AI,AO,eG];refine⟨λi hi=>?_,⟨omT,omT⟩,λa ha=>⟨?_,(bEM (h3 a ha).2).1⟩⟩
 .have hi:=HE.1 hi;have l:∀j,j<r.length->sY r j=(x+j).tmod 2:=λj hj=>by
   unfold sY;rw[AP hj];exact h4 j _ (AP hj)
  rw[l i omT,l (i+1) omT,Ai omT,Ai omT];simp only[bne_iff_ne];omega
 obtain⟨j,hj⟩:=List.getElem?_of_mem ha;have:=h4 j a hj;rw[Ai omT]at this;omega
def bFH{c:Bool}{op n:Int}{kids:List Expr}(h:kids.length=0/\(op=0/\0<=n/\n<=999999∨op=1/\0<=n/\n<=25)∨n=0/\(kids.length=1/\(op=2∨op=8)∨kids.length=2/\(3<=op/\op<=7∨c=Pa/\9<=op/\op<=10))):0<=op/\op<=10/\kids.length=aCn op/\(0<=n/\n<=aAq op)/\(lev op≠0∨c=Pa):=by
 rcases h with⟨e1,⟨rfl,e2⟩ | ⟨rfl,e2⟩⟩ | ⟨rfl,⟨e1,e2⟩ | ⟨e1,e2⟩⟩
 .exact⟨deT,deT,e1,e2,.inl deT⟩
 .exact⟨deT,deT,e1,e2,.inl deT⟩
 .rcases e2 with rfl|rfl<;>exact⟨deT,deT,e1,deT,.inl deT⟩
 rcases e2 with e2 | ⟨hc,e2⟩
 .have:op=3∨op=4∨op=5∨op=6∨op=7:=omT;rcases this with rfl|rfl|rfl|rfl|rfl<;>exact⟨deT,deT,e1,deT,.inl deT⟩
 have:op=9∨op=10:=omT;rcases this with rfl|rfl<;>exact⟨deT,deT,e1,deT,.inr hc⟩
def bFI:∀(d:Nat)(c:Bool)(e:Expr)(k:Int),Deep c d e->d<=4->k+d<=17->exS e k=(gY e,Pa)
 |0,c,e,k,h,_,_=>by cases h
 |d+1,c,.mk op n kids,k,h,hd,hk=>by
  have gd:=h.ok.2;have hp:2 ^ (d+1)<=2 ^ 4:=Nat.pow_le_pow_right deT hd;have ax:=bF1 h;cases h with
  |mk _ _ _ _ _ h4 h5=>
   have ih:=λe he=>bFI d Po e (k+1) (h4 e he) omT omT;have hx:exL kids (k+1) 1=N1 (1+cP kids):=by
    match kids,ax,ih with
    | [],_,_=>rfl
    | [a],_,ih=>simp only[exL,ih a siT,cP];rfl
    | [a,b],_,ih=>simp only[exL,ih a siT,ih b siT,cP];rw[EU];rfl
    |_::_::_::_,h,_=>simp at h
   have hc:((decide (k>16) || !wi op 0 10) || !wi n 0 (aAq op) || ((kids.length:Int) != (aCn op:Int)))=false:=by
    simp only[Bool.or_eq_false_iff,decide_eq_false_iff_not,Bool.not_eq_false',eG,bne_eq_false_iff_eq];rcases bFH h5 with⟨o0,o1,o2,o3,o4⟩
    rw[o2];exact⟨⟨⟨omT,omT⟩,o3⟩,rfl⟩
   rw[exS,hc,hx,gY];simp only[BX,Vt];rw[gY]at gd;simp;omega
def bEE:∀(d:Nat)(c:Bool)(e:Expr),Deep c d e->aBN c e=Pa
 |0,c,e,h=>by cases h
 |d+1,c,.mk op n kids,h=>by
  cases h with
  |mk _ _ _ _ _ h4 h5=>
   have ih:aEZ kids=true:=by rw[aIu,AO];exact λe he=>bEE d Po e (h4 e he)
   unfold aBN;rw[ih];obtain⟨o0,o1,o2,o3,o4⟩:=bFH h5;have a1:decide (op<0)=false:=soT;have a2:decide (op ≥ 11)=false:=soT;have a3:decide (n<0)=false:=soT;have a4:decide (n>aAq op)=false:=soT;have a5:((kids.length:Int) != (aCn op:Int))=false:=by rw[o2];simp
   have a6:((((lev op:Nat):Int)==0) && !c)=false:=by
    rcases o4 with h|rfl
    .have:(((lev op:Nat):Int)==0)=false:=by simp;exact h
     rw[this];rfl
    simp
   rw[a1,a2,a3,a4,a5,a6];rfl
def bFp{e:Expr}(h:Deep Pa 4 e):aBV e=0:=by have h1:=h.ok.2;have h2:=aPL e;unfold aBV;rw[bEE 4 Pa e h];have a:decide ((gY e:Int)>256)=false:=soT;have b:decide ((aBM e:Int)>16)=false:=soT;rw[a,b];rfl
def kf.right{b:Block}(hb:kf b):dQ b=true:=by
 unfold dQ;rw[AI];refine⟨by cases hb<;>simp[eqv,aKK,cV], ?_⟩;cases hb with
 |text h=>exact bED h
 | @form e h=>show (exS e 1).2=Pa;rw[bFI 4 Pa _ 1 h deT deT]
 | @col op a h=>show (([3,4,5,6]:List Int).any (λx=>op==x)&&(wi a.length 1 8&&a.all aUP))=Pa;obtain⟨h1,h2,h3,_⟩:=h;simp only[AI,AO,aUP,eG];refine⟨?_,omT,λn hn=>h3 n hn⟩;simp;omega
 | @cd g h=>
  show (wi g.length 1 12&&g.all (aUQ (g.headD []).length))=Pa;obtain⟨h1,h2,h3,c,h4⟩:=h;simp only[AI,AO,aUQ,eG,beq_iff_eq];refine⟨omT,λr hr=>⟨?_, ?_,λs hs=>(bEM ((h3 r hr).2.2 s hs)).2.1⟩⟩
  .rw[h4 r hr];cases g with
   |nil=>cases hr
   |cons a l=>rw[ON,h4 a siT]
  have:=h3 r hr;omega
 | @fig s h=>show ((wi 60 1 1000&&wi 50 1 1000)&&(wi s.length 1 8&&s.all vQ))=Pa;simp only[AI,AO,eG,vQ,aKG];refine⟨⟨⟨deT,deT⟩,deT,deT⟩,by have:=h.1;omega,λa ha=>?_⟩;obtain⟨a1,a2,a3⟩:=bEp (h.2.1 a ha);exact⟨a1,omT,λp hp=>by have:=a3 p hp;omega⟩
 | @mel m h=>
  show aUO m=Pa;obtain⟨h1,h2,h3,c,h4⟩:=h;simp only[aUO,aKL,aT9,aGv,AI,AO,eG,beq_iff_eq];refine⟨omT,λr hr=>⟨?_, ?_,λl hl=>?_⟩⟩
  .rw[h4 r hr];cases m with
   |nil=>cases hr
   |cons a l=>rw[ON,h4 a siT]
  .have:=h3 r hr;omega
  obtain⟨k1,k2,k3⟩:=(h3 r hr).2.2 l hl;exact⟨omT,λn hn=>by have:=k3 n hn;omega⟩
 | @lst l h=>show (wi l.length 1 64&&l.all (vP 0 80))=Pa;simp only[AI,AO,eG];exact⟨by have:=h.1;have:=h.2.1;omega,λs hs=>(by decide:∀s∈mq,vP 0 80 s=Pa) s (h.2.2 s hs)⟩
def kf.checked{E:Int->Int->List Shape->Int}(hE:∀s,bGI s->E 60 50 s=0){b:Block}(hb:kf b):nU E b=0:=by
 unfold nU;rw[Vx hb.right];cases hb with
 |form h=>exact bFp h
 |fig h=>exact hE _ h
 |_=>rfl
def bDS{b:Block}{at':Int}{f:Fact}{k:Nat}(hk:k<7)(h1:lJ (aBp k) b.kind=Pa){p:Nat×Nat}(hp:p∈aWq b k)(e:f=⟨k,at',p.1,p.2⟩):f∈eM b at':=by refine IM.2 ⟨k,HE.2 hk, ?_⟩;unfold aF8;rw[Vx h1];exact DB.2 ⟨p,hp,e.symm⟩
def bGL{b:Block}(hb:kf b){at':Int}{f:Fact}(h:bFo b at' f):f∈eM b at':=by
 obtain⟨fk,fb,fa,fc⟩:=f;obtain⟨h0,h⟩:=h;have h0:fb=at':=h0;subst h0;simp only at h;have toN:∀{n:Int},0<=n->((n.toNat:Nat):Int)=n:=λh=>Int.toNat_of_nonneg h;rcases h with⟨rfl,h1,rfl,rfl⟩ | ⟨rfl,h1,h2,h3⟩ | ⟨rfl,h1,h2,rfl⟩ | ⟨h0,h1,h2,h3,h4⟩ | ⟨rfl,h1,h2,h3⟩ | ⟨rfl,h1,h2,rfl⟩
 .exact bDS (k:=0) deT uWz (p:=(0,0)) (aDs.2 ⟨deT,deT⟩) rfl
 .exact bDS (k:=1) deT uWz (p:=(fa.toNat,fc.toNat)) (aDs.2 ⟨omT,by unfold aFt;omega⟩) (by simp only[toN h2.1,toN h3.1];rfl)
 .refine bDS (k:=2) deT uWz (p:=(fa.toNat,0)) (OK.2 ⟨aDs.2 ⟨omT,omT⟩, ?_⟩) (by simp only[toN (n:=fa) omT];rfl);cases hb with
  |fig hf=>obtain⟨_,_,a,r,e,ha⟩:=hf;have:(((({ cV 4 with w:=60,h:=50,aw:=a::r }:Block).aw)[0]?).map Shape.kind).getD 0=2:=ha;subst e;simp only[aGY,this];simp;omega
  |_=>simp[cV]at h1
 .rcases h0 with rfl|rfl
  .exact bDS (k:=3) deT uWz (p:=(fa.toNat,fc.toNat)) (OK.2 ⟨aDs.2 ⟨omT,omT⟩,by simp[aGY];omega⟩) (by simp only[toN h2.1,toN h3.1];rfl)
  exact bDS (k:=4) deT uWz (p:=(fa.toNat,fc.toNat)) (OK.2 ⟨aDs.2 ⟨omT,omT⟩,by simp[aGY];omega⟩) (by simp only[toN h2.1,toN h3.1];rfl)
 .exact bDS (k:=5) deT uWz (p:=(fa.toNat,fc.toNat)) (aDs.2 ⟨by unfold aFu;omega,omT⟩) (by simp only[toN h2.1,toN h3.1];rfl)
 exact bDS (k:=6) deT uWz (p:=(fa.toNat,0)) (aDs.2 ⟨omT,deT⟩) (by simp only[toN h2.1];rfl)
def bGM{n:Nat}(h:n<1000):vP 0 40 (dec n)=true:=by
 have:(GZ 1000).all (λn=>vP 0 40 (nC 3 n))=true:=bIv;have h2:=AO.1 this n (HE.2 h)
 rwa [aJJ 2 n omT]at h2
def jt.right{m:Nat}{q:Question}(h:jt m q)(hm:m<=8):aWp q=true:=by
 obtain⟨h1,h2,h3,h4,h5,h6,h7,h8,h9,_,_,_⟩:=h;simp only[aWp,bED h2,aOl,AI,AO,eG,beq_iff_eq];refine⟨⟨⟨⟨⟨⟨⟨omT,trivial⟩,omT⟩,omT,λs hs=>(by decide:∀s∈bGE,vP 1 40 s=Pa) s (h4 s hs)⟩,omT,λs hs=>(by decide:∀s∈bGF,vP 0 60 s=Pa) s (h5 s hs)⟩,omT,λn hn=>by have:=h7 n hn;omega⟩, ?_⟩,omT⟩;rcases h8 with h | ⟨n,hn,h⟩
 .exact (bEM h).2.2
 rw[h];exact bGM hn
def w9.right{x:Item}(h:w9 x):aGU x=true:=by obtain⟨h1,h2,h3,h4,h5,h6,h7,_⟩:=h;simp only[aGU,(by decide:∀s∈bF7,aO7 s=Pa) _ h1,aHJ,AI,AO,eG];refine⟨⟨⟨trivial,omT,λb hb=>(h3 b hb).right⟩,omT,λf hf=>?_⟩,omT,λq hq=>(h7 q hq).right omT⟩;obtain⟨a0,b,a1,a2⟩:=h5 f hf;have a3:=a2.small (h3 b (AN a1)).lens;have a4:=(AH.1 a1).1;omega
def w9.told{E:Int->Int->List Shape->Int}(hE:∀s,bGI s->E 60 50 s=0){x:Item}(h:w9 x){f:Fact}(hf:f∈x.facts):Told E x f:=by obtain⟨a0,b,a1,a2⟩:=h.fact f hf;have hb:=h.block b (AN a1);have a4:=(AH.1 a1).1;refine⟨a0,omT,λc hc=>?_⟩;rw[a1]at hc;cases hc;exact⟨hb.right,hb.checked hE,bGL hb a2⟩
end Go.AM
end
section

end
section

end
noncomputable section
namespace Go.AM
open Go
structure Zd(k:Nat)(b:Block):Prop where
 runs:b.runs.length<=3+k/\∀r∈b.runs,r.text.length<=9
 size:gY b.expr<=15+k
 eg:b.eg.length<=3+k
 cd:b.cd.length<=3+k/\∀r∈b.cd,r.length<=3/\∀s∈r,s.length<=9∨s.length=22
 aw:b.aw.length<=4/\∀s∈b.aw,s.points.length<=4
 bo:b.bo.length<=2+k/\∀h∈b.bo,h.length<=3/\∀l∈h,l.length<=4
 lines:b.lines.length<=3+k/\∀s∈b.lines,s.length<=57
def bJC(k:Int):Zd 0 (cV k):=by constructor<;>simp[cV,gY,cP]
def kf.limB{b:Block}(h:kf b):Zd 0 b:=by
 cases h with
 |text h=>exact { bJC 0 with runs:=⟨h.2.1,λr hr=>bDR (h.2.2.1 r hr).2⟩ }
 |form h=>exact { bJC 1 with size:=h.ok.2 }
 |col h=>exact { bJC 2 with eg:=h.2.1.2 }
 |cd h=>exact { bJC 3 with cd:=⟨h.2.1,λr hr=>⟨(h.2.2.1 r hr).2.1,λs hs=>.inl (bDR ((h.2.2.1 r hr).2.2 s hs))⟩⟩ }
 |fig h=>exact { bJC 4 with aw:=⟨h.1.2,λs hs=>(bEp (h.2.1 s hs)).2.1.2⟩ }
 |mel h=>exact { bJC 5 with bo:=⟨h.2.1,λr hr=>⟨(h.2.2.1 r hr).2.1,λl hl=>((h.2.2.1 r hr).2.2 l hl).2.1⟩⟩ }
 |lst h=>exact { bJC 6 with lines:=⟨h.2.1,λs hs=>(by decide:∀s∈mq,s.length<=57) s (h.2.2 s hs)⟩ }
def Zd.lim{k:Nat}(hk:k<=1){b:Block}(h:Zd k b)(hb:dQ b=Pa):Sc b (400+96*k):=by
 have hK:=yU hb;unfold xU at hK;refine⟨λe=>⟨38,λr hr=>by have:=h.runs.2 r hr;omega,by have:=h.runs.1;omega⟩,λe=>by have:=h.size;omega,λe=>by have:=h.eg;omega,λe=>?_,λe=>⟨91,λs hs=>by have:=h.aw.2 s hs;omega,by have:=h.aw.1;omega⟩,
  λe=>⟨161,52,λx hx=>⟨by have:=(h.bo.2 x hx).1;omega,λl hl=>by have:=(h.bo.2 x hx).2 l hl;omega⟩,by have:=h.bo.1;omega⟩,λe=>⟨122,λs hs=>by have:=h.lines.2 s hs;omega,by have:=h.lines.1;omega⟩⟩
 rw[Vw omT,Vw omT,Vw omT,Vx e]at hK;simp only[aUQ,vP,AI,eG,AO]at hK;exact⟨67,21,λr hr=>⟨by have:=(h.cd.2 r hr).1;omega,λs hs=>by have h1:=(hK.2 r hr).2.2 s hs;have h2:=(h.cd.2 r hr).2 s hs;omega⟩,by have:=h.cd.1;omega⟩
def kf.lim{b:Block}(hb:kf b):Sc b 400:=hb.limB.lim (k:=0) deT hb.right
def jt.lim{m:Nat}{q:Question}(h:jt m q)(hm:m<=6):bI6 q 490:=by
 obtain⟨h1,h2,h3,h4,h5,h6,h7,h8,h9,_,_,_⟩:=h;refine⟨38,53,λr hr=>by have:=bDR (h2.2.2.1 r hr).2;omega,λs hs t ht=>by have:=bGa (h4 s hs);have:=bGb (h5 t ht);omega, ?_⟩;have hk:q.key.length<=9:=by
  rcases h8 with h | ⟨n,hn,h⟩
  .exact bDR h
  have:=aGn 2 n omT;rw[h];omega
 have:=h2.2.1;omega
def w9.lim{x:Item}(h:w9 x):bI7 x 2551:=by obtain⟨h1,h2,h3,h4,h5,h6,h7,_⟩:=h;exact⟨400,490,λb hb=>(h3 b hb).lim,λq hq=>(h7 q hq).lim h4,by have:=(by decide:∀s∈bF7,s.length<=5) _ h1;omega⟩
def Wi.right{x:jm}(h:Wi x):bDt x=true:=by obtain⟨h1,h2,h3,_⟩:=h;simp only[bDt,(by decide:∀s∈bEq,vP 0 100 s=Pa) _ h1,Bool.true_and,AI,eG,AO];exact⟨omT,λi hi=>(h3 i hi).right⟩
def bFW{A:af}{tB:Nat}(F:oh A tB){x:jm}(h:Wi x)(H:LO):aG A 29 [dE x] H=N1 (vi 0,H,[]):=by obtain⟨e,h1,_,_,h4⟩:=aTh F x h.ok H;rw[h1,h4 h.right 2551 (λi hi=>(h.item i hi).lim) (by have:=h.G8;have:=(by decide:∀s∈bEq,s.length<=14) _ h.title;omega)]
abbrev aHf:=bTw 31 (bIF 77003 [])
abbrev aHg:=bTw 31 (bIF 75 [(1203,aHf)])
def tM:=(.mk _:bb 31 (bIC [(75,aHg)])).x
def aNo{id k:Nat}{rows:List LA}{v:AV}{o:ah}(h:ew id k rows v o)(hd:gG rows=Pa):∃f l o',∀H:LO,H[id]? = N1 o->dw H v=N1 (.sl f rows,l)/\dL H l=H.set id o'/\∀b wr,b<=id->bE b wr l=wr:=by
 obtain⟨f,l,o',h1,h2,h3⟩:=h.dw hd;refine⟨f,l,o',λH ho=>⟨?_,h2 H ho,h3⟩⟩;have e:dw H v=aA2 H v:=by cases h<;>rfl
 rw[e,h1 H ho]
def hU(R:List (List Str)):List LA:=R.map λr=>[AV.sl Po (r.map aN)]
def aHh:∀R,gG (hU R)=Pa
 | []=>rfl
 |r::R=>by
  show (iX [AV.sl Po (r.map aN)]&&gG (hU R))=Pa;rw[aHh R];have:=cU r;simp only[bY]at this;rw[this];rfl
abbrev bEN(A:af)(V:Item->Fact->Str)(Q:Item->Fact->Prop):Prop:=∀(x:Item),x.Ok->∀(f:Fact),Q x f->∀H:LO,aG A 56 [.agg (aO x),.agg (aI f)] H=N1 (.tup [.str (V x f),vi 0],H,[])/\(V x f).length<=1000000
def bCF(V:Item->Fact->Str)(x:jm):List (List Str):=x.items.map λit=>it.facts.map (V it)
section
variable {A:af}{V:Item->Fact->Str}{Q:Item->Fact->Prop}
def bGN(F:bEN A V Q)(h:Has A 31 tM)(x:jm)(hx:x.Ok)(hq:∀it∈x.items,∀f∈it.facts,Q it f)(H:LO):aG A 31 [dE x] H=N1 (.tup [.sl Po (hU (bCF V x)),vi 0],H,[]):=by
 obtain⟨r,H',ba,e1,rfl,rfl,rfl⟩:=h.bp (args:=[dE x]) (H:=H) (K:=λr H' wr=>wr=[]/\H'=H/\r=.tup [.sl Po (hU (bCF V x)),vi 0]) (by
  simp only[tM];simp only[go_sem,↓aB,seval,dE];refine bJ (id:=0) (λk ρ1 H1 wr=>wr=[]/\ρ1 15=vi (k:Nat)/\∃x0 x1 x2 x3,H1=H++[x0,x1,x2,x3]/\ew (H.length+3) 1 (hU ((x.items.take k).map λit=>it.facts.map (V it))) (ρ1 4) x3) x.items.length
   (λρ1 H1 wr=>wr=[]/\∃x0 x1 x2 x3,H1=H++[x0,x1,x2,x3]/\ew (H.length+3) 1 (hU (bCF V x)) (ρ1 4) x3) bIv rfl ⟨rfl,rfl,_,_,_,_,rfl,.nil _⟩ ?_ ?_
  .rintro k ρ1 H1 dc zp ⟨rfl,e15,x0,x1,x2,x3,rfl,hR⟩ hf;have f13:ρ1 13=.sl Po (x.items.map aO):=hf 13 rfl;have f14:ρ1 14=vi (x.items.length:Nat):=hf 14 rfl;simp only[go_sem,↓aB,seval,e15,f14];refine aD (λe3=>?_) (λe3=>?_)
   .have hlt:k<x.items.length:=by simp at e3;omega
    have hl16:=hx.G8;have dy:=wS (i:=k) omT;have cj:=mgE aO hlt;have kh:=hx.items _ (AS hlt);have pk:(x.items.take (k+1)).map (λit=>it.facts.map (V it))=(x.items.take k).map (λit=>it.facts.map (V it))++[x.items[k].facts.map (V x.items[k])]:=by rw[EW hlt,DQ];rfl
    have hRlen:((x.items.take k).map λit=>it.facts.map (V it)).length<=16:=soT;have hqi:=hq _ (AS hlt);generalize (x.items.take k).map (λit=>it.facts.map (V it))=R at *;generalize x.items[k]=it at *;have kr:=λf hf H=>(F it kh f (hqi f hf) H).1;have k9:=kh.facts;have I9:=kh.B1;simp only[aO]at kr;simp only[go_sem,↓aB,seval,e15,f13,hlt,cj,aO];refine bJ (id:=2) (λj ρ2 H2 wr=>wr=[]/\ρ2 22=vi (j:Nat)/\∃y1 y2,H2=H++[.box (x0.ver+1) [.str it.name,.sl Po (it.blocks.map aE),.sl Po (it.facts.map aI),.sl Po (it.ask.map gR)],y1,y2,x3]/\ew (H.length+2) 1 (((it.facts.take j).map (V it)).map aN) (ρ2 7) y2) it.facts.length
     (λρ2 H2 wr=>wr=[]/\∃y1 y2,H2=H++[.box (x0.ver+1) [.str it.name,.sl Po (it.blocks.map aE),.sl Po (it.facts.map aI),.sl Po (it.ask.map gR)],y1,y2,x3]/\ew (H.length+2) 1 ((it.facts.map (V it)).map aN) (ρ2 7) y2) bIv rfl ⟨rfl,rfl,_,_,rfl,.nil _⟩ ?_ ?_
    .rintro j ρ2 H2 en mo ⟨rfl,e22,y1,y2,rfl,hS⟩ cq;have f20:ρ2 20=.sl Po (it.facts.map aI):=cq 20 rfl;have f21:ρ2 21=vi (it.facts.length:Nat):=cq 21 rfl;have f6:ρ2 6=.ptr H.length (x0.ver+1) 0:=cq 6 rfl;simp only[go_sem,↓aB,seval,e22,f21];refine aD (λe4=>?_) (λe4=>?_)
     .have jlt:j<it.facts.length:=by simp at e4;omega
      have gn:=wS (i:=j) omT;have fh:=mgE aI jlt;have htj:((it.facts.take (j+1)).map (V it)).map aN=((it.facts.take j).map (V it)).map aN++[aN (V it it.facts[j])]:=by rw[EW jlt,DQ,DQ];rfl
      have hSl:((it.facts.take j).map (V it)).length<=16:=soT;have hfm:=AS jlt;generalize it.facts[j]=f at *;generalize (it.facts.take j).map (V it)=S at *;have hcf:=kr f hfm (H++[.box (x0.ver+1) [.str it.name,.sl Po (it.blocks.map aE),.sl Po (it.facts.map aI),.sl Po (it.ask.map gR)],.box (y1.ver+1) (aI f),y2,x3]);generalize V it f=s at *;simp only[aI]at hcf;obtain⟨v',o',hS',Gx⟩:=hS.app (new:=[aN s]) (bytes:=16) siT rfT soT;simp only[go_sem,↓aB,seval,e22,f20,f6,jlt,fh,aI,hcf,bne_self_eq_false];have ny:=Gx (H++[.box (x0.ver+1) [.str it.name,.sl Po (it.blocks.map aE),.sl Po (it.facts.map aI),.sl Po (it.ask.map gR)],.box (y1.ver+1) [vi f.kind,vi f.block,vi f.a,vi f.b],y2,x3]) Pa (by rw[bX];rfl);rw[eS]at ny;simp only[aN]at ny;simp only[go_sem,↓aB,seval,ny,gn,e22];exact⟨jlt,_,_,rfl,by rw[htj];exact hS'⟩
     have:j=it.facts.length:=by simp at e4;omega
     subst this;rw[DM]at hS;simp only[go_sem,seval];exact⟨y1,y2,rfl,hS⟩
    rintro ρ3 H3 wr3 ⟨rfl,y1,y2,rfl,hS⟩ cq;have k4:ρ3 4=ρ1 4:=cq 4 rfl;have k15:ρ3 15=vi (k:Nat):=(cq 15 rfl).trans e15;have hSl:(it.facts.map (V it)).length<=16:=soT;generalize it.facts.map (V it)=S at *;obtain⟨fl,l,o',D1⟩:=aNo hS (aC bO S);obtain⟨S7,C3,yd⟩:=D1 (H++[.box (x0.ver+1) [.str it.name,.sl Po (it.blocks.map aE),.sl Po (it.facts.map aI),.sl Po (it.ask.map gR)],y1,y2,x3]) (by rw[bX];rfl);rw[eS]at C3;have yd:=λwr=>yd H.length wr omT;obtain⟨v',o2,Ms,Gx⟩:=hR.app (new:=[[.sl Po (S.map aN)]]) (bytes:=24) siT rfT (by simp[hU];omega);have ny:=Gx (H++[.box (x0.ver+1) [.str it.name,.sl Po (it.blocks.map aE),.sl Po (it.facts.map aI),.sl Po (it.ask.map gR)],y1,o',x3]) Pa (by rw[bX];rfl);rw[eS]at ny;simp only[go_sem,↓aB,seval,S7,C3,yd,k4,k15,dy,ny];refine⟨hlt,_,_,_,_,rfl, ?_⟩;have:hU (R++[S])=hU R++[[.sl Po (S.map aN)]]:=by unfold hU;rw[DQ];rfl
    rw[pk,this];exact Ms
   have:k=x.items.length:=by simp at e3;omega
   subst this;rw[DM]at hR;simp only[go_sem,seval];exact⟨x0,x1,x2,x3,rfl,hR⟩
  rintro ρ' H' ba ⟨rfl,x0,x1,x2,x3,rfl,hR⟩ hf;generalize bCF V x=R at *;obtain⟨fl,l,o',D1⟩:=aNo hR (aHh R);obtain⟨S7,C3,yd⟩:=D1 (H++[x0,x1,x2,x3]) (by rw[bX];rfl);rw[eS]at C3;have yd:=λwr=>yd H.length wr omT;simp only[go_sem,↓aB,seval,S7,C3,yd];have hu:(AV.tup [AV.sl Po (hU R),AV.int .i64 0]).under H.length=true:=by have:=aA (n:=H.length) (aHh R);simp[AV.under,dJ,this]
  rw[qQ hu,GU];exact⟨rfl,rfl,rfl⟩)
 exact e1
end
structure fy where
 text:Str
 wh:Int
 cells:LN
abbrev bNc(c:Nat):LA:=[.int .u8 c]
abbrev gZ(l:LN):List LA:=l.map bNc
abbrev bIx(r:fy):LA:=[.str r.text,vi r.wh,.sl Po (gZ r.cells)]
structure my where
 l0:List fy
 l1:List fy
 dig:LN
 cap:LN
 num:LN
 fin:LN
 sw:LN
abbrev bIB(t:my):LA:=[.sl Po (t.l0.map bIx),.sl Po (t.l1.map bIx),.sl Po (gZ t.dig),.sl Po (gZ t.cap),.sl Po (gZ t.num),.sl Po (gZ t.fin),.sl Po (gZ t.sw)]
abbrev bJF(t:my):AV:=.agg (bIB t)
abbrev bLF(c:Nat):Prop:=1<=c/\c<=63
structure Wt(l:LN):Prop where
 pos:l≠[]
 len:l.length<=4
 cell:∀c∈l,bLF c
structure Zr(s:Str)(wh:Int):Prop where
 pos:s≠[]
 len:s.length<=8
 ok:(∀c∈s,97<=c.toNat/\c.toNat<=122)∨(∃c:UInt8,s=[c]/\wh=0/\32<=c.toNat/\c.toNat<=63/\(c.toNat<48∨57<c.toNat))
structure M0(r:fy):Prop where
 text:Zr r.text r.wh
 wh0:0<=r.wh
 wh1:r.wh<=3
 ind:Wt r.cells
abbrev bIM(r:fy):Str×Int:=(r.text,r.wh)
structure X8(l:List fy):Prop where
 len:l.length<=90
 X6:∀r∈l,M0 r
 nodup:(l.map bIM).Nodup
 has:∀c:UInt8,97<=c.toNat->c.toNat<=122->([c],(0:Int))∈l.map bIM
structure yr(t:my):Prop where
 l0:X8 t.l0
 l1:X8 t.l1
 digL:t.dig.length=10
 dig:∀c∈t.dig,bLF c
 cap:Wt t.cap
 num:Wt t.num
 fin:Wt t.fin
 sw:Wt t.sw
def bIy(l:LN):gG (gZ l)=true:=aGl λv hv=>by
 obtain⟨c,_,rfl⟩:=DB.1 hv;rfl
def bOk(r:fy):iX (bIx r)=true:=by simp only[bLb,bMN,bQ8,bMM,bOL,bIy,aVU,aVS,aXv,vi,Hg]
def bLd(l:List fy):gG (l.map bIx)=true:=aGl λv hv=>by
 obtain⟨c,_,rfl⟩:=DB.1 hv;exact bOk c
def bKk:List fy->List fy->List fy
 |out,[]=>out
 |out,r::l=>bKk (if (out.map bIM).contains (bIM r)then out else out++[r]) l
def bQ9(out l:List fy)(r:fy):bKk out (l++[r])=(let o:=bKk out l;if (o.map bIM).contains (bIM r)then o else o++[r]):=by
 induction l generalizing out with
 |nil=>rfl
 |cons a l ih=>simp only[DO,bKk];exact ih _
def bOl(out l:List fy):(bKk out l).length<=out.length+l.length:=by
 induction l generalizing out with
 |nil=>simp[bKk]
 |cons a l ih=>refine HX (ih _) ?_;split<;>simp<;>omega
def bQa{out l:List fy}:∀r∈bKk out l,r∈out∨r∈l:=by
 induction l generalizing out with
 |nil=>intro r h;exact .inl h
 |cons a l ih=>
  intro r h;rcases ih r h with h|h
  .split at h
   .exact .inl h
   rcases AY.1 h with h|h
   .exact .inl h
   simp at h;subst h;exact .inr siT
  exact .inr uXi
def bOm{out l:List fy}{k:Str×Int}(h:k∈out.map bIM∨k∈l.map bIM):k∈(bKk out l).map bIM:=by
 induction l generalizing out with
 |nil=>rcases h with h|h;exact h;simp at h
 |cons a l ih=>
  refine ih ?_;by_cases hc:(out.map bIM).contains (bIM a)=Pa
  .rw[Vx hc];rcases h with h|h
   .exact .inl h
   rw[BI,BD]at h;rcases h with rfl|h
   .exact .inl uWu
   exact .inr h
  rw[Vw hc];rcases h with h|h
  .exact .inl (by rw[DQ];exact AY.2 (.inl h))
  rw[BI,BD]at h;rcases h with rfl|h
  .exact .inl siT
  exact .inr h
def bON{out l:List fy}(h:(out.map bIM).Nodup):((bKk out l).map bIM).Nodup:=by
 induction l generalizing out with
 |nil=>exact h
 |cons a l ih=>
  refine ih ?_;by_cases hc:(out.map bIM).contains (bIM a)=Pa
  .rw[Vx hc];exact h
  rw[Vw hc,DQ,NO];refine⟨h,siT,λx hx y hy=>?_⟩;simp at hy;subst hy;rintro rfl;exact hc uWn
def bNT n:eA (AR.wrap n):=by rw[PW];constructor<;>omega
def bS6{n:Int}(hn:eA n){d:Nat}(hd:2<=d):eA (n.tdiv d)/\AR.wrap (n.tdiv d)=n.tdiv d:=by
 have h:(n.tdiv d).natAbs=n.natAbs / d:=by rw[Int.natAbs_tdiv];rfl
 have h2:n.natAbs / d<=n.natAbs / 2:=Nat.div_le_div_left hd omT;have:eA (n.tdiv d):=⟨omT,omT⟩;exact⟨this,wrap_i64 this.1 this.2⟩
def bKl:=(.mk _:bb 22 bTx).x
abbrev bNq(A:af):Prop:=∀(n:Int),eA n->∀(k:Nat),k<=1000->∀H:LO,∃c:Nat,bLF c/\aG A 22 [vi n,vi k] H=N1 (.int .u8 c,H,[])
def bQb{A:af}(h:Has A 22 bKl)(ha:qK A):bNq A:=by
 intro n hn k hk H;obtain⟨B8,h10'⟩:=kV hn (m:=10) deT;obtain⟨hd,F3⟩:=bS6 hn (d:=10) deT;simp only[Am]at hd F3;obtain⟨Za,h63'⟩:=kV hd (m:=63) deT;obtain⟨s,lq,nu,hs⟩:∃s:Nat,1<=s/\s<=17/\([[vi 1],[vi 2],[vi 4],[vi 5],[vi 8],[vi 10],[vi 11],[vi 13],[vi 16],[vi 17]]:List LA)[(bu n 10).toNat]? = N1 [vi s]:=by
  have hq:(bu n 10).toNat<10:=omT;generalize (bu n 10).toNat=q at hq
  match q,hq with
  |0,_=>exact⟨1,deT,deT,rfl⟩
  |1,_=>exact⟨2,deT,deT,rfl⟩
  |2,_=>exact⟨4,deT,deT,rfl⟩
  |3,_=>exact⟨5,deT,deT,rfl⟩
  |4,_=>exact⟨8,deT,deT,rfl⟩
  |5,_=>exact⟨10,deT,deT,rfl⟩
  |6,_=>exact⟨11,deT,deT,rfl⟩
  |7,_=>exact⟨13,deT,deT,rfl⟩
  |8,_=>exact⟨16,deT,deT,rfl⟩
  |9,_=>exact⟨17,deT,deT,rfl⟩
 have E7:=JL hk nu;have hks2:(k*s)=((k*s:Nat):Int):=siT;have dy:AR.wrap (k*s)=((k*s:Nat):Int):=by rw[hks2,wrap_i64 omT omT]
 generalize k*s=p at *;have gn:AR.wrap (p+bu (n.tdiv 10) 63)=p+bu (n.tdiv 10) 63:=wrap_i64 omT omT;have hm0:0<=(p+bu (n.tdiv 10) 63).tmod 63:=HV _ omT;have V9:(p+bu (n.tdiv 10) 63).tmod 63<63:=GX _ omT;generalize hmm:(p+bu (n.tdiv 10) 63).tmod 63=m at *;have pr:AR.wrap (1+m)=1+m:=wrap_i64 omT omT;have hw4:KD.wrap (1+m)=((1+m).toNat:Int):=by rw[aQh omT omT];omega
 refine⟨(1+m).toNat,⟨omT,omT⟩, ?_⟩;refine h.call ?_;simp only[bKl];simp only[go_sem,↓aB,seval,ha n,ha (n.tdiv 10),B8,hs,aAl (b:=10) deT,tS (b:=63) deT,F3,dy,gn,hmm,pr,hw4,pT,vi]
def bQc:Nat->LN->Nat
 |0,_=>0
 |_+1,[]=>0
 |n+1,x::l=>if x=0 then 0 else bQc n l+1
def bNu(c:LN)(i:Nat):Nat:=i+bQc 40 (c.drop i)
def bQd:∀n l,bQc n l<=n/\bQc n l<=l.length
 |0,_=>⟨AQ _,FF _⟩
 |_+1,[]=>⟨FF _,AQ _⟩
 |n+1,x::l=>by
  have:=bQd n l;unfold bQc;split
  .simp
  simp;omega
def bQe:∀n (l:LN) k,k<=n->(∀j<k,∃x,l[j]? = N1 x/\x≠0)->(k=n∨l.length<=k∨l[k]? = N1 0)->bQc n l=k
 |0,_,k,hk,_,_=>by unfold bQc;omega
 |n+1,[],k,hk,h,_=>by
  match k,h with
  |0,_=>rfl
  |k+1,h=>obtain⟨x,e,_⟩:=h 0 omT;cases e
 |n+1,x::l,0,hk,h,hx=>by
  unfold bQc;rcases hx with h|h|h
  .omega
  .simp at h
  simp at h;rw[Vx h]
 |n+1,x::l,k+1,hk,h,hx=>by
  unfold bQc;obtain⟨y,e,hy⟩:=h 0 omT;simp at e;subst e;rw[Vw hy,bQe n l k omT (λj hj=>by simpa using h (j+1) omT) (by
   rcases hx with h|h|h
   .exact .inl omT
   .exact .inr (.inl uWg)
   exact .inr (.inr uWg))]
def bS7{c:LN}{i e:Nat}(h0:i<=e)(h1:e<=i+40)(h:∀j,i<=j->j<e->∃x,c[j]? = N1 x/\x≠0)(hx:e=i+40∨c.length<=e∨c[e]? = N1 0):bNu c i=e:=by
 unfold bNu;rw[bQe 40 (c.drop i) (e - i) omT (λj hj=>by rw[DF];exact h (i+j) omT omT) (by
  rw[DF,NS,Nat.add_sub_cancel' h0];rcases hx with h|h|h
  .exact .inl omT
  .exact .inr (.inl omT)
  exact .inr (.inr h))]
 omega
def bMu{c:LN}{i x:Nat}(h:c[i]? = N1 x)(hx:x≠0):i<bNu c i/\bNu c i<=i+40/\bNu c i<=c.length:=by have hi:=(AH.1 h).1;have h2:=bQd 40 (c.drop i);rw[NS]at h2;unfold bNu;refine⟨?_,omT,omT⟩;rw[FD hi];have:c[i]=x:=(AH.1 h).2;unfold bQc;rw[this,Vw hx];omega
def pcs(c:LN):Nat->Nat->List (Nat×Nat)
 |0,_=>[]
 |f+1,i=>match c[i]? with
  |none=>[]
  |some x=>if x=0 then pcs c f (i+1)else (i,bNu c i)::pcs c f (bNu c i)
def bML(c:LN)(i:Nat):List (Nat×Nat):=pcs c (c.length - i) i
def bKZ(c:LN):∀f i,c.length - i<=f->pcs c f i=bML c i
 |0,i,h=>by unfold bML;rw[show c.length - i=0 by omega]
 |f+1,i,h=>by
  cases e:c[i]? with
  |none=>have:=List.getElem?_eq_none_iff.1 e;unfold bML;rw[show c.length - i=0 by omega];simp only[pcs,e]
  |some x=>
   have hi:=(AH.1 e).1;unfold bML;rw[show c.length - i=(c.length - i - 1)+1 by omega];simp only[pcs,e];split
   .rw[bKZ c f (i+1) omT,bKZ c (c.length - i - 1) (i+1) omT]
   rename_i hx;have:=bMu e hx;rw[bKZ c f _ omT,bKZ c (c.length - i - 1) _ omT]
def bPf{c:LN}{i:Nat}(h:c.length<=i):bML c i=[]:=by unfold bML;rw[show c.length - i=0 by omega];rfl
def bOn{c:LN}{i:Nat}(h:c[i]? = N1 0):bML c i=bML c (i+1):=by rw[<- bKZ c (c.length - i+1) i omT];simp only[pcs,h,Vu];exact bKZ c _ _ omT
def bPg{c:LN}{i x:Nat}(h:c[i]? = N1 x)(hx:x≠0):bML c i=(i,bNu c i)::bML c (bNu c i):=by have:=bMu h hx;rw[<- bKZ c (c.length - i+1) i omT];simp only[pcs,h,Vw hx];rw[bKZ c _ _ omT]
def bII(l:LN)(p:Nat×Nat):LN:=match l.getLast? with
 |none=>[p.1]
 |some z=>if p.2>z+40 then l++[p.1] else l
def bJ3(c:LN):List (Nat×Nat):=bML c 0
def bIE(c:LN):LN:=(bJ3 c).foldl bII []
def bO4(c:LN):∀f i,(pcs c f i).length<=f
 |0,_=>AQ _
 |f+1,i=>by
  have h1:=bO4 c f (i+1);have h2:=bO4 c f (bNu c i);unfold pcs;split
  .simp
  split
  .omega
  simp;omega
def bO5(c:LN):∀f i,∀p∈pcs c f i,p.1<c.length/\p.2<=c.length
 |0,_,p,h=>by cases h
 |f+1,i,p,h=>by
  unfold pcs at h;split at h
  .cases h
  rename_i x e;split at h
  .exact bO5 c f _ p h
  rename_i hx;rcases BD.1 h with rfl|h
  .exact⟨(AH.1 e).1,(bMu e hx).2.2⟩
  exact bO5 c f _ p h
def bNd(l:LN)(p:Nat×Nat):(bII l p).length<=l.length+1:=by
 unfold bII;split
 .simp
 split<;>simp
def bO6:∀(P:List (Nat×Nat))(l:LN),(P.foldl bII l).length<=l.length+P.length
 | [],l=>AQ _
 |p::P,l=>by
  have h1:=bO6 P (bII l p);have h2:=bNd l p;simp only[OE,AW];omega
def bOo(c:LN):(bIE c).length<=c.length:=by have h1:=bO6 (bJ3 c) [];have h2:=bO4 c (c.length - 0) 0;unfold bIE;simp only[AZ]at h1;unfold bJ3 bML at h1 ⊢;omega
def bLG{l:LN}{p:Nat×Nat}{s:Nat}(h:s∈bII l p):s∈l∨s=p.1:=by
 unfold bII at h;split at h
 .exact .inr uWg
 split at h
 .simpa using h
 exact .inl h
def bO7:∀(P:List (Nat×Nat))(l:LN) s,s∈P.foldl bII l->s∈l∨∃p∈P,s=p.1
 | [],l,s,h=>.inl h
 |p::P,l,s,h=>by
  rcases bO7 P _ s h with h | ⟨q,hq,e⟩
  .rcases bLG h with h|h
   .exact .inl h
   exact .inr ⟨p,siT,h⟩
  exact .inr ⟨q,by simp[hq],e⟩
def bO8{c:LN}{s:Nat}(h:s∈bIE c):s<c.length:=by
 rcases bO7 _ _ _ h with h | ⟨p,hp,rfl⟩
 .cases h
 exact (bO5 c _ _ p hp).1
def bQf{l:LN}{p:Nat×Nat}{s:Nat}(h:s∈l):s∈bII l p:=by
 unfold bII;split
 .rename_i e;rw[List.getLast?_eq_none_iff.1 e]at h;cases h
 split
 .simp[h]
 exact h
def bOp:∀(P:List (Nat×Nat)){l:LN}{s:Nat},s∈l->s∈P.foldl bII l
 | [],_,_,h=>h
 |p::P,_,_,h=>bOp P (bQf h)
def bN7(c:LN):∀f i (l:LN),(∀s∈l,s<=i)->∀p∈pcs c f i,∃s∈(pcs c f i).foldl bII l,s<=p.1/\p.2<=s+40
 |0,_,_,_,p,h=>by cases h
 |f+1,i,l,hl,p,h=>by
  unfold pcs at h ⊢;split at h
  .cases h
  rename_i x e;split at h
  .rename_i hx;simp only[Vx hx];exact bN7 c f (i+1) l (λs hs=>Nat.le_succ_of_le (hl s hs)) p h
  rename_i hx;have hb:=bMu e hx;simp only[Vw hx,OE];rcases BD.1 h with rfl|h
  .have:∃s∈bII l (i,bNu c i),s<=i/\bNu c i<=s+40:=by
    unfold bII;split
    .exact⟨i,siT,omT,hb.2.1⟩
    rename_i z hz;split
    .exact⟨i,siT,omT,hb.2.1⟩
    rename_i hc;exact⟨z,Al hz,hl z (Al hz),Nat.le_of_not_lt hc⟩
   obtain⟨s,hs,h2⟩:=this;exact⟨s,bOp _ hs,h2⟩
  refine bN7 c f _ _ (λs hs=>?_) p h;rcases bLG hs with hs|hs
  .have:=hl s hs;omega
  subst hs;omega
def bNv(c:LN):∀f i,c.length - i<=f->∀j x,i<=j->c[j]? = N1 x->x≠0->∃p∈pcs c f i,p.1<=j/\j<p.2
 |0,i,hf,j,x,Y4,hj,hx=>by
  have:=(AH.1 hj).1;omega
 |f+1,i,hf,j,x,Y4,hj,hx=>by
  have mo:=(AH.1 hj).1;unfold pcs;have e:=AP (show i<c.length by omega);rw[e];simp only;split
  .rename_i hy;have:i≠j:=λh=>by
    subst h;rw[hj]at e;cases e;exact hx hy
   exact bNv c f (i+1) omT j x omT hj hx
  rename_i hy;have hb:=bMu e hy;by_cases hlt:j<bNu c i
  .exact⟨(i,bNu c i),HD,Y4,hlt⟩
  obtain⟨p,hp,h⟩:=bNv c f (bNu c i) omT j x omT hj hx;exact⟨p,BZ _ hp,h⟩
def bOO{c:LN}{j x:Nat}(hj:c[j]? = N1 x)(hx:x≠0):∃s∈bIE c,s<=j/\j<s+40:=by obtain⟨p,hp,h1,h2⟩:=bNv c _ 0 (AQ _) j x (FF _) hj hx;obtain⟨s,hs,h3,h4⟩:=bN7 c _ 0 [] siT p hp;exact⟨s,hs,omT,omT⟩
def bKm(n:Nat)(a k:Int):Int:=max 0 (min (a+k) ((n:Int) - 1))
def bL8(n:Nat)(ks:List Int):Int:=ks.foldl (bKm n) 0
def bOP n(hn:0<n):∀i:Nat,bL8 n (AX i 1)=min (i:Int) (n - 1)
 |0=>by show 0=_;omega
 |i+1=>by
  have h:=bOP n hn i;unfold bL8 at h ⊢;rw[List.replicate_succ',Ex,h];simp only[OE,Be,bKm];omega
def bS8 n(hn:0<n) i (hi:i<n):bL8 n (AX i 1++[1,-1])=min (i:Int) (max 0 (n - 2)):=by have h:=bOP n hn i;unfold bL8 at h ⊢;rw[Ex,h];simp only[OE,Be,bKm];omega
def bMO n:∀ks:List Int,0<=bL8 n ks/\bL8 n ks<=n/\(0<n->bL8 n ks<n):=by
 suffices h:∀(ks:List Int)(a:Int),0<=a/\a<=n/\(0<n->a<n)->0<=ks.foldl (bKm n) a/\ks.foldl (bKm n) a<=n/\(0<n->ks.foldl (bKm n) a<n)from λks=>h ks 0 ⟨omT,omT,λh=>omT⟩
 intro ks
 induction ks with
 |nil=>exact λa h=>h
 |cons k r ih=>intro a h;refine ih _ ⟨?_, ?_,λhn=>?_⟩<;>unfold bKm<;>omega
def bJ8(c:LN)(s:Nat):LN:=(c.drop s).take 40++AX (40 - (c.length - s)) 0
def bIN(c:LN) s:(bJ8 c s).length=40:=by unfold bJ8;simp;omega
def bMv{c:LN}{s i:Nat}(hi:i<40):(bJ8 c s)[i]? = N1 (c[s+i]?.getD 0):=by
 unfold bJ8;by_cases h:s+i<c.length
 .rw[List.getElem?_append_left soT,List.getElem?_take_of_lt hi,DF,AP h];rfl
 rw[List.getElem?_append_right soT,List.getElem?_replicate,Vx soT,List.getElem?_eq_none omT];rfl
abbrev bJc:=bTw 24 (bJ6 150091)
abbrev bJd:LN:=[]
abbrev bMw:=bTw 24 (bIF 19019 [(9,.region Pa bJc)])
abbrev bMx:=bTw 24 (bIF 75 [(297,bMw)])
def bJy:=(.mk _:bb 24 (bIC [(75,bMx)])).x
def bSH(a b:fy):(a.text != b.text || a.wh != b.wh) = !(bIM a==bIM b):=by have:(bIM a==bIM b)=(a.text==b.text&&a.wh==b.wh):=rfl;rw[this];cases h1:a.text==b.text<;>cases h2:a.wh==b.wh<;>simp[bne,h1,h2]
def bQg{A:af}(h:Has A 24 bJy)(l:List fy)(bl:l≠[])(hl:l.length<=90)(H:LO):aG A 24 [.sl Po (l.map bIx)] H=N1 (.own 3 ((bKk [] l).map bIx),H,[]):=by
 obtain⟨r,H',ba,e1,rfl,rfl,rfl⟩:=h.bp (args:=[.sl Po (l.map bIx)]) (H:=H) (K:=λr H' wr=>wr=[]/\H'=H/\r=.own 3 ((bKk [] l).map bIx)) (by
  simp only[bJy];simp only[go_sem,↓aB,seval];refine bJ (id:=0) (λk ρ1 H1 wr=>wr=[]/\ρ1 4=vi (k:Nat)/\∃x0,H1=H++[x0]/\ew H.length 3 ((bKk [] (l.take k)).map bIx) (ρ1 3) x0) l.length
   (λρ1 H1 wr=>wr=[]/\∃x0,H1=H++[x0]/\ew H.length 3 ((bKk [] l).map bIx) (ρ1 3) x0) bIv rfl ⟨rfl,rfl,_,rfl,.nil _⟩ ?_ ?_
  .rintro k ρ1 H1 dc zp ⟨rfl,e4,x0,rfl,hR⟩ hf;have f0:ρ1 0=.sl Po (l.map bIx):=hf 0 rfl;simp only[go_sem,↓aB,seval,e4,f0];refine aD (λe3=>?_) (λe3=>?_)
   .have hlt:k<l.length:=by simp at e3;omega
    have dy:=wS (i:=k) omT;have cj:=mgE bIx hlt;have pk:bKk [] (l.take (k+1))=(let o:=bKk [] (l.take k);if (o.map bIM).contains (bIM l[k])then o else o++[l[k]]):=by rw[EW hlt,bQ9]
    have K1:(bKk [] (l.take k)).length<=90:=by have:=bOl [] (l.take k);simp at this;omega
    generalize bKk [] (l.take k)=R at *;generalize l[k]=r at *;dsimp only at pk;have ax:=hR.len;have Ht:=hR.ak;simp only[go_sem,↓aB,seval];refine bJ (id:=2) (λj ρ2 H2 wr=>wr=[]/\ρ2 6=vi (j:Nat)/\H2=H++[x0]/\ρ2 5=.bool (!((R.take j).map bIM).contains (bIM r))) R.length
     (λρ2 H2 wr=>wr=[]/\H2=H++[x0]/\ρ2 5=.bool (!(R.map bIM).contains (bIM r))) bIv rfl ⟨rfl,rfl,rfl,rfl⟩ ?_ ?_
    .rintro j ρ2 H2 en mo ⟨rfl,e6,rfl,e5⟩ cq;have g0:ρ2 0=.sl Po (l.map bIx):=(cq 0 rfl).trans f0;have g3:ρ2 3=ρ1 3:=cq 3 rfl;have g4:ρ2 4=vi (k:Nat):=(cq 4 rfl).trans e4;simp only[go_sem,↓aB,seval,e6,g3,ax];refine aD (λe7=>?_) (λe7=>?_)
     .have jlt:j<R.length:=by simp at e7;omega
      have gn:=wS (i:=j) omT;have fh:=mgE bIx jlt;have htj:((R.take (j+1)).map bIM).contains (bIM r)=(((R.take j).map bIM).contains (bIM r) || (bIM r==bIM R[j])):=by rw[EW jlt,DQ,As,List.any_append,<- As];simp
      obtain⟨ver,hv,rfl⟩:=hR.inv (by intro e;rw[Ax]at e;subst e;simp at jlt);generalize R[j]=q at *;have hk:=bSH q r;simp only[go_sem,seval];refine aY (aq:=bJd) rfT rfT ?_;cases hb:((R.take j).map bIM).contains (bIM r)with
      |true=>simp only[go_sem,↓aB,seval,bJd,bJc,e5,e6,hb,gn];rw[htj,hb];exact⟨jlt,rfl⟩
      |false=>
       have Lh:(bIM r==bIM q) = !(q.text != r.text || q.wh != r.wh):=by
        rw[hk];cases h1:bIM q==bIM r with
        |true=>simp at h1;simp[h1]
        |false=>simp only[beq_eq_false_iff_ne]at h1 ⊢;simpa using Ne.symm h1
       cases ht:(q.text != r.text)with
       |true=>rw[ht]at Lh;simp only[go_sem,↓aB,seval,bJd,bJc,e5,e6,hb,ht,g0,g3,g4,hv,fh,cj,jlt,gn];rw[htj,hb,Lh];rfl
       |false=>rw[ht]at Lh;simp only[go_sem,↓aB,seval,bJd,bJc,e5,e6,hb,ht,g0,g3,g4,hv,fh,cj,jlt,gn];rw[htj,hb,Lh];simp
     have:j=R.length:=by simp at e7;omega
     subst this;rw[DM]at e5;simp only[go_sem,seval];exact e5
    rintro ρ3 H3 wr3 ⟨rfl,rfl,e5⟩ cq;have g0:ρ3 0=.sl Po (l.map bIx):=(cq 0 rfl).trans f0;have g3:ρ3 3=ρ1 3:=cq 3 rfl;have g4:ρ3 4=vi (k:Nat):=(cq 4 rfl).trans e4;cases hb:(R.map bIM).contains (bIM r)with
    |true=>rw[hb]at pk;simp only[go_sem,↓aB,seval,e5,hb,g4,dy];exact⟨hlt,x0,rfl,by rw[pk,g3];exact hR⟩
    |false=>rw[hb]at pk;obtain⟨v',o',Ms,Gx⟩:=hR.app (new:=[bIx r]) (bytes:=48) siT rfT soT;have ny:=Gx (H++[x0]) Pa siT;rw[show (H++[x0]).set H.length o'=H++[o'] by simp]at ny;simp only[go_sem,↓aB,seval,e5,hb,g0,g3,g4,cj,hlt,ny,dy];exact⟨o',rfl,by rw[pk,Vw siT,DQ];exact Ms⟩
   have:k=l.length:=by simp at e3;omega
   subst this;rw[DM]at hR;simp only[go_sem,seval];exact⟨x0,rfl,hR⟩
  rintro ρ' H' ba ⟨rfl,x0,rfl,hR⟩ hf;have hRne:bKk [] l≠[]:=by
   intro e;cases l with
   |nil=>exact bl rfl
   |cons a l=>have:=bOm (out:=[]) (l:=a::l) (k:=bIM a) (.inr siT);rw[e]at this;simp at this
  generalize bKk [] l=R at *;obtain⟨ver,hv,rfl⟩:=hR.inv (by intro e;rw[Ax]at e;exact hRne e);have bd:=aT (bLd R);have hlt:H.length<(H++[ah.vec ver 3 (R.map bIx)]).length:=siT;simp only[go_sem,↓aB,seval,hv,aDR,bd];have hu:(AV.own 3 (R.map bIx)).under H.length=true:=aA (bLd R);rw[qQ hu,GU];exact⟨rfl,rfl,rfl⟩)
 exact e1
abbrev bJW:=bTw 6 (bJ6 150091)
abbrev bJX:LN:=[3,5,12]
abbrev bLH:=bTw 6 (bIF 19019 [(9,.region Pa bJW)])
abbrev bJY:=bTw 6 (bJ6 601675)
abbrev bJZ:LN:=[]
abbrev bLI:=bTw 6 (bIF 77387 [(9,.region Pa bJY)])
abbrev bK0:=bTw 6 (bJ6 21593675)
abbrev bK1:LN:=[3,10,15,18]
abbrev bK2:=bTw 6 (bIF 622155 [(41,.region Pa bK0)])
abbrev bLJ:LN:=[67,68,69,72,73,74,75,76,77,78,79,12,80,81,82,83,84,85,86,87,88,89,90,91,92,93,94,95,96,97,13,98,99,100,101,102,103,104,105,106,107,108,109,110,111,112,113,114,115,116,117,118,119,120,121,122,123,124,125,126,127,128,129,130,131,132,133,134,135,136,5,70,71,11]
abbrev bLK:=bTw 6 (bIF 75 [(297,bLH),(1209,bLI),(9721,bK2)])
abbrev bK3:=bTw 6 (bJ6 1175)
abbrev bK4:LN:=[1,4]
abbrev bK5:=bTw 6 (bIF 151 [(9,.region Pa bK3)])
abbrev bLL:LN:=[143,144,147,148,149,150,151,152,153,154,145,146,14]
def bJO:=(.mk _:bb 6 (bIC [(75,bLK),(151,bK5)])).x
structure Yn(l:List fy):Prop where
 X6:∀r∈l,M0 r
def Yn.app{l:List fy}(h:Yn l){r:fy}(hr:M0 r):Yn (l++[r]):=⟨λx hx=>by
 rcases AY.1 hx with hx|hx
 .exact h.X6 x hx
 simp at hx;subst hx;exact hr⟩
abbrev bNU:List Str:=[[116,104],[101,114],[116,104,101],[105,110,103],[97,110,100],[97,110],[115,116],[105,110],[111,117],[116,105,111,110],[98,101],[98,117,116]]
def bRk{s:Str}(h:s∈bNU) wh:Zr s wh:=by have:s≠[]/\s.length<=8/\∀c∈s,97<=c.toNat/\c.toNat<=122:=(by decide:∀s∈bNU,s≠[]/\s.length<=8/\∀c∈s,97<=c.toNat/\c.toNat<=122) s h;exact⟨this.1,this.2.1,.inl this.2.2⟩
def bMy{c:Nat}(h:bLF c):Wt [c]:=⟨siT,siT,λx hx=>by simp at hx;subst hx;exact h⟩
def bRl{c d:Nat}(h:bLF c)(h2:bLF d):Wt [c,d]:=⟨siT,siT,λx hx=>by
 simp at hx;rcases hx with rfl|rfl
 .exact h
 exact h2⟩
section
variable {A:af}{H:LO}
abbrev bTd(i c:Nat):fy:=⟨[CN (97+i)],0,[c]⟩
structure Yo(l:List fy)(k:Nat):Prop where
 raw:Yn l
 len:l.length=k
 has:∀i,i<k->([CN (97+i)],(0:Int))∈l.map bIM
def bSI{i:Nat}(h:i<26):(CN (97+i)).toNat=97+i:=by rw[UInt8.toNat_ofNat'];omega
def bQh{i:Nat}(h:i<26){c:Nat}(hc:bLF c):M0 (bTd i c):=by have h1:=bSI h;refine⟨⟨siT,siT,.inl λx hx=>?_⟩,siT,siT,bMy hc⟩;rw[CG]at hx;subst hx;omega
def Yo.app{l:List fy}{k:Nat}(h:Yo l k)(hk:k<26){c:Nat}(hc:bLF c):Yo (l++[bTd k c]) (k+1):=⟨h.raw.app (bQh hk hc),by simp[h.len],λi hi=>by
  rw[DQ];by_cases e:i=k
  .subst e;simp
  exact AY.2 (.inl (h.has i omT))⟩
structure xr(l:List fy)(n:Nat):Prop where
 raw:Yn l
 len:l.length<=n
 has:∀i,i<26->([CN (97+i)],(0:Int))∈l.map bIM
def xr.app{l:List fy}{n:Nat}(h:xr l n){r:fy}(hr:M0 r):xr (l++[r]) (n+1):=⟨h.raw.app hr,by have:=h.len;simp;omega,λi hi=>by rw[DQ];exact AY.2 (.inl (h.has i hi))⟩
def xr.ne{l:List fy}{n:Nat}(h:xr l n):l≠[]:=by rintro rfl;have:=h.has 0 deT;simp at this
def xr.gg{l:List fy}{n:Nat}(h:xr l n)(hn:n<=90):X8 (bKk [] l) where
 len:=by have:=bOl [] l;have:=h.len;simp at *;omega
 X6:=λr hr=>by
  rcases bQa r hr with h1|h1
  .cases h1
  exact h.raw.X6 r h1
 nodup:=bON siT
 has:=λc h1 h2=>by
  refine bOm (.inr ?_);have:=h.has (c.toNat - 97) omT
  rwa [show CN (97+(c.toNat - 97))=c by rw[show 97+(c.toNat - 97)=c.toNat by omega];simp]at this
def bS9{i:Nat}(h:i<6){c:Nat}(hc:bLF c):M0 ⟨(([32,46,44,63,39,45]:Str).take (i+1)).drop i,0,[c]⟩:=by
 match i,h with
 |0,_=>exact⟨⟨siT,siT,.inr ⟨32,rfl,rfl,deT,deT,deT⟩⟩,siT,siT,bMy hc⟩
 |1,_=>exact⟨⟨siT,siT,.inr ⟨46,rfl,rfl,deT,deT,deT⟩⟩,siT,siT,bMy hc⟩
 |2,_=>exact⟨⟨siT,siT,.inr ⟨44,rfl,rfl,deT,deT,deT⟩⟩,siT,siT,bMy hc⟩
 |3,_=>exact⟨⟨siT,siT,.inr ⟨63,rfl,rfl,deT,deT,deT⟩⟩,siT,siT,bMy hc⟩
 |4,_=>exact⟨⟨siT,siT,.inr ⟨39,rfl,rfl,deT,deT,deT⟩⟩,siT,siT,bMy hc⟩
 |5,_=>exact⟨⟨siT,siT,.inr ⟨45,rfl,rfl,deT,deT,deT⟩⟩,siT,siT,bMy hc⟩
abbrev bNl(v:Nat)(c:Nat->AV)(d:AV):ah:=.box v [c 0,c 1,d,.sl Pa [],.sl Pa [],.sl Pa [],.sl Pa []]
abbrev bN5:ah:=.box 1 [.sl Pa [],.sl Pa [],.sl Pa [],.sl Pa [],.sl Pa [],.sl Pa [],.sl Pa []]
abbrev bTq(H:LO):Ctx:=⟨H.length,[2,3,39,59,13,136,153]⟩
def bQi(hc:bNq A)(ha:qK A){n:Int}(hn:eA n){k M:Nat}(hk:k<2)(hM:M<=8){ρ:bN}{b1 z2 x3 x4 x5:ah}{m:List fy}(r0:ρ 0=vi n)(r4:ρ 4=vi (k:Nat))(r10:ρ 10=vi (M:Nat))(r9:ρ 9=.sl Pa (bNU.map aN))(r11:ρ 11=vi 0)(hR:ew (H.length+2) 3 (m.map bIx) (ρ 5) z2)(hMm:xr m 32){Q t}(hQ:∀ρ' w2 w4 m',aLP bLJ ρ ρ'->ew (H.length+2) 3 (m'.map bIx) (ρ' 5) w2->xr m' 40->Q (.exit 6) ρ' (H++[bN5,b1,w2,x3,w4,x5,.gone 0]) []):wl A 182 (bTq H) bK2 ρ (H++[bN5,b1,z2,x3,x4,x5,.gone 0]) [] Q t:=by
 refine bJ (id:=6) (λj ρ6 H6 wr=>wr=[]/\ρ6 11=vi (j:Nat)/\∃w2 w4 m,H6=H++[bN5,b1,w2,x3,w4,x5,.gone 0]/\ew (H.length+2) 3 (m.map bIx) (ρ6 5) w2/\xr m (32+j)) M
  (λρ6 H6 wr=>wr=[]/\∃w2 w4 m,H6=H++[bN5,b1,w2,x3,w4,x5,.gone 0]/\ew (H.length+2) 3 (m.map bIx) (ρ6 5) w2/\xr m 40)
  bIv rfl ⟨rfl,r11,_,_,m,rfl,hR,hMm⟩ ?_ ?_
 .rintro j ρ6 H6 wr6 mo ⟨rfl,e11,w2,w4,m,rfl,hR6,hM6⟩ Lv;have i0:ρ6 0=vi n:=(Lv 0 rfl).trans r0;have i4:ρ6 4=vi (k:Nat):=(Lv 4 rfl).trans r4;have i10:ρ6 10=vi (M:Nat):=(Lv 10 rfl).trans r10;have i9:ρ6 9=.sl Pa (bNU.map aN):=(Lv 9 rfl).trans r9;simp only[go_sem,↓aB,seval,e11,i10];refine aD (λe9=>?_) (λe9=>?_)
  .have jlt:j<M:=by simp at e9;omega
   have dy:=wS (i:=j) omT;have hw37:AR.wrap (37+(j:Int))=((37+j:Nat):Int):=by rw[wrap_i64 omT omT];omega
   simp only[go_sem,↓aB,seval,e11,i0,i4,aAl (b:=3780) deT,ha];have h12:=kV (bNT (AR.wrap (AR.wrap (n.tdiv 3780)+AR.wrap (5*(j:Int)))+(k:Int))) (m:=12) deT;generalize bu (AR.wrap (AR.wrap (AR.wrap (n.tdiv 3780)+AR.wrap (5*(j:Int)))+(k:Int))) 12=q12 at h12 ⊢;obtain⟨txt,Mm,cx⟩:=aQl bNU h12.1 h12.2;have hwh:=kV (bNT (AR.wrap (n.tdiv 7)+AR.wrap ((j:Int)*(j:Int)))) (m:=6) deT;generalize hwq:bu (AR.wrap (AR.wrap (n.tdiv 7)+AR.wrap ((j:Int)*(j:Int)))) 6=wq at hwh;have od:0<=wq.tmod 4:=HV _ omT;have hw3':wq.tmod 4<4:=GX _ omT;generalize hwt:wq.tmod 4=wt at od hw3';obtain⟨c1,Hk,hcall1⟩:=hc n hn (37+j) omT (H++[bN5,b1,w2,x3,.box (w4.ver+1) [.str [],vi 0,.sl Pa []],x5,.gone 0]);refine aY (aq:=bK1) (H0:=_) (by simp only[go_sem,seval,cS];rfl) rfT ?_;generalize hT:bNU.map aN=T at *;have hTl:T.length=12:=by rw[<- hT];rfl
   simp only[go_sem,↓aB,seval,bK1,bK0,e11,i0,i9,cx,h12.1,aAl (b:=7) deT,tS (b:=4) deT,ha,hwq,hwt,hw37,hcall1,eH,dG,aL];have Rf:=hM6.len;have fin:∀cells:LN,∃v' o',eX (H++[bN5,b1,w2,x3,.box (w4.ver+1) [.str txt,vi wt,.sl Pa (gZ cells)],x5,.gone 0]) (N1 (H.length+5)) 3 48 (ρ6 5) (.sl Pa [[.str txt,vi wt,.sl Po (gZ cells)]]) =
     N1 (v',H++[bN5,b1,o',x3,.box (w4.ver+1) [.str txt,vi wt,.sl Pa (gZ cells)],x5,.gone 0],[H.length+2])/\ew (H.length+2) 3 ((m++[(⟨txt,wt,cells⟩:fy)]).map bIx) v' o':=λcells=>by
    obtain⟨v',o',Ms,Gx⟩:=hR6.app' (by have:=hM6.ne;simpa using this) (new:=[[.str txt,vi wt,.sl Po (gZ cells)]]) (bytes:=48) siT rfT soT;have ny:=Gx (H++[bN5,b1,w2,x3,.box (w4.ver+1) [.str txt,vi wt,.sl Pa (gZ cells)],x5,.gone 0]) Pa (N1 (H.length+5)) (by rw[bX];rfl);rw[eS]at ny;exact⟨v',o',ny,by rw[DQ];exact Ms⟩
   have done:∀cells:LN,Wt cells->xr (m++[(⟨txt,wt,cells⟩:fy)]) (32+(j+1)):=λcells h=>by
    have hr:M0 ⟨txt,wt,cells⟩:=⟨bRk Mm wt,od,by show wt<=3;omega,h⟩;have:=hM6.app hr
    rwa [EU]at this
   obtain⟨c2,Ze,Yp⟩:=hc n hn 36 deT (H++[bN5,b1,w2,x3,.box (w4.ver+1) [.str txt,vi wt,.sl Pa [[.int .u8 c1]]],x5,.gone 0]);simp only[Am]at Yp;have h26:=kV (bNT (AR.wrap (n.tdiv 13)+(j:Int))) (m:=26) deT;generalize hq26:bu (AR.wrap (AR.wrap (n.tdiv 13)+(j:Int))) 26=q26 at h26;obtain⟨q26',rfl⟩:∃x:Nat,q26=(x:Int):=⟨q26.toNat,omT⟩;obtain⟨c3,Zf,hcall3⟩:=hc n hn q26' omT (H++[bN5,b1,w2,x3,.box (w4.ver+1) [.str txt,vi wt,.sl Pa [[.int .u8 c1]]],x5,.gone 0]);have h32a:=kV (bNT (n.tdiv 19)) (m:=32) deT;generalize Zs:bu (AR.wrap (n.tdiv 19)) 32=qa at h32a;obtain⟨qa',rfl⟩:∃x:Nat,qa=(x:Int):=⟨qa.toNat,omT⟩;have h32b:=kV (bNT (n.tdiv 23)) (m:=32) deT;generalize Zt:bu (AR.wrap (n.tdiv 23)) 32=qb at h32b;obtain⟨qb',rfl⟩:∃x:Nat,qb=(x:Int):=⟨qb.toNat,omT⟩;simp only[go_sem,↓aB,seval,e11,aAl (b:=11) deT,ha];refine aD (λt3=>?_) (λt3=>?_)
   .simp only[go_sem,↓aB,seval,i0,e11,Yp,hcall3,ha,hq26,aAl (b:=13) deT,aAl (b:=17) deT];obtain⟨c4,Ya,Xm⟩:=hc n hn qa' omT (H++[bN5,b1,w2,x3,.box (w4.ver+1) [.str txt,vi wt,.sl Pa [[.int .u8 c2],[.int .u8 c3]]],x5,.gone 0]);obtain⟨c5,Yb,Xn⟩:=hc n hn qb' omT (H++[bN5,b1,w2,x3,.box (w4.ver+1) [.str txt,vi wt,.sl Pa [[.int .u8 c2],[.int .u8 c3]]],x5,.gone 0]);refine aD (λt4=>?_) (λt4=>?_)
    .obtain⟨v',o',Gx,Ms⟩:=fin [c4,c5];simp only[gZ,bNc,BI,BY]at Gx;simp only[go_sem,↓aB,seval,i0,e11,Xm,Xn,ha,Zs,Zt,aAl (b:=19) deT,aAl (b:=23) deT,Gx,dy];exact⟨jlt,_,_,_,rfl,Ms,done _ (bRl Ya Yb)⟩
    obtain⟨v',o',Gx,Ms⟩:=fin [c2,c3];simp only[gZ,bNc,BI,BY]at Gx;simp only[go_sem,↓aB,seval,e11,Gx,dy];exact⟨jlt,_,_,_,rfl,Ms,done _ (bRl Ze Zf)⟩
   simp only[go_sem,↓aB,seval,i0,e11,ha,aAl (b:=17) deT];obtain⟨c4,Ya,Xm⟩:=hc n hn qa' omT (H++[bN5,b1,w2,x3,.box (w4.ver+1) [.str txt,vi wt,.sl Pa [[.int .u8 c1]]],x5,.gone 0]);obtain⟨c5,Yb,Xn⟩:=hc n hn qb' omT (H++[bN5,b1,w2,x3,.box (w4.ver+1) [.str txt,vi wt,.sl Pa [[.int .u8 c1]]],x5,.gone 0]);refine aD (λt4=>?_) (λt4=>?_)
   .obtain⟨v',o',Gx,Ms⟩:=fin [c4,c5];simp only[gZ,bNc,BI,BY]at Gx;simp only[go_sem,↓aB,seval,i0,e11,Xm,Xn,ha,Zs,Zt,aAl (b:=19) deT,aAl (b:=23) deT,Gx,dy];exact⟨jlt,_,_,_,rfl,Ms,done _ (bRl Ya Yb)⟩
   obtain⟨v',o',Gx,Ms⟩:=fin [c1];simp only[gZ,bNc,BI,BY]at Gx;simp only[go_sem,↓aB,seval,e11,Gx,dy];exact⟨jlt,_,_,_,rfl,Ms,done _ (bMy Hk)⟩
  have:j=M:=by simp at e9;omega
  subst this;simp only[go_sem,seval];exact⟨w2,w4,m,rfl,hR6,⟨hM6.raw,by have:=hM6.len;omega,hM6.has⟩⟩
 rintro ρ7 H7 wr7 ⟨rfl,w2,w4,m,rfl,hR7,hM7⟩ Yq;exact hQ ρ7 w2 w4 m Yq hR7 hM7
def bOQ(hc:bNq A){n:Int}(hn:eA n){ρ:bN}{x2 x3 x4 x5:ah}{l0 l1:List fy}(r0:ρ 0=vi n)(r3:ρ 3=.ptr (H.length+1) 1 0)(r14:ρ 14=vi 0){Q t}(hQ:∀ρ' w y6 ds,aLP bLL ρ ρ'->ew (H.length+6) 1 (gZ ds) w y6->ds.length=10->(∀c∈ds,bLF c)->Q (.exit 8) ρ' (H++[bN5,.box 1 [.sl Po (l0.map bIx),.sl Po (l1.map bIx),w,.sl Pa [],.sl Pa [],.sl Pa [],.sl Pa []],x2,x3,x4,x5,y6]) []):wl A 182 (bTq H) bK5 ρ (H++[bN5,.box 1 [.sl Po (l0.map bIx),.sl Po (l1.map bIx),.sl Pa [],.sl Pa [],.sl Pa [],.sl Pa [],.sl Pa []],x2,x3,x4,x5,.gone 0]) [] Q t:=by
 refine bJ (id:=8) (λj ρ6 H6 wr=>wr=[]/\ρ6 14=vi (j:Nat)/\∃w y6 ds,H6=H++[bN5,.box 1 [.sl Po (l0.map bIx),.sl Po (l1.map bIx),w,.sl Pa [],.sl Pa [],.sl Pa [],.sl Pa []],x2,x3,x4,x5,y6]/\ew (H.length+6) 1 (gZ ds) w y6/\ds.length=j/\∀c∈ds,bLF c) 10
  (λρ6 H6 wr=>wr=[]/\∃w y6 ds,H6=H++[bN5,.box 1 [.sl Po (l0.map bIx),.sl Po (l1.map bIx),w,.sl Pa [],.sl Pa [],.sl Pa [],.sl Pa []],x2,x3,x4,x5,y6]/\ew (H.length+6) 1 (gZ ds) w y6/\ds.length=10/\∀c∈ds,bLF c)
  bIv rfl ⟨rfl,r14,_,_,[],rfl,.nil _,rfl,siT⟩ ?_ ?_
 .rintro j ρ6 H6 wr6 mo ⟨rfl,e14,w,y6,ds,rfl,hG,Ik,Zg⟩ Lv;have i0:ρ6 0=vi n:=(Lv 0 rfl).trans r0;have i3:ρ6 3=.ptr (H.length+1) 1 0:=(Lv 3 rfl).trans r3;simp only[go_sem,↓aB,seval,e14];refine aD (λe9=>?_) (λe9=>?_)
  .have jlt:j<10:=by simp at e9;omega
   have dy:=wS (i:=j) omT;obtain⟨cc,X7,az⟩:=hc n hn j omT (H++[bN5,.box 1 [.sl Po (l0.map bIx),.sl Po (l1.map bIx),w,.sl Pa [],.sl Pa [],.sl Pa [],.sl Pa []],x2,x3,x4,x5,y6]);obtain⟨v',o',Ms,Gx⟩:=hG.app (new:=[[.int .u8 cc]]) (bytes:=1) siT rfT soT;have ny:=Gx (H++[bN5,.box 1 [.sl Po (l0.map bIx),.sl Po (l1.map bIx),w,.sl Pa [],.sl Pa [],.sl Pa [],.sl Pa []],x2,x3,x4,x5,y6]) Pa (by rw[bX];rfl);rw[eS]at ny;simp only[go_sem,seval];refine aY (aq:=bK4) rfT rfT ?_;simp only[go_sem,↓aB,seval,bK4,bK3,e14,i0,i3,az,ny,Ms.ak,Ms.aj,dy,eH,dG,aL];exact⟨jlt,_,_,ds++[cc],rfl,by show ew _ _ ((ds++[cc]).map bNc) _ _;rw[DQ];exact Ms,by simp[Ik],λc hc=>by
    rcases AY.1 hc with hc|hc
    .exact Zg c hc
    simp at hc;subst hc;exact X7⟩
  have:j=10:=by simp at e9;omega
  subst this;simp only[go_sem,seval];exact⟨w,y6,ds,rfl,hG,Ik,Zg⟩
 rintro ρ7 H7 wr7 ⟨rfl,w,y6,ds,rfl,hG,Ik,Zg⟩ Yq;exact hQ ρ7 w y6 ds Yq hG Ik Zg
def bOR(h:Has A 6 bJO)(hc:bNq A)(ha:qK A)(ho:Has A 24 bJy){n:Int}(hn:eA n)(H:LO):∃t:my,yr t/\aG A 6 [vi n] H=N1 (bJF t,H,[]):=by
 obtain⟨r,H',ba,e1,rfl,rfl,t,ht,rfl⟩:=h.bp (args:=[vi n]) (H:=H) (K:=λr H' wr=>wr=[]/\H'=H/\∃t:my,yr t/\r=bJF t) (by
  simp only[bJO];simp only[go_sem,↓aB,seval];refine bJ (id:=0) (λk ρ1 H1 wr=>wr=[]/\ρ1 4=vi (k:Nat)/\∃x2 x3 x4 x5 c,H1=H++[.box 1 [.sl Pa [],.sl Pa [],.sl Pa [],.sl Pa [],.sl Pa [],.sl Pa [],.sl Pa []],bNl 1 c (.sl Pa []),x2,x3,x4,x5,.gone 0]/\(∀i,k<=i->c i=.sl Pa [])/\∀i,i<k->∃l,X8 l/\c i=.sl Po (l.map bIx)) 2
   (λρ1 H1 wr=>wr=[]/\∃x2 x3 x4 x5 l0 l1,H1=H++[.box 1 [.sl Pa [],.sl Pa [],.sl Pa [],.sl Pa [],.sl Pa [],.sl Pa [],.sl Pa []],.box 1 [.sl Po (l0.map bIx),.sl Po (l1.map bIx),.sl Pa [],.sl Pa [],.sl Pa [],.sl Pa [],.sl Pa []],x2,x3,x4,x5,.gone 0]/\X8 l0/\X8 l1)
   bIv rfl ⟨rfl,rfl,_,_,_,_,λ_=>.sl Pa [],rfl,λ_ _=>rfl,λi hi=>Vv hi omT⟩ ?_ ?_
  .rintro k ρ1 H1 dc zp ⟨rfl,e4,x2,x3,x4,x5,c,rfl,jg,mj⟩ hf;have f0:ρ1 0=vi n:=hf 0 rfl;have f3:ρ1 3=.ptr (H.length+1) 1 0:=hf 3 rfl;simp only[go_sem,↓aB,seval,e4];refine aD (λe3=>?_) (λe3=>?_)
   .have hlt:k<2:=by simp at e3;omega
    have pg:=wS (i:=k) omT;have pr:AR.wrap (3*(k:Int))=((3*k:Nat):Int):=by rw[wrap_i64 omT omT];omega
    simp only[go_sem,↓aB,seval];refine bJ (id:=2) (λj ρ2 H2 wr=>wr=[]/\ρ2 6=vi (j:Nat)/\∃y2 l,H2=H++[.box 1 [.sl Pa [],.sl Pa [],.sl Pa [],.sl Pa [],.sl Pa [],.sl Pa [],.sl Pa []],bNl 1 c (.sl Pa []),y2,x3,x4,x5,.gone 0]/\ew (H.length+2) 3 (l.map bIx) (ρ2 5) y2/\Yo l j) 26
     (λρ2 H2 wr=>wr=[]/\∃y2 l,H2=H++[.box 1 [.sl Pa [],.sl Pa [],.sl Pa [],.sl Pa [],.sl Pa [],.sl Pa [],.sl Pa []],bNl 1 c (.sl Pa []),y2,x3,x4,x5,.gone 0]/\ew (H.length+2) 3 (l.map bIx) (ρ2 5) y2/\Yo l 26)
     bIv rfl ⟨rfl,rfl,_,[],rfl,.nil _,⟨⟨λr hr=>by cases hr⟩,rfl,λi hi=>Vv hi omT⟩⟩ ?_ ?_
    .rintro j ρ2 H2 en mo ⟨rfl,e6,y2,l,rfl,hR,hL⟩ cq;have g0:ρ2 0=vi n:=(cq 0 rfl).trans f0;have g4:ρ2 4=vi (k:Nat):=(cq 4 rfl).trans e4;simp only[go_sem,↓aB,seval,e6];refine aD (λe7=>?_) (λe7=>?_)
     .have jlt:j<26:=by simp at e7;omega
      have dy:=wS (i:=j) omT;have gn:AR.wrap (97+(j:Int))=((97+j:Nat):Int):=by rw[wrap_i64 omT omT];omega
      have hw4:KD.wrap ((97+j:Nat):Int)=((97+j:Nat):Int):=aQh omT omT;have Au:AR.wrap ((j:Int)+((3*k:Nat):Int))=((j+3*k:Nat):Int):=by rw[wrap_i64 omT omT];omega
      have hr:(((j+3*k:Nat):Int)).tmod 26=(((j+3*k) % 26:Nat):Int):=rfl;obtain⟨cc,X7,az⟩:=hc n hn ((j+3*k) % 26) omT (H++[.box 1 [.sl Pa [],.sl Pa [],.sl Pa [],.sl Pa [],.sl Pa [],.sl Pa [],.sl Pa []],bNl 1 c (.sl Pa []),y2,x3,x4,x5,.gone 0]);obtain⟨v',o',Ms,Gx⟩:=hR.app (new:=[[.str [CN (97+j)],.int .i64 0,.sl Po [[.int .u8 cc]]]]) (bytes:=48) siT rfT (by simp[hL.len];omega);have ny:=Gx (H++[.box 1 [.sl Pa [],.sl Pa [],.sl Pa [],.sl Pa [],.sl Pa [],.sl Pa [],.sl Pa []],bNl 1 c (.sl Pa []),y2,x3,x4,x5,.gone 0]) Pa (by rw[bX];rfl);rw[eS]at ny;simp only[go_sem,seval];refine aY (aq:=bJX) rfT rfT ?_;simp only[go_sem,↓aB,seval,bJX,bJW,e6,g0,g4,gn,pr,hw4,Au,hr,tS (b:=26) deT,az,pT,cM,ny,dy,eH,dG,aL];exact⟨jlt,_,l++[bTd j cc],rfl,by rw[DQ];exact Ms,hL.app jlt X7⟩
     have:j=26:=by simp at e7;omega
     subst this;simp only[go_sem,seval];exact⟨y2,l,rfl,hR,hL⟩
    rintro ρ3 H3 wr3 ⟨rfl,y2,l,rfl,hR,hL⟩ cq;have g0:ρ3 0=vi n:=(cq 0 rfl).trans f0;have g4:ρ3 4=vi (k:Nat):=(cq 4 rfl).trans e4;have g3:ρ3 3=.ptr (H.length+1) 1 0:=(cq 3 rfl).trans f3;have hM:xr l 26:=⟨hL.raw,by have:=hL.len;omega,hL.has⟩;simp only[go_sem,↓aB,seval];refine bJ (id:=4) (λj ρ4 H4 wr=>wr=[]/\ρ4 8=vi (j:Nat)/\∃z2 m,H4=H++[.box 1 [.sl Pa [],.sl Pa [],.sl Pa [],.sl Pa [],.sl Pa [],.sl Pa [],.sl Pa []],bNl 1 c (.sl Pa []),z2,x3,x4,x5,.gone 0]/\ew (H.length+2) 3 (m.map bIx) (ρ4 5) z2/\xr m (26+j)) 6
     (λρ4 H4 wr=>wr=[]/\∃z2 m,H4=H++[.box 1 [.sl Pa [],.sl Pa [],.sl Pa [],.sl Pa [],.sl Pa [],.sl Pa [],.sl Pa []],bNl 1 c (.sl Pa []),z2,x3,x4,x5,.gone 0]/\ew (H.length+2) 3 (m.map bIx) (ρ4 5) z2/\xr m 32)
     bIv rfl ⟨rfl,rfl,_,l,rfl,hR,hM⟩ ?_ ?_
    .rintro j ρ4 H4 wr4 mo ⟨rfl,e8,z2,m,rfl,hR4,hM4⟩ I3;have i0:ρ4 0=vi n:=(I3 0 rfl).trans g0;obtain⟨S,hS⟩:∃S:Str,S=[32,46,44,63,39,45]:=⟨_,rfl⟩;have i7:ρ4 7=.str S:=by rw[I3 7 rfT,hS];rfl
     have hSl:S.length=6:=by rw[hS];rfl
     simp only[go_sem,↓aB,seval,e8,i7,hSl];refine aD (λe9=>?_) (λe9=>?_)
     .have jlt:j<6:=by simp at e9;omega
      have dy:=wS (i:=j) omT;have gn:AR.wrap (26+(j:Int))=((26+j:Nat):Int):=by rw[wrap_i64 omT omT];omega
      obtain⟨cc,X7,az⟩:=hc n hn (26+j) omT (H++[.box 1 [.sl Pa [],.sl Pa [],.sl Pa [],.sl Pa [],.sl Pa [],.sl Pa [],.sl Pa []],bNl 1 c (.sl Pa []),z2,x3,x4,x5,.gone 0]);have Rf:=hM4.len;obtain⟨v',o',Ms,Gx⟩:=hR4.app' (by have:=hM4.ne;simpa using this) (new:=[[.str ((S.take (j+1)).drop j),.int .i64 0,.sl Po [[.int .u8 cc]]]]) (bytes:=48) siT rfT soT;have ny:=Gx (H++[.box 1 [.sl Pa [],.sl Pa [],.sl Pa [],.sl Pa [],.sl Pa [],.sl Pa [],.sl Pa []],bNl 1 c (.sl Pa []),z2,x3,x4,x5,.gone 0]) Pa (N1 (H.length+3)) (by rw[bX];rfl);rw[eS]at ny;have hbd:dU 6 (N1 (vi (j:Nat))) (N1 (vi ((j+1:Nat):Int))) N2=N1 (j,j+1,6):=by unfold dU iL vi;dsimp only;rw[Vx ⟨omT,omT⟩];dsimp only;rw[Vx ⟨omT,omT⟩];simp
      simp only[go_sem,seval];refine aY (aq:=bJZ) rfT rfT ?_;simp only[go_sem,↓aB,seval,bJZ,bJY,e8,i0,i7,hSl,dy,gn,hbd,az,ny];exact⟨jlt,_,m++[⟨(S.take (j+1)).drop j,0,[cc]⟩],rfl,by rw[DQ];exact Ms,hM4.app (by rw[hS];exact bS9 jlt X7)⟩
     have:j=6:=by simp at e9;omega
     subst this;simp only[go_sem,seval];exact⟨z2,m,rfl,hR4,hM4⟩
    rintro ρ5 H5 wr5 ⟨rfl,z2,m,rfl,hR5,hM5⟩ Cv;have j0:ρ5 0=vi n:=(Cv 0 rfl).trans g0;have j4:ρ5 4=vi (k:Nat):=(Cv 4 rfl).trans g4;have j3:ρ5 3=.ptr (H.length+1) 1 0:=(Cv 3 rfl).trans g3;have h6:=kV (bNT (AR.wrap (n.tdiv 630)+(k:Int))) (m:=6) deT;generalize hq:bu (AR.wrap (AR.wrap (n.tdiv 630)+(k:Int))) 6=q at h6;have hwm:AR.wrap (3+q)=3+q:=wrap_i64 omT omT;simp only[go_sem,↓aB,seval,j0,j4,aAl (b:=630) deT,ha,hq,hwm];obtain⟨M,hM8,hMq⟩:∃M:Nat,M<=8/\3+q=(M:Int):=⟨(3+q).toNat,omT,omT⟩;rw[hMq];refine bQi hc ha hn (k:=k) (M:=M) hlt hM8 (m:=m) ?r0 ?r4 ?r10 ?r9 ?r11 ?rR hM5 ?rQ
    case r0=>exact j0
    case r4=>exact j4
    case r10=>rfl
    case r9=>rfl
    case r11=>rfl
    case rR=>exact hR5
    intro ρ7 w2 w4 m7 Yq hR7 hM7;have k0:ρ7 0=vi n:=(Yq 0 rfl).trans j0;have k4:ρ7 4=vi (k:Nat):=(Yq 4 rfl).trans j4;have k3:ρ7 3=.ptr (H.length+1) 1 0:=(Yq 3 rfl).trans j3;obtain⟨fl,lst,o',D1⟩:=aNo hR7 (bLd m7);obtain⟨S7,C3,yd⟩:=D1 (H++[bN5,bNl 1 c (.sl Pa []),w2,x3,w4,x5,.gone 0]) (by rw[bX];rfl);rw[eS]at C3;have yd:=λwr=>yd H.length wr omT;have Rf:=hM7.len;have hon:=bQg ho m7 hM7.ne omT (H++[bN5,bNl 1 c (.sl Pa []),o',x3,w4,x5,.gone 0]);have hL:=hM7.gg deT;generalize bKk [] m7=L at *;have Pw:∀v:AV,nV [c 0,c 1,.sl Pa [],.sl Pa [],.sl Pa [],.sl Pa [],.sl Pa []] k [v]=[(if 0=k then v else c 0),(if 1=k then v else c 1),.sl Pa [],.sl Pa [],.sl Pa [],.sl Pa [],.sl Pa []]:=λv=>by
     rcases (by omega:k=0∨k=1)with rfl|rfl<;>rfl
    have z8:(k:Int)<2:=omT;have Vz:k+1<=7:=omT;simp only[go_sem,↓aB,seval,S7,C3,yd,k3,k4,hon,z8,FK,Vz,bNl,pg];refine⟨hlt,o',x3,w4,x5,λi=>if i=k then .sl Po (L.map bIx)else c i, ?_,λi hi=>by show (if i=k then _ else c i)=_;rw[Vw omT];exact jg i omT,λi hi=>?_⟩
    .rcases (by omega:k=0∨k=1)with rfl|rfl<;>rfl
    show ∃l,X8 l/\(if i=k then _ else c i)=_;by_cases e:i=k
    .rw[Vx e];exact⟨L,hL,rfl⟩
    rw[Vw e];exact mj i omT
   have:k=2:=by simp at e3;omega
   subst this;obtain⟨l0,h0,q0⟩:=mj 0 deT;obtain⟨l1,h1,q1⟩:=mj 1 deT;simp only[go_sem,seval];exact⟨x2,x3,x4,x5,l0,l1,by rw[<- q0,<- q1],h0,h1⟩
  rintro ρ' H' ba ⟨rfl,x2,x3,x4,x5,l0,l1,rfl,h0,h1⟩ hf;have f0:ρ' 0=vi n:=hf 0 rfl;have f2:ρ' 2=.ptr H.length 1 0:=hf 2 rfl;have f3:ρ' 3=.ptr (H.length+1) 1 0:=hf 3 rfl;simp only[go_sem,↓aB,seval];refine bOQ hc hn (l0:=l0) (l1:=l1) ?s0 ?s3 ?s14 ?sQ
  case s0=>exact f0
  case s3=>exact f3
  case s14=>rfl
  intro ρ7 w y6 ds Yq hG Ik Zg;have k0:ρ7 0=vi n:=(Yq 0 rfl).trans f0;have k2:ρ7 2=.ptr H.length 1 0:=(Yq 2 rfl).trans f2;have k3:ρ7 3=.ptr (H.length+1) 1 0:=(Yq 3 rfl).trans f3;obtain⟨f,lst,o',q1,q2,q3⟩:=hG.dw (bIy ds);have q3:=q3 H.length [] omT;have fin:∀a b:ah,aA2 (H++[a,b,x2,x3,x4,x5,y6]) w=N1 (.sl f (gZ ds),lst)/\dL (H++[a,b,x2,x3,x4,x5,y6]) lst=H++[a,b,x2,x3,x4,x5,o']:=λa b=>by
   refine⟨q1 _ (by rw[bX];rfl), ?_⟩;rw[q2 _ (by rw[bX];rfl),eS];rfl
  have hu:∀t:my,(bJF t).under H.length=true:=λt=>by
   simp only[AV.under,dJ,aA (bLd _),aA (bIy _),Hg]
  obtain⟨c1,d1,Hk⟩:=hc n hn 32 deT (H++[bN5,.box 1 [.sl Po (l0.map bIx),.sl Po (l1.map bIx),w,.sl Pa [],.sl Pa [],.sl Pa [],.sl Pa []],x2,x3,x4,x5,y6]);obtain⟨c2,d2,Ze⟩:=hc n hn 33 deT (H++[bN5,.box 1 [.sl Po (l0.map bIx),.sl Po (l1.map bIx),w,.sl Pa (gZ [c1]),.sl Pa [],.sl Pa [],.sl Pa []],x2,x3,x4,x5,y6]);obtain⟨c3,d3,Zf⟩:=hc n hn 34 deT (H++[bN5,.box 1 [.sl Po (l0.map bIx),.sl Po (l1.map bIx),w,.sl Pa (gZ [c1]),.sl Pa (gZ [c2]),.sl Pa [],.sl Pa []],x2,x3,x4,x5,y6]);obtain⟨c4,d4,Ya⟩:=hc n hn 35 deT (H++[bN5,.box 1 [.sl Po (l0.map bIx),.sl Po (l1.map bIx),w,.sl Pa (gZ [c1]),.sl Pa (gZ [c2]),.sl Pa (gZ [c3]),.sl Pa []],x2,x3,x4,x5,y6]);obtain⟨c5,d5,Yb⟩:=hc n hn 35 deT (H++[bN5,.box 1 [.sl Po (l0.map bIx),.sl Po (l1.map bIx),w,.sl Pa (gZ [c1]),.sl Pa (gZ [c2]),.sl Pa (gZ [c3]),.sl Pa (gZ [c4])],x2,x3,x4,x5,y6]);obtain⟨c6,d6,hc6'⟩:=hc n hn 34 deT (H++[bN5,.box 1 [.sl Po (l0.map bIx),.sl Po (l1.map bIx),w,.sl Pa (gZ [c1]),.sl Pa (gZ [c2]),.sl Pa (gZ [c3]),.sl Pa (gZ [c4])],x2,x3,x4,x5,y6]);simp only[Am,gZ,bNc,BI,BY]at Hk Ze Zf Ya Yb hc6';have Ht:=hG.ak;simp only[go_sem,↓aB,seval,k0,k3,Hk,Ze,Zf,Ya,ha,aAl (b:=29) deT];refine aD (λt3=>?_) (λt3=>?_)
  .simp only[go_sem,↓aB,seval,k0,k2,k3,Yb,hc6',Ht,aDR,(fin _ _).1,(fin _ _).2,q3];have:(AV.agg [.sl Po (l0.map bIx),.sl Po (l1.map bIx),.sl Po (gZ ds),.sl Po [[.int .u8 c1]],.sl Po [[.int .u8 c2]],.sl Po [[.int .u8 c3]],.sl Po [[.int .u8 c5],[.int .u8 c6]]]).under H.length=true:=hu ⟨l0,l1,ds,[c1],[c2],[c3],[c5,c6]⟩;rw[qQ this,GU];exact⟨rfl,rfl,⟨l0,l1,ds,[c1],[c2],[c3],[c5,c6]⟩,⟨h0,h1,Ik,Zg,bMy d1,bMy d2,bMy d3,bRl d5 d6⟩,rfl⟩
  simp only[go_sem,↓aB,seval,k2,k3,Ht,aDR,(fin _ _).1,(fin _ _).2,q3];have:(AV.agg [.sl Po (l0.map bIx),.sl Po (l1.map bIx),.sl Po (gZ ds),.sl Po [[.int .u8 c1]],.sl Po [[.int .u8 c2]],.sl Po [[.int .u8 c3]],.sl Po [[.int .u8 c4]]]).under H.length=true:=hu ⟨l0,l1,ds,[c1],[c2],[c3],[c4]⟩;rw[qQ this,GU];exact⟨rfl,rfl,⟨l0,l1,ds,[c1],[c2],[c3],[c4]⟩,⟨h0,h1,Ik,Zg,bMy d1,bMy d2,bMy d3,bMy d4⟩,rfl⟩)
 exact⟨t,ht,e1⟩
end
end Go.AM
end
