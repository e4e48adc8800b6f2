/- Part 3. -/
import Derived.Test.YtkhdngmjkokcgaaGreatDoorK01
import Derived.Test.YtkhdngmjkokcgaaGreatDoorK02
import Derived.WalkKit
import Derived.Lib.Walk
import Derived.Lib.SliceRun
import Derived.Lib.Builder
import Derived.Lib.UnsafeStr
import Derived.Lib.MakeNoZero
import Derived.Lib.ItoaNum
import Derived.Laws.LoneSync
import Derived.Laws.Externs
import Derived.Laws.IdiomCopy
import Derived.Shelf.RegionOpenPlain
import Derived.RegionTactic
import Derived.RegionCalls
import Derived.Deep.Draws
import Derived.Tactics
import Derived.Tactics2
import Derived.Defers
import Derived.Laws.Pointers
import Derived.ChangeAlike
import Derived.Shelf.Strconv.AppendUint10
import Derived.Shelf.Spec.SlicesGrow
import Derived.ProofKit
set_option linter.all false
set_option maxHeartbeats 12800000
set_option maxRecDepth 100000
open Array renaming getElem?_modify->DJ,getElem?_eq_none->DV,size_push->OA,getElem?_push->FE,size_replicate->HG
open Bool renaming and_eq_true->AI,false_eq_true->BX,true->Pa,false->Po
open Go renaming World->BL,Calls->FV,run_callFunc_extern->OU,Addr->IA,run_call_load->J4,Value->BE,run_call_mark0->PY,run_call_marked->PV,run_convert_to_unsafe->NZ,bodyPost_ret->Mt,results_none->Mu,IntKind->DK,Program->CU,TypeId->BP,run_underlying->BH
open Go.Builtin renaming unsafeSliceData_->KN,append_->DA,zeroCells->CD
open Go.IntKind renaming i64->AR,wrap_i64->MU
open Go.Lib renaming join->OT,pow10Tab->EB,TabIs->OL,pow10Tab_length->DW,decDigits->DT,itoa->MT,cell_of_heap->ID,alloc_old->PD,frozen_of_heap->NK,byteCells->HZ,nDigits->GO,zeros24->GP,decDigits_length->MW
open Go.Oper renaming upon_value->KF
open Go.Result renaming andThen->DL
open Go.Value renaming int->EJ
open Go.World renaming shape?->LU,cell?->EF,size_setCell->JE,setCell->FR,cell?_setCell_other->KR,setCells->IZ
open Int renaming eq_ofNat_of_zero_le->DN,le_of_lt->Bj
open List renaming append_nil->AJ,map_cons->BI,map_nil->BY,getElem?_eq_some_iff->AH,getElem?_map->BN,getElem?_eq_getElem->AP,replicate->AX,set_cons_succ->GL,set_cons_zero->GM,getElem?_cons_succ->CT,getElem?_cons_zero->BG,all_eq_true->AO,length_map->AF,length_nil->AZ,range->GZ
open Nat renaming zero_add->BC,le_refl->AQ,lt_or_ge->MH,mul_one->FK,add_zero->DU,zero_le->FF,add_assoc->EU,lt_succ_self->HR
open Option renaming map_eq_some_iff->EL,getD_some->EN,some->N1,none->N2
open Option.some renaming injEq->AG
open Prod.mk renaming injEq->BK
section
namespace Go.Proofs.Sa
open Go Go.AM Go.Proofs Go.RowKit Go.Lib
def aPh b(w:BL)(h0:w.cell? ⟨b,0,N2⟩=N1 (.pointer (N1 ⟨b,0,N2⟩))):FV Tryz.prog 136 #[.pointer (N1 ⟨b,0,N2⟩)] w λe w'=>e=.returned (.tuple #[])/\w'=w:=by
 obtain⟨j,hj,_⟩:=EL.1 (show (Tryz.prog.info? 171).map (·.size)=N1 2 by kernel_rfl)
 go_enter Tryz.func136,Tryz.ntmps136
 go_wp2
 rw[Lib.run_neq_ptr_same w _ Tryz.underlying169 hj]
 go_wp2
 go_end0
 exact⟨rfl,rfl⟩
def aIg(b t:Nat)(ht:t=171∨t=173)(w:BL)(h0:w.cell? ⟨b,0,N2⟩=N1 (.pointer N2))(vg:w.shape? b=N1 (t,2))(hfz:w.frozen? ⟨b,0,N2⟩=Po):FV Tryz.prog 136 #[.pointer (N1 ⟨b,0,N2⟩)] w λe w'=>e=.returned (.tuple #[])/\w'=w.setCell ⟨b,0,N2⟩ (.pointer (N1 ⟨b,0,N2⟩)):=by
 obtain⟨j,hj,hjs⟩:=EL.1 (show (Tryz.prog.info? 171).map (·.size)=N1 2 by kernel_rfl);have hlies:liesAt Tryz.prog Tryz.prog.depth t (2 / Tryz.prog.cellsOf t) 0 171 1=true:=by
  rcases ht with rfl|rfl
  .kernel_rfl
  kernel_rfl
 go_enter Tryz.func136,Tryz.ntmps136
 go_wp2
 rw[Lib.run_to_unsafe w ⟨b,0,N2⟩ Tryz.underlying169 Tryz.underlying315 hj (by rw[hjs];decide) vg (Nat.zero_lt_succ 1)];simp only[DL];rw[KF]
 go_wp2
 rw[OU Tryz.func193 bIv bIv bIv (e:=Go.Extern.AbiNoEscape.same) bIv];rw[Lib.run_noEscape];simp only[DL];rw[KF]
 go_wp2
 rw[Lib.run_from_unsafe w ⟨b,0,N2⟩ Tryz.underlying315 Tryz.underlying169 hj vg hlies];simp only[DL];rw[KF]
 go_wp2
 go_end0
 exact⟨rfl,rfl⟩
def aPi(a:IA) n (w:BL) (hc:w.cell? a=N1 (.int .u32 n)):FV Tryz.prog 266 #[.pointer (N1 a)] w λe w'=>e=.returned (.bool (n != 0))/\w'=w:=by
 have hl:=J4 Tryz.func308 bIv bIv bIv .u32 bIv hc
 go_enter Tryz.func266,Tryz.ntmps266
 go_wp2
 go_ret
 exact⟨rfl,rfl⟩
def aNS b(w:BL)(h1:w.cell? ⟨b,1,N2⟩=N1 (.slice N2 0 0)):FV Tryz.prog 84 #[.pointer (N1 ⟨b,0,N2⟩)] w λe w'=>e=.returned (.string .empty)/\w'=w.drew:=by
 have mixed:Tryz.prog.follows .mixedOrders=true:=bIv;have hSD:(KN #[23] 232 #[.slice N2 0 0]).run Tryz.prog w.drew=.ok (.pointer N2) w.drew:=Lib.run_unsafeSliceData_nil _ _ _ _ _;have hUS:(Builtin.unsafeString_ #[232,3] 9 #[.pointer N2,.int .i64 0]).run Tryz.prog w.drew=.ok (.string .empty) w.drew:=rfl
 go_enter Tryz.func84,Tryz.ntmps84
 go_wp2
 go_region_o
 all_goals (go_wp2;go_ret;exact⟨rfl,rfl⟩)
def aNT(b g cap:Nat)(l:List UInt8)(cur:Array BE)(w:BL)(h0:l≠[])(cm:l.length<=cap)(hmax:l.length<=9223372036854775807)(h1:w.cell? ⟨b,1,N2⟩=N1 (.slice (N1 ⟨g,0,N2⟩) l.length cap))(hg:w.heap[g]? = N1 (.cells cur 5 (0,0)))(hn:l.length<=cur.size)(bc:∀j x,l[j]? = N1 x->w.cell? ⟨g,j,N2⟩=N1 (.int .u8 x.toNat)):FV Tryz.prog 84 #[.pointer (N1 ⟨b,0,N2⟩)] w λe w'=>e=.returned (.string ⟨l.toArray⟩)/\w'=w.drew.freeze ⟨g,0,N2⟩ l.length:=by
 have sz:l.length≠0:=uWS
 have mixed:Tryz.prog.follows .mixedOrders=true:=bIv;have hSD:(KN #[23] 232 #[.slice (N1 ⟨g,0,N2⟩) l.length cap]).run Tryz.prog w.drew=.ok (.pointer (N1 ⟨g,0,N2⟩)) w.drew:=
  Lib.run_unsafeSliceData_row _ _ _ _ _ _ omT
 have hUS:=
  Lib.run_unsafeString_row w.drew 232 3 9 5 Tryz.underlying232 bIv g cur.size (by have eu:w.drew.heap[g]? = N1 (.cells cur 5 (0,0)):=hg;simp[LU,eu]) l h0 hn hmax
   (λj x hx=>by rw[Addr.add_lit,BC];exact bc j x hx)
 go_enter Tryz.func84,Tryz.ntmps84
 go_wp2
 go_region_o
 all_goals (go_wp2;go_ret;exact⟨rfl,rfl⟩)
def bBr{g:G}{x:BE}(h:ai g .nilPtr x):x=.pointer none:=by cases h;rfl
def mX{α:Type}{cs:Array α}{x y:α}(h:cs.toList=[x,y]):cs = #[x,y]:=by cases cs;simpa using h
def uq{ab:cu}:gS Tryz.prog ab λf' args H=>if f'=136 then (fB 171 173 args H).map (cT H)else none:=by
 refine oC ⟨Tryz.f136,Tryz.func136,bIv,bIv⟩ λargs H v ws ns hp g w xs hw hg hx=>?_;unfold fB at hp;split at hp
 .rename_i o ve;obtain⟨x,rfl,hv⟩:=aBc hx;split at hp
  .rename_i v' ty c ho;split at hp
   .rename_i hc;obtain⟨rfl,rfl,rfl⟩:=hp;obtain⟨l,cs,hb,rfl,ld,hl⟩:=aGf hw ho hc.1 hv;obtain⟨x1,x2,e,r1,r2⟩:=nH hl;have ecs:=mX e;subst ecs;have e1:=bBr r1;subst e1;refine (aIg l.b ty hc.2 w uXa (by simp[LU,ld]) (by simp[World.frozen?,ld])).mono ?_;rintro e w' ⟨rfl,rfl⟩;refine⟨g, ?_,ai.skip g⟩;simp only[eU,AJ,BI,BY];refine Step.tset (cs' := #[.pointer (N1 ⟨l.b,0,N2⟩),x2]) hw hb (JE _ _ _) (λb hb=>?_) ?_ ?_ (vG _ _ _)
    .simp[FR,DJ,Ne.symm hb]
    .simp[FR,DJ,ld]
    refine⟨rfl,λi a x e1 e2=>?_⟩
    match i with
    |0=>simp at e1 e2;subst e1;subst e2;exact .ptr o ve 0 l _ hb.loc (by rw[hb.st];exact AQ _) λ_ _=>rfl
    |1=>simp at e1 e2;subst e1;subst e2;exact r2
    |i+2=>simp at e1
   cases hp
  .rename_i v' ty o' v2 c ho;split at hp
   .rename_i hc;obtain⟨rfl,rfl,rfl⟩:=hp;obtain⟨l,cs,hb,rfl,ld,hl⟩:=aGf hw ho hc.1 hv;obtain⟨x1,x2,e,r1,r2⟩:=nH hl;have ecs:=mX e;subst ecs;obtain⟨rfl,rfl,rfl⟩:=hc;have e1:x1=.pointer (N1 ⟨l.b,0,N2⟩):=by
     cases r1 with
     |ptr _ _ _ l2 a iq D7 h=>rw[hb.loc]at iq;cases iq;rw[h hb.st (hw.obj _ _ _ hb).1]
    subst e1;refine (aPh l.b w uXa).mono ?_;rintro e w' ⟨rfl,rfl⟩;exact⟨g,uWr,ai.skip g⟩
   cases hp
  cases hp
 cases hp
def Xe{ab:cu}:gS Tryz.prog ab λf' args H=>if f'=266 then (aAi args H).map (cT H)else none:=by
 refine oC ⟨Tryz.f266,Tryz.func266,bIv,bIv⟩ λargs H v ws ns hp g w xs hw hg hx=>?_;unfold aAi at hp;split at hp
 .rename_i p;obtain⟨x,rfl,hv⟩:=aBc hx;split at hp
  .rename_i n hr;obtain⟨rfl,rfl,rfl⟩:=hp;obtain⟨b,off,vs,rfl,ax,hl,hc⟩:=eI hw hr hv;obtain⟨y,rfl,hy⟩:=aBc hl;cases hy;refine (aPi ⟨b,off,N2⟩ n w (hc 0 _ rfl)).mono ?_;rintro e w' ⟨rfl,rfl⟩;exact⟨g,uWr,.bool _⟩
  cases hp
 cases hp
def aKn{g:G}{H:LO}{w w':BL}(hw:WF g H w)(h:Below w.heap.size w w'):Step g H w g H w' []:=Step.nf hw h.size h.block ⟨h.os,h.output⟩
def A8{ab:cu}:gS Tryz.prog ab λf' args H=>if f'=344 then (aE7 args H).map (cT H)else none:=by
 refine oC ⟨Tryz.f344,Tryz.func344,bIv,bIv⟩ λargs H v ws ns hp g w xs hw hg hx=>?_;unfold aE7 at hp;split at hp
 .rename_i s c;obtain⟨rfl,rfl,rfl⟩:=hp;obtain⟨x,y,rfl,h1,h2⟩:=nH hx;obtain⟨s',rfl,hs⟩:=h1.ln;obtain⟨c',rfl,hc⟩:=h2.ln;have ec:c'=⟨#[c]⟩:=by cases c' with|mk d=>cases d;simp at hc;simp[hc]
  subst ec;refine (Tryz.strings_Count_one s' c w).mono ?_;rintro e w' ⟨rfl,rfl⟩;refine⟨g,uWr, ?_⟩;rw[hs];exact .int _ _
 cases hp
def A9{ab:cu}:gS Tryz.prog ab λf' args H=>if f'=351 then (aYu args H).map (cT H)else none:=by
 refine oC ⟨Tryz.f351,Tryz.func351,bIv,bIv⟩ λargs H v ws ns hp g w xs hw hg hx=>?_;unfold aYu at hp;split at hp
 .rename_i s c;obtain⟨rfl,rfl,rfl⟩:=hp;obtain⟨x,y,rfl,h1,h2⟩:=nH hx;obtain⟨s',rfl,hs⟩:=h1.ln;cases h2;refine (Tryz.stringslite_IndexByte s' c w).mono ?_;rintro e w' ⟨rfl,rfl⟩;refine⟨g,uWr, ?_⟩;rw[hs];exact .int _ _
 cases hp
def aKo(w:BL)(g n:Nat):(w.freeze ⟨g,0,N2⟩ n).heap.size=w.heap.size/\(∀b,b≠g->(w.freeze ⟨g,0,N2⟩ n).heap[b]? = w.heap[b]?) /\ (w.freeze ⟨g,0,N2⟩ n).os=w.os/\(w.freeze ⟨g,0,N2⟩ n).output=w.output:=by
 unfold World.freeze;split
 .exact⟨rfl,λ_ _=>rfl,rfl,rfl⟩
 refine⟨siT,λb hb=>?_,rfl,rfl⟩;simp[DJ,Ne.symm hb]
def aIh:∀(rows:List LA)(l:List UInt8),cM rows=N1 l->rows.length=l.length/\∀(j:Nat) x,l[j]? = N1 x->∃n:Int,rows[j]? = N1 [.int .u8 n]/\x=UInt8.ofNat n.toNat
 | [],l,h=>by cases h;exact⟨rfl,λj x h=>by simp at h⟩
 |r::rows,l,h=>by
  unfold cM at h;split at h
  .rename_i e;cases e
  .rename_i n r' e;cases e;cases hb:cM rows with
   |none=>rw[hb]at h;cases h
   |some l'=>
    rw[hb]at h;cases h;obtain⟨h1,h2⟩:=aIh rows l' hb;refine⟨by simp[h1],λj x hj=>?_⟩;cases j with
    |zero=>simp at hj;exact⟨n,rfl,hj.symm⟩
    |succ j=>exact h2 j x uWQ
  cases h
def aIi:∀(rows:List LA),aE6 rows=Pa->∀(j:Nat) n,rows[j]? = N1 [.int .u8 n]->0<=n/\n<256
 | [],h,j,n,e=>by simp at e
 |r::rows,h,j,n,e=>by
  unfold aE6 at h;split at h
  .rename_i e';cases e'
  .rename_i m r' e';cases e';simp only[AI,decide_eq_true_eq]at h;cases j with
   |zero=>simp at e;subst e;exact h.1
   |succ j=>exact aIi rows h.2 j n (by simpa using e)
  cases h
def zn{ab:cu}:gS Tryz.prog ab λf' args H=>if f'=84 then (aAh 5 args H).map (cT H)else none:=by
 refine oC ⟨Tryz.f84,Tryz.func84,bIv,bIv⟩ λargs H v ws ns hp g w xs hw hg hx=>?_;unfold aAh at hp;split at hp
 .rename_i o ve;obtain⟨x,rfl,hv⟩:=aBc hx;split at hp
  .rename_i v' ty c ho;split at hp
   .rename_i hc;obtain⟨rfl,rfl,rfl⟩:=hp;obtain⟨l,cs,hb,rfl,ld,hl⟩:=aGf hw ho hc hv;obtain⟨x1,x2,e,r1,r2⟩:=nH hl;have ecs:=mX e;subst ecs;cases r2;refine (aNS l.b w uXa).mono ?_;rintro e w' ⟨rfl,rfl⟩;exact⟨g,by simpa [eU]using Step.of_heap (w':=w.drew) hw rfl,.str ByteArray.empty⟩
   cases hp
  .rename_i v' ty c o2 v2 n ho;split at hp
   .rename_i hc;split at hp
    .rename_i v3 t3 rows ho2;split at hp
     .rename_i nc;obtain⟨rfl,rfl,ax,gq,bl,E1,td⟩:=nc;split at hp
      .rename_i lb hbr;obtain⟨rfl,rfl,rfl⟩:=hp;obtain⟨l,cs,hb,rfl,ld,hl⟩:=aGf hw ho hc hv;obtain⟨x1,x2,e,r1,r2⟩:=nH hl;have ecs:=mX e;subst ecs;cases r2 with
       |sr _ _ _ l2 a cap iq D7 xh jg hh=>
        have bd:l2.st=v3:=by have:=hw.st o2 _ l2 ho2 iq;simp only[ah.ver]at this;omega
        have dp:au g H o2 l2 (.oz v3 5 1 rows):=⟨ho2,rfl,iq,bd⟩;obtain⟨⟨h0,ow,cm,dr,hk,eh,bc⟩,cur,hcur⟩:=hw.obj o2 l2 _ dp;obtain⟨rfl,rfl⟩:=hh bd omT;obtain⟨zo,hbx⟩:=aIh rows lb hbr;have iv:∀j,j<rows.length->(w.cell? ⟨l2.b,j,N2⟩).isSome=true:=λj hj=>eh j omT;have ru:lb.length<=cur.size:=by
         rcases MH cur.size lb.length with h|h
         .have:=iv cur.size omT;simp[EF,hcur]at this
         exact h
        have kq:∀j x,lb[j]? = N1 x->w.cell? ⟨l2.b,j,N2⟩=N1 (.int .u8 x.toNat):=λj x hj=>by
         obtain⟨m,e1,e2⟩:=hbx j x hj;obtain⟨_,y,hy,hr⟩:=bc j 0 _ _ e1 rfl;cases hr;rw[FK,DU]at hy;obtain⟨q1,q2⟩:=aIi rows td j m e1;obtain⟨k,rfl⟩:=DN q1;rw[hy,e2,Int.toNat_natCast];have:(UInt8.ofNat k).toNat=k:=by exact Nat.mod_eq_of_lt omT
         rw[this]
        have O4:n=lb.length:=omT;subst O4;refine (aNT l.b l2.b l2.cap lb cur w (λe=>gq (by rw[e];rfl)) omT omT uXa hcur ru kq).mono ?_;rintro e w' ⟨rfl,rfl⟩;obtain⟨f1,f2,f3,f4⟩:=aKo w.drew l2.b lb.length;have hs:=Step.spoil hw dp f1 f2 ⟨f3,f4⟩;exact⟨g,by simpa [eU,ah.ver]using hs,.str ⟨lb.toArray⟩⟩
      cases hp
     cases hp
    cases hp
   cases hp
  cases hp
 cases hp
def aIj{sep:List UInt8}:∀(rows:List LA)(s:List UInt8),aJ7 sep rows=N1 s->∃ls:List (List UInt8),rows=ls.map (λl=>[AV.str l])/\s=OT ls sep
 | [],s,h=>by cases h;exact⟨[],rfl,rfl⟩
 | [r],s,h=>by
  unfold aJ7 at h;split at h
  .rename_i e;cases e
  .rename_i l e;injection e with e1 e2;subst e1;injection h with h;subst h;exact⟨[l],rfl,by simp[OT]⟩
  .rename_i l r' bl e;cases e;exact (bl rfl).elim
  cases h
 |r::r2::rows,s,h=>by
  unfold aJ7 at h;split at h
  .rename_i e;cases e
  .rename_i l e;cases e
  .rename_i l r' bl e;cases e;split at h
   .rename_i t ht;cases h;obtain⟨ls,e1,e2⟩:=aIj (r2::rows) t ht;refine⟨l::ls,by rw[BI,<- e1], ?_⟩;cases ls with
    |nil=>simp at e1
    |cons a ls=>rw[e2];simp[OT]
   cases h
  cases h
def G2{ab:cu}:gS Tryz.prog ab λf' args H=>if f'=100 then (aKm args H).map (cT H)else none:=by
 refine oC ⟨Tryz.f100,Tryz.func100,bIv,bIv⟩ λargs H v ws ns hp g w xs hw hg hx=>?_;unfold aKm at hp;split at hp
 .rename_i fl rows sep;split at hp
  .rename_i s hs;split at hp
   .rename_i hc;obtain⟨rfl,rfl,rfl⟩:=hp;obtain⟨x,y,rfl,h1,h2⟩:=nH hx;obtain⟨sep',rfl,hsep⟩:=h2.ln;obtain⟨ls,e1,e2⟩:=aIj rows s hs;rcases aA7 hw rfl h1 with⟨rfl,cap,rfl⟩ | ⟨b,off,cap,k,cells,rfl,cm,hrr,bd,bc⟩
    .have:ls=[]:=by simpa using e1.symm
     subst this;refine (Tryz.strings_Join_none N2 cap sep' w).mono ?_;rintro e w' ⟨rfl,rfl⟩;refine⟨g,uWr, ?_⟩;rw[e2];exact .str ⟨#[]⟩
    have gu:rows.length=ls.length:=by rw[e1];simp
    by_cases bl:ls=[]
    .subst bl;rw[gu]at *;refine (Tryz.strings_Join_none (N1 ⟨b,off,N2⟩) cap sep' w).mono ?_;rintro e w' ⟨rfl,rfl⟩;refine⟨g,uWr, ?_⟩;rw[e2];exact .str ⟨#[]⟩
    have hk:k=1:=by
     cases ls with
     |nil=>exact Vv rfl bl
     |cons a ls=>exact (hrr.row [.str a] (by rw[e1];simp)).symm
    subst hk;have kq:∀j x,(ls.map λl=>(⟨l.toArray⟩:ByteArray))[j]? = N1 x->w.cell? ⟨b,off+j,N2⟩=N1 (.string x):=λj x hj=>by
     cases hq:ls[j]? with
     |none=>simp[hq]at hj
     |some l=>
      simp[hq]at hj;have hlt:j<rows.length:=by rw[gu];exact (AH.1 hq).1
      have hcj:j<cells.length:=by rw[hrr.len];omega
      have hr:=hrr.rel j 0 [.str l] (.str l) cells[j] (by rw[e1,BN,hq];rfl) rfl (by simp[hcj]);obtain⟨bs,e3,e4⟩:=hr.ln;have:=bc j cells[j] (by simp[hcj]);rw[this,e3,<- hj];congr 2;cases bs with
      |mk d=>simp at e4;simp[<- e4]
    have Ae:(ls.map λl=>(⟨l.toArray⟩:ByteArray)).map (·.data.toList)=ls:=by simp[Function.comp_def]
    have qw:b<w.heap.size:=by
     cases ls with
     |nil=>exact Vv rfl bl
     |cons a ls=>exact World.block_lt_of_cell? (a:=⟨b,off+0,N2⟩) w (kq 0 _ rfl)
    have hj:=Tryz.strings_Join b off cap (ls.map λl=>(⟨l.toArray⟩:ByteArray)) sep' w kq qw (by simpa [gu]using hc.2) (by simpa [gu]using cm) (by rw[Ae,hsep,<- e2];exact hc.1);rw[Ae,hsep,<- e2]at hj;rw[show (ls.map λl=>(⟨l.toArray⟩:ByteArray)).length=rows.length by simp[gu]]at hj;refine hj.mono ?_;rintro e w' ⟨rfl,hbw⟩;exact⟨g,by simpa [eU]using aKn hw hbw,.str ⟨s.toArray⟩⟩
   cases hp
  cases hp
 cases hp
def aSR{tab:Nat}{g:G}{H:LO}{w:BL}(hw:WF g H w)(G3:Tryz.prog.globalNamed "internal/strconv.uint64pow10" = N1 tab){ab:cu}(cn:ab.row tab=N1 (EB.map λz=>AV.int .u64 z))(hg:bM Tryz.prog ab g):OL Tryz.prog w "internal/strconv.uint64pow10" .u64 EB:=by
 obtain⟨h1,cs,t,fz,h2,h3⟩:=hg.row tab (EB.map λz=>AV.int .u64 z) cn;obtain⟨h4,_⟩:=hw.whole.blocks tab _ h2;obtain⟨b,off,vs,e,hl,hr,hc⟩:=eI hw (k:=20) (cs:=EB.map λz=>AV.int .u64 z) (by
  simp only[bC];rw[Vx (by simp[DW])];rw[List.drop_zero,List.take_of_length_le (by simp[DW])]) h1
 cases e;unfold OL World.var?;rw[G3];simp only[Option.bind_some,h4,AG];apply Array.ext_getElem?;intro j;by_cases hj:j<20
 .have ax:vs.length=20:=by rw[<- hr.1];simp[DW]
  have hv:vs[j]? = N1 vs[j]:=AP omT;have bc:=hc j _ hv;have ha:(EB.map λz=>AV.int .u64 z)[j]? = N1 (AV.int .u64 (EB[j]'(by rw[DW];exact hj))):=by rw[BN,AP (by rw[DW];exact hj)];rfl
  have dj:=hr.2 j _ _ ha hv;have hx:cs[j]? = N1 vs[j]:=by simpa [EF,h4]using bc
  rw[hx];simp only[List.getElem?_toArray,BN,AP (show j<EB.length by rw[DW];exact hj),Option.map_some,AG];generalize vs[j]=v at dj;cases dj;rfl
 rw[DV (by rw[h3];simp[DW];omega),DV (by simp[DW];omega)]
def aJ8:∀(k n:Nat),n<10 ^ k->0<k->nC k n=DT n
 |0,n,h,h0=>by omega
 |k+1,n,h,_=>by
  unfold nC;rw[DT];by_cases h1:n<10
  .rw[Vx h1,dif_pos h1]
  rw[Vw h1,dif_neg h1];cases k with
  |zero=>omega
  |succ k=>rw[aJ8 (k+1) (n / 10) (by rw[Nat.pow_succ]at h;omega) omT]
def G4{ab:cu}{tab:Nat}(G3:Tryz.prog.globalNamed "internal/strconv.uint64pow10" = N1 tab)(cn:ab.row tab=N1 (EB.map λz=>AV.int .u64 z)):gS Tryz.prog ab λf' args H=>if f'=99 then (sC args H).map (cT H)else none:=by
 refine oC ⟨Tryz.f99,Tryz.func99,bIv,bIv⟩ λargs H v ws ns hp g w xs hw hg hx=>?_;unfold sC at hp;split at hp
 .rename_i n;obtain⟨x,rfl,hv⟩:=aBc hx;cases hv;have fin:∀s,s=MT n -> -9223372036854775808<=n/\n<=9223372036854775807->FV Tryz.prog 99 #[.int .i64 n] w λe w'=>match e with
    |.returned x=>∃g',Step g H w g' (eU H []++[]) w' []/\pN g' (eU H []++[]) w.heap.size w' (.str s) x
    |_=>False:=λs hs hb=>by
   refine (Tryz.strconv_Itoa n hb.1 hb.2 w (aSR hw G3 cn hg)).mono ?_;rintro e w' ⟨rfl,k,os,rfl⟩;refine⟨g, ?_, ?_⟩
   .have:Step g H w g H (Go.Sort.grow (w.drewN k) os) []:=Step.nf hw (by simp[Go.Sort.grow]) (λb hb=>by
     simp only[Go.Sort.grow,World.heap_drewN];rw[Array.getElem?_append_left hb]) ⟨rfl,rfl⟩
    simpa [eU]using this
   rw[hs];exact .str ⟨(MT n).toArray⟩
  split at hp
  .rename_i hc;obtain⟨rfl,rfl,rfl⟩:=hp;refine fin _ ?_ ⟨omT,omT⟩;rw[aJ8 7 _ omT omT,MT,Vw omT]
  split at hp
  .rename_i hc;obtain⟨rfl,rfl,rfl⟩:=hp;refine fin _ ?_ ⟨omT,omT⟩;rw[aJ8 7 _ omT omT,MT,Vx omT,show (-n).toNat=n.natAbs by omega]
  cases hp
 cases hp
end Go.Proofs.Sa
end
section
namespace Go.Proofs.Sa
open Go Go.AM Go.Proofs Go.RowKit Go.Lib
structure lj(w:BL)(b n:Nat)(w':BL):Prop where
 size:w'.heap.size=w.heap.size+1
 other:∀k,k≠b->k<w.heap.size->w'.heap[k]? = w.heap[k]?
 blk:∃cs:Array BE,n<=cs.size/\w'.heap[b]? = N1 (.cells #[.pointer (N1 ⟨b,0,N2⟩),.slice (N1 ⟨w.heap.size,0,N2⟩) 0 cs.size] 171 (0,0))/\w'.heap[w.heap.size]? = N1 (.cells cs 5 (0,0))
 io:w'.os=w.os/\w'.output=w.output
def aPj{w:BL}{b n:Nat}{cs:Array BE}(dx:w.heap[b]? = N1 (.cells #[.pointer (N1 ⟨b,0,N2⟩),.slice N2 0 0] 171 (0,0)))(hn:n<=cs.size):lj w b n ((w.setCell ⟨b,1,N2⟩ (.slice (N1 ⟨w.heap.size,0,N2⟩) 0 cs.size)).alloc (.cells cs 5)):=by
 have hlt:b<w.heap.size:=by
  rcases MH b w.heap.size with h|h
  .exact h
  simp[DV h]at dx
 have e:∀v,((w.setCell ⟨b,1,N2⟩ v).alloc (.cells cs 5)).heap=(w.setCell ⟨b,1,N2⟩ v).heap.push (.cells cs 5):=λ_=>rfl;have hs:∀v,(w.setCell ⟨b,1,N2⟩ v).heap.size=w.heap.size:=λv=>JE _ _ _;refine⟨by rw[e,OA,hs],λk hk zp=>?_,⟨cs,hn, ?_, ?_⟩,vG w ⟨b,1,N2⟩ (.slice (N1 ⟨w.heap.size,0,N2⟩) 0 cs.size)⟩
 .rw[e,FE,Vw (by rw[hs];omega)];simp only[FR,DJ];rw[Vw (Ne.symm hk)]
 .rw[e,FE,Vw (by rw[hs];omega)];simp[FR,DJ,dx]
 rw[e,FE,Vx (hs _).symm]
def lj.of{w W X:BL}{b n:Nat}(h:lj w b n X)(e:W.heap=X.heap)(io:W.os=X.os/\W.output=X.output):lj w b n W:=⟨by rw[e];exact h.size,λk h1 h2=>by rw[e];exact h.other k h1 h2,by rw[e];exact h.blk,io.1.trans h.io.1,io.2.trans h.io.2⟩
def aPk(b n:Nat)(w:BL)(dx:w.heap[b]? = N1 (.cells #[.pointer (N1 ⟨b,0,N2⟩),.slice N2 0 0] 171 (0,0)))(hn:n<=281474976710656):FV Tryz.prog 244 #[.pointer (N1 ⟨b,0,N2⟩),.int .i64 n] w λe w'=>e=.returned (.tuple #[])/\lj w b n w':=by
 obtain⟨cs,ej,hle,hmax⟩:=Lib.run_makeNoZero (P:=Tryz.prog) w.drew #[3] 23 5 Tryz.underlying23 n hn;have hw:AR.wrap (AR.wrap 0+(n:Int))=n:=by rw[MU,MU];omega
 have az:(callFunc 296 #[.int .i64 (AR.wrap (AR.wrap 0+(n:Int)))]).run Tryz.prog w.drew=.ok (.value (.slice (N1 ⟨w.drew.heap.size,0,N2⟩) n cs.size)) (w.drew.drew.drew.alloc (.cells cs 5)):=by rw[hw,OU Tryz.func296 bIv bIv bIv (e:=Go.Extern.BytealgMakeNoZero.makeNoZero #[3] #[23]) bIv,ej];rfl
 have c1:w.drew.cell? ⟨b,1,N2⟩=N1 (.slice N2 0 0):=by have:w.drew.heap[b]? = _:=dx;rw[ID this];rfl
 have hlt:b<w.heap.size:=by
  rcases MH b w.heap.size with h' | h'
  .exact h'
  simp[DV h']at dx
 have c2:(w.alloc (.cells cs 5)).cell? ⟨b,1,N2⟩=N1 (.slice N2 0 0):=by have:(w.alloc (.cells cs 5)).heap[b]? = _:=(PD w _ b hlt).trans dx;rw[ID this];rfl
 have f2:(w.alloc (.cells cs 5)).frozen? ⟨b,1,N2⟩=false:=NK ((PD w _ b hlt).trans dx) 1;have hcopy:∀W:BL,(Builtin.copy_ #[23,23] 3 #[.slice (N1 ⟨w.heap.size,0,N2⟩) 0 cs.size,.slice N2 0 0]).run Tryz.prog W=.ok (goInt 0) W:=
  λW=>run_copy_none W 23 23 3 5 _ _ 0 cs.size 0 0 Tryz.underlying23 bIv rfl
 clear hw;have mixed:Tryz.prog.follows .mixedOrders=true:=bIv
 go_enter Tryz.func244,Tryz.ntmps244
 go_wp2
 have zk:=aPj dx hle
 go_region_o
 all_goals (go_wp2;go_end0;exact⟨rfl,zk.of rfl ⟨rfl,rfl⟩⟩)
def aNU(b n:Nat)(w:BL)(dx:w.heap[b]? = N1 (.cells #[.pointer N2,.slice N2 0 0] 171 (0,0)))(gq:0<n)(hn:n<=281474976710656):FV Tryz.prog 152 #[.pointer (N1 ⟨b,0,N2⟩),.int .i64 n] w λe w'=>e=.returned (.tuple #[])/\lj (w.setCell ⟨b,0,N2⟩ (.pointer (N1 ⟨b,0,N2⟩))) b n w':=by
 have hbk1:(w.setCell ⟨b,0,N2⟩ (.pointer (N1 ⟨b,0,N2⟩))).heap[b]? = N1 (.cells #[.pointer (N1 ⟨b,0,N2⟩),.slice N2 0 0] 171 (0,0)):=by simp[FR,DJ,dx]
 have c1:(w.setCell ⟨b,0,N2⟩ (.pointer (N1 ⟨b,0,N2⟩))).cell? ⟨b,1,N2⟩=N1 (.slice N2 0 0):=by rw[ID hbk1];rfl
 have mixed:Tryz.prog.follows .mixedOrders=true:=bIv;have e136:∀args w,(callFunc 136 args).run Tryz.prog w=.ok (.enter 136 args) w:=enters_of Tryz.func136 bIv rfl;have e244:∀args w,(callFunc 244 args).run Tryz.prog w=.ok (.enter 244 args) w:=enters_of Tryz.func244 bIv rfl;have c1':(w.setCell ⟨b,0,N2⟩ (.pointer (N1 ⟨b,0,N2⟩))).drew.cell? ⟨b,1,N2⟩=N1 (.slice N2 0 0):=c1
 go_enter Tryz.func152,Tryz.ntmps152
 go_wp2_with (go_at_fn 136;refine (aIg b 171 (.inl rfl) w (by rw[ID dx];rfl) (by simp[LU,dx]) (NK dx 0)).mono ?_;rintro e w' ⟨rfl,rfl⟩)
 go_region_o
 all_goals go_wp2_with (go_at_fn 244;refine (aPk b n (w.setCell ⟨b,0,N2⟩ (.pointer (N1 ⟨b,0,N2⟩))).drew hbk1 hn).mono ?_;rintro e w' ⟨rfl,hp⟩)
 all_goals first
  | (go_end0;exact⟨rfl,hp.size,hp.other,hp.blk,hp.io⟩)
  | (exfalso;omega)
end Go.Proofs.Sa
end
section
namespace Go.Proofs.Sa
open Go Go.AM Go.Proofs Go.RowKit Go.Lib
def G5{ab:cu}:gS Tryz.prog ab λf' args H=>if f'=152 then (aNR 171 5 args H).map (cT H)else none:=by
 refine oC ⟨Tryz.f152,Tryz.func152,bIv,bIv⟩ λargs H v ws ns hp g w xs hw hg hx=>?_;unfold aNR at hp;split at hp
 .rename_i o ve n;obtain⟨x,y,rfl,hv,hy⟩:=nH hx;cases hy;split at hp
  .rename_i v' ty ho;split at hp
   .rename_i hc;obtain⟨hve,rfl,gq,lx⟩:=hc;simp only[AG,BK]at hp;obtain⟨rfl,rfl,rfl⟩:=hp;obtain⟨l,cs,hb,rfl,ld,hl⟩:=aGf hw ho hve hv;obtain⟨x1,x2,e,r1,r2⟩:=nH hl;have ecs:=mX e;subst ecs;have e1:=bBr r1;subst e1;cases r2;obtain⟨m,rfl⟩:=DN (Bj gq);refine (aNU l.b m w ld omT omT).mono ?_;rintro e w' ⟨rfl,hp⟩;obtain⟨cb,hle,fo,dp⟩:=hp.blk;have hlt:l.b<w.heap.size:=hw.blk o l hb.loc;have xu:∀v,(w.setCell ⟨l.b,0,N2⟩ v).heap.size=w.heap.size:=λv=>JE _ _ _;have uj:∀k,k≠l.b->k<w.heap.size->w'.heap[k]? = w.heap[k]? := λk h1 h2=>by
     rw[hp.other k h1 (by rw[xu];exact h2)];simp[FR,DJ,Ne.symm h1]
    rw[xu]at fo dp;have gd:=hp.size;rw[xu]at gd;have K1:o<H.length:=hw.lt o l hb.loc
    let w1:BL:=w.alloc (.cells cb 5)
    have dy:w1.heap=w.heap.push (.cells cb 5):=rfl;have s1:=hw.more 1;have hid:H.length<(H++AX 1 (ah.gone 0)).length:=siT;obtain⟨g',s2,J9⟩:=Step.yk (rows:=[]) (k:=1) (cap:=cb.size) s1.wf hid dy (g:=g) ⟨rfl,siT,siT⟩ rfl (FF _) omT;have X5:bH (H++AX 1 (ah.gone 0)) H.length=1:=by simp[bH,ah.ver]
    have hmk:make (H++AX 1 (ah.gone 0)) H.length (.oz · 5 1 [])=H++[.oz 1 5 1 []]:=by simp[make,ah.ver]
    rw[X5]at J9;rw[hmk]at s2;have du:au g' (H++[.oz 1 5 1 []]) o l (.cw v' 171 [.nilPtr,.ar]):=by refine⟨by rw[List.getElem?_append_left K1];exact ho,rfl, ?_,by rw[hve];exact hb.st⟩;rw[s2.aq o soT soT];exact hb.loc
    have s3:=Step.tset (w':=w') (dh:=[.ptr o ve 0,.sr H.length 1 0]) (cs' := #[.pointer (N1 ⟨l.b,0,N2⟩),.slice (N1 ⟨w.heap.size,0,N2⟩) 0 cb.size]) s2.wf du (by rw[gd,dy,OA])
     (λb hbne=>by
      rcases Nat.lt_trichotomy b w.heap.size with h|h|h
      .rw[uj b hbne h,dy,FE,Vw omT]
      .subst h;rw[dp,dy];simp
      rw[DV omT,DV (by rw[dy];simp;omega)])
     fo
     (by
      refine⟨rfl,λi a x e1 e2=>?_⟩
      match i with
      |0=>simp at e1 e2;subst e1;subst e2;exact .ptr o ve 0 l _ du.loc (by rw[hb.st];exact AQ _) λ_ _=>rfl
      |1=>simp at e1 e2;subst e1;subst e2;exact J9
      |i+2=>simp at e1) ⟨hp.io.1.trans (vG w ⟨l.b,0,N2⟩ _).1,hp.io.2.trans (vG w ⟨l.b,0,N2⟩ _).2⟩
    refine⟨g', ?_,ai.skip g'⟩;have:=Step.narrow (wr:=[o]) hw.lt ((s1.trans s2).trans s3) (λi hi Xc=>by
     simp at hi;rcases hi with h|h
     .omega
     simp[h])
    simpa [eU,List.set_append,K1,hve]using this
   cases hp
  cases hp
 cases hp
end Go.Proofs.Sa
end
section
namespace Go.Proofs.Sa
open Go Go.AM Go.Proofs Go.RowKit Go.Lib
def disable(w:BL):(callFunc 366 #[]).run Tryz.prog w=.ok (.value (.tuple #[])) w:=PY Tryz.func366 bIv bIv bIv .disable bIv w
def enable(w:BL):(callFunc 368 #[]).run Tryz.prog w=.ok (.value (.tuple #[])) w:=PY Tryz.func368 bIv bIv bIv .enable bIv w
def acquire(a:IA)(w:BL):(callFunc 369 #[.pointer (N1 a)]).run Tryz.prog w=.ok (.value (.tuple #[])) w:=PV Tryz.func369 bIv bIv bIv .acquire bIv a w
def releaseMerge(a:IA)(w:BL):(callFunc 371 #[.pointer (N1 a)]).run Tryz.prog w=.ok (.value (.tuple #[])) w:=PV Tryz.func371 bIv bIv bIv .releaseMerge bIv a w
def aHx(a:IA)(x:BE)(u:FrameMode)(w:BL)(hc:w.cell? a=N1 x)(hz:w.frozen? a=Po):CallsD Tryz.prog 311 #[.pointer (N1 a),.bool Pa] u w λe u' w'=>u'=u/\(e=.returned (.tuple #[])/\w'=w.drew.setCell a (.int .u32 1)):=by
 have hc':w.drew.cell? a=N1 x:=by go_simp
 have hz':w.drew.frozen? a=false:=by go_simp
 have bd:=run_call_store (P:=Tryz.prog) Tryz.func340 bIv bIv bIv bIv (k:=.u32) (y:=1) hc' hz'
 go_enter_d Tryz.func311,Tryz.ntmps311
 go_wp2
 go_region_calls
 all_goals (go_end0;exact⟨rfl,rfl⟩)
def aLJ(a:IA)(w:BL)(hc:w.cell? a=N1 (.int .i32 1))(hz:w.frozen? a=Po):FV Tryz.prog 339 #[.pointer (N1 a)] w λe w'=>e=.returned (.tuple #[])/\w'=w.setCell a (.int .i32 0):=by
 have hd:=disable;have he:=enable;have hr:=releaseMerge;have ji:=run_call_add (P:=Tryz.prog) Tryz.func372 bIv bIv bIv .i32 bIv (y := -1) (s:=0) hc hz (by simp[go_sem];rfl);have Kw:=NZ (P:=Tryz.prog) (src:=483) (dst:=315) Tryz.underlying483 Tryz.underlying315 bIv hc
 go_enter Tryz.func339,Tryz.ntmps339
 go_wp2
 go_end0
 go_wp2
def aGg(a:IA)(u:FrameMode)(w:BL)(hc:w.cell? a=N1 (.int .i32 1))(hz:w.frozen? a=Po):CallsD Tryz.prog 310 #[.pointer (N1 a)] u w λe u' w'=>u'=u/\(e=.returned (.tuple #[])/\w'=w.setCell a (.int .i32 0)):=by
 have e339:∀args w,(callFunc 339 args).run Tryz.prog w=.ok (.enter 339 args) w:=enters_of Tryz.func339 bIv rfl
 go_enter_d Tryz.func310,Tryz.ntmps310
 go_wp2_with (go_at_fn 339;refine (aLJ a _ hc hz).mono ?_;rintro e w' ⟨rfl,rfl⟩)
 all_goals (go_end0;exact⟨rfl,rfl⟩)
def aTR(a:IA)(w:BL)(hc:w.cell? a=N1 (.int .i32 0))(hz:w.frozen? a=Po):FV Tryz.prog 338 #[.pointer (N1 a)] w λe w'=>e=.returned (.tuple #[])/\w'=w.setCell a (.int .i32 1):=by
 have hd:=disable;have he:=enable;have ha:=acquire;have hcas:=run_call_cas_hit (P:=Tryz.prog) Tryz.func367 bIv bIv bIv .i32 bIv (y:=1) hc hz;have hc':(w.setCell a (.int .i32 1)).cell? a=N1 (.int .i32 1):=World.cell?_setCell_same w a _ hc;have Kw:=NZ (P:=Tryz.prog) (src:=483) (dst:=315) Tryz.underlying483 Tryz.underlying315 bIv hc'
 go_enter Tryz.func338,Tryz.ntmps338
 go_wp2
 first | go_end0 | (simp only[Exit.inBlock,Exit.then];refine Mt (Mu rfl _ _ _) rfl ?_) | refine Mt (Mu rfl _ _ _) rfl ?_
 go_wp2
def aPl(a:IA)(w:BL)(hc:w.cell? a=N1 (.int .i32 0))(hz:w.frozen? a=Po):FV Tryz.prog 309 #[.pointer (N1 a)] w λe w'=>e=.returned (.tuple #[])/\w'=w.setCell a (.int .i32 1):=by
 have e338:∀args w,(callFunc 338 args).run Tryz.prog w=.ok (.enter 338 args) w:=enters_of Tryz.func338 bIv rfl
 go_enter Tryz.func309,Tryz.ntmps309
 go_wp2_with (go_at_fn 338;refine (aTR a _ hc hz).mono ?_;rintro e w' ⟨rfl,rfl⟩)
 all_goals (go_end0;exact⟨rfl,rfl⟩)
end Go.Proofs.Sa
end
section
namespace Go.Proofs.Sa
open Go Go.AM Go.Proofs Go.RowKit Go.Lib
def aPm(b off fid:Nat)(vf vc xs:Array BE)(w:BL)(R:BL->Prop)(iv:∀w,(callFunc fid xs).run Tryz.prog w=.ok (.enter fid xs) w)(re:vf++vc=xs)(h0:w.cell? ⟨b,off,N2⟩=N1 (.int .u32 0))(h1:w.cell? ⟨b,off+1,N2⟩=N1 (.int .i32 0))(f1:w.frozen? ⟨b,off+1,N2⟩=Po)(hf:FV Tryz.prog fid xs (w.setCell ⟨b,off+1,N2⟩ (.int .i32 1)) λe w'=>(∃x,e=.returned x)/\R w')(hR:∀w',R w'->(∃x,w'.cell? ⟨b,off,N2⟩=N1 x)/\w'.frozen? ⟨b,off,N2⟩=Po/\w'.cell? ⟨b,off+1,N2⟩=N1 (.int .i32 1)/\w'.frozen? ⟨b,off+1,N2⟩=Po):FV Tryz.prog 267 #[.pointer (N1 ⟨b,off,N2⟩),.func (.func fid) vf vc] w λe w'=>e=.returned (.tuple #[]) /\ ∃w2,R w2/\w'=(w2.drew.setCell ⟨b,off,N2⟩ (.int .u32 1)).setCell ⟨b,off+1,N2⟩ (.int .i32 0):=by
 have hl:=J4 (P:=Tryz.prog) Tryz.func308 bIv bIv bIv .u32 bIv (w:=w.setCell ⟨b,off+1,N2⟩ (.int .i32 1)) (a:=⟨b,off,N2⟩) (x:=0) ((KR _ ⟨b,off+1,N2⟩ ⟨b,off,N2⟩ _ siT).trans h0);have Qr:∀(x:Bool)(w:BL),(Op.unary .not (.bool x)).run Tryz.prog w=.ok (.bool (!x)) w:=λ_ _=>rfl;have e309:∀args w,(callFunc 309 args).run Tryz.prog w=.ok (.enter 309 args) w:=enters_of Tryz.func309 bIv rfl;subst re
 go_enter_defers Tryz.func267,Tryz.ntmps267
 go_wp2_with (go_at_fn 309;refine (aPl ⟨b,off+1,N2⟩ _ (by go_simp) (by go_simp)).mono ?_;rintro e w' ⟨rfl,rfl⟩)
 go_wp2
 refine hf.mono ?_;rintro e w' ⟨⟨x,rfl⟩,tv⟩;obtain⟨⟨x0,jr⟩,z0,lz,z1⟩:=hR w' tv
 go_wp2
 all_goals try go_end0
 all_goals try go_wp2
 refine leaves_cons (f:=311) (args := #[.pointer (N1 ⟨b,off,N2⟩),.bool Pa]) siT (by simp[go_sem]) ?_;refine (aHx ⟨b,off,N2⟩ x0 .returning _ jr z0).mono ?_;rintro e u' w'' ⟨rfl,rfl,rfl⟩;refine leaves_cons (f:=310) (args := #[.pointer (N1 ⟨b,off+1,N2⟩)]) (by simp[settle]) (by simp[go_sem]) ?_;refine (aGg ⟨b,off+1,N2⟩ _ _ ?_ (by simp[z1])).mono ?_
 .refine (KR _ ⟨b,off,N2⟩ ⟨b,off+1,N2⟩ _ siT).trans ?_;rw[World.cell?_drew];exact lz
 rintro e u' w'' ⟨rfl,rfl,rfl⟩;simp[Leaves,settle,results,Tryz.results267];exact⟨w',tv,rfl⟩
end Go.Proofs.Sa
end
section
namespace Go.AM
open Go
variable {a:AV}{c:Ctx}{k:DK}{m:Int}{ρ:LA}{H':LO}{wr:List Nat}{r:List ae}{b n:Nat}{call:Nat->LA->LO->Out}{x:aa}{s:gp}
def aWZ(off:Nat)(k:DK)(m:Int):ag:=.seq (.region Po [⟨N1 1,.fld 0 1 Po (.tmp 0),N2,[]⟩,⟨N1 1,.fa off (.tmp 1),N2,[]⟩,⟨N1 1,.load 1 Po (.tmp 1),N2,[]⟩,⟨N1 1,.bin .eql .no (.tmp 1) (.const (.int k m)),N2,[]⟩]) (.cond (.tmp 1) .skip .bad)
def aX0(off:Nat)(k:DK)(m:Int):ag:=.region Po [⟨N1 1,.fld 0 1 Po (.tmp 0),N2,[]⟩,⟨N1 1,.fa off (.tmp 1),N2,[]⟩,⟨N2,.store 1 (.tmp 1) (.const (.int k m)),N2,[]⟩]
def aTS:ag:=.region Po [⟨N1 1,.fld 1 1 Po (.tmp 0),N2,[]⟩,⟨N1 1,.dm (.tmp 1) [],N2,[]⟩]
def aRp:ag:=.seq (aWZ 0 .u32 0)<|.seq (aWZ 1 .i32 0)<|.seq (aX0 1 .i32 1)<|.seq aTS<|.seq (aWZ 1 .i32 1)<|.seq (aX0 0 .u32 1) (aX0 1 .i32 0)
def nI:bw:=⟨2,[],[],.seq (.region Po [⟨N1 0,.cz (.tmp 0),N2,[]⟩,⟨N1 1,.cz (.tmp 1),N2,[]⟩,⟨N1 0,.build [.undef,.undef] [(0,1,.tmp 0),(1,1,.tmp 1)],N2,[]⟩]) aRp⟩
section
variable {P:CU}{ab:cu}{A:af}{g:G}{H:LO}{w:BL}
def aTT(fid:Nat)(vf vc:List BE):Oper:=⟨N2,.call { callee:=.value (.const (.func (.func fid) vf.toArray vc.toArray)),args := #[],argTypes := #[] },0,"",#[],N2⟩
def aLK{fid:Nat}{first ay:LA}{vf vc:List BE}(yo:fU g first vf)(hlc:fU g ay vc)(az:oT P ab call){site:Option Nat}{av:AV}(h:cX call H site (.fn fid first ay) []=N1 (av,H',wr))(hw:WF g H w)(hg:bM P ab g):(∀w,(callFunc fid (vf++vc).toArray).run P w=.ok (.enter fid (vf++vc).toArray) w) /\ FV P fid (vf++vc).toArray w λe w'=>(∃x,e=.returned x)/\∃g',Step g H w g' H' w' wr:=by
 have hF:∃Fn,P.funcs[fid]? = N1 Fn/\(Fn.name == "runtime.NumGoroutine")=Po/\Fn.body.isNone=false:=by
  simp only[cX]at h;split at h
  .cases h
  rename_i args' lent vn;split at h
  .cases h
  rename_i v H2 en hc;have hargs:fU g (first++[]++ay) (vf++[]++vc):=(yo.append ⟨rfl,λi a x h=>by simp at h⟩).append hlc;obtain⟨l1,l2⟩:=pU hw vn hargs;obtain⟨g1,jj,vo⟩:=iR lent g H hw λo ho=>.inl (l1 o ho);exact (az.1 fid _ _ v H2 en hc g1 w _ jj.wf (hg.mono jj.le) (l2 g1 vo).strip).1
 obtain⟨Fn,Qd,jq,gh⟩:=hF;have hn:¬(Fn.name = "runtime.NumGoroutine"):=by simpa using jq
 have hb:¬(Fn.body=N2):=λe=>by rw[e]at gh;simp at gh
 refine⟨λw=>by simp[callFunc,Qd,hn,hb], ?_⟩;have ej:(execOp (Go.Act.eval { tmps := #[],defers:=[] }) (aTT fid vf vc)).run P w=.ok (.enter fid (vf++vc).toArray) w:=by simp[aTT,execOp,resolve,Go.Act.eval,Deferred.ofValue,invoke,callFunc,Qd,hn,hb]
 have hd:=aDV
  (vx:=[]) yo ⟨rfl,λi a x h=>by simp at h⟩ hlc az h hw hg λFn' _ _ _=>by simpa using ej
 rcases hd with⟨v,w',hr,_⟩ | ⟨w',hr,_⟩ | ⟨f,args,w1,hr,hR⟩ | ⟨l,f,t,b,c,w1,hr,_⟩
 .rw[ej]at hr;cases hr
 .rw[ej]at hr;cases hr
 .rw[ej]at hr;cases hr;refine hR.mono λe w' he=>?_;cases e with
  |panicked c=>exact he.elim
  |outgrown=>exact he.elim
  |returned x=>exact⟨⟨x,rfl⟩,by obtain⟨g',h1,_⟩:=he;exact⟨g',h1⟩⟩
 rw[ej]at hr;cases hr
def faV(off:Nat):AV->Option AV
 |.ptr o v off0=>N1 (.ptr o v (off0+off))
 |.vp o v n k i off0=>N1 (.vp o v n k i (off0+off))
 |.ep row off0=>N1 (.ep row (off0+off))
 |_=>N2
def bCa{a':AV}(h:faV 0 a=N1 a'):a'=a:=by cases a<;>first | (simp only[faV,AG,DU]at h;exact h.symm) | cases h
def aPn{off o2:Nat}{a':AV}(h:faV off a=N1 a')(hv:ai g a (.pointer (N1 ⟨b,o2,N2⟩))):ai g a' (.pointer (N1 ⟨b,o2+off,N2⟩)):=by
 cases hv with
 |ptr o v off0 l ad hl hv hh=>simp only[faV,AG]at h;subst h;exact .ptr o v _ l _ hl hv λe1 e2=>by have:=hh e1 e2;simp only[Go.Addr.mk.injEq]at this;rw[this.1,this.2.1]
 |vp o v n k i off0 l ad hl hv hn hh=>simp only[faV,AG]at h;subst h;exact .vp o v n k i _ l _ hl hv hn λe1 e2=>by have:=hh e1 e2;simp only[Go.Addr.mk.injEq]at this;rw[this.1,this.2.1,EU]
 |ep row off0 b' base bd hp hh=>
  simp only[faV,AG]at h;subst h;have:=ai.ep row (off0+off) b base bd hp hh
  rwa [<- EU]at this
 |undef=>cases h
def aKp{d:Option Nat}:(⟨b,[]⟩:Ctx).site d=none:=by cases d<;>simp[Ctx.site]
def opR{o:ae}{s':gp}(xg:o.guard=N2)(hW:isW N2 Po o.op=Po)(h:jL call ⟨b,[]⟩ (o::r) s=N1 s'):∃v,evR s.H s.ρ o.op=N1 v/\jL call ⟨b,[]⟩ r ⟨bg s.ρ o.dst v,s.H,s.wr⟩=N1 s':=by
 simp only[jL,pF,wanted,xg,Vu,aOI,aKp,hW,BX,Vt]at h;split at h
 .rename_i v H' wr h1;split at h1
  .rename_i v2 h2;cases h1;exact⟨_,h2,h⟩
  cases h1
 cases h
def opW{o:ae}{s':gp}(xg:o.guard=N2)(hW:isW N2 Po o.op=Pa)(h:jL call ⟨b,[]⟩ (o::r) s=N1 s'):∃v H' l,evW call s.H s.ρ N2 o.op=N1 (v,H',l)/\jL call ⟨b,[]⟩ r ⟨bg s.ρ o.dst v,H',bE b s.wr l⟩=N1 s':=by
 simp only[jL,pF,wanted,xg,Vu,aOI,aKp,hW]at h;split at h
 .rename_i v H' wr h1;exact⟨_,_,_,h1,h⟩
 cases h
def aAj{x y:ag}{e s'}(hx:∀m e s1,cY A m c x s=N1 (e,s1)->e=.normal)(h:cY A n c (.seq x y) s=N1 (e,s')):∃m s1,m<n/\cY A m c x s=N1 (.normal,s1)/\cY A m c y s1=N1 (e,s'):=by
 cases n with
 |zero=>rw[gT]at h;cases h
 |succ m=>
  rw[iD]at h;split at h
  .rename_i s1 h1;exact⟨m,s1,HR m,h1,h⟩
  rename_i tp;obtain rfl:=hx m e s' h;exact Vv h (tp s')
def aE8{ops:List ae}{e s'}(h:cY A n c (.region Po ops) s=N1 (e,s')):e=.normal/\∃m,m<n/\jL (dD A m) c ops s=N1 s':=by
 cases n with
 |zero=>rw[gT]at h;cases h
 |succ m=>
  rw[iS]at h;split at h
  .rename_i s1 h1;cases h;exact⟨rfl,m,HR m,h1⟩
  cases h
def aTU{x:AV}(h:kJ .eql .no x (.int k m)=N1 (.bool Pa)):x=.int k m:=by
 cases x with
 |int k' m'=>
  simp only[kJ]at h;split at h
  .rename_i hk;subst hk;simp at h;rw[h]
  cases h
 |_=>change N2=N1 _ at h;cases h
def aE9{off:Nat}{p f y:AV}{H:LO}{e s'}(h:cY A n ⟨b,[]⟩ (aWZ off k m) ⟨[.agg [p,f],y],H,wr⟩=N1 (e,s')):e=.normal/\∃p' z,faV off p=N1 p'/\bC H 1 p'=N1 [.int k m]/\s'=⟨[.agg [p,f],z],H,wr⟩:=by
 obtain⟨n1,s1,_,h1,h2⟩:=aAj (λm e s1 h=>(aE8 h).1) h;obtain⟨_,n2,_,h1⟩:=aE8 h1;obtain⟨v1,e1,h1⟩:=opR rfl rfl h1;obtain⟨v2,e2,h1⟩:=opR rfl rfl h1;obtain⟨v3,e3,h1⟩:=opR rfl rfl h1;obtain⟨v4,e4,h1⟩:=opR rfl rfl h1;simp only[jL,AG]at h1;subst h1;simp[evR,aa.ev,eD]at e1;subst e1;simp only[evR,bg,aa.ev,GL,GM,CT,BG,EN]at e2 e3 e4;have e2':faV off p=N1 v2:=by cases p<;>simp_all [faV]
 cases n1 with
 |zero=>rw[gT]at h2;cases h2
 |succ n1=>
  rw[iT]at h2;simp only[bg,aa.ev,GL,GM,CT,BG,EN]at h2;split at h2
  .cases n1 with
   |zero=>rw[gT]at h2;cases h2
   |succ n1=>
    cases h2;refine⟨rfl,v2,.bool Pa,e2', ?_,rfl⟩;split at e3
    .rename_i cs hr;have hc:cs=[v3]:=by
      simp only[eD,BX,Vt]at e3;split at e3
      .cases e3;rfl
      cases e3
     subst hc;rw[hr,aTU e4]
    cases e3
  .cases n1 with
   |zero=>rw[gT]at h2;cases h2
   |succ n1=>rw[qG]at h2;cases h2
  cases h2
def aPo{H:LO}{l:List Nat}(h:evW call H ρ N2 (.store 1 x (.const (.int k m)))=N1 (a,H',l)):storeCells H [.int k m] (x.ev ρ)=N1 (H',l):=by
 have e:evW call H ρ N2 (.store 1 x (.const (.int k m)))=(match storeCells H [.int k m] (x.ev ρ)with | some (H',wr)=>N1 (.undef,H',wr) | none=>N2):=rfl;rw[e]at h;split at h
 .rename_i h1;cases h;exact h1
 cases h
def aKq{H:LO}{v:AV}(h:evR H ρ (.cz x)=N1 v):v=x.ev ρ/\v.cells=[v]/\v≠.undef/\∀o w,v≠.yld o w:=by simp only[evR]at h;split at h<;>first | (cases h;rename_i e;exact⟨e.symm,rfl,siT,siT⟩) | cases h
def aPp{H:LO}{p f v:AV}(hp:ρ[0]? = N1 p)(hf:ρ[1]? = N1 f)(cp:p.cells=[p])(cf:f.cells=[f])(h:evR H ρ (.build [.undef,.undef] [(0,1,.tmp 0),(1,1,.tmp 1)])=N1 v):v=.agg [p,f]:=by
 simp only[evR,iA,aa.ev,hp,hf,EN,cp,cf]at h;split at h
 .split at h
  .simpa [nV]using h.symm
  cases h
 cases h
def aGh{off:Nat}{p f y:AV}{H:LO}{e s'}(h:cY A n ⟨b,[]⟩ (aX0 off k m) ⟨[.agg [p,f],y],H,wr⟩=N1 (e,s')):e=.normal/\∃p' z H' l,faV off p=N1 p'/\storeCells H [.int k m] p'=N1 (H',l)/\s'=⟨[.agg [p,f],z],H',bE b wr l⟩:=by
 obtain⟨he,n2,_,h1⟩:=aE8 h;obtain⟨v1,e1,h1⟩:=opR rfl rfl h1;obtain⟨v2,e2,h1⟩:=opR rfl rfl h1;obtain⟨v3,H3,l,e3,h1⟩:=opW rfl rfl h1;simp only[jL,AG]at h1;subst h1;simp[evR,aa.ev,eD]at e1;subst e1;have e3:=aPo e3;simp only[evR,bg,aa.ev,GL,GM,CT,BG,EN]at e2 e3;have e2':faV off p=N1 v2:=by cases p<;>simp_all [faV]
 exact⟨he,v2,v2,H3,l,e2',e3,rfl⟩
def aMU{p f y:AV}{H:LO}{e s'}(h:cY A n ⟨b,[]⟩ aTS ⟨[.agg [p,f],y],H,wr⟩=N1 (e,s')):e=.normal/\∃m z H' l,m<n/\cX (dD A m) H N2 f []=N1 (z,H',l)/\s'=⟨[.agg [p,f],z],H',bE b wr l⟩:=by obtain⟨he,n2,hn,h1⟩:=aE8 h;obtain⟨v1,e1,h1⟩:=opR rfl rfl h1;obtain⟨v3,H3,l,e3,h1⟩:=opW rfl rfl h1;simp only[jL,AG]at h1;subst h1;simp[evR,aa.ev,eD]at e1;subst e1;exact⟨he,n2,v3,H3,l,hn,e3,rfl⟩
def aRq{args:LA}{H:LO}{r:AV×LO×List Nat}(hp:A.bq 267=N2)(hf:A.fn 267=N1 nI)(h:dD A n 267 args H=N1 r):∃p f q0 q1 m z H1 H2 H3 H4 l1 l2 l3 l4,args=[p,f]/\(∀o v,f≠.yld o v)/\m<n/\faV 0 p=N1 q0/\faV 1 p=N1 q1/\bC H 1 q0=N1 [.int .u32 0]/\bC H 1 q1=N1 [.int .i32 0] /\ storeCells H [.int .i32 1] q1=N1 (H1,l1)/\cX (dD A m) H1 N2 f []=N1 (z,H2,l2)/\bC H2 1 q1=N1 [.int .i32 1] /\ storeCells H2 [.int .u32 1] q0=N1 (H3,l3)/\storeCells H3 [.int .i32 0] q1=N1 (H4,l4) /\ r=cJ H.length (.tup [],H4,bE H.length (bE H.length (bE H.length (bE H.length [] l1) l2) l3) l4):=by
 rcases sS h with⟨p,v1,hp',_⟩ | ⟨fn,s',e,r',xb,he,Ra,zk,hr,hN⟩ | ⟨xb,_⟩
 rotate_left 2
 .rw[hf]at xb;cases xb
 .rw[hp]at hp';cases hp'
 rw[hf]at xb;cases xb;obtain⟨n1,s1,lx,h1,he⟩:=aAj (λm e s1 h=>(aE8 h).1) he;obtain⟨_,_,_,h1⟩:=aE8 h1;obtain⟨u1,d1,h1⟩:=opR rfl rfl h1;obtain⟨u2,d2,h1⟩:=opR rfl rfl h1;obtain⟨v1,e1,h1⟩:=opR rfl rfl h1;simp only[jL,AG]at h1;subst h1;obtain⟨d1,c1,u1',_⟩:=aKq d1;obtain⟨d2,c2,u2',y2⟩:=aKq d2
 match args,d1,d2,e1,hN with
 | [],d1,_,e1,_=>exact Vv (by simpa [nF,nI,aa.ev]using d1) u1'
 | [p],d1,d2,e1,_=>exact Vv (by simpa [nF,nI,aa.ev,bg]using d2) u2'
 |p::f::x::r,d1,d2,e1,hN=>simp[nI]at hN
 | [p,f],d1,d2,e1,hN=>
  simp[nF,nI,aa.ev,bg]at d1 d2;subst d1;subst d2;have qy:v1=.agg [u1,u2]:=aPp (by simp[nF,nI,bg]) (by simp[nF,nI,bg]) c1 c2 e1;subst qy;have he:cY A n1 ⟨H.length,[]⟩ aRp ⟨[.agg [u1,u2],u2],H,[]⟩=N1 (e,s'):=by simpa [nF,bg,nI]using he
  unfold aRp at he;obtain⟨n3,s3,hn3,h3,he⟩:=aAj (λm e s1 h=>(aE9 h).1) he;obtain⟨_,q0,z0,a1,a2,rfl⟩:=aE9 h3;obtain⟨n4,s4,hn4,h4,he⟩:=aAj (λm e s1 h=>(aE9 h).1) he;obtain⟨_,q1,z1,b1,b2,rfl⟩:=aE9 h4;obtain⟨n5,s5,hn5,h5,he⟩:=aAj (λm e s1 h=>(aGh h).1) he;obtain⟨_,q1',z2,H1,l1,c1,c2,rfl⟩:=aGh h5;obtain⟨n6,s6,hn6,h6,he⟩:=aAj (λm e s1 h=>(aMU h).1) he;obtain⟨_,m,z3,H2,l2,hm,d1,rfl⟩:=aMU h6;obtain⟨n7,s7,hn7,h7,he⟩:=aAj (λm e s1 h=>(aE9 h).1) he;obtain⟨_,q2,z4,f1,f2,rfl⟩:=aE9 h7;obtain⟨n8,s8,hn8,h8,he⟩:=aAj (λm e s1 h=>(aGh h).1) he;obtain⟨_,q3,z5,H3,l3,g1,g2,rfl⟩:=aGh h8;obtain⟨_,q4,z6,H4,l4,i1,i2,rfl⟩:=aGh he;rw[b1]at c1 f1 i1;rw[a1]at g1;cases c1;cases f1;cases i1;cases g1;refine⟨u1,u2,q0,q1,m,z3,H1,H2,H3,H4,l1,l2,l3,l4,rfl,y2,omT,a1,b1,a2,b2,c2,d1,f2,g2,i2, ?_⟩;rw[hr];simp[aA4,aIS,aBv,nI,bE]at zk;rw[<- zk]
end
end Go.AM
namespace Go.Proofs.Sa
open Go Go.AM Go.Proofs Go.RowKit Go.Lib
def yu{ab:cu}{A:af}(hp:A.bq 267=N2)(hf:A.fn 267=N1 nI):aWY Tryz.prog ab A 267:=by
 intro n hm f' args H av H' wr hh g w xs hw hg hx;dsimp only at hh;split at hh;rotate_left
 .cases hh
 rename_i e;subst e;refine⟨⟨Tryz.f267,Tryz.func267,bIv,bIv⟩, ?_⟩;obtain⟨p,f,q0,q1,m,z,H1,H2,H3,H4,l1,l2,l3,l4,rfl,hny,hmn,a0,a1,r0,r1,s1,d1,r2,s3,s4,hr⟩:=aRq hp hf hh;obtain⟨x,y,rfl,hv,hy⟩:=nH hx;have jr:∃b off,x=.pointer (N1 ⟨b,off,N2⟩):=by have e:=bCa a0;subst e;obtain⟨b,off,_,e,_⟩:=eI hw r0 hv;exact⟨b,off,e⟩
 obtain⟨b,off,rfl⟩:=jr;have v0:=aPn a0 hv;have v1:=aPn a1 hv;obtain⟨b0,o0,vs0,e0,k0,t0,c0⟩:=eI hw r0 v0;cases e0;obtain⟨b1,o1,vs1,e1,k1,t1,c1⟩:=eI hw r1 v1;cases e1;have jg:w.cell? ⟨b,off,N2⟩=N1 (.int .u32 0):=by
  obtain⟨hl,hr⟩:=t0
  match vs0,hl with
  | [y0],_=>have:=hr 0 _ _ rfl rfl;cases this;exact c0 0 _ rfl
 have mj:w.cell? ⟨b,off+1,N2⟩=N1 (.int .i32 0):=by
  obtain⟨hl,hr⟩:=t1
  match vs1,hl with
  | [y0],_=>have:=hr 0 _ _ rfl rfl;cases this;exact c1 0 _ rfl
 have one:∀{g:G}(k:DK) n,fU g [.int k n] [.int k n]:=λk n=>⟨rfl,λi a x e1 e2=>by
  match i with
  |0=>simp at e1 e2;subst e1;subst e2;exact .int k n
  |i+1=>simp at e1⟩
 obtain⟨b2,o2,e2,i2,f2,st1⟩:=fF hw s1 v1 (one .i32 1);cases e2;have Wg:=f2 0 siT;cases f with
 |fn fid first ay=>
  obtain⟨vf,vc,ey,yo,hlc⟩:=hy.rm;subst ey;have az:=hm m hmn;obtain⟨iv,kr⟩:=aLK (yo.mono st1.le) (hlc.mono st1.le) az d1 st1.wf (hg.mono st1.le);refine (aPm b off fid vf vc _ w (λw'=>∃g',Step g H1 (w.setCells b (off+1) [.int .i32 1]) g' H2 w' l2) iv siT jg mj Wg ?_ ?_).mono ?_
  .simpa [IZ]using kr
  .rintro w' ⟨g',st2⟩;have hle:=st1.le.trans st2.le;obtain⟨b3,o3,e3,i3,f3,st3⟩:=fF st2.wf s3 (v0.mono hle) (one .u32 1);cases e3;obtain⟨b4,o4,e4,i4,f4,st4⟩:=fF st3.wf s4 (v1.mono hle) (one .i32 0);cases e4;obtain⟨b5,o5,vs5,e5,k5,t5,c5⟩:=eI st2.wf r2 (v1.mono hle);cases e5;refine⟨?_,f3 0 siT, ?_, ?_⟩
   .have:=i3 0 siT;exact Option.isSome_iff_exists.1 this
   .obtain⟨hl,hr⟩:=t5
    match vs5,hl with
    | [y0],_=>have:=hr 0 _ _ rfl rfl;cases this;exact c5 0 _ rfl
   have:=f4 0 siT;simpa [IZ]using this
  rintro e w' ⟨rfl,w2,⟨g',st2⟩,rfl⟩;have st2':=st2.trans (Step.of_heap (w':=w2.drew) st2.wf rfl);have hle:=st1.le.trans st2'.le;obtain⟨b3,o3,e3,i3,f3,st3⟩:=fF st2'.wf s3 (v0.mono hle) (one .u32 1);cases e3;obtain⟨b4,o4,e4,i4,f4,st4⟩:=fF st3.wf s4 (v1.mono hle) (one .i32 0);cases e4;have da:=((st1.trans st2').trans st3).trans st4;have Yi:=Step.narrow (wr:=bE H.length (bE H.length (bE H.length (bE H.length [] l1) l2) l3) l4) hw.lt da (λo ho hb=>by
   simp only[AJ,List.mem_append]at ho;rcases ho with ((ho|ho) | ho) | ho
   .exact (cE _ _ _).1 o ((cE _ _ _).1 o ((cE _ _ _).1 o ((cE _ _ _).2 o ho hb)))
   .exact (cE _ _ _).1 o ((cE _ _ _).1 o ((cE _ _ _).2 o ho hb))
   .exact (cE _ _ _).1 o ((cE _ _ _).2 o ho hb)
   exact (cE _ _ _).2 o ho hb)
  simp only[cJ]at hr;split at hr
  .rename_i zl;simp only[AI]at zl;cases hr;refine⟨g'.cut H.length,Step.cut hw Yi λo ho x hx=>?_,ai.skip _⟩;have:=AO.1 zl.2 o ho;rw[hx]at this;exact this
  cases hr;exact⟨g',Yi,ai.skip _⟩
 |yld o v=>exact Vv rfl (hny o v)
 |_=>simp[cX]at d1
end Go.Proofs.Sa
end
section
namespace Go.Proofs
open Go.Shelf Go.RowKit Go.Sort Go.Lib
variable {P:CU}{ρ:Ren}
def vM{ops:Array Oper}{bML:List Oper}{o:Oper}{a:Act}{w:BL}{Q:Exit->Act->BL->Prop}(xg:o.guard=N2)(sl x:Operand)(t u:BP)(ho:o.op=.call { callee:=.builtin .append,args := #[sl,x],argTypes := #[t,u] })(v xv v':BE)(w':BL)(hs:a.eval sl=v)(hx:a.eval x=xv)(hr:(DA #[t,u] o.type #[v,xv]).run P w=.ok v' w')(h:wpList P ops Q bML (a.put o.dst v') w'):wpList P ops Q (o::bML) a w:=by refine wpList_plain xg λK hK=>?_;unfold Oper.wp execOp;simp only[ho,resolve,invoke,builtin,Sem.run_bind,Sem.run_pure,Result.andThen_ok,List.map_toArray,BI,BY,hs,hx,hr];exact hK _ _ h
def aNV(L:LaysM.n288 P ρ)(u:Nat)(hu:u<100)(sv v':BE)(w w1:BL)(ej:∀ty,(DA #[ρ.t 37,ρ.t 9] ty #[sv,.string ⟨(DT u).toArray⟩]).run P w=.ok v' w1):FV P (ρ.f 288) #[sv,.int .u64 u,.int .i64 10] w λe w'=>e=.returned v'/\w'=w1:=by
 have mixed:=L.mixed;have t5:=L.t5;have a5:=L.a5;have z5:=L.z5;have v5:=L.v5;have t37:=L.t37;have u37:=BH L.t37;have a37:=L.a37;have z37:=L.z37;have v37:=L.v37;have t53:=L.t53;have a53:=L.a53;have z53:=L.z53;have v53:=L.v53;have t3:=L.t3;have a3:=L.a3;have z3:=L.z3;have v3:=L.v3;have t4:=L.t4;have a4:=L.a4;have z4:=L.z4;have v4:=L.v4;have t9:=L.t9;have a9:=L.a9;have z9:=L.z9;have v9:=L.v9;have t171:=L.t171;have a171:=L.a171;have z171:=L.z171;have v171:=L.v171;have t0:=L.t0;have a0:=L.a0;have z0:=L.z0;have v0:=L.v0;have t173:=L.t173;have a173:=L.a173;have z173:=L.z173;have v173:=L.v173;have e283:∀args w,(callFunc (ρ.f 283) args).run P w=.ok (.enter (ρ.f 283) args) w:=enters_of L.f283 (by kernel_rfl) rfl
 go_enter L.f288,Body.n288_ntmps ρ
 go_wp2_with (first
  | (go_at_fn (ρ.f 283);refine (Any.internal_strconv_small { L with } u hu _).mono ?_;rintro e w' ⟨rfl,rfl⟩)
  | (at_builtin;refine vM rfl _ _ (ρ.t 37) (ρ.t 9) rfl _ _ _ _ rfl rfl (ej _) ?_))
 go_wp2
 go_ret
 exact⟨rfl,rfl⟩
def aRr(L:LaysM.n288 P ρ)(u:Nat)(hu:100<=u)(hu64:u<18446744073709551616)(sv:BE)(w:BL)(cx:OL P w "internal/strconv.uint64pow10" .u64 EB)(Q:BE->BL->Prop)(db:∀w2:BL,w.heap.size<=w2.heap.size->(∀b,b<w.heap.size->w2.heap[b]? = w.heap[b]?)->w2.os=w.os/\w2.output=w.output ->(∀j u',(HZ (DT u))[j]? = N1 u'->w2.cell? ⟨w.heap.size,j,N2⟩=N1 u') ->∃v' w',(∀ty,(DA #[ρ.t 37,ρ.t 37] ty #[sv,.slice (N1 ⟨w.heap.size,0,N2⟩) (GO u) 24]).run P w2=.ok v' w')/\Q v' w'):FV P (ρ.f 288) #[sv,.int .u64 u,.int .i64 10] w λe w'=>∃v',e=.returned v'/\Q v' w':=by
 have mixed:=L.mixed;have t5:=L.t5;have a5:=L.a5;have z5:=L.z5;have v5:=L.v5;have t37:=L.t37;have u37:=BH L.t37;have a37:=L.a37;have z37:=L.z37;have v37:=L.v37;have t53:=L.t53;have a53:=L.a53;have z53:=L.z53;have v53:=L.v53;have t3:=L.t3;have a3:=L.a3;have z3:=L.z3;have v3:=L.v3;have t4:=L.t4;have a4:=L.a4;have z4:=L.z4;have v4:=L.v4;have t9:=L.t9;have a9:=L.a9;have z9:=L.z9;have v9:=L.v9;have t171:=L.t171;have a171:=L.a171;have z171:=L.z171;have v171:=L.v171;have t0:=L.t0;have a0:=L.a0;have z0:=L.z0;have v0:=L.v0;have t173:=L.t173;have a173:=L.a173;have z173:=L.z173;have v173:=L.v173;have e284:∀args w,(callFunc (ρ.f 284) args).run P w=.ok (.enter (ρ.f 284) args) w:=enters_of L.f284 (by kernel_rfl) rfl;have e285:∀args w,(callFunc (ρ.f 285) args).run P w=.ok (.enter (ρ.f 285) args) w:=enters_of L.f285 (by kernel_rfl) rfl;have hu1:1<=u:=by omega
 have hnd20:GO u<=20:=by have:=Lib.numDigits_eq u hu1 hu64;split at this<;>omega
 have j8:P.arrayLen (ρ.t 171)=24:=by simp[Go.Program.arrayLen,L.t171]
 have G6:∀W,(Instr.sliceAt (ρ.t 171) (.pointer (N1 ⟨w.heap.size,0,N2⟩)) N2 (N1 (.int .i64 (GO u:Int))) N2).run P W=.ok (.slice (N1 ⟨w.heap.size,0,N2⟩) (GO u) 24) W:=λW=>by
  rw[run_sliceAt_array_h W (ρ.t 171) ⟨w.heap.size,0,N2⟩ (by simp[Go.Program.arrayLen,Program.elem,L.t171]) .i64 (GO u:Int) (by omega) (by rw[j8];omega)]
  go_simp
 have hH0:=Lib.holds_zero0 w (ρ.t 171) (GO u) (by omega);have hfmt:=Any.internal_strconv_formatBase10 { L with } w.heap.size 0 24 u (Array.replicate (GO u) 0) (w.alloc (.cells GP (ρ.t 171))) hH0 (by rw[HG];exact Lib.lt_pow_nDigits u) hu64 (by rw[HG];omega);rw[HG]at hfmt;have HH0:=Lib.hid hH0;have iu:(100:Int)<=(u:Int):=by omega
 clear hH0 j8
 go_enter L.f288,Body.n288_ntmps ρ
 go_wp2_with (first
  | (go_at_fn (ρ.f 284);refine (Any.internal_strconv_numDigits { L with } u hu1 hu64 _ (Lib.tabIs_alloc cx _)).mono ?_;rintro e w' ⟨rfl,rfl⟩))
 go_at_fn (ρ.f 285)
 refine hfmt.mono ?_;rintro e w' ⟨rfl,k,v',dk,rfl,hF⟩;have jy:∀j u',(HZ (DT u))[j]? = N1 u'->((putRow (λ(b:UInt8)=>EJ .u8 (b.toNat:Int)) (w.alloc (.cells GP (ρ.t 171))) w.heap.size 0 dk).drewN k).cell? ⟨w.heap.size,j,N2⟩=N1 u':=by
  intro j u' hj;have mo:j<(DT u).length:=by
   have h5:=(AH.1 hj).1
   rwa [Lib.byteCells_length]at h5
  have e5:(HZ (DT u))[j]? = N1 (EJ .u8 ((DT u)[j].toNat:Int)):=by simp[HZ,mo]
  rw[e5]at hj;cases hj;rw[Lib.row_is_numeral hF j mo,World.cell?_drewN];have:=cell?_putRow (λ(b:UInt8)=>EJ .u8 (b.toNat:Int)) _ w.heap.size 0 _ dk HH0.out (by rw[hF.size,HG]) j (by rw[hF.size];rw[MW]at mo;exact mo)
  rwa [BC]at this
 obtain⟨os,eo⟩:=Lib.fin_at w (.cells GP (ρ.t 171)) dk k 0;have hsz2:w.heap.size<=((putRow (λ(b:UInt8)=>EJ .u8 (b.toNat:Int)) (w.alloc (.cells GP (ρ.t 171))) w.heap.size 0 dk).drewN k).heap.size:=by rw[eo];exact Lib.size_grow w k os
 have da:∀b,b<w.heap.size->((putRow (λ(b:UInt8)=>EJ .u8 (b.toNat:Int)) (w.alloc (.cells GP (ρ.t 171))) w.heap.size 0 dk).drewN k).heap[b]? = w.heap[b]? := λb hb=>by rw[eo];exact Lib.heap_grow_old w k os b hb
 have kh:((putRow (λ(b:UInt8)=>EJ .u8 (b.toNat:Int)) (w.alloc (.cells GP (ρ.t 171))) w.heap.size 0 dk).drewN k).os=w.os/\((putRow (λ(b:UInt8)=>EJ .u8 (b.toNat:Int)) (w.alloc (.cells GP (ρ.t 171))) w.heap.size 0 dk).drewN k).output=w.output:=by rw[eo];exact⟨rfl,rfl⟩
 generalize (putRow (λ(b:UInt8)=>EJ .u8 (b.toNat:Int)) (w.alloc (.cells GP (ρ.t 171))) w.heap.size 0 dk).drewN k=W2 at jy hsz2 da kh ⊢;clear eo HH0 hfmt;obtain⟨v2,w3,hr,hQ⟩:=db W2 hsz2 da kh jy
 go_wp2_with (at_builtin;refine vM rfl _ _ (ρ.t 37) (ρ.t 37) rfl _ _ _ _ rfl rfl (hr _) ?_)
 go_wp2
 go_ret
 exact⟨v2,rfl,hQ⟩
end Go.Proofs
end
section
namespace Go.AM
open Go
def oN:aIP:=λargs H=>match args with
 | [.sr o v n,.int .u64 i,.int .i64 b]=>match H[o]? with
  |some (.vec v' 1 rows)=>if v'=v/\rows.length=n/\0<=i/\i<1000000/\n<=1000000000/\b=10/\dF 1 rows=Pa then
    N1 (.sr o v (n+(nC 7 i.toNat).length),[(o,.vec v 1 (rows++aJ (nC 7 i.toNat)))],[])
   else N2
  |_=>N2
 | [.sl Pa [],.int .u64 i,.int .i64 b]=>if 0<=i/\i<1000000/\b=10 then
   N1 (.own 1 (aJ (nC 7 i.toNat)),[],[])
  else N2
 |_=>N2
section
variable {P:CU}{ab:cu}{g:G}{H:LO}{w w':BL}
def aLL(hw:WF g H w){k:Nat}{rows:List LA}{b cap:Nat}(cm:rows.length<=cap)(cn:∀row∈rows,row.length=k)(dq:rows.all (λr=>r.all AV.still)=Pa)(dj:∀(i j:Nat)(row:LA) c,rows[i]? = N1 row->row[j]? = N1 c->∃y,w.cell? ⟨b,i*k+j,N2⟩=N1 y/\ai g c y)(Qm:∀j,g.perm b j=N2)(pd:∀o l x,au g H o l x->l.b≠b):∃g',Step g H w g' H w []/\ai g' (.sl Po rows) (.slice (N1 ⟨b,0,N2⟩) rows.length cap):=by
 have hle:g.le (g.bh b λi=>w.cell? ⟨b,i,N2⟩):=by
  refine⟨λb' i y hy=>?_,λo l hl=>⟨l,hl,AQ _,λ_=>⟨AQ _,λ_=>rfl⟩⟩,λ_ _ hx=>hx,rfl,rfl⟩;by_cases e:b'=b
  .subst e;rw[Qm i]at hy;cases hy
  simp only[G.bh,e,Vt];exact hy
 have dx:∀o l x,au (g.bh b λi=>w.cell? ⟨b,i,N2⟩) H o l x->au g H o l x:=λo l x hb=>⟨hb.Pr,hb.alive,hb.loc,hb.st⟩;refine⟨g.bh b λi=>w.cell? ⟨b,i,N2⟩,⟨hle,⟨λb' i y hy=>?_,hw.lt,hw.blk,hw.st,λo l x hb=>(hw.obj o l x (dx _ _ _ hb)).aq hle rfl,λo l x hb j=>?_,λo o' l l' x x' hb du=>hw.inj o o' l l' x x' (dx _ _ _ hb) (dx _ _ _ du),
   hw.whole.aq rfl rfl ⟨rfl,rfl⟩ (λ_ _ _=>rfl) λo l y hl=>.inr ⟨o,l,y,dx _ _ _ hl,rfl⟩⟩,
  aDS.refl _ _ _,λ_ _ _=>rfl,AQ _,λ_ l' hl=>.inr ⟨l',hl,rfl⟩,λ_ _ _=>rfl⟩, ?_⟩
 .by_cases e:b'=b
  .subst e;simpa only[G.bh,Vu]using hy
  simp only[G.bh,e,Vt]at hy;exact hw.perm b' i y hy
 .have bl:=pd o l x (dx _ _ _ hb);simp only[G.bh,bl,Vt];exact hw.jh o l x (dx _ _ _ hb) j
 refine .sl Po rows b 0 cap k cm siT cn (AO.1 dq) (λi j hi hj=>?_) λi j row c x h1 h2 h3=>?_
 .have yg:=cn rows[i] (List.getElem_mem hi);obtain⟨y,hy,_⟩:=dj i j rows[i] (rows[i][j]'omT) uWU siT;simp only[G.bh,Vu,BC,hy];rfl
 obtain⟨y,hy,hr⟩:=dj i j row c h1 h2;simp only[G.bh,Vu,BC,hy,AG]at h3;subst h3;exact hr.mono hle
def aLM{t u ty:BP}{S X:Operand}{dst:Option Tmp}{pos:String}{after:Array Edge}{guard:Option (Nat×Bool)}{a:Act}{R:BE->BL->Prop}(h:aA8 P ⟨dst,.call { callee:=.builtin .append,args := #[S,X],argTypes := #[t,u] },ty,pos,after,guard⟩ a w R):∃v w',(DA #[t,u] ty #[a.eval S,a.eval X]).run P w=.ok v w'/\R v w':=by
 have mn:(execOp a.eval ⟨dst,.call { callee:=.builtin .append,args := #[S,X],argTypes := #[t,u] },ty,pos,after,guard⟩).run P w=((DA #[t,u] ty #[a.eval S,a.eval X]).run P w).andThen λv w'=>.ok (.value v) w':=by simp[execOp,resolve,invoke,builtin]
 cases hr:(DA #[t,u] ty #[a.eval S,a.eval X]).run P w with
 |ok v w1=>
  rw[hr]at mn;rcases h with⟨v',w',e,hR⟩ | ⟨w',e,_⟩ | ⟨_,_,_,e,_⟩ | ⟨_,_,_,_,_,_,e,_⟩
  .rw[mn]at e;cases e;exact⟨_,_,rfl,hR⟩
  .rw[mn]at e;cases e
  .rw[mn]at e;cases e
  rw[mn]at e;cases e
 |_=>exfalso;rw[hr]at mn;rcases h with⟨v',w',e,hR⟩ | ⟨w',e,_⟩ | ⟨_,_,_,e,_⟩ | ⟨_,_,_,_,_,_,e,_⟩<;>(rw[mn]at e;cases e)
def aIk{t u e:BP}{i:TypeInfo}{z:BE}{d:TypeDesc}(ht:P.underlying t=N1 (.slice e))(hu:P.underlying u=N1 d)(hd:∀k,d≠.int k)(hi:P.info? e=N1 i)(hz:i.zero=N1 z)(su:z.cells.size=i.size){site:Option Nat}{s x av:AV}{sv xv:BE}{H':LO}{wr:List Nat}(h:eX H site i.size i.bytes s x=N1 (av,H',wr))(hw:WF g H w)(hg:bM P ab g)(hs:ai g s sv)(hx:ai g x xv)(ty:BP):∃v w',(DA #[t,u] ty #[sv,xv]).run P w=.ok v w'/\∃g',Step g H w g' H' w' wr/\ai g' av v:=by
 have G6:aX g [s,x] #[sv,xv]:=by
  refine⟨rfl,λt=>?_⟩
  match t with
  |0=>exact hs
  |1=>exact hx
  |t+2=>simpa using ai.undef _
 have:=aLM (aWB (P:=P) (ab:=ab) (w:=w) (ρ:=[s,x]) (a:={ tmps := #[sv,xv],defers:=[] }) (dst:=N2) (ty:=ty) (pos:= "") (after := #[]) (guard:=N2) (S:=.tmp 0) (X:=.tmp 1) (s:=.tmp 0) (x:=.tmp 1) (call:=λ_ _ _=>N2) (site:=site)
  ht hu hd hi hz rfl rfl su h hw hg G6)
 exact this
end
end Go.AM
namespace Go.Proofs.Sa
open Go Go.AM Go.Proofs Go.RowKit Go.Lib
def aIl{g:G}{a b c:AV}{xs:List BE}(h:fU g [a,b,c] xs):∃x y z,xs=[x,y,z]/\ai g a x/\ai g b y/\ai g c z:=by
 obtain⟨h1,h2⟩:=h
 match xs,h1 with
 | [x,y,z],_=>exact⟨x,y,z,rfl,h2 0 a x rfl rfl,h2 1 b y rfl rfl,h2 2 c z rfl rfl⟩
def aD7:∀(k n:Nat),(nC k n).length<=k
 |0,_=>AQ _
 |k+1,n=>by
  unfold nC;split
  .simp
  simp;exact aD7 k _
def aTV(k n:Nat):nC (k+1) n≠[]:=by unfold nC;split<;>simp
def aGi(l:List UInt8):(aJ l).all (λr=>r.all AV.still)=true:=by simp[aJ,List.all_map,AV.still]
def aPq{l:List UInt8}{r:LA}(h:r∈aJ l):r.length=1:=by simp only[aJ,List.mem_map]at h;obtain⟨b,_,rfl⟩:=h;rfl
def aIm(l:List UInt8):dF 1 (aJ l)=true:=by cases l<;>rfl
def aKr{ab:cu}{tab:Nat}(G3:Tryz.prog.globalNamed "internal/strconv.uint64pow10" = N1 tab)(cn:ab.row tab=N1 (EB.map λz=>AV.int .u64 z)){g:G}{H H0 H':LO}{w:BL}{site:Option Nat}{s av:AV}{sv:BE}{wr:List Nat}(u:Nat)(hu:u<1000000)(hw:WF g H w)(hg:bM Tryz.prog ab g)(h0:Step g H w g H0 w [])(hs:ai g s sv)(h:eX H0 site 1 1 s (.sl Po (aJ (nC 7 u)))=N1 (av,H',wr)):FV Tryz.prog 378 #[sv,.int .u64 u,.int .i64 10] w λe w'=>∃v',e=.returned v'/\∃g',Step g H w g' H' w' wr/\ai g' av v':=by
 have hd:nC 7 u=DT u:=aJ8 7 u omT omT;obtain⟨i0,hi,me,Wg,Xy⟩:=info_parts (show (Tryz.prog.info? 5).map (λi=>(i.zero,i.size,i.bytes))=N1 (N1 (.int .u8 0),1,1)by kernel_rfl);have su:(EJ .u8 0).cells.size=i0.size:=by rw[Wg];rfl
 by_cases h100:u<100
 ·
  have hx:ai g (.str (nC 7 u)) (.string ⟨(DT u).toArray⟩):=by rw[hd];exact .str ⟨(DT u).toArray⟩
  have h2:eX H0 site i0.size i0.bytes s (.str (nC 7 u))=N1 (av,H',wr):=by rw[Wg,Xy];exact h
  have hr:=λty=>aIk (t:=23) (u:=9) Tryz.underlying23 Tryz.underlying9 (by intro k;simp) hi me su h2 h0.wf hg hs hx ty;obtain⟨v,w1,ej,g',h3,h4⟩:=hr 0;have da:∀ty,(DA #[23,9] ty #[sv,.string ⟨(DT u).toArray⟩]).run Tryz.prog w=.ok v w1:=λty=>ej;refine (aNV (ρ:=Tryz.laysM288_ren) Tryz.laysM288 u h100 sv v w w1 da).mono ?_;rintro e w' ⟨rfl,rfl⟩;exact⟨v,rfl,g',by simpa using h0.trans h3,h4⟩
 refine aRr (ρ:=Tryz.laysM288_ren) Tryz.laysM288 u omT omT sv w (aSR hw G3 cn hg) (λv' w'=>∃g',Step g H w g' H' w' wr/\ai g' av v') λw2 gd hold kh jy=>?_;have s1:Step g H w g H w2 []:=Step.nf hw gd hold kh;have s2:Step g H0 w g H0 w2 []:=Step.nf h0.wf gd hold kh;have ax:(aJ (nC 7 u)).length=GO u:=by rw[hd,aJ,AF,MW]
 obtain⟨g2,s3,hx⟩:=aLL (b:=w.heap.size) (k:=1) (cap:=24) (rows:=aJ (nC 7 u)) s2.wf (by rw[aJ,AF];have:=aD7 7 u;omega) (λr hr=>aPq hr) (aGi _)
  (λi j row c h1 h2=>by
   simp only[aJ,BN,EL]at h1;obtain⟨b,h1,rfl⟩:=h1
   match j,h2 with
   |0,h2=>
    simp at h2;subst h2;refine⟨.int .u8 b.toNat, ?_,.int _ _⟩;rw[FK,DU];refine jy i _ ?_;rw[<- hd];simp[HZ,h1])
  (λj=>by
   cases hp:g.perm w.heap.size j with
   |none=>rfl
   |some x=>exact Vv (hw.ko hp) omT)
  (λo l x hb=>by have:=hw.blk o l hb.loc;omega)
 rw[ax]at hx;have h2:eX H0 site i0.size i0.bytes s (.sl Po (aJ (nC 7 u)))=N1 (av,H',wr):=by rw[Wg,Xy];exact h
 obtain⟨v,w3,ej,g',h3,h4⟩:=aIk (t:=23) (u:=23) Tryz.underlying23 Tryz.underlying23 (by intro k;simp) hi me su h2 s3.wf (hg.mono s3.le) (hs.mono s3.le) hx 0;exact⟨v,w3,λty=>ej,g',by simpa using ((h0.trans s2).trans s3).trans h3,h4⟩
def Xl{ab:cu}{tab:Nat}(G3:Tryz.prog.globalNamed "internal/strconv.uint64pow10" = N1 tab)(cn:ab.row tab=N1 (EB.map λz=>AV.int .u64 z)):gS Tryz.prog ab λf' args H=>if f'=378 then (oN args H).map (cT H)else none:=by
 refine oC ⟨Tryz.f378,Tryz.func378,bIv,bIv⟩ λargs H v ws ns hp g w xs hw hg hx=>?_;have ne0:∀i:Nat,(aJ (nC 7 i)).isEmpty=false:=λi=>by
  cases h:nC 7 i with
  |nil=>exact Vv h (aTV 6 i)
  |cons a l=>rfl
 have hl7:∀i:Nat,(aJ (nC 7 i)).length<=7:=λi=>by rw[aJ,AF];exact aD7 7 i
 have ym:∀i:Nat,(aJ (nC 7 i)).length=(nC 7 i).length:=λi=>AF ..;unfold oN at hp;split at hp
 .rename_i o ve n i b;split at hp
  .rename_i v' rows ho;split at hp
   .rename_i hc;obtain⟨rfl,hn,U6,G7,Hz,rfl,hho⟩:=hc;obtain⟨rfl,rfl,rfl⟩:=hp;obtain⟨x,y,z,rfl,h1,h2,h3⟩:=aIl hx;cases h2;cases h3;obtain⟨u,rfl⟩:=DN U6;refine (aKr G3 cn (site:=N2) (av:=.sr o v' (n+(nC 7 u).length)) (H':=H.set o (.vec v' 1 (rows++aJ (nC 7 u)))) (wr:=[o]) u omT hw hg (.refl hw) h1 ?_).mono ?_
    .simp only[eX,bIz,dO,aIm,Bool.not_true,BX,Vt,ho,ne0];rw[Vx ⟨trivial,hn,trivial,by simp only[bP,decide_eq_true_eq];have:=hl7 u;omega⟩,ym]
    rintro e w' ⟨v,rfl,g',h4,h5⟩;exact⟨g',by simpa [eU]using h4,h5⟩
   cases hp
  cases hp
 .rename_i i b;split at hp
  .rename_i hc;obtain⟨U6,G7,rfl⟩:=hc;obtain⟨rfl,rfl,rfl⟩:=hp;obtain⟨x,y,z,rfl,h1,h2,h3⟩:=aIl hx;cases h2;cases h3;obtain⟨u,rfl⟩:=DN U6;have X5:bH (H++AX 1 (ah.gone 0)) H.length=1:=by simp[bH,ah.ver]
   have hmk:make (H++AX 1 (ah.gone 0)) H.length (.vec · 1 (aJ (nC 7 u)))=H++[.vec 1 1 (aJ (nC 7 u))]:=by simp[make,ah.ver]
   refine (aKr G3 cn (site:=N1 H.length) (av:=.sr H.length 1 (nC 7 u).length) (H':=H++[.vec 1 1 (aJ (nC 7 u))]) (wr:=[H.length]) u omT hw hg (hw.more 1) h1 ?_).mono ?_
   .simp only[eX,bIz,dO,aIm,Bool.not_true,BX,Vt,ne0];rw[Vx (by simp only[dF,Bool.true_and,AZ,BC,bP,decide_eq_true_eq];have:=hl7 u;omega)];simp only[List.length_append,List.length_replicate,Nat.lt_add_one,Vu,X5,AZ,BC,List.nil_append,hmk,ym]
   rintro e w' ⟨v,rfl,g',h4,h5⟩;have wx:∀o l,H.length<=o->g'.obj o=N1 l->w.heap.size<=l.b:=λo l ho hl=>by
    rcases h4.mc o l hl with h1 | ⟨l0,h0,_⟩
    .exact h1
    have:=hw.lt o l0 h0;omega
   obtain⟨g2,k1,k2⟩:=aI7 wx h4.wf (v':=.own 1 (aJ (nC 7 u))) (H':=H++[.gone 1]) (l:=[H.length]) (by
    have h1:(H++[ah.vec 1 1 (aJ (nC 7 u))])[H.length]? = N1 (.vec 1 1 (aJ (nC 7 u))):=siT;unfold aDR;simp only[h1,Nat.lt_irrefl,Vt];rw[Vx ⟨trivial,ym u,AQ _,aGi _⟩];simp[dL,ah.ver]) h5
   have hu:(AV.own 1 (aJ (nC 7 u))).under H.length=true:=by
    show eR H.length (aJ (nC 7 u))=Pa;generalize nC 7 u=l
    induction l with
    |nil=>rfl
    |cons a l ih=>show (dJ H.length [.int .u8 a.toNat]&&eR H.length (aJ l))=Pa;rw[ih];rfl
   have h6:=Step.narrow (wr:=[]) hw.lt (h4.trans k1) (λi hi Xc=>by simp at hi;omega);refine⟨g2.cut H.length, ?_, ?_⟩
   .have:=Step.cut hw h6 (λo ho=>by cases ho);simpa [eU]using this
   have:=pN.cut k2 hu;simpa [eU]using this
  cases hp
 cases hp
end Go.Proofs.Sa
end
section
namespace Go.AM
open Go
def bNb:aIP:=λargs _=>match args with
 | [.ar,.int .i64 n]=>if n=0 then N1 (.ar,[],[])else if 0<n/\n<=1000000000 then N1 (.own 1 [],[],[])else N2
 |_=>N2
end Go.AM
end
section
namespace Go.Proofs.Sa
open Go Go.AM Go.Proofs Go.RowKit Go.Lib
def bSD:Go.Shelf.Ren:=⟨λ| 4=>238 | n=>n,λ| 22=>23 | 25=>5 | n=>n,λn=>n⟩
def bSE:Lays8.n4 Tryz.prog bSD where
 mixed:=bIv
 f4:=⟨ "slices.Grow[[]byte,byte]",deT,Tryz.func238.trans (congrArg N1 bIv)⟩
 t0:=Tryz.underlying0
 a0:=Tryz.isAgg0
 z0:=Tryz.sizeOf0
 v0:=Tryz.zeroValue0
 t3:=Tryz.underlying3
 a3:=Tryz.isAgg3
 z3:=Tryz.sizeOf3
 v3:=Tryz.zeroValue3
 t4:=Tryz.underlying4
 a4:=Tryz.isAgg4
 z4:=Tryz.sizeOf4
 v4:=Tryz.zeroValue4
 t9:=Tryz.underlying9
 a9:=Tryz.isAgg9
 z9:=Tryz.sizeOf9
 v9:=Tryz.zeroValue9
 t20:=Tryz.underlying20
 a20:=Tryz.isAgg20
 z20:=Tryz.sizeOf20
 v20:=Tryz.zeroValue20
 t22:=Tryz.underlying23
 a22:=Tryz.isAgg23
 z22:=Tryz.sizeOf23
 v22:=Tryz.zeroValue23
def Yj{ab:cu}:gS Tryz.prog ab λf' args H=>if f'=238 then (bNb args H).map (cT H)else none:=by
 refine oC ⟨Tryz.f238,Tryz.func238,bIv,bIv⟩ λargs H v ws ns hp g w xs hw hg hx=>?_;unfold bNb at hp;split at hp
 .rename_i n;obtain⟨x,y,rfl,h1,h2⟩:=nH hx;cases h1;cases h2;split at hp
  .rename_i h0;subst h0;simp only[AG,BK]at hp;obtain⟨rfl,rfl,rfl⟩:=hp;refine (Any8.slices_Grow_room bSE N2 0 0 0 w deT deT deT deT).mono ?_;rintro e w' ⟨rfl,rfl⟩;refine⟨g, ?_,.ar⟩;simpa [eU]using Step.refl hw
  split at hp
  .rename_i hn;simp only[AG,BK]at hp;obtain⟨rfl,rfl,rfl⟩:=hp;obtain⟨u,rfl⟩:=DN (Bj hn.1);have hu0:0<u:=omT;obtain⟨i0,hi,me,Wg,Xy⟩:=info_parts (show (Tryz.prog.info? 5).map (λi=>(i.zero,i.size,i.bytes))=N1 (N1 (.int .u8 0),1,1)by kernel_rfl);refine (Any8.slices_Grow_grow bSE i0 (.int .u8 0) hi me omT N2 0 0 u [] w deT omT (by rw[Xy];omega) omT siT (λ_=>rfl) (λa h=>by cases h)).mono ?_;rintro e w' ⟨rfl,rfl⟩;show ∃g',_/\_;rw[show bSD.t 25=5 from rfl];have hG:0+u<=grownCap w (0+u) 0 5:=grownCap_ge w _ _ _;have gd:(#[]++CD (EJ .u8 0).cells (0+u - 0)++CD (EJ .u8 0).cells (grownCap w (0+u) 0 5 - (0+u))).size=grownCap w (0+u) 0 5:=by
    have h1:(EJ .u8 0).cells.size=1:=rfl;simp only[Array.size_append,size_zeroCells,h1,Array.size_empty];omega
   have e:(w.drew.alloc (.cells (#[]++CD (EJ .u8 0).cells (0+u - 0)++CD (EJ .u8 0).cells (grownCap w (0+u) 0 5 - (0+u))) 5)).heap=w.heap.push (.cells (#[]++CD (EJ .u8 0).cells (0+u - 0)++CD (EJ .u8 0).cells (grownCap w (0+u) 0 5 - (0+u))) 5):=rfl;refine⟨g, ?_,w.heap.size,_,rfl,⟨AQ _, ?_,FF _,wV e,siT,rfl,λj hj=>?_,siT,λj=>?_,λo l x hb=>?_, ?_⟩⟩
   .have:Step g H w g H _ []:=Step.nf hw (by rw[e,OA];omega) (λb hb=>cK e hb) ⟨rfl,rfl⟩;simpa [eU]using this
   .rw[show ∀o:Obj,(w.drew.alloc o).heap.size=w.heap.size+1 from λo=>OA _];omega
   .rw[kD e];have:j<(#[]++CD (EJ .u8 0).cells (0+u - 0)++CD (EJ .u8 0).cells (grownCap w (0+u) 0 5 - (0+u))).size:=by
     rw[gd];have:j<grownCap w (0+u) 0 5*1:=hj;omega
    rw[Array.getElem?_eq_getElem this];rfl
   .cases hp:g.perm w.heap.size j with
    |none=>rfl
    |some x=>exact Vv (hw.ko hp) omT
   .have:=hw.blk o l hb.loc;omega
   cases hp:g.whole w.heap.size with
   |none=>rfl
   |some x=>exact Vv (hw.whole.lt hp) omT
  cases hp
 cases hp
end Go.Proofs.Sa
end
section
namespace Go.AM
open Go
def aO4(f:Nat):Option aIP:=match f with
 |136=>N1 (fB 171 173)
 |84=>N1 (aAh 5)
 |152=>N1 (aNR 171 5)
 |100=>N1 aKm
 |351=>N1 aYu
 |344=>N1 aE7
 |266=>N1 aAi
 |99=>N1 sC
 |378=>N1 oN
 |238=>N1 bNb
 |_=>N2
def vi0(n:Int):AV:=.int .i64 n
noncomputable def fnK(f:Nat):Option bw:=match f with
 |267=>N1 nI
 |f=>match Go.Proofs.Tryz.prog.funcs[f]? with
  |some F=>match F.body,aNz Go.Proofs.Tryz.prog F.results.toList with
   |some b,N1 rs=>N1 ⟨F.ntmps,aXY f,rs,nR Go.Proofs.Tryz.prog { aBx with nl:=nlK f,typed:=tyK f } (bC1 f) b⟩
   |_,_=>N2
  |none=>N2
noncomputable def AK:af:=⟨fnK,aO4⟩
def aRR:(Go.Proofs.Tryz.prog.funcs.toList.all λF => !(F.name == "runtime.NumGoroutine"))=true:=bIv
def aUz{f:Nat}{F:Func}(h:Go.Proofs.Tryz.prog.funcs[f]? = N1 F):(F.name == "runtime.NumGoroutine")=false:=by have:=AO.1 aRR F (by rw[Array.mem_toList_iff];exact Array.mem_of_getElem? h);simpa using this
def aY0{f:Nat}{fn:bw}(bl:f≠267)(h:fnK f=N1 fn):aMT Go.Proofs.Tryz.prog aBx f fn:=by
 unfold fnK at h;split at h
 .exact Vv rfl bl
 split at h
 .rename_i F hF;split at h
  .rename_i b rs hb hr;cases h;exact⟨F,b,bC1 f,nlK f,tyK f,aXZ,hF,aUz hF,hb,rfl,rfl,hr⟩
  cases h
 cases h
def bC2:Go.Proofs.Tryz.prog.globalNamed "internal/strconv.uint64pow10" = N1 6:=bIv
def aRS:Good Go.Proofs.Tryz.prog aBx AK where
 mixed:=bIv
 A5:=⟨bIv,bIv⟩
 fn:=λf fn h=>by
  by_cases e:f=267
  .subst e;exact .inr (Go.Proofs.Sa.yu rfl rfl)
  exact .inl (aY0 e h)
 bq:=λf p h=>by
  have h:aO4 f=N1 p:=h;unfold aO4 at h;split at h
  .cases h;exact Go.Proofs.Sa.uq
  .cases h;exact Go.Proofs.Sa.zn
  .cases h;exact Go.Proofs.Sa.G5
  .cases h;exact Go.Proofs.Sa.G2
  .cases h;exact Go.Proofs.Sa.A9
  .cases h;exact Go.Proofs.Sa.A8
  .cases h;exact Go.Proofs.Sa.Xe
  .cases h;exact Go.Proofs.Sa.G4 bC2 rfl
  .cases h;exact Go.Proofs.Sa.Xl bC2 rfl
  .cases h;exact Go.Proofs.Sa.Yj
  cases h
def cl0(l:LN):AV:=.sl Po (l.map λc=>[.int .u8 (c:Nat)])
def ru0(t:List UInt8)(w:Nat)(l:LN):LA:=[.str t,vi0 w,cl0 l]
def bTn(k:Nat):List LA:=(GZ 26).map (λi=>ru0 [UInt8.ofNat (97+i)] 0 [(i+k) % 26+1])++(GZ 6).map (λi=>ru0 [[32,46,44,63,39,45].getD i 0] 0 [27+i])
def bTt:AV:=.sl Po (bTn 0++[ru0 [116,104] 0 [1,1],ru0 [97,110] 1 [39],ru0 [98,101] 0 [40]])
def bTu:AV:=.sl Po (bTn 3++[ru0 [101,114] 0 [1,1],ru0 [115,116] 1 [39],ru0 [98,117,116] 0 [40],ru0 [97,110,100] 3 [37,4]])
def bT2:AV:=.agg [bTt,bTu,cl0 [1,2,3,4,5,6,7,8,9,10],cl0 [33],cl0 [34],cl0 [35],cl0 [36,35]]
def aT5{α:Type}(p:α->α->Bool):List α->List α->Bool
 | [],[]=>Pa
 |a::x,b::y=>p a b&&aT5 p x y
 |_,_=>Po
def aEf{α:Type}{p:α->α->Bool}(hp:∀a b,p a b=Pa->a=b):∀x y:List α,aT5 p x y=Pa->x=y
 | [],[],_=>rfl
 |a::x,b::y,h=>by
  simp only[aT5,AI]at h;rw[hp a b h.1,aEf hp x y h.2]
 | [],_::_,h=>by cases h
 |_::_,[],h=>by cases h
def aPG:Nat->AV->AV->Bool
 |0,_,_=>Po
 |n+1,a,b=>match a,b with
  |.int k x,.int k' y=>decide (k=k')&&decide (x=y)
  |.str x,.str y=>aT5 (λa b=>decide (a=b)) x y
  |.sl f x,.sl g y=>(f==g)&&aT5 (aT5 (aPG n)) x y
  |.agg x,.agg y=>aT5 (aPG n) x y
  |.tup x,.tup y=>aT5 (aPG n) x y
  |_,_=>Po
def aJj:∀(n:Nat)(a b:AV),aPG n a b=Pa->a=b
 |0,_,_,h=>by cases h
 |n+1,a,b,h=>by
  unfold aPG at h;split at h
  .simp only[AI,decide_eq_true_eq]at h;rw[h.1,h.2]
  .rw[aEf (λa b h=>by simpa using h) _ _ h]
  .simp only[AI,beq_iff_eq]at h;rw[h.1,aEf (aEf (aJj n)) _ _ h.2]
  .rw[aEf (aJj n) _ _ h]
  .rw[aEf (aJj n) _ _ h]
  cases h
def kIs(x:AV):AV->LO->LN->Bool:=λv H wr=>match H,wr with | [.gone 0],[]=>aPG 10 v x | _,_=>Po
def aJi:AV->LO->LN->Bool:=λv H wr=>match v,H,wr with | .bool Pa,[],[]=>Pa | _,_,_=>Po
def bSF:AV:=.agg [.str [55],.sl Pa []]
def bSG:AV:=.tup [.agg [cl0 [63,1,17,0,23,0],.sl Po [[vi0 0]]],vi0 0]
def bPd{A:af}{m n f:Nat}{args:LA}{x:AV}(h:aE3 A m n f args [.gone 0] (kIs x)=Pa):aG A f args [.gone 0]=N1 (x,[.gone 0],[]):=by
 obtain⟨v,H',wr,h1,h2⟩:=xG A m n f args [.gone 0] (kIs x) h;unfold kIs at h2;split at h2
 .rw[aJj _ _ _ h2]at h1;exact h1
 cases h2
def bRg(tab:List (Nat×LA×AV))(K:pV):pV:=λf args H k=>match H with
 | [.gone 0]=>match tab.find? (λr=>Nat.beq r.1 f&&aT5 (aPG 10) r.2.1 args)with
  |some r=>k r.2.2 [.gone 0] []
  |none=>K f args [.gone 0] k
 |H=>K f args H k
def bS4{A:af}{K:pV}(hK:KOk A K){tab:List (Nat×LA×AV)}(h:∀r∈tab,aG A r.1 r.2.1 [.gone 0]=N1 (r.2.2,[.gone 0],[])):KOk A (bRg tab K):=by
 intro f args H k hk;unfold bRg at hk;split at hk
 .split at hk
  .rename_i r hr;have h1:=List.find?_some hr;have h2:=h r (List.mem_of_find?_eq_some hr);rw[AI]at h1;rw[Nat.eq_of_beq_eq_true h1.1,aEf (aJj 10) _ _ h1.2]at h2;exact⟨_,_,_,h2,hk⟩
  exact hK _ _ _ _ hk
 exact hK _ _ _ _ hk
def bRh{A:af}{K:pV}{m:Nat}(hK:KOk A K){f:Nat}{fn:bw}{args:LA}{H:LO}{k}(hp:(A.bq f).bind (· args H)=N2)(hf:A.fn f=N1 fn)(h2:kFn K m fn args H k=Pa):∃v H' wr,aG A f args H=N1 (v,H',wr)/\k v H' wr=true:=by
 unfold kFn at h2;simp only[AI]at h2;obtain⟨⟨hok,hN⟩,hc⟩:=h2;have hok':dK fn.ntmps ⟨H.length,fn.sites⟩ fn.body=true:=by rw[iV];exact hok
 have Dv:args.length<=fn.ntmps:=Nat.le_of_ble_eq_true hN;have hw:=iW (N:=fn.ntmps) hK fn.body hok' hc;rw[aKi]at hw;obtain⟨n1,e,s',h1,h2,tr,h3,h4⟩:=hw (args++AX (fn.ntmps - args.length) .undef) soT (aE0 _ _);have key:∀r,iE H.length fn.results (toF tr) s'.H s'.wr=N1 r->aA4 H.length fn s'=N1 r:=by intro r hr;rw[<- h3]at hr;unfold iE at hr;unfold aA4;rw[aJ6];exact hr
 have fin:(e=.normal∨e=.ret)->aFz (iE H.length fn.results (toF tr) s'.H s'.wr) (λr=>aMR (cJ H.length r).2.1 λH'=>k (cJ H.length r).1 H' (cJ H.length r).2.2)=Pa ->
   ∃v H' wr,aG A f args H=N1 (v,H',wr)/\k v H' wr=true:=by
  intro he hk;obtain⟨r,hr,hk⟩:=fX hk;rw[aKj]at hk;exact⟨_,_,_,oL (oU hp hf h1 he (key _ hr) Dv),hk⟩
 cases e with
 |normal=>exact fin (.inl rfl) h4
 |ret=>exact fin (.inr rfl) h4
 |exit id=>cases h4
end Go.AM
end
