/- Part 13: lemmas for the last text. -/
import Derived.Test.YtjomjibkahijoaaGreatDoorK03
import Derived.Test.YtjomjibkahijoaaGreatDoorK10
import Derived.Test.YtjomjibkahijoaaGreatDoorK12
import Derived.DeepKeys2
import Derived.Handed
import Derived.ChangeSlices
import Derived.ProofKit
import Derived.OpenShut
import Derived.Lib.LaidTab
import Derived.Lib.ItoaNum
import Derived.Test.YtjomjibkahijoaaGreatDoorRows
import Derived.Test.YtjomjibkahijoaaGreatDoorTie
import Derived.Test.YtjomjibkahijoaaGreatDoorCards
import Derived.LaidMore
import Derived.Stop.Joined
import Derived.SevenTiedAt
import Derived.Lay
import Derived.WideKeyElems2
set_option linter.unusedVariables false
set_option linter.unusedSimpArgs false
set_option maxHeartbeats 6400000
set_option maxRecDepth 100000
open Bool renaming and_eq_true -> AI, true -> Qt, false -> Qu
open Go renaming Code -> Mu, World -> BL, MemPlace -> JI, TypeId -> BP, Value -> BE, Program -> CU, DataW -> IK, MapEntry -> FO
open Go.ChangeSpec renaming witness_shaped -> Jo
open Go.DataW renaming Trod -> IE, trod -> EZ, TrodAll -> OX
open Go.DataW.agg renaming injEq -> M7
open Go.DataW.map renaming injEq -> Nq
open Go.IntKind renaming i64 -> AR
open Go.Lit renaming toCell -> NP
open Go.Program renaming tiled -> OD
open Go.Value renaming okWide -> LW, cells -> JY
open Go.WideElems renaming rd -> KP, rg -> NQ, open_map -> Np
open Go.World renaming var? -> Hg, cell? -> EF, holding -> LI
open Int renaming natCast_nonneg -> AU, toNat_natCast -> AT, tmod_nonneg -> HV, tmod_lt_of_pos -> GX
open List renaming getD_eq_getElem?_getD -> KV, mem_of_getElem? -> AN, mem_append -> AY, mem_cons -> BD, mem_map -> DB, length_cons -> AW, mem_cons_of_mem -> BZ, length_append -> BA, map_append -> DQ, mem_singleton -> CG, map_cons -> BI, getElem?_cons_zero -> BG, append_nil -> AJ, drop_zero -> AD, take_succ_cons -> AA, take_zero -> AE, getElem?_map -> BN, getElem?_eq_getElem -> AP, getElem_mem -> AS, take_of_length_le -> CH, drop_succ_cons -> AB, all_eq_true -> AO, length_map -> AF, length_nil -> AZ, range -> GZ, map -> DR, not_mem_nil -> CC, length -> FN, take -> FW, mem_of_mem_take -> FA, map_nil -> BY, getElem?_eq_some_iff -> AH, mapM_cons -> KX, contains_iff_mem -> EH
open List.cons renaming inj -> Mt, injEq -> JG
open List.range renaming loop -> Jh
open Nat renaming le_refl -> AQ, pow_succ -> PL, add_zero -> DU, zero_add -> BC, mul_one -> FK
open Option renaming map_some -> DE, bind_eq_some_iff -> LH, map_eq_some_iff -> EL, bind_some -> FG, some -> Qr, none -> Qs
open Option.some renaming injEq -> AG, inj -> DZ
open Prod.mk renaming injEq -> BK
section
namespace Go.AM
open Go
theorem bEO(k:Nat):(bCJ.getD k []).length<=7:=by
 rw[KV];cases h:bCJ[k]? with
 |none=>simp
 |some w=>
  have:∀w∈bCJ,w.length<=7:=by decide
  exact this w (AN h)
theorem bFj(k:Nat):(bDh.getD k []).length<=7:=by
 rw[KV];cases h:bDh[k]? with
 |none=>simp
 |some w=>
  have:∀w∈bDh,w.length<=7:=by decide
  exact this w (AN h)
theorem bFk{items:List Item}(h:∀i∈items,i.Ok):∀{R:List (List Str)},(∀r∈R,∀s∈r,s.length<=1000000)->∀p∈bCL items R,p.length<=2000000:=by
 induction items with
 |nil=>intro R _ p hp;simp[bCL]at hp
 |cons x l ih=>
  intro R hR p hp;cases R with
  |nil=>simp[bCL]at hp
  |cons r R=>
   have e:bCL (x::l) (r::R)=bDi x r++bCL l R:=by simp[bCL]
   rw[e]at hp;have kh:=h x (by simp);rcases AY.1 hp with hp | hp
   ·unfold bDi at hp;have hn:x.name.length<=1000:=kh.name;rcases AY.1 hp with hp | hp
    ·rcases BD.1 hp with rfl | hp
     ·simp;omega
     obtain⟨b,_,rfl⟩:=DB.1 hp;have:=bEO b.kind.toNat;simp only[bD6,AW];omega
    rcases AY.1 hp with hp | hp
    ·obtain⟨s,hs,rfl⟩:=DB.1 hp;have:=hR r (by simp) s hs;simp only[AW];omega
    obtain⟨q,hq,hp⟩:=List.mem_flatMap.1 hp;have J0:=kh.ask q hq;unfold bE0 at hp;rcases BD.1 hp with rfl | hp
    ·have:=bFj q.kind.toNat;simp only[AW];omega
    rcases AY.1 hp with hp | hp
    ·obtain⟨s,hs,rfl⟩:=DB.1 hp;have:s.text.length<=1000:=(J0.lk s hs).text;simp only[bEt,AW];omega
    obtain⟨s,hs,rfl⟩:=DB.1 hp;have:s.length<=1000:=J0.options s hs;simp only[AW];omega
   exact ih (fun i hi=>h i (BZ _ hi)) (fun q hq=>hR q (BZ _ hq)) p hp
theorem bF7{c pc:UInt8}(h:pc∈bCG c):c=73∨c=66∨c=70∨c=81∨c=82∨c=79:=by
 unfold bCG at h;split at h
 ·exact .inl ‹_›
 split at h
 ·exact .inr (.inl ‹_›)
 split at h
 ·exact .inr (.inr (.inl ‹_›))
 split at h
 ·exact .inr (.inr (.inr (.inl ‹_›)))
 split at h
 ·exact .inr (.inr (.inr (.inr (.inl ‹_›))))
 split at h
 ·exact .inr (.inr (.inr (.inr (.inr ‹_›))))
 cases h
theorem bGe{c pc:UInt8}(h:pc∈bCG c):∃i,iB (.int .u8 (c.toNat:Int)) bGN 0=Qr (Qr (i,.str (bCG c))):=by
 rcases bF7 h with rfl | rfl | rfl | rfl | rfl | rfl
 ·exact⟨0,rfl⟩
 ·exact⟨1,rfl⟩
 ·exact⟨2,rfl⟩
 ·exact⟨3,rfl⟩
 ·exact⟨4,rfl⟩
 exact⟨5,rfl⟩
theorem bFX(c:UInt8):(bCG c).length<=6:=by
 unfold bCG
 repeat' split
 all_goals simp
section
variable {A:af}{g:SN}
theorem bFY{H:LO}{m x1 x2:ah}{out:List (List Str)}{t:AV}(h:bGu H out t x1 x2)(bl:out≠[])(hl:∀r∈out,r.length<=20000000000)(s:Str):∃a ver w w' x2',t=.sr (H.length+1) ver (a+1)/\x1=.vec ver 1 (bCF out.dropLast++[[w]])/\(bCF out.dropLast).length=a/\eX (H++[m,x1,x2]) (Qr (H.length+2)) 1 16 w (.sl Qt [[.str s]])=Qr (w',H++[m,x1,x2'],[H.length+2])/\w'.ak=Qt/\w'.aj=w' /\ bGu H (bDM out s) t (.vec ver 1 (bCF out.dropLast++[[w']])) x2':=by
 rcases h with⟨rfl,_⟩ | ⟨a,r,ver,w,rfl,rfl,rfl,hw⟩
 ·exact Zw rfl bl
 have Ik:(a++[r]).dropLast=a:=by simp
 have gu:=hl r (by simp);have hr:bP (r.length+1) 16=true:=by unfold bP;simp;omega
 rw[bE7,Ik];rcases hw with⟨rfl,rfl⟩ | ⟨Cx,ver2,rfl,rfl⟩
 ·refine⟨a.length,ver,.ar,.sr (H.length+2) (x2.ver+1) 1,.vec (x2.ver+1) 1 [[.str s]],rfl,rfl,bD0 a, ?_,rfl,rfl,.inr ⟨a,[s],ver,_,rfl,rfl,rfl,.inr ⟨by simp,_,rfl,rfl⟩⟩⟩;have gj:bP 1 16=true:=by decide
  simp[eX,cG,dO,dF,gj,bH,make]
 refine⟨a.length,ver,.sr (H.length+2) ver2 r.length,.sr (H.length+2) ver2 (r.length+1),.vec ver2 1 (r.map aN++[[.str s]]),rfl,rfl,bD0 a, ?_,rfl,rfl,.inr ⟨a,r++[s],ver,_,rfl,rfl,rfl,.inr ⟨by simp,ver2,by rw[BA];rfl,by rw[DQ];rfl⟩⟩⟩;simp[eX,cG,dO,dF,hr]
theorem bGf{l:List Str}:∀{out:List (List Str)} {N B:Nat},out.length<=N->(∀r∈out,r.length<=B)->(l.foldl bDN out).length<=N+l.length/\∀r∈l.foldl bDN out,r.length<=B+l.length:=by
 induction l with
 |nil=>intro out N B h1 h2;exact⟨by simpa using h1,by simpa using h2⟩
 |cons s l ih=>
  intro out N B h1 h2;have hc:bDN out s=out++[[]]∨(∃t,bDN out s=bDM out t)∨bDN out s=out:=by
   cases s with
   |nil=>exact .inr (.inr rfl)
   |cons c t=>
    unfold bDN;dsimp only;split
    ·exact .inl rfl
    split
    ·exact .inr (.inl ⟨t,rfl⟩)
    exact .inr (.inr rfl)
  have h3:(bDN out s).length<=N+1/\∀r∈bDN out s,r.length<=B+1:=by
   rcases hc with h | ⟨t,h⟩ | h<;>rw[h]
   ·refine⟨by simp;omega,fun r hr=>?_⟩;rcases AY.1 hr with hr | hr
    ·have:=h2 r hr;omega
    rw[CG.1 hr];simp
   ·unfold bDM;refine⟨by simp;omega,fun r hr=>?_⟩;rcases AY.1 hr with hr | hr
    ·have:=h2 r (bF0 hr);omega
    rw[CG.1 hr,BA];have:(out.getLastD []).length<=B:=bE9 out h2;show (out.getLastD []).length+1<=B+1;omega
   exact⟨by omega,fun r hr=>by have:=h2 r hr;omega⟩
  obtain⟨h5,h6⟩:=ih h3.1 h3.2;rw[List.foldl_cons,AW];exact⟨by omega,fun r hr=>by have:=h6 r hr;omega⟩
theorem bFZ(F:j0 A g)(x:jm)(hx:x.Ok)(Qk:∀i∈x.items,mu i)(R:List (List Str))(J2:R.length=x.items.length)(y6:∀r∈R,r.length<=16/\∀s∈r,s.length<=1000000)(H:LO):aG A (g "bX") [.sl Qu (hU (cB ((bDa x R).flatMap cH)))] H=Qr (.tup [bF6 R,vi 0],H,[]):=by
 obtain⟨fl,hj⟩:=bFB (ps:=bDa x R) bFu;have vQs:∀p∈bDa x R,p.length<=2000000:=fun p hp=>by
  rcases BD.1 hp with rfl | hp
  ·have:x.title.length<=1000:=hx.title;simp only[AW];omega
  exact bFk hx.items (fun r hr=>(y6 r hr).2) p hp
 have y8:(bCL x.items R).length<=8976:=by have h4:=bEo (fun i hi=>hx.items i hi) (R:=R) (fun r hr=>(y6 r hr).1);have h5:=hx.G8;omega
 have hL:((bDa x R).flatMap cH).length<=20000000000:=by have h3:=bEk (B:=2000000) vQs;have h6:(bDa x R).length=(bCL x.items R).length+1:=rfl;omega
 have Kr:=fun H=>bFh F.join _ hL (bDa x R) fl hj (by simp[bDa]) H;have Rk:bCY 84 (bCL x.items R):=bEV Qk (by decide);have E5:(bCL x.items R).foldl bDN []=R:=by rw[bFt [] J2];rfl
 have bl:=bFu (x:=x) (R:=R);generalize hU (cB ((bDa x R).flatMap cH))=rows0 at *;unfold bDa at Kr bl;generalize bCL x.items R=l at *;generalize x.title=ti at *;obtain⟨r,H',ba,e1,rfl,rfl,rfl⟩:=F.read.bp (args:=[.sl Qu rows0]) (H:=H) (K:=fun r H' wr=>wr=[]/\H'=H/\r=.tup [bF6 R,vi 0]) (by
  simp only[bF5];have Ux:((((84:UInt8).toNat:Nat):Int) != 84)=false:=rfl;simp only[go_sem,↓aB,seval,Kr,BI,aN,AW,BG,AJ,AD,AA,AE];have So:([AV.str (84::ti)]::l.map aN)=((84::ti)::l).map aN:=rfl;have ym:(((84::ti)::l).map aN).length=l.length+1:=by simp
  have Sp:∀i (h:i<((84::ti)::l).length),(((84::ti)::l).map aN)[i]? = Qr [.str ((84::ti)::l)[i]]:=fun i h=>by rw[BN,AP h];rfl
  rw[So,show [(AV.int .u8 73,AV.str [84,73,66,70,82,79]),(AV.int .u8 66,AV.str [73,66]),(AV.int .u8 70,AV.str [73,66,70]),(AV.int .u8 81,AV.str [73,66,70,82,79]),(AV.int .u8 82,AV.str [81,82]),(AV.int .u8 79,AV.str [82,79])]=bGN from rfl];generalize ((84::ti)::l).map aN=RA at *;refine bJ (id:=0) (fun k ρ1 H1 wr=>wr=[]/\ρ1 8=vi ((k+1:Nat):Int)/\ρ1 5=.bool Qt/\∃x1 x2,H1=H++[bGv,x1,x2]/\bGu H ((l.take k).foldl bDN []) (ρ1 6) x1 x2/\(k=0∨(l.take k).foldl bDN []≠[])) l.length
   (fun ρ1 H1 wr=>wr=[]/\∃x1 x2,H1=H++[bGv,x1,x2]/\bGu H R (ρ1 6) x1 x2) (by kernel_rfl) rfl ⟨rfl,rfl,rfl,_,_,rfl,.inl ⟨rfl,rfl⟩,.inl rfl⟩ ?_ ?_
  ·rintro k ρ1 H1 dc zp ⟨rfl,e8,e5,x1,x2,rfl,hO,Pw⟩ hf;have f4:ρ1 4=.sl Qu RA:=hf 4 rfl;have f7:ρ1 7=.mp H.length 1:=hf 7 rfl;clear hf;simp only[go_sem,↓aB,seval,e8,f4,ym];refine aD (fun e3=>?_) (fun e3=>?_)
   ·have hlt:k<l.length:=by simp at e3;omega
    have pg:AR.wrap (((k+1:Nat):Int)+1)=((k+1+1:Nat):Int):=by rw[wrap_i64 (by omega) (by omega)];omega
    have Km:AR.wrap (((k+1:Nat):Int) - 1)=(k:Int):=by rw[wrap_i64 (by omega) (by omega)];omega
    have cj:RA[k+1]? = Qr [.str l[k]]:=Sp (k+1) (by simp;omega);have J1:k<((84::ti)::l).length:=by simp;omega
    have Ql:RA[k]? = Qr [.str ((84::ti)::l)[k]]:=Sp k J1;have bn:=bES (q:=84::ti) Rk rfl hlt;have Sq:=bl _ (AS J1);have pk:(l.take (k+1)).foldl bDN []=bDN ((l.take k).foldl bDN []) l[k]:=by rw[List.take_succ_eq_append_getElem hlt,List.foldl_append];rfl
    have Sr:k=0->(((84::ti)::l)[k]).headD 0=84:=fun h=>by subst h;rfl
    have Lc:=bGq (out:=(l.take k).foldl bDN []) (Pw.imp Sr id) bn;obtain⟨K1,Ue⟩:=bGf (l:=l.take k) (out:=[]) (N:=0) (B:=0) (AQ _) (fun r hr=>(by cases hr));have zp:(l.take k).length<=8976:=by simp;omega
    have Uf:∀{t2:Str} {r2:List Str},l.drop (k+1)=(82::t2)::r2->k+1<l.length/\RA[k+1+1]? = Qr [.str (82::t2)]:=fun {t2 r2} h=>by
     have h1:k+1<l.length:=by
      rcases Nat.lt_or_ge (k+1) l.length with h1 | h1
      ·exact h1
      rw[List.drop_eq_nil_of_le h1]at h;cases h
     refine⟨h1, ?_⟩;rw[List.drop_eq_getElem_cons h1]at h;have h2:=(Mt h).1;have h3:=Sp (k+1+1) (by simp;omega);rw[List.getElem_cons_succ,h2]at h3;exact h3
    generalize (l.take k).foldl bDN []=out at *;generalize l.drop (k+1)=rest at *;obtain⟨pc,pt,Eg⟩:∃pc pt,((84::ti)::l)[k]=pc::pt:=by
     cases e:((84::ti)::l)[k]with
     |nil=>exact Zw e Sq
     |cons a b=>exact⟨a,b,rfl⟩
    rw[Eg]at Ql bn;obtain⟨c,t,hs,Qg,s66,s81,s82⟩:=bn;rw[hs]at cj Lc pk;have Qg:pc∈bCG c:=Qg;obtain⟨bi,Rm⟩:=bGe Qg;have po:=fun H=>bEx F.Sm F.Sn (bCG c) pc Qg (by have:=bFX c;omega) H;have Ss:(bCG c).length<=1099511627776:=by have:=bFX c;omega
    have Fp:dU (c::t).length (Qr (vi ((1:Nat):Int))) Qs Qs=Qr (1,(c::t).length,(c::t).length):=aL6 (by simp);have Fp:dU (t.length+1) (Qr (vi 1)) Qs Qs=Qr (1,t.length+1,t.length+1):=Fp;have Ug:(c::t).take (t.length+1)=c::t:=CH (by simp);have Q6:(c::t)[0]? = Qr c:=rfl;simp only[go_sem,seval];refine aY (aq:=bEa) (by rfl) (by rfl) ?_;simp only[go_sem,↓aB,seval,bEa,e8,f4,cj,Fp,Ug,Q6,AW,AU,AT,AD,AB,AA,AE];refine aY (aq:=bEb) (by rfl) (by rfl) ?_;simp only[go_sem,↓aB,seval,bEb,e8,f4,f7,Ql,Rm,Ss,Km,po,AU,AT,AD,AA,AE];simp only[bEc];have St:(ρ1 6).iy=false:=by rcases hO with⟨_,e⟩ | ⟨_,_,_,_,_,e,_⟩<;>rw[e]<;>rfl
    have zk:bDN out (c::t)≠[]:=Lc.2;have Su:out.length<=20000000000:=by omega
    rcases bF7 Qg with rfl | rfl | rfl | rfl | rfl | rfl
    ·obtain⟨x1',x2',lw,k1,k2,k3⟩:=bGc (m:=bGv) hO;have L9:bE H.length [] lw=[]:=kH k2;obtain⟨t',x1'',a1,a2⟩:=bFW k3 Su bGv x2';have Uy:(((73:UInt8).toNat:Nat):Int)=73:=rfl;simp only[go_sem,↓aB,seval,St,k1,L9,a1,e5,e8,pg];refine⟨hlt,x1'',x2',rfl, ?_,.inr (by rw[pk];exact zk)⟩;rw[pk];exact a2
    ·have Uz:(((66:UInt8).toNat:Nat):Int)=66:=rfl;have dx:=fun H=>bE8 F.blocks H;have Sv:=fun H=>bDI F.Bb F.Rj bCJ t (s66 rfl) (by decide) H;simp only[go_sem,↓aB,seval,dx,Sv,e5,e8,pg];refine⟨hlt,x1,x2,rfl, ?_,.inr (by rw[pk];exact zk)⟩;rw[pk];exact hO
    ·have Va:(((70:UInt8).toNat:Nat):Int)=70:=rfl;obtain⟨a,ver,w,w',x2',o1,rfl,o3,o4,o5,o6,o7⟩:=bFY (m:=bGv) hO (Lc.1 rfl) (fun r hr=>by have:=Ue r hr;omega) t;have Uh:(bCF out.dropLast++[[w]])[a]? = Qr [w]:=by rw[<- o3,List.getElem?_append_right (AQ _)];simp
     have xc:(bCF out.dropLast++[[w]]).set a [w']=bCF out.dropLast++[[w']]:=by rw[<- o3,List.set_append_right _ _ (AQ _)];simp
     have gu:(bCF out.dropLast++[[w]]).length=a+1:=by rw[BA,o3];rfl
     have j8:a<=20000000000:=by rw[<- o3,bD0];simp;omega
     have Ba:AR.wrap (((a+1:Nat):Int) - 1)=(a:Int):=by rw[wrap_i64 (by omega) (by omega)];omega
     have Qr:(a:Int)<((a+1:Nat):Int):=by omega
     have cr:a<a+1:=by omega
     have Ui:w'.cells=[w']:=by revert o5;cases w'<;>simp[AV.cells,AV.ak]
     rw[<- xc]at o7;generalize bCF out.dropLast++[[w]]=rows at *;simp only[go_sem,↓aB,seval,o1,Ba,Uh,gu,Qr,o4,o5,o6,Ui,e5,e8,pg,AU,AT,AD,AA,AE];refine⟨hlt,_,_,rfl, ?_,.inr (by rw[pk];exact zk)⟩;rw[pk,<- o1];exact o7
    ·have Ru:(((81:UInt8).toNat:Nat):Int)=81:=rfl;have Uj:(((82:UInt8).toNat:Nat):Int)=82:=rfl;obtain⟨sa,t2,r2,rfl⟩:=s81 rfl;obtain⟨n1,n2⟩:=Uf rfl;have dx:=fun H=>bED F.asks H;have Sv:=fun H=>bDI F.Bb F.Rj bDh t sa (by decide) H;have lx:decide (k+1+1<l.length+1)=true:=by simp;omega
     have Sw:(82::t2:Str)[0]? = Qr 82:=rfl;simp only[go_sem,↓aB,seval,dx,Sv,f4,ym,n2,lx,Sw,e5,e8,pg,AU,Int.ofNat_lt,AT,AD,AA,AE];refine⟨hlt,x1,x2,rfl, ?_,.inr (by rw[pk];exact zk)⟩;rw[pk];exact hO
    ·have Uj:(((82:UInt8).toNat:Nat):Int)=82:=rfl;obtain⟨d,t2,rfl,hd⟩:=s82 rfl;have xg:(d::t2:Str)[0]? = Qr d:=rfl;have V8:decide (((d::t2:Str).length:Int)>0)=true:=by simp<;>omega
     have Rn:decide (((t2.length+1:Nat):Int)>0)=true:=by simp<;>omega
     rcases hd with rfl | rfl
     ·have Ny:(((48:UInt8).toNat:Nat):Int)=48:=rfl;simp only[go_sem,↓aB,seval,xg,Rn,AW,e5,e8,pg];refine⟨hlt,x1,x2,rfl, ?_,.inr (by rw[pk];exact zk)⟩;rw[pk];exact hO
     have Vb:(((49:UInt8).toNat:Nat):Int)=49:=rfl;simp only[go_sem,↓aB,seval,xg,Rn,AW,e5,e8,pg];refine⟨hlt,x1,x2,rfl, ?_,.inr (by rw[pk];exact zk)⟩;rw[pk];exact hO
    have Vc:(((79:UInt8).toNat:Nat):Int)=79:=rfl;simp only[go_sem,↓aB,seval,e5,e8,pg];refine⟨hlt,x1,x2,rfl, ?_,.inr (by rw[pk];exact zk)⟩;rw[pk];exact hO
   have:k=l.length:=by simp at e3;omega
   subst this;rw[List.take_length,E5]at hO;simp only[go_sem,seval];exact⟨x1,x2,rfl,hO⟩
  rintro ρ' H' ba ⟨rfl,x1,x2,rfl,hO⟩ hf;obtain⟨x1',x2',lw,h1,h2⟩:=bGd (m:=bGv) hO;have hw:bE H.length [] lw=[]:=kH h2;have Ho:aVH (H++[bGv,x1,x2]) (ρ' 6)=_:=h1;unfold aVH fix at Ho;have vn:∀HH,dw HH (bF6 R)=Qr (bF6 R,[]):=fun HH=>by unfold bF6;split<;>rfl
  have Qt:(bF6 R).strip=bF6 R:=by unfold bF6;split<;>rfl
  have hu:(AV.tup [bF6 R,.int .i64 0]).under H.length=true:=by have:=bFi H.length R;unfold bF6;split<;>simp[AV.under,dJ,this]
  simp only[go_sem,↓aB,seval,Ho,hw,vn,Qt];rw[qQ hu,List.take_left];exact⟨rfl,rfl,rfl⟩)
 exact e1
end
def bDx(g:SN):bw:=⟨14,[],[.tmp 2,.tmp 3],qS [qx 1 2 0,qmc 2 (.sl Qt []),qmc 3 z0]<|.seq (qS [qla 5 2 1,qc 6 (g "e") [u 5],qm 4 6]<|qS [qm 7 4,qbi 8 .neq 7 0]<|qC 8 (qS [qm 9 4,qmc 2 (.sl Qt []),qm 3 9]<|.ret) (.skip))<|qS [qla 10 2 1,qc 11 (g "J") [u 10],qq 12 (.ext 0 (u 11)),qq 13 (.ext 1 (u 11)),qm 2 12,qm 3 13]<|.ret⟩
abbrev bDJ(g:SN):List ae:=[ql 20 1 6,qf 21 0 7,⟨Qr 22,ol 1 21,Qs,[1]⟩,⟨Qr 23,oc (g "X") [u 22],Qs,[2,1]⟩,⟨Qr 24,oa 1 16 20 23,Qs,[0,3,2,1]⟩,⟨Qs,os 1 6 24,Qs,[4,0,3,2,1]⟩]
abbrev bDK:LN:=[0,3]
def bDL(g:SN):ag:=.block 0 (.dz (.tmp 18) [19] (qS [qq 7 (.alloc [(.str []),z0,z0]),qs 3 7 19]<|.block 1 (.region Qt (bDJ g))))
def bDt(g:SN):bw:=⟨28,[6,19,7,24],[.tmp 2,.tmp 3],qS [qx 1 2 0,qmc 2 (.sl Qt []),qmc 3 z0]<|qS [qla 9 2 1,qc 10 (g "aM") [u 9],qm 8 10,qq 11 (.ext 0 (u 8)),qq 12 (.ext 1 (u 8)),qm 4 11,qm 5 12]<|.seq (qS [qm 13 5,qbi 14 .neq 13 0]<|qC 14 (qS [qm 15 5,qmc 2 (.sl Qt []),qm 3 15]<|.ret) (.skip))<|qS [qq 6 (.alloc [(.sl Qt [])])]<|.seq (qS [qla 16 2 1,qm 17 4,qc 18 (g "bp") [u 16,u 17]]<|bDL g)<|.seq (.seq (.frz [(1,6)])<|.region Qu [ql 25 1 6,qc 26 (g "cE") [u 25,ui 50],qc 27 (g "cF") [u 26],qm 2 27,qmc 3 z0])<|.ret⟩
section
variable {A:af}{g:SN}
theorem bEF{x:Item}(h:aGU x=Qt):mu x:=by
 unfold aGU at h;simp only[AI,AO]at h;obtain⟨⟨⟨_,_,h1⟩,_⟩,_,h2⟩:=h;refine⟨fun b hb=>?_,fun q hq=>?_⟩
 ·have hB:=h1 b hb;unfold dQ at hB;simp only[AI]at hB;have hK:=hB.2;unfold xU at hK;by_cases k0:b.kind=0;omega;by_cases k1:b.kind=1;omega;by_cases k2:b.kind=2;omega;by_cases k3:b.kind=3;omega;by_cases k4:b.kind=4;omega;by_cases k5:b.kind=5;omega;by_cases k6:b.kind=6;omega;rw[Zx k0,Zx k1,Zx k2,Zx k3,Zx k4,Zx k5,Zx k6]at hK;cases hK
 have hA:=h2 q hq;unfold aWp aGx at hA;simp only[AI,eG,AO]at hA;have hk:=hA.1.1.1.1.1.1.1;have hr:=hA.1.1.1.1.1.1.2;refine⟨hk.1,by omega,fun e=>?_,fun r hm=>?_⟩
 ·rw[e]at hr;have:=hr.2.1.1;simp at this
 have:=hr.2.2 r hm;unfold aUL at this;simp only[AI,eG]at this;omega
theorem ew.under{id k n:Nat}{rows:List LA}{v:AV}{o:ah}(h:ew id k rows v o)(bl:rows≠[])(hd:gG rows=Qt):o.under n=true:=by
 cases h with
 |nil=>exact Zw rfl bl
 |obj ver=>exact aA hd
theorem ew.vUu{id k n:Nat}{rows:List LA}{v:AV}{o:ah}(h:ew id k rows v o)(hn:id<n):v.under n=true:=by
 cases h with
 |nil=>rfl
 |obj ver=>simpa [AV.under]using hn
abbrev bE6(g:SN):ag:=qS [qq 7 (.alloc [(.str []),z0,z0]),qs 3 7 19]<|.block 1 (.region Qt (bDJ g))
def bGH(g:SN)(H:LO)(ps:List Str)(X:LO):Prop:=∃w x2 x3 l,X=H++[.box 1 [w],.rnd 1 H.length [6,19,7,24] [19] (bE6 g) l Qu Qs,x2,x3]/\l.length=28/\ck l 6=.ptr H.length 1 0 /\
 dJ (H.length+4) l=Qt/\x2.under (H.length+4)=Qt/\x3.under (H.length+4)=Qt/\ew (H.length+3) 1 ((ps.flatMap cH).map aN) w x3/\∀p∈ps,p.length<=2000000
theorem bGg(hY:sn A)(hL:Has A g "X" (bDk g))(H:LO):y9 A (H.length+1) 1 H.length (H.length+4) (bGH g H) where
 le:=by omega
 inv:=by
  rintro ps X ⟨w,x2,x3,l,rfl,hl,h6,R6,Qw,Pn,hG,Hx⟩;refine⟨by simp,fun j x hj hx=>?_⟩;obtain⟨i,rfl⟩:∃i,j=H.length+i:=⟨j - H.length,by omega⟩;rw[bX]at hx
  match i,hx with
  |0,hx=>cases hx;show dJ _ [w]=Qt;simp only[dJ,hG.vUu (n:=H.length+4) (by omega),Bool.and_self]
  |1,hx=>cases hx;exact R6
  |2,hx=>cases hx;exact Qw
  |3,hx=>cases hx;exact Pn
  |i+4,hx=>simp at hx
 run:=by
  rintro ps X s i k y0 y1 y2 y3 y4 ⟨w,x2,x3,l,rfl,ym,h6,R6,Qw,Pn,hG,Hx⟩ hs G6 hp;have key:∃(e:bf) (H':LO) (ba:LN),aG A YF [.own 0 [],.yld (H.length+1) 1,.agg [.str s,vi i,vi k]] (H++[.box 1 [w],.rnd 1 H.length [6,19,7,24] [19] (bE6 g) l Qu Qs,x2,x3,y0,y1,y2,y3,y4])=Qr (.bool (decide (e=.normal)),H',ba)/\(e=.normal/\(∃X',H'=X'++[y0,y1,y2,y3,y4]/\bGH g H (ps++[s]) X')/\∀x∈ba,H.length<=x):=by
   refine mT hY (K:=fun e H' wr=>e=.normal/\(∃X',H'=X'++[y0,y1,y2,y3,y4]/\bGH g H (ps++[s]) X')/\∀x∈wr,H.length<=x) (N:=28) (l:=l) (by rw[bX];rfl) rfl (by kernel_rfl) (by kernel_rfl) ym ?_;have nu:ck (dH l [19] [.agg [.str s,vi i,vi k]])=upd (ck l) 19 (.agg [.str s,vi i,vi k]):=nG (by omega);rw[nu];generalize hρ:ck l=ρ at *;simp only[List.cons_append,List.nil_append];have fq:∀{w2:LN} {n:Nat},(∀x∈w2,H.length<=x)->∀x∈List.range' H.length n++(H.length+1)::w2,H.length<=x:=fun {w2 n} h x hx=>by
    rcases AY.1 hx with hx | hx
    ·rw[List.mem_range'_1]at hx;exact hx.1
    rcases BD.1 hx with rfl | hx
    ·omega
    exact h x hx
   have s23:(⟨H.length,[6,19,7,24,YF+(H.length+1),YF+1]⟩:Ctx).site (Qr 23)=none:=aIE (l:=[6,19,7,24]) (ys:=[YF+(H.length+1),YF+1]) (by rfl) (by decide) (fun y hy=>by simp at hy;omega);have xd:=fun H=>bFC hL s hs (by omega) H;have ki:(cH s).map aN≠[]:=by unfold cH;rw[bDc hs];simp
   have Og:dF 1 ((cH s).map aN)=true:=by cases cH s<;>rfl
   have qe:=bEk (B:=2000000) Hx;have iq:=bEj s;obtain⟨v',o',Qj,Gx⟩:=hG.app (new:=(cH s).map aN) (bytes:=16) ki Og (by simp only[AF];omega);have I9:(ps++[s]).flatMap cH=ps.flatMap cH++cH s:=by rw[List.flatMap_append];simp
   have Sx:o'.under (H.length+4)=true:=Qj.under (by simp[ki]) (by rw[<- DQ];exact aC bO _);have mj:v'.cells=[v']:=Qj.aj;have nc:v'.ak=true:=Qj.ak;have a7:=Gx (H++[.box 1 [w],.rnd 1 H.length [6,19,7,24] [19] (bE6 g) l Qt Qs,.box (x2.ver+1) [.str s,vi i,vi k],x3,y0,y1,y2,y3,y4]) Qu (by rw[bX];rfl);rw[eS]at a7;simp only[go_sem,↓aB,seval];refine⟨_,_,_,_,_,rfl, ?_⟩;refine aY (aq:=bDK) (by rfl) (by rfl) ?_;simp only[go_sem,↓aB,seval,bDK,h6,s23,xd,a7,mj,nc,List.all_cons,List.all_nil,AW,AZ,eH,dG,aL,AD,AA,AE,AB];exact⟨_,_,_,_,_,rfl,⟨H++[.box 1 [v'],.rnd 1 H.length [6,19,7,24] [19] (bE6 g) l Qu Qs,.box (x2.ver+1) [.str s,vi i,vi k],o'],by simp,⟨v',.box (x2.ver+1) [.str s,vi i,vi k],o',l,rfl,ym,by rw[hρ];exact h6,R6,rfl,Sx,by rw[I9,DQ];exact Qj,fun p hp=>by
    rcases AY.1 hp with hp | hp
    ·exact Hx p hp
    rw[CG.1 hp];exact G6⟩⟩,fq (by simp)⟩
  obtain⟨e,H',ba,h1,rfl,⟨X',rfl,h2⟩,h3⟩:=key;exact⟨X',ba,by simpa using h1,h2,h3⟩
theorem bEq{V:Item->Fact->Str×Int}{W:jm->Int}(hV:bEK A g V)(hW:bEl A g W)(hF:Has A g "J" (tM g))(h:Has A g "aM" (bDx g))(x:jm)(hx:x.Ok)(H:LO):aG A (g "aM") [dE x] H=Qr (.tup [.sl Qu (if W x=0 then (if bD3 V x=0 then hU (bCV V x)else [])else []),vi (if W x=0 then bD3 V x else W x)],H,[]):=by
 have h1:=fun H=>(hW x hx H).1;have h2:=fun H=>bFx hV hF x hx H;simp only[dE]at h1 h2;refine h.call ?_;simp only[bDx];cases z:(W x != 0)with
 |true=>
  have hz:W x≠0:=by simpa using z
  rw[Zx hz,Zx hz];simp only[go_sem,↓aB,seval,dE,h1,z,AJ,AD,AA,AE]
 |false=>
  have hz:W x=0:=by simpa using z
  rw[Zy hz,Zy hz];simp only[go_sem,↓aB,seval,dE,h1,z,h2,AJ,AD,AA,AE];rw[jG (AQ _)];exact⟨rfl,rfl,rfl⟩
structure Ps(A:af)(g:SN)(V:Item->Fact->Str×Int)(W:jm->Int):Prop where
 val:bEK A g V
 valid:bEl A g W
 y7:Has A g "J" (tM g)
 R2:Has A g "aM" (bDx g)
 lines:Has A g "X" (bDk g)
 para:a8 A g
 chunk:kl A g
 render:Has A g "aL" (bDt g)
variable {V:Item->Fact->Str×Int}{W:jm->Int}
theorem bFJ(F:Ps A g V W)(x:jm)(hx:x.Ok)(e:Int)(he:(if W x=0 then bD3 V x else W x)=e)(bl:e≠0)(H:LO):aG A (g "aL") [dE x] H=Qr (.tup [.sl Qu [],vi e],H,[]):=by
 have h1:=fun H=>bEq F.val F.valid F.y7 F.R2 x hx H;rw[he]at h1;have hz:(e != 0)=true:=by simpa using bl
 generalize (if W x=0 then (if bD3 V x=0 then hU (bCV V x)else [])else [])=rows at h1;simp only[dE]at h1;refine F.render.call ?_;simp only[bDt];simp only[go_sem,↓aB,seval,dE,h1,hz,AJ,AD,AA,AE]
theorem bEr{n:Nat}:∀{l:LA},(∀t,t<l.length->(ck l t).under n=Qt)->dJ n l=Qt
 | [],_=>rfl
 |v::r,h=>by
  have h0:=h 0 (by simp);have h1:=bEr (l:=r) (n:=n) fun t ht=>by
   have:=h (t+1) (by simp;omega);simpa [ck]using this
  simp only[dJ,h1,Bool.and_true];simpa [ck]using h0
theorem bG0(F:Ps A g V W)(x:jm)(hx:x.Ok)(hw:W x=0)(hf:bD3 V x=0)(H:LO):aG A (g "aL") [dE x] H=Qr (.tup [.sl Qu (hU (cB ((bDa x (bCV V x)).flatMap cH))),vi 0],H,[]):=by
 have h1:=fun H=>bEq F.val F.valid F.y7 F.R2 x hx H;rw[Zy hw,Zy hw,Zy hf,hf]at h1;have h2:=fun H=>bEn F.para.para x (bCV V x) H;have Qk:∀i∈x.items,mu i:=fun i hi=>bEF ((F.valid x hx []).2 hw i hi);have J2:(bCV V x).length=x.items.length:=by unfold bCV;rw[AF]
 have y6:∀r∈bCV V x,r.length<=16/\∀s∈r,s.length<=1000000:=fun r hr=>by
  obtain⟨it,M5,rfl⟩:=DB.1 hr;have kh:=hx.items it M5;refine⟨by rw[AF];exact kh.B1,fun s hs=>?_⟩;obtain⟨f,_,rfl⟩:=DB.1 hs;exact (F.val it kh f []).2
 have Uk:=aHh (bCV V x);generalize bCV V x=R at *;simp only[dE]at h1 h2;obtain⟨r,H',ba,e1,rfl,rfl,rfl⟩:=F.render.bp (args:=[dE x]) (H:=H) (K:=fun r H' wr=>wr=[]/\H'=H/\r=.tup [.sl Qu (hU (cB ((bDa x R).flatMap cH))),vi 0]) (by
  simp only[bDt];simp only[go_sem,↓aB,seval,dE,h1,h2,AJ,AD,AA,AE];simp only[bDL];simp only[go_sem,seval];refine wC (id:=H.length+1) (v:=1) (X:=fun l=>H++[.box 1 [.sl Qt []],.rnd 1 H.length [6,19,7,24] [19] (bE6 g) l Qu Qs,.gone 0,.gone 0]) (by rfl) (by rfl) (by simp) (fun _=>by rfl) (by unfold bH;rw[bX];rfl) (fun l=>by rw[sV];rfl) ?_;intro l2 iq he;have R6:dJ (H.length+4) l2=true:=by
   have M5:eR (H.length+4) (x.items.map aO)=true:=aA (aC dV _);have Ul:eR (H.length+4) (hU R)=true:=aA Uk;have da:((GZ 28).all fun t=>(ck l2 t).under (H.length+4))=true:=by
    rw[he];simp[GZ,Jh,upd,pO,AV.under,dJ,eR,M5,Ul]
    done
   refine bEr fun t ht=>?_;rw[iq]at ht;exact AO.1 da t (List.mem_range.2 ht)
  have Lw:bGH g H [] (H++[.box 1 [.sl Qt []],.rnd 1 H.length [6,19,7,24] [19] (bE6 g) l2 Qu Qs,.gone 0,.gone 0]):=⟨_,_,_,l2,rfl,iq,by rw[he];rfl,R6,rfl,rfl,.nil _,fun p hp=>(by cases hp)⟩;obtain⟨H2,en,k1,k2,k3⟩:=bFH F.para (bGg F.chunk.yf F.lines H) x hx Qk R J2 y6 _ Lw;obtain⟨w,x2,x3,l3,rfl,yz,_,_,_,_,hG,Hx⟩:=k2;refine⟨_,_,_,_,_,_,_,_,Qs,k1,by rw[bX];rfl, ?_⟩;rw[kH (fun y hy=>by rcases BD.1 hy with rfl | hy;exact Nat.le_add_right _ _;exact k3 y hy),eS];show pP 0 _ _ .normal _ _ _;have bl:(bDa x R).flatMap cH≠[]:=by unfold bDa;rw[List.flatMap_cons];unfold cH;rw[bDc (by simp)];simp
  have ax:((bDa x R).flatMap cH).length<=100000000000:=by have h3:=bEk (B:=2000000) Hx;have h4:=bEo (fun i hi=>hx.items i hi) (R:=R) (fun r hr=>(y6 r hr).1);have h5:=hx.G8;have h6:(bDa x R).length=(bCL x.items R).length+1:=rfl;omega
  have ru:=fun H=>bEN F.chunk _ bl ax H;have Um:=fun rows H=>bFI F.chunk rows H;have hd:gG (((bDa x R).flatMap cH).map aN)=true:=aC bO _;have ya:((bDa x R).flatMap cH).map aN≠[]:=by simpa using bl
  have Un:=aHh (cB ((bDa x R).flatMap cH));generalize ((bDa x R).flatMap cH).map aN=rows at *;cases hG with
  |nil=>exact Zw rfl ya
  |obj ver=>
   simp only[go_sem,↓aB,seval,AD,AA,AE,aT hd,Um,ru,aA Un]
   done)
 exact e1
end
def gQ(g:SN):bw:=⟨47,[2],[.cell 2 2 Qt],qS [qq 2 (.alloc [z0,(.sl Qt [])])]<|qS [qq 6 (.bsl 1 [z0] 5 [(0,(.const (vi 3))),(1,(.const (vi 3))),(2,(.const (vi 4))),(3,(.const (vi 5))),(4,(.const (vi 6)))]),qm 7 0,qc 8 (g "a") [u 7,ui 5],qi 9 6 8 1,ql 10 1 9,qm 3 10]<|qS [qq 11 (.bsl 1 [z0] 6 [(0,(.const z0)),(1,(.const (vi 5))),(2,(.const (vi 99))),(3,(.const (vi 123))),(4,(.const (vi 1005))),(5,(.const (vi 47)))]),qm 12 0,qc 13 (g "a") [u 12,ui 6],qi 14 11 13 1,ql 15 1 14,qm 4 15]<|qS [qq 16 (.bsl 1 [z0] 6 [(0,(.const (vi 3))),(1,(.const (vi 9))),(2,(.const (vi 12))),(3,(.const (vi 58))),(4,(.const (vi 1))),(5,(.const (vi 70)))]),qm 17 0,qc 18 (g "a") [u 17,ui 6],qi 19 16 18 1,ql 20 1 19,qm 5 20]<|.seq (qS [qm 21 3,qbi 22 .eql 21 4]<|qC 22 (qS [qm 23 3,qm 24 4,qm 25 5,qb 26 .add 24 25,qm 27 5,qq 28 (.bsl 1 [z0] 2 [(0,(.tmp 26)),(1,(.tmp 27))]),qq 29 (.build [z0,(.sl Qt [])] [(0,1,(.tmp 23)),(1,1,(.tmp 28))]),qs 2 2 29]<|.ret) (.skip))<|.seq (qS [qm 30 3,qbi 31 .eql 30 3,qm 32 31,qT 33 32 (om 0),qT 34 32 (oc (g "a") [u 33,ui 3]),qT 35 32 (obi .eql 34 0),qp 36 32 35]<|qC 36 (qS [qm 37 3,qm 38 4,qm 39 5,qq 40 (.bsl 1 [z0] 3 [(0,(.tmp 38)),(1,(.tmp 39)),(2,(.const (vi 808)))]),qq 41 (.build [z0,(.sl Qt [])] [(0,1,(.tmp 37)),(1,1,(.tmp 40))]),qs 2 2 41]<|.ret) (.skip))<|qS [qm 42 3,qm 43 4,qm 44 5,qq 45 (.bsl 1 [z0] 2 [(0,(.tmp 43)),(1,(.tmp 44))]),qq 46 (.build [z0,(.sl Qt [])] [(0,1,(.tmp 42)),(1,1,(.tmp 45))]),qs 2 2 46]<|.ret⟩
abbrev lY(g:SN):ag:=.seq (qS [qm 20 8,qm 21 5,qb 22 .lss 20 21]<|qC 22 (.skip) (.exit 2))<|.seq (.block 3 (qR [qm 25 7,qm 26 0,qc 27 (g "j") [u 26],qq 28 (.bsl 1 [(.str [])] 1 [(0,(.tmp 27))]),qa 29 1 16 25 28,qm 7 29]))<|.region Qu [qm 23 8,qbi 24 .add 23 1,qm 8 24]
abbrev uP:LN:=[20,21,22,25,26,27,28,29,7,23,24,8]
abbrev uQ(g:SN):ag:=.seq (qS [qm 15 6,qm 16 4,qb 17 .lss 15 16]<|qC 17 (.skip) (.exit 0))<|.seq (.block 1 (qS [qmc 7 (.sl Qt [])]<|.seq (qS [qmc 8 z0]<|.block 2 (.loop (lY g)))<|.region Qu [qf 30 0 3,ql 31 1 30,qm 32 7,qq 33 (.bsl 1 [(.sl Qu [])] 1 [(0,(.tmp 32))]),qa 34 1 24 31 33,qf 35 0 3,qs 1 35 34]))<|.region Qu [qm 18 6,qbi 19 .add 18 1,qm 6 19]
def gC(g:SN):bw:=⟨37,[2,3,29,34],[.cell 2 1 Qt],qS [qq 2 (.alloc [(.sl Qt [])])]<|qS [qq 3 (.alloc [(.sl Qt [])])]<|qS [qm 9 0,qc 10 (g "a") [u 9,ui 3],qq 11 (.bin .add .no (ui 1) (u 10)),qm 4 11]<|qS [qm 12 0,qc 13 (g "a") [u 12,ui 3],qq 14 (.bin .add .no (ui 1) (u 13)),qm 5 14]<|.seq (qS [qmc 6 z0]<|.block 0 (.loop (uQ g)))<|qS [qla 36 1 3,qs 1 2 36]<|.ret⟩
abbrev uR(g:SN):List ae:=[qf 39 2 7,⟨Qr 40,ol 1 39,Qs,[0]⟩,qm 41 0,qm 42 1,⟨Qr 43,obi .sub 42 1,Qs,[3]⟩,⟨Qr 44,oc (g "l") [u 41,u 43],Qs,[2,4,3]⟩,⟨Qr 45,.bsl 3 [z0,z0,(.sl Qu [])] 1 [(0,(.tmp 44))],Qs,[5,2,4,3]⟩,⟨Qr 46,oa 3 40 40 45,Qs,[1,0,6,5,2,4,3]⟩,⟨Qr 47,of 2 7,Qs,[7,1,0,6,5,2,4,3]⟩,⟨Qs,os 1 47 46,Qs,[8,7,1,0,6,5,2,4,3]⟩]
abbrev lZ:LN:=[1,5]
abbrev uS(g:SN):ag:=.seq (qS [qm 33 8,qm 34 6,qc 35 (g "az") [u 34],qb 36 .lss 33 35]<|qC 36 (.skip) (.exit 0))<|.seq (.block 1 (.region Qt (uR g)))<|.region Qu [qm 37 8,qbi 38 .add 37 1,qm 8 38]
def gD(g:SN):bw:=⟨49,[4,7,46],[.cell 4 3 Qt],qS [qq 4 (.alloc [z0,z0,(.sl Qt [])])]<|qS [qm 9 0,qc 10 (g "a") [u 9,ui 12],qm 5 10]<|.seq (qS [qm 11 1,qbi 12 .leq 11 0]<|qC 12 (qR [qm 13 5,qbi 14 .rem 13 3,qm 5 14]) (.skip))<|.seq (qS [qm 15 5,qbi 16 .lss 15 2]<|qC 16 (qS [qq 17 (.bsl 1 [z0] 6 [(0,(.const z0)),(1,(.const (vi 1))),(2,(.const (vi 7))),(3,(.const (vi 12))),(4,(.const (vi 100))),(5,(.const (vi 999999)))]),qm 18 0,qc 19 (g "a") [u 18,ui 6],qi 20 17 19 1,ql 21 1 20,qq 22 (.build [z0,z0,(.sl Qt [])] [(0,1,(.const z0)),(1,1,(.tmp 21))]),qs 3 4 22]<|.ret) (.skip))<|.seq (qS [qm 23 5,qbi 24 .eql 23 2]<|qC 24 (qS [qm 25 0,qc 26 (g "a") [u 25,ui 4],qq 27 (.build [z0,z0,(.sl Qt [])] [(0,1,(.const (vi 1))),(1,1,(.tmp 26))]),qs 3 4 27]<|.ret) (.skip))<|qS [qm 28 0,qc 29 (g "a") [u 28,ui 7],qq 30 (.bin .add .no (ui 2) (u 29)),qm 6 30]<|qS [qm 31 6,qq 32 (.build [z0,z0,(.sl Qt [])] [(0,1,(.tmp 31))]),qq 7 (.alloc [z0,z0,(.sl Qt [])]),qs 3 7 32]<|.seq (qS [qmc 8 z0]<|.block 0 (.loop (uS g)))<|qS [qla 48 3 7,qs 3 4 48]<|.ret⟩
abbrev uU(g:SN):List ae:=[qm 13 0,⟨Qr 14,oc (g "a") [u 13,ui 2],Qs,[0]⟩,⟨Qr 15,.bin .add .no (ui 9) (u 14),Qs,[1,0]⟩,qla 16 3 5,qm 17 0,qm 18 1,⟨Qr 19,obi .sub 18 1,Qs,[5]⟩,⟨Qr 20,oc (g "l") [u 17,u 19],Qs,[4,6,5,1,0]⟩,⟨Qr 21,.bsl 3 [z0,z0,(.sl Qu [])] 2 [(0,(.tmp 16)),(1,(.tmp 20))],Qs,[3,7,4,6,5,1,0]⟩,⟨Qr 22,.build [z0,z0,(.sl Qt [])] [(0,1,(.tmp 15)),(2,1,(.tmp 21))],Qs,[2,8,3,7,4,6,5,1,0]⟩,⟨Qs,os 3 4 22,Qs,[9,2,8,3,7,4,6,5,1,0]⟩]
abbrev mA:LN:=[1,3,7]
def gE(g:SN):bw:=⟨26,[4,5],[.cell 4 3 Qt],qS [qq 4 (.alloc [z0,z0,(.sl Qt [])])]<|.seq (qS [qm 6 0,qc 7 (g "a") [u 6,ui 4],qbi 8 .eql 7 0]<|qC 8 (qS [qm 9 0,qm 10 1,qbi 11 .sub 10 1,qc 12 (g "l") [u 9,u 11],qq 5 (.alloc [z0,z0,(.sl Qt [])]),qs 3 5 12]<|.seq (.region Qt (uU g))<|.ret) (.skip))<|qS [qm 23 0,qm 24 1,qc 25 (g "l") [u 23,u 24],qs 3 4 25]<|.ret⟩
abbrev aVw(v:AV):Prop:=∃(op:Int) (a:List Int),v=.agg [vi op,.sl Qu (a.map bF)]/\eA op/\a.length<=3/\(∀n∈a,eA n)/\0<=op/\op<=10
theorem cC{n:Int}(h0:0<=n)(h1:n<=1000000):eA n:=by constructor<;>omega
theorem aVx{A:af}{g:SN}(h:Has A g "ax" (gQ g))(ht:fR A g):dI A (g "ax") [] aVw:=by
 refine h.gen (by simp[gQ]) (fun n=>by kernel_rfl) ?_;intro l i o v H hl hlt ho;simp only[gQ];simp only[go_sem,seval];refine bB (bA ht (m:=5) (by decide)) hl (i:=i) (by simp only[go_sem,seval,eK,hlt,ho]) ?_;rintro val i1 ⟨x,rfl,jr,lz⟩;obtain⟨op,wx,cx⟩:=aQk [3,3,4,5,6] jr lz;simp only[DR,bF]at cx;have Bv:0<=op/\op<=6:=by
  have:∀n∈([3,3,4,5,6]:List Int),0<=n/\n<=6:=by decide
  exact this _ wx
 simp only[go_sem,seval,hlt,fN,jr,cx];refine bB (bA ht (m:=6) (by decide)) hl (i:=i1) (by simp only[go_sem,seval,aP,hlt]) ?_;rintro val i2 ⟨y,rfl,oj,tc⟩;obtain⟨a,ha,wm⟩:=aQk [0,5,99,123,1005,47] oj tc;simp only[DR,bF]at wm;have Pb:0<=a/\a<=1005:=by
  have:∀n∈([0,5,99,123,1005,47]:List Int),0<=n/\n<=1005:=by decide
  exact this _ ha
 simp only[go_sem,seval,hlt,aR,oj,wm];refine bB (bA ht (m:=6) (by decide)) hl (i:=i2) (by simp only[go_sem,seval,aP,hlt]) ?_;rintro val i3 ⟨z,rfl,me,rr⟩;obtain⟨b,hb,M8⟩:=aQk [3,9,12,58,1,70] me rr;simp only[DR,bF]at M8;have V5:0<=b/\b<=70:=by
  have:∀n∈([3,9,12,58,1,70]:List Int),0<=n/\n<=70:=by decide
  exact this _ hb
 have hw:AR.wrap (a+b)=a+b:=wrap_i64 (by omega) (by omega);have fin:∀ns:List Int,ns.length<=3->(∀n∈ns,0<=n/\n<=1000000)->aVw (.agg [vi op,.sl Qu (ns.map bF)]):=fun ns h1 h2=>⟨op,ns,rfl,cC Bv.1 (by omega),h1,fun n hn=>cC (h2 n hn).1 (h2 n hn).2,Bv.1,by omega⟩;simp only[go_sem,seval,hlt,aR,me,M8];refine aD (fun Co=>?_) (fun Co=>?_)
 ·simp only[go_sem,seval,hlt,hw,aW,aA (aC aU _)];exact⟨⟨i3,rfl⟩,fin [a+b,b] (by simp) (by intro n hn;simp only[BD,CC,or_false]at hn;rcases hn with rfl | rfl<;>omega)⟩
 simp only[go_sem,seval,Co];refine aD (fun C4=>?_) (fun C4=>?_)
 ·simp only[go_sem,seval,C4];refine bB (bA ht (m:=3) (by decide)) hl (i:=i3) (by simp only[go_sem,seval,aP,hlt]) ?_;rintro val i4 ⟨w,rfl,od,dy⟩;have S9:(op==3)=true:=by simpa using C4
  simp only[go_sem,seval,hlt,aR,S9];refine aD (fun Hb=>?_) (fun Hb=>?_)
  ·simp only[go_sem,seval,hlt,aW,aA (aC aU _)];exact⟨⟨i4,rfl⟩,fin [a,b,808] (by simp) (by intro n hn;simp only[BD,CC,or_false]at hn;rcases hn with rfl | rfl | rfl<;>omega)⟩
  simp only[go_sem,seval,hlt,aW,aA (aC aU _)];exact⟨⟨i4,rfl⟩,fin [a,b] (by simp) (by intro n hn;simp only[BD,CC,or_false]at hn;rcases hn with rfl | rfl<;>omega)⟩
 have S9:(op==3)=false:=by
  cases hq:(op==3)with
  |false=>rfl
  |true=>rw[hq]at C4;cases C4
 simp only[go_sem,seval,S9,hlt,aW,aA (aC aU _)];exact⟨⟨i3,rfl⟩,fin [a,b] (by simp) (by intro n hn;simp only[BD,CC,or_false]at hn;rcases hn with rfl | rfl<;>omega)⟩
abbrev aIJ(r:List Str):Prop:=1<=r.length/\r.length<=3/\∀s∈r,s.length<=60
abbrev aTk(v:AV):Prop:=∃rows:List (List Str),v=.agg [.sl Qu (rows.map bY)]/\1<=rows.length/\rows.length<=3/\∀r∈rows,aIJ r
theorem aSu{A:af}{g:SN}(hp:dI A (g "j") [] aIG){H:LO}{Q:bf->bN->LO->LN->Prop}{tg}{l:List Int}(hl:jP l){o v:Nat}(hlt:o<H.length) {i:Int} {o0 o1 o2 o3:ah} {c:Int} (jg:1<=c) (mj:c<=3) {ρ:bN} (e0:ρ 0=.ptr o v 0) (e5:ρ 5=vi c) (e7:ρ 7=.sl Qt []) (e8:ρ 8=vi 0) (hQ:∀ρ' i' o2 (r:List Str),(∀t,uP.contains t=Qu->ρ' t=ρ t)->aIJ r->ew (H.length+2) 1 (r.map aN) (ρ' 7) o2->Q (.exit 2) ρ' (H.set o (.box v (aM l i'))++[o0,o1,o2,o3]) [o]):wl A 37 ⟨H.length,[2,3,29,34]⟩ (lY g) ρ (H.set o (.box v (aM l i))++[o0,o1,o2,o3]) [o] Q tg:=by
 refine bJ (fun j ρ1 H1 wr=>wr=[o]/\ρ1 8=vi j/\∃i' o2,∃r:List Str,H1=H.set o (.box v (aM l i'))++[o0,o1,o2,o3]/\ew (H.length+2) 1 (r.map aN) (ρ1 7) o2/\r.length=j/\∀a∈r,a.length<=60) c.toNat
  (fun ρ1 H1 wr=>wr=[o]/\∃i' o2,∃r:List Str,H1=H.set o (.box v (aM l i'))++[o0,o1,o2,o3]/\ew (H.length+2) 1 (r.map aN) (ρ1 7) o2/\aIJ r)
  (by kernel_rfl) rfl ⟨rfl,e8,i,o2,[],rfl,by rw[e7];exact .nil _,rfl,by simp⟩ ?_ (by
   rintro ρ' H' ba ⟨rfl,i',o2,r,rfl,hg,hr⟩ hf;exact hQ ρ' i' o2 r hf hr hg)
 rintro j ρ1 H1 dc mo ⟨rfl,e8,i',o2,r,rfl,hg,gu,il⟩ hf;have f0:ρ1 0=.ptr o v 0:=(hf 0 rfl).trans e0;have f5:ρ1 5=vi c:=(hf 5 rfl).trans e5;simp only[go_sem,seval,f5,e8];refine aD (fun hb=>?_) (fun hb=>?_)
 ·have cr:j<c.toNat:=by simp at hb;omega
  simp only[go_sem,seval,f0,e8];refine bB hp hl (i:=i') (by simp only[go_sem,seval,aP,hlt]) ?_;rintro val i3 ⟨s,rfl,hs⟩;obtain⟨v',o',eu,db⟩:=hg.app (new:=[[.str s]]) (bytes:=16) (by simp) (by rfl) (by rw[AF,gu];simp;omega);rw[show r.map aN++[[.str s]]=(r++[s]).map aN by simp[aN]]at eu;simp only[go_sem,seval,hlt,aR,db];rw[dW (by omega)];refine⟨cr,rfl,i3,o',r++[s],rfl,eu,by simp[gu], ?_⟩;intro a ha;rcases AY.1 ha with ha | ha
  ·exact il a ha
  have:a=s:=by simpa using ha
  subst this;exact hs
 have cr:j=c.toNat:=by simp at hb;omega
 subst cr;simp only[go_sem,seval];exact⟨i',o2,r,rfl,hg,by omega,by omega,il⟩
theorem aSv{A:af}{g:SN}(h:Has A g "au" (gC g))(ht:fR A g)(hp:dI A (g "j") [] aIG):dI A (g "au") [] aTk:=by
 refine h.gen (by simp[gC]) (fun n=>by kernel_rfl) ?_;intro l i o v H hl hlt ho;simp only[gC];simp only[go_sem,seval];refine bB (bA ht (m:=3) (by decide)) hl (i:=i) (by simp only[go_sem,seval,eK,hlt,ho]) ?_;rintro val i1 ⟨x,rfl,jr,lz⟩;have wk:AR.wrap (1+x)=1+x:=wrap_i64 (by omega) (by omega);simp only[go_sem,seval,hlt,fN,wk];refine bB (bA ht (m:=3) (by decide)) hl (i:=i1) (by simp only[go_sem,seval,aP,hlt]) ?_;rintro val i2 ⟨y,rfl,oj,tc⟩;have zz:AR.wrap (1+y)=1+y:=wrap_i64 (by omega) (by omega);simp only[go_sem,seval,hlt,aR,zz];refine bJ (id:=0) (fun j ρ1 H1 wr=>wr=[o]/\ρ1 6=vi j/\∃i' o2 o3 w,∃rows:List (List Str),H1=H.set o (.box v (aM l i'))++[.box 1 [.sl Qt []],.box 1 [w],o2,o3]/\ew (H.length+3) 1 (rows.map bY) w o3/\rows.length=j/\∀a∈rows,aIJ a) (1+x).toNat
  (fun ρ1 H1 wr=>wr=[o]/\∃i' o2 o3 w,∃rows:List (List Str),H1=H.set o (.box v (aM l i'))++[.box 1 [.sl Qt []],.box 1 [w],o2,o3]/\ew (H.length+3) 1 (rows.map bY) w o3/\rows.length=(1+x).toNat/\∀a∈rows,aIJ a)
  (by kernel_rfl) rfl ⟨by simp only[go_sem,seval],by simp only[go_sem,seval],i2,.gone 0,.gone 0,.sl Qt [],[],rfl,.nil _,rfl,by simp⟩ ?_ ?_
 ·rintro j ρ1 H1 dc mo ⟨rfl,e6,i',o2,o3,w,rows,rfl,hg,gu,il⟩ hf;have e0:ρ1 0=.ptr o v 0:=by rw[hf 0 rfl];simp only[go_sem,seval]
  have e3:ρ1 3=.ptr (H.length+1) 1 0:=by rw[hf 3 rfl];simp only[go_sem,seval]
  have e4:ρ1 4=vi (1+x):=by rw[hf 4 rfl];simp only[go_sem,seval]
  have e5:ρ1 5=vi (1+y):=by rw[hf 5 rfl];simp only[go_sem,seval]
  simp only[go_sem,seval,e4,e6];refine aD (fun hb=>?_) (fun hb=>?_)
  ·have cr:j<(1+x).toNat:=by simp at hb;omega
   simp only[go_sem,seval];refine aSu hp hl hlt (c:=1+y) (by omega) (by omega) (by simp only[go_sem,seval,e0]) (by simp only[go_sem,seval,e5]) (by simp only[go_sem,seval]) (by simp only[go_sem,seval]) ?_;intro ρ2 i4 o2' r cq hr qu;have g3:ρ2 3=.ptr (H.length+1) 1 0:=by rw[cq 3 rfl];simp only[go_sem,seval,e3]
   have g6:ρ2 6=vi j:=by rw[cq 6 rfl];simp only[go_sem,seval,e6]
   obtain⟨ff,lf,o2'',D1,D4,T0⟩:=qu.dw (aC bO _);have hle:∀H',H'[H.length+2]? = Qr o2'->dw H' (ρ2 7)=Qr (.sl ff (r.map aN),lf):=by
    intro H' hh;have:=D1 H' hh;obtain⟨ver,h7,_⟩:=qu.inv (by
     intro Hc;have:=congrArg FN Hc;have h1:=hr.1;simp only[AF,AZ]at this;omega)
    rw[h7]at this ⊢;exact this
   obtain⟨v',o',eu,db⟩:=hg.app (new:=[[.sl Qu (r.map aN)]]) (bytes:=24) (by simp) (by rfl) (by rw[AF,gu];simp;omega);rw[show rows.map bY++[[.sl Qu (r.map aN)]]=(rows++[r]).map bY by simp[bY]]at eu;simp only[go_sem,seval,g3,g6,hle,D4,T0,db,eu.aj,eu.ak];rw[dW (by omega)];refine⟨cr,rfl,i4,o2'',o',v',rows++[r],rfl,eu,by simp[gu], ?_⟩;intro a ha;rcases AY.1 ha with ha | ha
   ·exact il a ha
   have:a=r:=by simpa using ha
   subst this;exact hr
  have cr:j=(1+x).toNat:=by simp at hb;omega
  subst cr;simp only[go_sem,seval];exact⟨i',o2,o3,w,rows,rfl,hg,gu,il⟩
 rintro ρ2 H2 en ⟨rfl,i',o2,o3,w,rows,rfl,hg,gu,il⟩ hf;have e2:ρ2 2=.ptr H.length 1 0:=by rw[hf 2 rfl];simp only[go_sem,seval]
 have e3:ρ2 3=.ptr (H.length+1) 1 0:=by rw[hf 3 rfl];simp only[go_sem,seval]
 have bl:rows.map bY≠[]:=by intro h;have:=congrArg FN h;simp only[AF,gu,AZ]at this;omega
 obtain⟨ver,e4,rfl⟩:=hg.inv bl;simp only[go_sem,seval,e2,e3,e4,hlt,aT (aC cU _),aA (aC cU _),aA (aC aU _),aW];exact⟨⟨i',rfl⟩,rows,rfl,by omega,by omega,il⟩
inductive Deep:Nat->Expr->Prop where
 |mk (d:Nat) (op n:Int) (kids:List Expr):(0<=op/\op<=100)->(0<=n/\n<=1000000)->kids.length<=2->(∀e∈kids,Deep d e)->(kids.length=0/\op<=1∨kids.length=1/\(op=2∨op=8)∨kids.length=2/\(3<=op/\op<=7∨9<=op/\op<=10))->Deep (d+1) (.mk op n kids)
theorem Deep.ok:∀{d:Nat} {e:Expr},Deep d e->e.Ok/\gY e<=2 ^ d - 1
 |0,e,h=>by cases h
 |d+1,.mk op n kids,h=>by
  cases h with
  |mk _ _ _ _ h1 h2 h3 h4 h5=>
   refine⟨.mk _ _ _ (cC h1.1 (by omega)) (cC h2.1 h2.2) (by omega) fun e he=>(Deep.ok (h4 e he)).1, ?_⟩;have hk:cP kids<=2*(2 ^ d - 1):=by
    match kids,h3,h4 with
    | [],_,_=>simp[cP]
    | [a],_,h4=>have:=(Deep.ok (h4 a (by simp))).2;simp only[cP];omega
    | [a,b],_,h4=>have h5:=(Deep.ok (h4 a (by simp))).2;have h6:=(Deep.ok (h4 b (by simp))).2;simp only[cP];omega
    |_::_::_::_,h3,_=>simp at h3
   have hp:1<=2 ^ d:=Nat.one_le_two_pow;rw[gY,PL];omega
abbrev aFd(d:Nat)(v:AV):Prop:=∃e:Expr,v=.agg (aF e)/\Deep d e
def arity(op:Int):Int:=if op=0 then 0 else if op=1 then 0 else if op=2 then 1 else if op=8 then 1 else 2
theorem aOv{A:af}{g:SN}(h:Has A g "az" (oI g))(op:Int)(H:LO):aG A (g "az") [vi op] H=Qr (vi (arity op),H,[]):=by
 refine h.call ?_;simp only[oI];by_cases h0:op=0
 ·subst h0;simp only[go_sem,seval,arity]
 by_cases h1:op=1
 ·subst h1;simp only[go_sem,seval,arity]
 by_cases h2:op=2
 ·subst h2;simp only[go_sem,seval,arity]
 by_cases h8:op=8
 ·subst h8;simp only[go_sem,seval,arity]
 simp only[go_sem,seval,arity,aF9 h0,aF9 h1,aF9 h2,aF9 h8,h0,h1,h2,h8]
theorem aSw(op:Int):0<=arity op/\arity op<=2:=by
 unfold arity;split
 ·omega
 split
 ·omega
 split
 ·omega
 split<;>omega
theorem aQw{op:Int}(h1:2<=op)(h2:op<=8):(arity op).toNat=1/\(op=2∨op=8)∨(arity op).toNat=2/\(3<=op/\op<=7∨9<=op/\op<=10):=by
 unfold arity;rw[Zx (by omega),Zx (by omega)];by_cases h3:op=2
 ·rw[Zy h3];exact .inl ⟨rfl,.inl h3⟩
 rw[Zx h3];by_cases h4:op=8
 ·rw[Zy h4];exact .inl ⟨rfl,.inr h4⟩
 rw[Zx h4];exact .inr ⟨rfl,.inl ⟨by omega,by omega⟩⟩
theorem aNp{A:af}{g:SN}(h:Has A g "l" (gD g))(ht:fR A g) (Db:∀(op:Int) (H:LO),aG A (g "az") [vi op] H=Qr (vi (arity op),H,[])):∀d:Nat,d<=3->dI A (g "l") [vi d] (aFd (d+1))
 |d,hd=>by
  have ih:∀d',d=d'+1->dI A (g "l") [vi d'] (aFd (d'+1)):=fun d' V0=>aNp h ht Db d' (by omega);refine h.gen (by simp[gD]) (fun n=>by kernel_rfl) ?_;intro l i o v H hl hlt ho;have leaf:∀op n:Int,0<=op->op<=1->0<=n->n<=1000000->aFd (d+1) (.agg [vi op,vi n,.sl Qu []]):=fun op n h1 h2 h3 h4=>⟨.mk op n [],rfl,.mk _ _ _ _ ⟨h1,by omega⟩ ⟨h3,h4⟩ (by simp) (by simp) (.inl ⟨rfl,h2⟩)⟩;simp only[gD];simp only[go_sem,seval];refine bB (bA ht (m:=12) (by decide)) hl (i:=i) (by simp only[go_sem,seval,eK,hlt,ho]) ?_;rintro val i1 ⟨k,rfl,Pw,Ch⟩;cases d with
  |zero=>
   have Pc:0<=k.tmod 3/\k.tmod 3<3:=⟨HV _ Pw,GX _ (by decide)⟩;simp only[go_sem,seval,hlt,fN,tS (b:=3) (by decide),Int.cast_ofNat_Int];refine aD (fun hb=>?_) (fun hb=>?_)
   ·simp only[go_sem,seval];refine bB (bA ht (m:=6) (by decide)) hl (i:=i1) (by simp only[go_sem,seval,aP,hlt]) ?_;rintro val i2 ⟨x,rfl,jr,lz⟩;obtain⟨n,hn,cx⟩:=aQk [0,1,7,12,100,999999] jr lz;simp only[DR,bF]at cx;have yh:0<=n/\n<=1000000:=by
     have:∀n∈([0,1,7,12,100,999999]:List Int),0<=n/\n<=1000000:=by decide
     exact this _ hn
    simp only[go_sem,seval,hlt,aR,jr,cx,aW,aA (aC aU _)];exact⟨⟨i2,rfl⟩,leaf 0 n (by decide) (by decide) yh.1 yh.2⟩
   simp only[go_sem,seval];refine aD (fun dp=>?_) (fun dp=>?_)
   ·simp only[go_sem,seval];refine bB (bA ht (m:=4) (by decide)) hl (i:=i1) (by simp only[go_sem,seval,aP,hlt]) ?_;rintro val i2 ⟨x,rfl,jr,lz⟩;simp only[go_sem,seval,hlt,aR,aW,aA (aC aU _)];exact⟨⟨i2,rfl⟩,leaf 1 x (by decide) (by decide) jr (by omega)⟩
   exfalso;simp at hb dp;omega
  |succ d'=>
   have Cr:decide ((((d'+1:Nat):Int))<=0)=false:=by first | (simp;done)|(simp;omega)
   have q9:(((d'+1:Nat):Int))=(d':Int)+1:=rfl;simp only[go_sem,seval,hlt,fN,Cr];refine aD (fun hb=>?_) (fun hb=>?_)
   ·simp only[go_sem,seval];refine bB (bA ht (m:=6) (by decide)) hl (i:=i1) (by simp only[go_sem,seval,aP,hlt]) ?_;rintro val i2 ⟨x,rfl,jr,lz⟩;obtain⟨n,hn,cx⟩:=aQk [0,1,7,12,100,999999] jr lz;simp only[DR,bF]at cx;have yh:0<=n/\n<=1000000:=by
     have:∀n∈([0,1,7,12,100,999999]:List Int),0<=n/\n<=1000000:=by decide
     exact this _ hn
    simp only[go_sem,seval,hlt,aR,jr,cx,aW,aA (aC aU _)];exact⟨⟨i2,rfl⟩,leaf 0 n (by decide) (by decide) yh.1 yh.2⟩
   simp only[go_sem,seval];refine aD (fun dp=>?_) (fun dp=>?_)
   ·simp only[go_sem,seval];refine bB (bA ht (m:=4) (by decide)) hl (i:=i1) (by simp only[go_sem,seval,aP,hlt]) ?_;rintro val i2 ⟨x,rfl,jr,lz⟩;simp only[go_sem,seval,hlt,aR,aW,aA (aC aU _)];exact⟨⟨i2,rfl⟩,leaf 1 x (by decide) (by decide) jr (by omega)⟩
   simp only[go_sem,seval];refine bB (bA ht (m:=7) (by decide)) hl (i:=i1) (by simp only[go_sem,seval,aP,hlt]) ?_;rintro val i2 ⟨x,rfl,jr,lz⟩;have wk:AR.wrap (2+x)=2+x:=wrap_i64 (by omega) (by omega);simp only[go_sem,seval,hlt,aR,wk];have j8:=aSw (2+x);refine bJ (id:=0) (fun j ρ1 H1 wr=>wr=[o]/\ρ1 8=vi j/\∃i' o2 w,∃kids:List Expr,H1=H.set o (.box v (aM l i'))++[.box 1 [vi 0,vi 0,.sl Qt []],.box 1 [vi (2+x),vi 0,w],o2]/\ew (H.length+2) 3 (kids.map aF) w o2/\kids.length=j/\∀a∈kids,Deep (d'+1) a) (arity (2+x)).toNat
    (fun ρ1 H1 wr=>wr=[o]/\∃i' o2 w,∃kids:List Expr,H1=H.set o (.box v (aM l i'))++[.box 1 [vi 0,vi 0,.sl Qt []],.box 1 [vi (2+x),vi 0,w],o2]/\ew (H.length+2) 3 (kids.map aF) w o2/\kids.length=(arity (2+x)).toNat/\∀a∈kids,Deep (d'+1) a)
    (by kernel_rfl) rfl ⟨by simp only[go_sem,seval],by simp only[go_sem,seval],i2,.gone 0,.sl Qt [],[],by simp only[go_sem,seval],.nil _,rfl,by simp⟩ ?_ ?_
   ·rintro j ρ1 H1 dc mo ⟨rfl,e8,i',o2,w,kids,rfl,hg,zp,p9⟩ hf;have e0:ρ1 0=.ptr o v 0:=by rw[hf 0 rfl];simp only[go_sem,seval]
    have e1:ρ1 1=vi ((d':Int)+1):=by rw[hf 1 rfl];simp only[go_sem,seval];rfl
    have e6:ρ1 6=vi (2+x):=by rw[hf 6 rfl];simp only[go_sem,seval]
    have e7:ρ1 7=.ptr (H.length+1) 1 0:=by rw[hf 7 rfl];simp only[go_sem,seval]
    simp only[go_sem,seval,e6,e8,Db];refine aD (fun D3=>?_) (fun D3=>?_)
    ·have cr:j<(arity (2+x)).toNat:=by simp at D3;omega
     have F3:AR.wrap ((d':Int)+1 - 1)=(d':Int):=by rw[wrap_i64 (by omega) (by omega)];omega
     have bl:(H.length+1==o)=false:=by simp;omega
     simp only[go_sem,seval];refine aY (aq:=lZ) (by rfl) (by rfl) ?_;simp only[go_sem,seval,lZ,e0,e1,e7,F3];refine eB (ih d' rfl) hl (i:=i') (by simp only[go_sem,seval,aP,hlt]) ?_;rintro val i3 ⟨e,rfl,he⟩;obtain⟨w',o',eu,db⟩:=hg.app (new:=[aF e]) (bytes:=40) (by simp) (by rw[aCj,pA];rfl) (by rw[AF,zp];simp;omega);rw[show kids.map aF++[aF e]=(kids++[e]).map aF by simp]at eu;simp only[go_sem,seval,hlt,e8,aR,pA,aK (aV _),bR (aV _),db,eu.ak,eu.aj,eH,dG,bl,aL];rw[dW (by omega)];refine⟨cr,rfl,i3,o',w',kids++[e],rfl,eu,by simp[zp], ?_⟩;intro a ha;rcases AY.1 ha with ha | ha
     ·exact p9 a ha
     have:a=e:=by simpa using ha
     subst this;exact he
    have cr:j=(arity (2+x)).toNat:=by simp at D3;omega
    subst cr;simp only[go_sem,seval];exact⟨i',o2,w,kids,rfl,hg,zp,p9⟩
   rintro ρ2 H2 en ⟨rfl,i',o2,w,kids,rfl,hg,zp,p9⟩ hf;have e4:ρ2 4=.ptr H.length 1 0:=by rw[hf 4 rfl];simp only[go_sem,seval]
   have e7:ρ2 7=.ptr (H.length+1) 1 0:=by rw[hf 7 rfl];simp only[go_sem,seval]
   obtain⟨ff,lf,o2'',D1,D4,T0⟩:=hg.dw (aC aV _);simp only[go_sem,seval,e4,e7,hlt,hg.ak,D1,D4,T0,aA (aC aV _),aA (aC aU _),aW];exact⟨⟨i',rfl⟩,.mk (2+x) 0 kids,by rw[aF,bD],.mk _ _ _ _ ⟨by omega,by omega⟩ ⟨by decide,by decide⟩ (by omega) p9 (by rw[zp];exact .inr (aQw (by omega) (by omega)))⟩
abbrev rL(g:SN):List ae:=[qf 7 2 3,⟨Qr 8,ol 1 7,Qs,[0]⟩,qm 9 0,⟨Qr 10,oc (g "a") [u 9,ui 4],Qs,[2]⟩,⟨Qr 11,.bin .add .no (ui 24) (u 10),Qs,[3,2]⟩,qm 12 0,⟨Qr 13,oc (g "a") [u 12,ui 9],Qs,[5,3,2]⟩,⟨Qr 14,.bin .add .no (ui 30) (u 13),Qs,[6,5,3,2]⟩,⟨Qr 15,oc (g "G") [ui 2,ui 2,u 11,u 14],Qs,[4,7,6,5,3,2]⟩,⟨Qr 16,.build [z0,(.sl Qt [])] [(0,1,(.const (vi 2))),(1,1,(.tmp 15))],Qs,[8,4,7,6,5,3,2]⟩,⟨Qr 17,.bsl 2 [z0,(.sl Qu [])] 1 [(0,(.tmp 16))],Qs,[9,8,4,7,6,5,3,2]⟩,⟨Qr 18,oa 2 32 8 17,Qs,[1,0,10,9,8,4,7,6,5,3,2]⟩,⟨Qr 19,of 2 3,Qs,[11,1,0,10,9,8,4,7,6,5,3,2]⟩,⟨Qs,os 1 19 18,Qs,[12,11,1,0,10,9,8,4,7,6,5,3,2]⟩]
abbrev kW:LN:=[1,3,6,8]
abbrev rM(g:SN):List ae:=[qf 23 2 3,⟨Qr 24,ol 1 23,Qs,[0]⟩,qm 25 0,⟨Qr 26,oc (g "a") [u 25,ui 5],Qs,[2]⟩,⟨Qr 27,.bin .add .no (ui 10) (u 26),Qs,[3,2]⟩,qm 28 0,⟨Qr 29,oc (g "a") [u 28,ui 8],Qs,[5,3,2]⟩,⟨Qr 30,.bin .add .no (ui 12) (u 29),Qs,[6,5,3,2]⟩,⟨Qr 31,.build [z0,z0] [(0,1,(.tmp 27)),(1,1,(.tmp 30))],Qs,[4,7,6,5,3,2]⟩,⟨Qr 32,.bsl 2 [z0,z0] 1 [(0,(.tmp 31))],Qs,[8,4,7,6,5,3,2]⟩,⟨Qr 33,.build [z0,(.sl Qt [])] [(0,1,(.const z0)),(1,1,(.tmp 32))],Qs,[9,8,4,7,6,5,3,2]⟩,⟨Qr 34,.bsl 2 [z0,(.sl Qu [])] 1 [(0,(.tmp 33))],Qs,[10,9,8,4,7,6,5,3,2]⟩,⟨Qr 35,oa 2 32 24 34,Qs,[1,0,11,10,9,8,4,7,6,5,3,2]⟩,⟨Qr 36,of 2 3,Qs,[12,1,0,11,10,9,8,4,7,6,5,3,2]⟩,⟨Qs,os 1 36 35,Qs,[13,12,1,0,11,10,9,8,4,7,6,5,3,2]⟩]
abbrev kX:LN:=[1,3,6]
abbrev rN(g:SN):List ae:=[qf 43 2 3,⟨Qr 44,ol 1 43,Qs,[0]⟩,qm 45 4,⟨Qr 46,.build [z0,z0] [(0,1,(.tmp 45)),(1,1,(.const (vi 4)))],Qs,[2]⟩,qm 47 4,⟨Qr 48,obi .add 47 8,Qs,[4]⟩,qm 49 0,⟨Qr 50,oc (g "a") [u 49,ui 6],Qs,[6]⟩,⟨Qr 51,.bin .add .no (ui 10) (u 50),Qs,[7,6]⟩,⟨Qr 52,.build [z0,z0] [(0,1,(.tmp 48)),(1,1,(.tmp 51))],Qs,[5,4,8,7,6]⟩,qm 53 4,⟨Qr 54,.build [z0,z0] [(0,1,(.tmp 53)),(1,1,(.const (vi 30)))],Qs,[10]⟩,⟨Qr 55,.bsl 2 [z0,z0] 3 [(0,(.tmp 46)),(1,(.tmp 52)),(2,(.tmp 54))],Qs,[3,2,9,5,4,8,7,6,11,10]⟩,⟨Qr 56,.build [z0,(.sl Qt [])] [(0,1,(.const (vi 1))),(1,1,(.tmp 55))],Qs,[12,3,2,9,5,4,8,7,6,11,10]⟩,⟨Qr 57,.bsl 2 [z0,(.sl Qu [])] 1 [(0,(.tmp 56))],Qs,[13,12,3,2,9,5,4,8,7,6,11,10]⟩,⟨Qr 58,oa 2 32 44 57,Qs,[1,0,14,13,12,3,2,9,5,4,8,11,10,7,6]⟩,⟨Qr 59,of 2 3,Qs,[15,1,0,14,13,12,3,2,9,5,4,8,11,10,7,6]⟩,⟨Qs,os 1 59 58,Qs,[16,15,1,0,14,13,12,3,2,9,5,4,8,11,10,7,6]⟩]
abbrev kY:LN:=[1,7]
abbrev rO(g:SN):List ae:=[qf 60 2 3,⟨Qr 61,ol 1 60,Qs,[0]⟩,qm 62 4,qm 63 0,⟨Qr 64,oc (g "a") [u 63,ui 12],Qs,[3]⟩,⟨Qr 65,.bin .add .no (ui 12) (u 64),Qs,[4,3]⟩,⟨Qr 66,oc (g "G") [u 62,ui 5,ui 10,u 65],Qs,[2,5,4,3]⟩,⟨Qr 67,.build [z0,(.sl Qt [])] [(0,1,(.const (vi 2))),(1,1,(.tmp 66))],Qs,[6,2,5,4,3]⟩,⟨Qr 68,.bsl 2 [z0,(.sl Qu [])] 1 [(0,(.tmp 67))],Qs,[7,6,2,5,4,3]⟩,⟨Qr 69,oa 2 32 61 68,Qs,[1,0,8,7,6,2,5,4,3]⟩,⟨Qr 70,of 2 3,Qs,[9,1,0,8,7,6,2,5,4,3]⟩,⟨Qs,os 1 70 69,Qs,[10,9,1,0,8,7,6,2,5,4,3]⟩]
abbrev kZ:LN:=[1,4,6]
abbrev rP(g:SN):List ae:=[qf 74 2 3,⟨Qr 75,ol 1 74,Qs,[0]⟩,qq 76 (.build [z0,z0] [(0,1,(.const (vi 36))),(1,1,(.const (vi 44)))]),qm 77 0,⟨Qr 78,oc (g "a") [u 77,ui 20],Qs,[3]⟩,⟨Qr 79,.bin .add .no (ui 36) (u 78),Qs,[4,3]⟩,⟨Qr 80,.build [z0,z0] [(0,1,(.tmp 79)),(1,1,(.const (vi 44)))],Qs,[5,4,3]⟩,⟨Qr 81,.bsl 2 [z0,z0] 2 [(0,(.tmp 76)),(1,(.tmp 80))],Qs,[2,6,5,4,3]⟩,⟨Qr 82,.build [z0,(.sl Qt [])] [(0,1,(.const (vi 1))),(1,1,(.tmp 81))],Qs,[7,2,6,5,4,3]⟩,⟨Qr 83,.bsl 2 [z0,(.sl Qu [])] 1 [(0,(.tmp 82))],Qs,[8,7,2,6,5,4,3]⟩,⟨Qr 84,oa 2 32 75 83,Qs,[1,0,9,8,7,2,6,5,4,3]⟩,⟨Qr 85,of 2 3,Qs,[10,1,0,9,8,7,2,6,5,4,3]⟩,⟨Qs,os 1 85 84,Qs,[11,10,1,0,9,8,7,2,6,5,4,3]⟩]
abbrev lA:LN:=[1,4,7,9]
abbrev rQ(g:SN):List ae:=[qf 90 2 3,⟨Qr 91,ol 1 90,Qs,[0]⟩,qm 92 5,⟨Qr 93,oi 91 92 2,Qs,[1,0,2]⟩,⟨Qr 94,of 1 93,Qs,[3,1,0,2]⟩,⟨Qr 95,ol 1 94,Qs,[4,3,1,0,2]⟩,qf 96 2 3,⟨Qr 97,ol 1 96,Qs,[6]⟩,qm 98 5,⟨Qr 99,oi 97 98 2,Qs,[7,6,8]⟩,⟨Qr 100,of 1 99,Qs,[9,7,6,8]⟩,⟨Qr 101,ol 1 100,Qs,[10,9,7,6,8]⟩,⟨Qr 102,.iaV (u 101) (ui 1) 2,Qs,[11,10,9,7,6,8]⟩,⟨Qr 103,of 0 102,Qs,[12,11,10,9,7,6,8]⟩,⟨Qr 104,ol 1 103,Qs,[13,12,11,10,9,7,6,8]⟩,⟨Qr 105,obi .add 104 3,Qs,[14,13,12,11,10,9,7,6,8]⟩,⟨Qr 106,.iaV (u 95) (ui 1) 2,Qs,[5,4,3,1,0,2,15,14,13,12,11,10,9,7,6,8]⟩,⟨Qr 107,of 0 106,Qs,[16,5,4,3,1,0,2,15,14,13,12,11,10,9,7,6,8]⟩,⟨Qs,os 1 107 105,Qs,[17,16,5,4,3,1,0,2,15,14,13,12,11,10,9,7,6,8]⟩]
abbrev lB:LN:=[]
def fD(g:SN):bw:=⟨109,[81,83,2,3,18,35,58,69,84],[.cell 2 3 Qt],qS [qq 2 (.alloc [z0,z0,(.sl Qt [])])]<|qS [qq 6 (.build [z0,z0,(.sl Qt [])] [(0,1,(.const (vi 60))),(1,1,(.const (vi 50)))]),qq 3 (.alloc [z0,z0,(.sl Qt [])]),qs 3 3 6]<|.seq (.region Qt (rL g))<|.seq (qS [qm 20 0,qc 21 (g "a") [u 20,ui 3],qbi 22 .gtr 21 0]<|qC 22 (.region Qt (rM g)) (.skip))<|qS [qm 37 0,qc 38 (g "a") [u 37,ui 4],qq 39 (.bin .add .no (ui 36) (u 38)),qm 4 39]<|.seq (qS [qm 40 0,qc 41 (g "a") [u 40,ui 2],qbi 42 .eql 41 0]<|qC 42 (.region Qt (rN g)) (.region Qt (rO g)))<|.seq (qS [qm 71 0,qc 72 (g "a") [u 71,ui 3],qbi 73 .eql 72 0]<|qC 73 (.seq (.region Qt (rP g))<|qS [qf 86 2 3,ql 87 1 86,qn 88 87,qbi 89 .sub 88 1,qm 5 89]<|.region Qt (rQ g)) (.skip))<|.seq (.seq (.frz [(1,94)])<|.region Qu [qla 108 3 3,qs 3 2 108])<|.ret⟩
def rR(g:SN):bw:=⟨30,[],[.tmp 8],qS [qmc 8 (.sl Qt [])]<|qS [qm 9 0,qm 10 1,qq 11 (.build [z0,z0] [(0,1,(.tmp 9)),(1,1,(.tmp 10))]),qm 12 0,qm 13 2,qb 14 .add 12 13,qm 15 1,qq 16 (.build [z0,z0] [(0,1,(.tmp 14)),(1,1,(.tmp 15))]),qm 17 0,qm 18 2,qb 19 .add 17 18,qm 20 1,qm 21 3,qb 22 .add 20 21,qq 23 (.build [z0,z0] [(0,1,(.tmp 19)),(1,1,(.tmp 22))]),qm 24 0,qm 25 1,qm 26 3,qb 27 .add 25 26,qq 28 (.build [z0,z0] [(0,1,(.tmp 24)),(1,1,(.tmp 27))]),qq 29 (.bsl 2 [z0,z0] 4 [(0,(.tmp 11)),(1,(.tmp 16)),(2,(.tmp 23)),(3,(.tmp 28))]),qm 8 29]<|.ret⟩
theorem aSx{A:af}{g:SN}(h:Has A g "as" (gE g))(ht:fR A g) (qt:∀d:Nat,d<=3->dI A (g "l") [vi d] (aFd (d+1))):dI A (g "as") [vi 3] (aFd 4):=by
 refine h.gen (by simp[gE]) (fun n=>by kernel_rfl) ?_;intro l i o v H hl hlt ho;have h2:dI A (g "l") [vi 2] (aFd 3):=qt 2 (by decide);have h3:dI A (g "l") [vi 3] (aFd 4):=qt 3 (by decide);have gn:AR.wrap 2=2:=wrap_i64 (by decide) (by decide);simp only[gE];simp only[go_sem,seval];refine bB (bA ht (m:=4) (by decide)) hl (i:=i) (by simp only[go_sem,seval,eK,hlt,ho]) ?_;rintro val i1 ⟨x,rfl,jr,lz⟩;simp only[go_sem,seval,hlt,fN];refine aD (fun hb=>?_) (fun hb=>?_)
 ·simp only[go_sem,seval,hlt,gn];refine bB h2 hl (i:=i1) (by simp only[go_sem,seval,aP,hlt]) ?_;rintro val i2 ⟨a,rfl,ha⟩;simp only[go_sem,seval,hlt,aR,pA,bQ (aV _)];refine aY (aq:=mA) (by rfl) (by rfl) ?_;simp only[go_sem,seval,mA];refine eB (bA ht (m:=2) (by decide)) hl (i:=i2) (by simp only[go_sem,seval,aP,hlt]) ?_;rintro val i3 ⟨y,rfl,oj,tc⟩;have zz:AR.wrap (9+y)=9+y:=wrap_i64 (by omega) (by omega);have pk:∀e:Expr,FW 3 (aF e)=aF e:=fun e=>CH (by rw[pA];exact AQ _);have bl:(H.length+1==o)=false:=by simp;omega
  simp only[go_sem,seval,hlt,aR,zz,gn,pA,pk,aK (aV _),bR (aV _)];refine eB h2 hl (i:=i3) (by simp only[go_sem,seval,aP,hlt]) ?_;rintro val i4 ⟨b,rfl,dp⟩;simp only[go_sem,seval,hlt,aR,pA,aK (aV _),bR (aV _),eH,dG,bl,aL,aW,dC (aV _),aA (aC aU _)];refine⟨⟨i4,rfl⟩,.mk (9+y) 0 [a,b],rfl,.mk _ _ _ _ ⟨by omega,by omega⟩ ⟨by decide,by decide⟩ (by simp) ?_ (.inr (.inr ⟨rfl,.inr ⟨by omega,by omega⟩⟩))⟩;intro e he;simp only[BD,CC,or_false]at he;rcases he with rfl | rfl
  ·exact ha
  exact dp
 simp only[go_sem,seval];refine bB h3 hl (i:=i1) (by simp only[go_sem,seval,aP,hlt]) ?_;rintro val i2 ⟨a,rfl,ha⟩;have pk:FW 3 (aF a)=aF a:=CH (by rw[pA];exact AQ _);simp only[go_sem,seval,hlt,aR,pA,bQ (aV _),pk,aS (aV _),aK (aV _),aW,dC (aV _),aA (aC aU _)];exact⟨⟨i2,rfl⟩,a,rfl,ha⟩
abbrev lC(g:SN):ag:=.seq (qS [qm 32 11,qm 33 10,qb 34 .lss 32 33]<|qC 34 (.skip) (.exit 4))<|.seq (.block 5 (qS [qm 37 0,qc 38 (g "a") [u 37,ui 21],qq 39 (.bin .add .no (ui 14) (u 38)),qm 40 0,qc 41 (g "a") [u 40,ui 5],qq 42 (.bsl 1 [z0] 5 [(0,(.const z0)),(1,(.const z0)),(2,(.const z0)),(3,(.const (.int .i64 (-1)))),(4,(.const (vi 1)))]),qm 43 0,qc 44 (g "a") [u 43,ui 5],qi 45 42 44 1,ql 46 1 45,qq 47 (.build [z0,z0,z0] [(0,1,(.tmp 39)),(1,1,(.tmp 41)),(2,1,(.tmp 46))]),qq 12 (.alloc [z0,z0,z0]),qs 3 12 47]<|.seq (qS [qm 48 0,qc 49 (g "a") [u 48,ui 6],qbi 50 .eql 49 0]<|qC 50 (qR [qf 51 1 12,ql 52 1 51,qq 53 (.build [z0,z0,z0] [(0,1,(.const (.int .i64 (-1)))),(1,1,(.tmp 52))]),qs 3 12 53]) (.skip))<|.region Qu [qm 54 9,qla 55 3 12,qq 56 (.bsl 3 [z0,z0,z0] 1 [(0,(.tmp 55))]),qa 57 3 24 54 56,qm 9 57]))<|.region Qu [qm 35 11,qbi 36 .add 35 1,qm 11 36]
abbrev rS:LN:=[32,33,34,37,38,39,40,41,42,43,44,45,46,47,12,48,49,50,51,52,53,54,55,56,57,9,35,36,11]
abbrev lD(g:SN):ag:=.seq (qS [qm 24 8,qm 25 5,qb 26 .lss 24 25]<|qC 26 (.skip) (.exit 2))<|.seq (.block 3 (qS [qmc 9 (.sl Qt [])]<|qS [qm 29 0,qc 30 (g "a") [u 29,ui 4],qq 31 (.bin .add .no (ui 1) (u 30)),qm 10 31]<|.seq (qS [qmc 11 z0]<|.block 4 (.loop (lC g)))<|.region Qu [qm 58 7,qm 59 9,qq 60 (.bsl 1 [(.sl Qu [])] 1 [(0,(.tmp 59))]),qa 61 1 24 58 60,qm 7 61]))<|.region Qu [qm 27 8,qbi 28 .add 27 1,qm 8 28]
abbrev rT:LN:=[24,25,26,9,29,30,31,10,11,32,33,34,37,38,39,40,41,42,43,44,45,46,47,12,48,49,50,51,52,53,54,55,56,57,9,35,36,11,58,59,60,61,7,27,28,8]
abbrev rU(g:SN):ag:=.seq (qS [qm 19 6,qm 20 4,qb 21 .lss 19 20]<|qC 21 (.skip) (.exit 0))<|.seq (.block 1 (qS [qmc 7 (.sl Qt [])]<|.seq (qS [qmc 8 z0]<|.block 2 (.loop (lD g)))<|.region Qu [qf 62 0 3,ql 63 1 62,qm 64 7,qq 65 (.bsl 1 [(.sl Qu [])] 1 [(0,(.tmp 64))]),qa 66 1 24 63 65,qf 67 0 3,qs 1 67 66]))<|.region Qu [qm 22 6,qbi 23 .add 22 1,qm 6 23]
def fE(g:SN):bw:=⟨69,[2,3,12,57,61,66],[.cell 2 1 Qt],qS [qq 2 (.alloc [(.sl Qt [])])]<|qS [qq 3 (.alloc [(.sl Qt [])])]<|qS [qm 13 0,qc 14 (g "a") [u 13,ui 2],qq 15 (.bin .add .no (ui 1) (u 14)),qm 4 15]<|qS [qm 16 0,qc 17 (g "a") [u 16,ui 3],qq 18 (.bin .add .no (ui 1) (u 17)),qm 5 18]<|.seq (qS [qmc 6 z0]<|.block 0 (.loop (rU g)))<|qS [qla 68 1 3,qs 1 2 68]<|.ret⟩
abbrev aZI(b:List ct):Prop:=1<=b.length/\b.length<=4/\∀n∈b,n.Ok
abbrev aOw(h:List (List ct)):Prop:=1<=h.length/\h.length<=3/\∀b∈h,aZI b
abbrev aNq(v:AV):Prop:=∃m:List (List (List ct)),v=.agg [.sl Qu (m.map bS)]/\1<=m.length/\m.length<=2/\∀h∈m,aOw h
theorem ew.M9{id k:Nat}{rows:List LA}{v:AV}{o:ah}(h:ew id k rows v o)(bl:rows≠[])(hd:gG rows=Qt):∃l o',(∀H,H[id]? = Qr o->aA2 H v=Qr (.sl Qu rows,l))/\(∀H,H[id]? = Qr o->Go.AM.dw H v=Qr (.sl Qu rows,l))/\(∀H,H[id]? = Qr o->dL H l=H.set id o')/\(∀b wr,b<=id->bE b wr l=wr):=by
 obtain⟨ver,rfl,rfl⟩:=h.inv bl;obtain⟨f,l,o',h1,h2,h3⟩:=h.dw hd;cases h with
 |obj=>
  have key:∀H:LO,H[id]? = Qr (.vec ver k rows)->aA2 H (.sr id ver rows.length)=Qr (.sl Qu rows,[id]):=by
   intro H ho;show (match H[id]? with
    |some (.vec v' _ bt)=>if v'=ver/\bt.length=rows.length/\bt.all (fun r=>r.all AV.still)then Qr (AV.sl Qu bt,[id])else Qs
    |_=>Qs)=_
   rw[ho];simp only[aT hd,and_self,Zv]
  refine⟨[id],.gone ver,key,key,fun H ho=>?_,fun b wr hb=>?_⟩
  ·simp only[dL,ho];rfl
  unfold bE;rw[Zx (by omega)];rfl
theorem aHk{α β:Type}{f:α->β}{l:List α}(h:1<=l.length):l.map f≠[]:=by intro hn;have:=congrArg FN hn;simp only[AF,AZ]at this;omega
theorem aJI{A:af}{g:SN}(ht:fR A g){H:LO}{Q:bf->bN->LO->LN->Prop}{tg}{l:List Int}(hl:jP l){o v:Nat}(hlt:o<H.length) {i:Int} {o0 o1 o2 o3 o4 o5:ah} {c:Int} (jg:1<=c) (mj:c<=4) {ρ:bN} (e0:ρ 0=.ptr o v 0) (e10:ρ 10=vi c) (e9:ρ 9=.sl Qt []) (e11:ρ 11=vi 0) (hQ:∀ρ' i' o2 o3 (r:List ct),(∀t,rS.contains t=Qu->ρ' t=ρ t)->aZI r->ew (H.length+3) 3 (r.map bV) (ρ' 9) o3->Q (.exit 4) ρ' (H.set o (.box v (aM l i'))++[o0,o1,o2,o3,o4,o5]) [o]):wl A 69 ⟨H.length,[2,3,12,57,61,66]⟩ (lC g) ρ (H.set o (.box v (aM l i))++[o0,o1,o2,o3,o4,o5]) [o] Q tg:=by
 refine bJ (fun j ρ1 H1 wr=>wr=[o]/\ρ1 11=vi j/\∃i' o2 o3,∃r:List ct,H1=H.set o (.box v (aM l i'))++[o0,o1,o2,o3,o4,o5]/\ew (H.length+3) 3 (r.map bV) (ρ1 9) o3/\r.length=j/\∀a∈r,a.Ok) c.toNat
  (fun ρ1 H1 wr=>wr=[o]/\∃i' o2 o3,∃r:List ct,H1=H.set o (.box v (aM l i'))++[o0,o1,o2,o3,o4,o5]/\ew (H.length+3) 3 (r.map bV) (ρ1 9) o3/\aZI r)
  (by kernel_rfl) rfl ⟨rfl,e11,i,o2,o3,[],rfl,by rw[e9];exact .nil _,rfl,by simp⟩ ?_ (by
   rintro ρ' H' ba ⟨rfl,i',o2,o3,r,rfl,hg,hr⟩ hf;exact hQ ρ' i' o2 o3 r hf hr hg)
 rintro j ρ1 H1 dc mo ⟨rfl,e11,i',o2,o3,r,rfl,hg,gu,il⟩ hf;have f0:ρ1 0=.ptr o v 0:=(hf 0 rfl).trans e0;have f10:ρ1 10=vi c:=(hf 10 rfl).trans e10;simp only[go_sem,seval,f10,e11];refine aD (fun hb=>?_) (fun hb=>?_)
 ·have cr:j<c.toNat:=by simp at hb;omega
  simp only[go_sem,seval,f0];refine bB (bA ht (m:=21) (by decide)) hl (i:=i') (by simp only[go_sem,seval,aP,hlt]) ?_;rintro val i2 ⟨x,rfl,jr,lz⟩;have wk:AR.wrap (14+x)=14+x:=wrap_i64 (by omega) (by omega);simp only[go_sem,seval,hlt,aR,wk];refine bB (bA ht (m:=5) (by decide)) hl (i:=i2) (by simp only[go_sem,seval,aP,hlt]) ?_;rintro val i3 ⟨y,rfl,oj,tc⟩;simp only[go_sem,seval,hlt,aR];refine bB (bA ht (m:=5) (by decide)) hl (i:=i3) (by simp only[go_sem,seval,aP,hlt]) ?_;rintro val i4 ⟨z,rfl,me,rr⟩;obtain⟨n,hn,cx⟩:=aQk [0,0,0,-1,1] me rr;simp only[DR,bF]at cx;have yh : -1<=n/\n<=1:=by
   have:∀n∈([0,0,0,-1,1]:List Int),-1<=n/\n<=1:=by decide
   exact this _ hn
  simp only[go_sem,seval,hlt,aR,me,cx];refine bB (bA ht (m:=6) (by decide)) hl (i:=i4) (by simp only[go_sem,seval,aP,hlt]) ?_;rintro val i5 ⟨w,rfl,od,dy⟩;simp only[go_sem,seval,hlt,aR];refine aD (fun dp=>?_) (fun dp=>?_)
  ·obtain⟨v',o',eu,db⟩:=hg.app (new:=[[vi (-1),vi y,vi 0]]) (bytes:=24) (by simp) (by rfl) (by rw[AF,gu];simp;omega);rw[show r.map bV++[[vi (-1),vi y,vi 0]]=(r++[ct.mk (-1) y 0]).map bV by simp[bV]]at eu;simp only[go_sem,seval,db,e11];rw[dW (by omega)];refine⟨cr,rfl,i5,_,o',r++[ct.mk (-1) y 0],rfl,eu,by simp[gu], ?_⟩;intro a ha;rcases AY.1 ha with ha | ha
   ·exact il a ha
   have:a=ct.mk (-1) y 0:=by simpa using ha
   subst this;exact⟨⟨by show -9223372036854775808<=(-1:Int);omega,by show (-1:Int)<=9223372036854775807;omega⟩,⟨by show -9223372036854775808<=y;omega,by show y<=9223372036854775807;omega⟩,⟨by show -9223372036854775808<=(0:Int);omega,by show (0:Int)<=9223372036854775807;omega⟩⟩
  obtain⟨v',o',eu,db⟩:=hg.app (new:=[[vi (14+x),vi y,vi n]]) (bytes:=24) (by simp) (by rfl) (by rw[AF,gu];simp;omega);rw[show r.map bV++[[vi (14+x),vi y,vi n]]=(r++[ct.mk (14+x) y n]).map bV by simp[bV]]at eu;simp only[go_sem,seval,db,e11];rw[dW (by omega)];refine⟨cr,rfl,i5,_,o',r++[ct.mk (14+x) y n],rfl,eu,by simp[gu], ?_⟩;intro a ha;rcases AY.1 ha with ha | ha
  ·exact il a ha
  have:a=ct.mk (14+x) y n:=by simpa using ha
  subst this;exact⟨⟨by show -9223372036854775808<=(14+x:Int);omega,by show (14+x:Int)<=9223372036854775807;omega⟩,⟨by show -9223372036854775808<=y;omega,by show y<=9223372036854775807;omega⟩,⟨by show -9223372036854775808<=(n:Int);omega,by show (n:Int)<=9223372036854775807;omega⟩⟩
 have cr:j=c.toNat:=by simp at hb;omega
 subst cr;simp only[go_sem,seval];exact⟨i',o2,o3,r,rfl,hg,by omega,by omega,il⟩
theorem aLi{A:af}{g:SN}(ht:fR A g){H:LO}{Q:bf->bN->LO->LN->Prop}{tg}{l:List Int}(hl:jP l){o v:Nat}(hlt:o<H.length) {i:Int} {o0 o1 o2 o3 o4 o5:ah} {c:Int} (jg:1<=c) (mj:c<=3) {ρ:bN} (e0:ρ 0=.ptr o v 0) (e5:ρ 5=vi c) (e7:ρ 7=.sl Qt []) (e8:ρ 8=vi 0) (hQ:∀ρ' i' o2 o3 o4 (r:List (List ct)),(∀t,rT.contains t=Qu->ρ' t=ρ t)->aOw r->ew (H.length+4) 1 (r.map gH) (ρ' 7) o4->Q (.exit 2) ρ' (H.set o (.box v (aM l i'))++[o0,o1,o2,o3,o4,o5]) [o]):wl A 69 ⟨H.length,[2,3,12,57,61,66]⟩ (lD g) ρ (H.set o (.box v (aM l i))++[o0,o1,o2,o3,o4,o5]) [o] Q tg:=by
 refine bJ (fun j ρ1 H1 wr=>wr=[o]/\ρ1 8=vi j/\∃i' o2 o3 o4,∃r:List (List ct),H1=H.set o (.box v (aM l i'))++[o0,o1,o2,o3,o4,o5]/\ew (H.length+4) 1 (r.map gH) (ρ1 7) o4/\r.length=j/\∀a∈r,aZI a) c.toNat
  (fun ρ1 H1 wr=>wr=[o]/\∃i' o2 o3 o4,∃r:List (List ct),H1=H.set o (.box v (aM l i'))++[o0,o1,o2,o3,o4,o5]/\ew (H.length+4) 1 (r.map gH) (ρ1 7) o4/\aOw r)
  (by kernel_rfl) rfl ⟨rfl,e8,i,o2,o3,o4,[],rfl,by rw[e7];exact .nil _,rfl,by simp⟩ ?_ (by
   rintro ρ' H' ba ⟨rfl,i',o2,o3,o4,r,rfl,hg,hr⟩ hf;exact hQ ρ' i' o2 o3 o4 r hf hr hg)
 rintro j ρ1 H1 dc mo ⟨rfl,e8,i',o2,o3,o4,r,rfl,hg,gu,il⟩ hf;have f0:ρ1 0=.ptr o v 0:=(hf 0 rfl).trans e0;have f5:ρ1 5=vi c:=(hf 5 rfl).trans e5;simp only[go_sem,seval,f5,e8];refine aD (fun hb=>?_) (fun hb=>?_)
 ·have cr:j<c.toNat:=by simp at hb;omega
  simp only[go_sem,seval,f0];refine bB (bA ht (m:=4) (by decide)) hl (i:=i') (by simp only[go_sem,seval,aP,hlt]) ?_;rintro val i2 ⟨x,rfl,jr,lz⟩;have wk:AR.wrap (1+x)=1+x:=wrap_i64 (by omega) (by omega);simp only[go_sem,seval,hlt,aR,wk];refine aJI ht hl hlt (c:=1+x) (by omega) (by omega) (by simp only[go_sem,seval,f0]) (by simp only[go_sem,seval]) (by simp only[go_sem,seval]) (by simp only[go_sem,seval]) ?_;intro ρ2 i4 o2' o3' b cq dp qu;have g7:ρ2 7=ρ1 7:=by rw[cq 7 rfl];simp only[go_sem,seval]
  have g8:ρ2 8=vi j:=by rw[cq 8 rfl];simp only[go_sem,seval,e8]
  obtain⟨lf,o3'',h1,h2,D4,T0⟩:=qu.M9 (aHk dp.1) (aC aD9 _);obtain⟨v',o',eu,db⟩:=hg.app (new:=[[.sl Qu (b.map bV)]]) (bytes:=24) (by simp) (by rfl) (by rw[AF,gu];simp;omega);rw[show r.map gH++[[.sl Qu (b.map bV)]]=(r++[b]).map gH by simp[gH]]at eu;simp only[go_sem,seval,g7,g8,h2,D4,T0,db];rw[dW (by omega)];refine⟨cr,rfl,i4,o2',o3'',o',r++[b],rfl,eu,by simp[gu], ?_⟩;intro a ha;rcases AY.1 ha with ha | ha
  ·exact il a ha
  have:a=b:=by simpa using ha
  subst this;exact dp
 have cr:j=c.toNat:=by simp at hb;omega
 subst cr;simp only[go_sem,seval];exact⟨i',o2,o3,o4,r,rfl,hg,by omega,by omega,il⟩
theorem aOx{A:af}{g:SN}(h:Has A g "aw" (fE g))(ht:fR A g):dI A (g "aw") [] aNq:=by
 refine h.gen (by simp[fE]) (fun n=>by kernel_rfl) ?_;intro l i o v H hl hlt ho;simp only[fE];simp only[go_sem,seval];refine bB (bA ht (m:=2) (by decide)) hl (i:=i) (by simp only[go_sem,seval,eK,hlt,ho]) ?_;rintro val i1 ⟨x,rfl,jr,lz⟩;have wk:AR.wrap (1+x)=1+x:=wrap_i64 (by omega) (by omega);simp only[go_sem,seval,hlt,fN,wk];refine bB (bA ht (m:=3) (by decide)) hl (i:=i1) (by simp only[go_sem,seval,aP,hlt]) ?_;rintro val i2 ⟨y,rfl,oj,tc⟩;have zz:AR.wrap (1+y)=1+y:=wrap_i64 (by omega) (by omega);simp only[go_sem,seval,hlt,aR,zz];refine bJ (id:=0) (fun j ρ1 H1 wr=>wr=[o]/\ρ1 6=vi j/\∃i' o2 o3 o4 o5 w,∃rows:List (List (List ct)),H1=H.set o (.box v (aM l i'))++[.box 1 [.sl Qt []],.box 1 [w],o2,o3,o4,o5]/\ew (H.length+5) 1 (rows.map bS) w o5/\rows.length=j/\∀a∈rows,aOw a) (1+x).toNat
  (fun ρ1 H1 wr=>wr=[o]/\∃i' o2 o3 o4 o5 w,∃rows:List (List (List ct)),H1=H.set o (.box v (aM l i'))++[.box 1 [.sl Qt []],.box 1 [w],o2,o3,o4,o5]/\ew (H.length+5) 1 (rows.map bS) w o5/\rows.length=(1+x).toNat/\∀a∈rows,aOw a)
  (by kernel_rfl) rfl ⟨by simp only[go_sem,seval],by simp only[go_sem,seval],i2,.gone 0,.gone 0,.gone 0,.gone 0,.sl Qt [],[],rfl,.nil _,rfl,by simp⟩ ?_ ?_
 ·rintro j ρ1 H1 dc mo ⟨rfl,e6,i',o2,o3,o4,o5,w,rows,rfl,hg,gu,il⟩ hf;have e0:ρ1 0=.ptr o v 0:=by rw[hf 0 rfl];simp only[go_sem,seval]
  have e3:ρ1 3=.ptr (H.length+1) 1 0:=by rw[hf 3 rfl];simp only[go_sem,seval]
  have e4:ρ1 4=vi (1+x):=by rw[hf 4 rfl];simp only[go_sem,seval]
  have e5:ρ1 5=vi (1+y):=by rw[hf 5 rfl];simp only[go_sem,seval]
  simp only[go_sem,seval,e4,e6];refine aD (fun hb=>?_) (fun hb=>?_)
  ·have cr:j<(1+x).toNat:=by simp at hb;omega
   simp only[go_sem,seval];refine aLi ht hl hlt (c:=1+y) (by omega) (by omega) (by simp only[go_sem,seval,e0]) (by simp only[go_sem,seval,e5]) (by simp only[go_sem,seval]) (by simp only[go_sem,seval]) ?_;intro ρ2 i4 o2' o3' o4' r cq hr qu;have g3:ρ2 3=.ptr (H.length+1) 1 0:=by rw[cq 3 rfl];simp only[go_sem,seval,e3]
   have g6:ρ2 6=vi j:=by rw[cq 6 rfl];simp only[go_sem,seval,e6]
   obtain⟨lf,o4'',h1,h2,D4,T0⟩:=qu.M9 (aHk hr.1) (aC aFA _);obtain⟨v',o',eu,db⟩:=hg.app (new:=[[.sl Qu (r.map gH)]]) (bytes:=24) (by simp) (by rfl) (by rw[AF,gu];simp;omega);rw[show rows.map bS++[[.sl Qu (r.map gH)]]=(rows++[r]).map bS by simp[bS]]at eu;simp only[go_sem,seval,g3,g6,h2,D4,T0,db,eu.aj,eu.ak];rw[dW (by omega)];refine⟨cr,rfl,i4,o2',o3',o4'',o',v',rows++[r],rfl,eu,by simp[gu], ?_⟩;intro a ha;rcases AY.1 ha with ha | ha
   ·exact il a ha
   have:a=r:=by simpa using ha
   subst this;exact hr
  have cr:j=(1+x).toNat:=by simp at hb;omega
  subst cr;simp only[go_sem,seval];exact⟨i',o2,o3,o4,o5,w,rows,rfl,hg,gu,il⟩
 rintro ρ2 H2 en ⟨rfl,i',o2,o3,o4,o5,w,rows,rfl,hg,gu,il⟩ hf;have e2:ρ2 2=.ptr H.length 1 0:=by rw[hf 2 rfl];simp only[go_sem,seval]
 have e3:ρ2 3=.ptr (H.length+1) 1 0:=by rw[hf 3 rfl];simp only[go_sem,seval]
 obtain⟨ver,e4,rfl⟩:=hg.inv (aHk (by omega));simp only[go_sem,seval,e2,e3,e4,hlt,aT (aC cR _),aA (aC cR _),aA (aC aU _),aW];exact⟨⟨i',rfl⟩,rows,rfl,by omega,by omega,il⟩
def lK(g:SN):ag:=.block 0 (qS [qbi 13 .eql 8 0,qm 12 13]<|qC 12 (qR [qm 14 0,qc 15 (g "I") [u 14],qf 16 1 5,qs 1 16 15]) (qS [qbi 18 .eql 8 1,qm 17 18]<|qC 17 (qR [qm 19 0,qc 20 (g "as") [u 19,ui 3],qf 21 2 5,qs 3 21 20]) (qS [qbi 23 .eql 8 2,qm 22 23]<|qC 22 (qR [qm 24 0,qc 25 (g "ax") [u 24],qf 26 5 5,qs 2 26 25]) (qS [qbi 28 .eql 8 3,qm 27 28]<|qC 27 (qR [qm 29 0,qc 30 (g "au") [u 29],qf 31 7 5,qs 1 31 30]) (qS [qbi 33 .eql 8 4,qm 32 33]<|qC 32 (qR [qm 34 0,qc 35 (g "at") [u 34],qf 36 8 5,qs 3 36 35]) (qS [qbi 38 .eql 8 5,qm 37 38]<|qC 37 (qR [qm 39 0,qc 40 (g "aw") [u 39],qf 41 11 5,qs 1 41 40]) (qR [qm 9 0,qc 10 (g "av") [u 9],qf 11 12 5,qs 1 11 10])))))))
def fT(g:SN):bw:=⟨43,[4,5],[.cell 4 13 Qt],qS [qq 4 (.alloc [z0,(.sl Qt []),z0,z0,(.sl Qt []),z0,(.sl Qt []),(.sl Qt []),z0,z0,(.sl Qt []),(.sl Qt []),(.sl Qt [])])]<|qS [qm 6 1,qq 7 (.build [z0,(.sl Qt []),z0,z0,(.sl Qt []),z0,(.sl Qt []),(.sl Qt []),z0,z0,(.sl Qt []),(.sl Qt []),(.sl Qt [])] [(0,1,(.tmp 6))]),qq 5 (.alloc [z0,(.sl Qt []),z0,z0,(.sl Qt []),z0,(.sl Qt []),(.sl Qt []),z0,z0,(.sl Qt []),(.sl Qt []),(.sl Qt [])]),qs 13 5 7]<|.seq (qS [qm 8 1]<|lK g)<|qS [qla 42 13 5,qs 13 4 42]<|.ret⟩
abbrev SOk(a:Shape):Prop:=a.Ok/\0<=a.kind/\a.kind<=2
abbrev aNr(v:AV):Prop:=∃(w h:Int) (s:List Shape),v=.agg [vi w,vi h,.sl Qu (s.map aH)]/\eA w/\eA h/\2<=s.length/\s.length<=4/\∀a∈s,SOk a
structure C5(b:Block):Prop where
 runs:b.runs.length<=3
 eg:b.eg.length<=3
 size:gY b.expr<=900
 kids:∀op n ks,b.expr=.mk op n ks->ks.length<=2
theorem aBs{b:Block}(h1:b.runs.length<=3)(h2:b.eg.length<=3)(h3:b.expr=.mk 0 0 []):C5 b:=⟨h1,h2,by rw[h3];decide,fun op n ks e=>by rw[h3]at e;cases e;decide⟩
theorem aOy{b:Block}(h1:b.runs.length<=3)(h2:b.eg.length<=3){e:Expr}(h3:b.expr=e)(hd:Deep 4 e):C5 b:=⟨h1,h2,by rw[h3];have:=hd.ok.2;omega,fun op n ks h=>by rw[h3]at h;subst h;cases hd;assumption⟩
structure Fit(b:Block):Prop where
 expr:Deep 4 b.expr
 dn:0<=b.dn/\b.dn<=10
 aw:∀a∈b.aw,0<=a.kind/\a.kind<=2
theorem aHl:Deep 4 (.mk 0 0 []):=.mk _ _ _ _ (by decide) (by decide) (by simp) (by simp) (.inl ⟨rfl,by decide⟩)
theorem aNs{b:Block}(h1:b.expr=.mk 0 0 [])(h2:b.dn=0)(h3:b.aw=[]):Fit b:=⟨by rw[h1];exact aHl,by rw[h2];decide,by rw[h3];simp⟩
structure kf(b:Block):Prop where
 ok:b.Ok
 lens:b.aw.length<=4/\b.cd.length<=3/\b.bo.length<=2/\b.lines.length<=3
 ye:b.kind=4->2<=b.aw.length
 cd:b.kind=3->1<=b.cd.length/\∀r∈b.cd,aIJ r
 L7:b.kind=5->1<=b.bo.length/\∀h∈b.bo,aOw h
 mq:b.kind=6->1<=b.lines.length
 Bw:C5 b
 fit:Fit b
abbrev aMn(k:Int)(v:AV):Prop:=∃b:Block,v=.agg (aE b)/\b.kind=k/\kf b
def cV(k:Int):Block:=⟨k,[],.mk 0 0 [],0,[],[],0,0,[],[],[]⟩
theorem aCH:eA 0:=by constructor<;>decide
theorem aQx:(Expr.mk 0 0 []).Ok:=.mk _ _ _ aCH aCH (by simp) (by simp)
theorem oJ{k:Int}(hk:eA k):(cV k).Ok:=by constructor<;>first | exact hk | exact aCH | exact aQx | (simp[cV,gY,cP];done)
theorem aQy{A:af}{g:SN}(h:Has A g "Q" (fT g)) (hr:dI A (g "I") [] aQn) (he:dI A (g "as") [vi 3] (aFd 4)) (hs:dI A (g "ax") [] aVw) (hg:dI A (g "au") [] aTk) (hf:dI A (g "at") [] aNr) (hm:dI A (g "aw") [] aNq) (hn:dI A (g "av") [] aQo) {k:Int} (Pw:0<=k) (Ch:k<7):dI A (g "Q") [vi k] (aMn k):=by
 refine h.gen (by simp[fT]) (fun n=>by kernel_rfl) ?_;intro l i o v H hl hlt ho;have p9:eA k:=cC Pw (by omega);have ru:k=0∨k=1∨k=2∨k=3∨k=4∨k=5∨k=6:=by omega
 simp only[fT,lK];rcases ru with rfl | rfl | rfl | rfl | rfl | rfl | rfl
 ·simp only[go_sem,seval];refine bB hr hl (i:=i) (by simp only[go_sem,seval,eK,hlt,ho]) ?_;rintro val i1 ⟨r,rfl,gj,nv,U0⟩;simp only[go_sem,seval,hlt,fN,aW,aA (aC cA _),aA (aC aU _)];exact⟨⟨i1,rfl⟩,{ cV 0 with runs:=r },by simp[aE,cV,aF,gO],rfl,{ oJ p9 with vw:=by show r.length<=16;omega,runs:=fun a h=>(U0 a h).1 },by simp[cV],fun hh=>Zw (show (0:Int)=4 from hh) (by decide),fun hh=>Zw (show (0:Int)=3 from hh) (by decide),fun hh=>Zw (show (0:Int)=5 from hh) (by decide),fun hh=>Zw (show (0:Int)=6 from hh) (by decide),aBs nv (by simp[cV]) rfl,aNs rfl rfl rfl⟩
 ·simp only[go_sem,seval];refine bB he hl (i:=i) (by simp only[go_sem,seval,eK,hlt,ho]) ?_;rintro val i1 ⟨⟨op,n,kids⟩,rfl,hd⟩;simp only[aF,bD];simp only[go_sem,seval,hlt,fN,aW,aA (aC aV _),aA (aC aU _)];exact⟨⟨i1,rfl⟩,{ cV 1 with expr:=.mk op n kids },by simp[aE,cV,aF,bD],rfl,{ oJ p9 with expr:=hd.ok.1,size:=by have:=hd.ok.2;show gY (.mk op n kids)<=1000;omega },by simp[cV],fun hh=>Zw (show (1:Int)=4 from hh) (by decide),fun hh=>Zw (show (1:Int)=3 from hh) (by decide),fun hh=>Zw (show (1:Int)=5 from hh) (by decide),fun hh=>Zw (show (1:Int)=6 from hh) (by decide),aOy (by simp[cV]) (by simp[cV]) rfl hd,⟨hd,by simp[cV],by simp[cV]⟩⟩
 ·simp only[go_sem,seval];refine bB hs hl (i:=i) (by simp only[go_sem,seval,eK,hlt,ho]) ?_;rintro val i1 ⟨op,a,rfl,M1,R7,Ay,Mv⟩;simp only[go_sem,seval,hlt,fN,aW,aA (aC aU _)];exact⟨⟨i1,rfl⟩,{ cV 2 with dn:=op,eg:=a },by simp[aE,cV,aF,gO],rfl,{ oJ p9 with dn:=M1,tj:=by show a.length<=16;omega,eg:=Ay },by simp[cV],fun hh=>Zw (show (2:Int)=4 from hh) (by decide),fun hh=>Zw (show (2:Int)=3 from hh) (by decide),fun hh=>Zw (show (2:Int)=5 from hh) (by decide),fun hh=>Zw (show (2:Int)=6 from hh) (by decide),aBs (by simp[cV]) R7 rfl,⟨aHl,Mv,by simp[cV]⟩⟩
 ·simp only[go_sem,seval];refine bB hg hl (i:=i) (by simp only[go_sem,seval,eK,hlt,ho]) ?_;rintro val i1 ⟨r,rfl,gj,nv,U0⟩;simp only[go_sem,seval,hlt,fN,aW,aA (aC cU _),aA (aC aU _)];exact⟨⟨i1,rfl⟩,{ cV 3 with cd:=r },by simp[aE,cV,aF,gO],rfl,{ oJ p9 with uu:=by show r.length<=16;omega,cd:=fun x hx=>⟨by have:=(U0 x hx).2.1;omega,fun s hs=>by have:=(U0 x hx).2.2 s hs;show s.length<=1000;omega⟩ },by simp[cV];omega,fun hh=>Zw (show (3:Int)=4 from hh) (by decide),fun _=>⟨gj,U0⟩,fun hh=>Zw (show (3:Int)=5 from hh) (by decide),fun hh=>Zw (show (3:Int)=6 from hh) (by decide),aBs (by simp[cV]) (by simp[cV]) rfl,aNs rfl rfl rfl⟩
 ·simp only[go_sem,seval];refine bB hf hl (i:=i) (by simp only[go_sem,seval,eK,hlt,ho]) ?_;rintro val i1 ⟨w,h,s,rfl,hw,hh,lq,nu,F1⟩;simp only[go_sem,seval,hlt,fN,aW,aA (aC bW _),aA (aC aU _)];exact⟨⟨i1,rfl⟩,{ cV 4 with w:=w,h:=h,aw:=s },by simp[aE,cV,aF,gO],rfl,{ oJ p9 with w:=hw,h:=hh,fg:=by show s.length<=16;omega,aw:=fun a ha=>(F1 a ha).1 },by simp[cV];omega,fun _=>lq,fun hh=>Zw (show (4:Int)=3 from hh) (by decide),fun hh=>Zw (show (4:Int)=5 from hh) (by decide),fun hh=>Zw (show (4:Int)=6 from hh) (by decide),aBs (by simp[cV]) (by simp[cV]) rfl,⟨aHl,by simp[cV],fun a ha=>(F1 a ha).2⟩⟩
 ·simp only[go_sem,seval];refine bB hm hl (i:=i) (by simp only[go_sem,seval,eK,hlt,ho]) ?_;rintro val i1 ⟨m,rfl,V9,Ep,Dc⟩;simp only[go_sem,seval,hlt,fN,aW,aA (aC cR _),aA (aC aU _)];exact⟨⟨i1,rfl⟩,{ cV 5 with bo:=m },by simp[aE,cV,aF,gO],rfl,{ oJ p9 with uv:=by show m.length<=16;omega,bo:=fun x hx=>⟨by have:=(Dc x hx).2.1;omega,fun y hy=>⟨by have:=((Dc x hx).2.2 y hy).2.1;omega,((Dc x hx).2.2 y hy).2.2⟩⟩ },by simp[cV];omega,fun hh=>Zw (show (5:Int)=4 from hh) (by decide),fun hh=>Zw (show (5:Int)=3 from hh) (by decide),fun _=>⟨V9,Dc⟩,fun hh=>Zw (show (5:Int)=6 from hh) (by decide),aBs (by simp[cV]) (by simp[cV]) rfl,aNs rfl rfl rfl⟩
 simp only[go_sem,seval];refine bB hn hl (i:=i) (by simp only[go_sem,seval,eK,hlt,ho]) ?_;rintro val i1 ⟨r,rfl,gj,nv,U0⟩;simp only[go_sem,seval,hlt,fN,aW,aA (aC bO _),aA (aC aU _)];exact⟨⟨i1,rfl⟩,{ cV 6 with lines:=r },by simp[aE,cV,aF,gO],rfl,{ oJ p9 with vz:=by show r.length<=16;omega,lines:=fun s hs=>by have:=U0 s hs;show s.length<=1000;omega },by simp[cV];omega,fun hh=>Zw (show (6:Int)=4 from hh) (by decide),fun hh=>Zw (show (6:Int)=3 from hh) (by decide),fun hh=>Zw (show (6:Int)=5 from hh) (by decide),fun _=>gj,aBs (by simp[cV]) (by simp[cV]) rfl,aNs rfl rfl rfl⟩
abbrev uV(g:SN):List ae:=[qq 20 (.bsl 1 [z0] 2 [(0,(.const (vi 3))),(1,(.const (vi 4)))]),qm 21 0,⟨Qr 22,oc (g "a") [u 21,ui 2],Qs,[1]⟩,⟨Qr 23,oi 20 22 1,Qs,[0,2,1]⟩,⟨Qr 24,ol 1 23,Qs,[3,0,2,1]⟩,qm 25 2,qm 26 8,qm 27 8,⟨Qr 28,obi .add 27 1,Qs,[7]⟩,qm 29 0,qm 30 7,⟨Qr 31,obi .sub 30 1,Qs,[10]⟩,⟨Qr 32,oc (g "a") [u 29,u 31],Qs,[9,11,10,2,1]⟩,⟨Qr 33,ob .add 28 32,Qs,[8,7,12,9,11,10,2,1]⟩,qm 34 7,⟨Qr 35,ob .rem 33 34,Qs,[13,8,7,12,9,11,10,2,1,14]⟩,⟨Qr 36,.build [z0,z0,z0,z0] [(0,1,(.tmp 24)),(1,1,(.tmp 25)),(2,1,(.tmp 26)),(3,1,(.tmp 35))],Qs,[4,3,0,5,6,15,13,8,7,12,9,11,10,2,1,14]⟩,qq 9 (.alloc [z0,z0,z0,z0]),⟨Qs,os 4 9 36,Qs,[16,4,3,0,5,6,15,13,8,7,12,9,11,10,2,1,14,17]⟩]
abbrev mB:LN:=[2,4,12,17]
abbrev uW(g:SN):List ae:=[qm 56 2,qm 57 0,qf 58 7 4,⟨Qr 59,of 0 58,Qs,[2]⟩,⟨Qr 60,ol 1 59,Qs,[3,2]⟩,⟨Qr 61,on 60,Qs,[4,3,2]⟩,⟨Qr 62,oc (g "a") [u 57,u 61],Qs,[1,5,4,3,2]⟩,qm 63 0,qf 64 7 4,⟨Qr 65,of 0 64,Qs,[8]⟩,⟨Qr 66,ol 1 65,Qs,[9,8]⟩,⟨Qr 67,.iaV (u 66) (ui 0) 1,Qs,[10,9,8]⟩,⟨Qr 68,ol 1 67,Qs,[11,10,9,8]⟩,⟨Qr 69,on 68,Qs,[12,11,10,9,8]⟩,⟨Qr 70,oc (g "a") [u 63,u 69],Qs,[7,13,12,11,10,9,8,6,1,5,4,3,2]⟩,⟨Qr 71,.build [z0,z0,z0,z0] [(0,1,(.const (vi 1))),(1,1,(.tmp 56)),(2,1,(.tmp 62)),(3,1,(.tmp 70))],Qs,[0,14,7,13,12,11,10,9,8,6,1,5,4,3,2]⟩,⟨Qs,os 4 6 71,Qs,[15,0,14,7,13,12,11,10,9,8,6,1,5,4,3,2]⟩]
abbrev mC:LN:=[6,10,12]
abbrev uX(g:SN):List ae:=[qm 80 2,qm 81 0,qf 82 11 4,⟨Qr 83,of 0 82,Qs,[2]⟩,⟨Qr 84,ol 1 83,Qs,[3,2]⟩,⟨Qr 85,.iaV (u 84) (ui 0) 1,Qs,[4,3,2]⟩,⟨Qr 86,ol 1 85,Qs,[5,4,3,2]⟩,⟨Qr 87,on 86,Qs,[6,5,4,3,2]⟩,⟨Qr 88,oc (g "a") [u 81,u 87],Qs,[1,7,6,5,4,3,2]⟩,qm 89 0,qf 90 11 4,⟨Qr 91,of 0 90,Qs,[10]⟩,⟨Qr 92,ol 1 91,Qs,[11,10]⟩,⟨Qr 93,on 92,Qs,[12,11,10]⟩,⟨Qr 94,oc (g "a") [u 89,u 93],Qs,[9,13,12,11,10,8,1,7,6,5,4,3,2]⟩,⟨Qr 95,.build [z0,z0,z0,z0] [(0,1,(.const (vi 5))),(1,1,(.tmp 80)),(2,1,(.tmp 88)),(3,1,(.tmp 94))],Qs,[0,14,9,13,12,11,10,8,1,7,6,5,4,3,2]⟩,⟨Qs,os 4 6 95,Qs,[15,0,14,9,13,12,11,10,8,1,7,6,5,4,3,2]⟩]
abbrev mD:LN:=[8,12]
def gF(g:SN):bw:=⟨113,[4,6,9],[.cell 6 4 Qt],qS [qx 4 13 1,qq 6 (.alloc [z0,z0,z0,z0])]<|.seq (qS [qf 10 0 4,ql 11 1 10,qbi 12 .eql 11 4]<|qC 12 (qS [qf 13 8 4,qf 14 2 13,ql 15 1 14,qn 16 15,qm 7 16]<|qS [qm 17 0,qm 18 7,qc 19 (g "a") [u 17,u 18],qm 8 19]<|.seq (.region Qt (uV g))<|.seq (qS [qm 37 0,qc 38 (g "a") [u 37,ui 3],qbi 39 .eql 38 0,qm 40 39,qT 41 40 (om 8),qT 42 40 (obi .gtr 41 0),qp 43 40 42]<|qC 43 (qS [qm 44 2,qm 45 8,qq 46 (.build [z0,z0,z0,z0] [(0,1,(.const (vi 2))),(1,1,(.tmp 44)),(2,1,(.tmp 45))]),qs 4 6 46]<|.ret) (.skip))<|qS [qla 47 4 9,qs 4 6 47]<|.ret) (.skip))<|.seq (qS [qf 48 0 4,ql 49 1 48,qbi 50 .eql 49 3,qm 51 50,qT 52 51 (om 0),qT 53 51 (oc (g "a") [u 52,ui 3]),qT 54 51 (obi .gtr 53 0),qp 55 51 54]<|qC 55 (.seq (.region Qt (uW g))<|.ret) (.skip))<|.seq (qS [qf 72 0 4,ql 73 1 72,qbi 74 .eql 73 5,qm 75 74,qT 76 75 (om 0),qT 77 75 (oc (g "a") [u 76,ui 3]),qT 78 75 (obi .gtr 77 0),qp 79 75 78]<|qC 79 (.seq (.region Qt (uX g))<|.ret) (.skip))<|.seq (qS [qf 96 0 4,ql 97 1 96,qbi 98 .eql 97 6,qm 99 98,qT 100 99 (om 0),qT 101 99 (oc (g "a") [u 100,ui 3]),qT 102 99 (obi .gtr 101 0),qp 103 99 102]<|qC 103 (qS [qm 104 2,qm 105 0,qf 106 12 4,ql 107 1 106,qn 108 107,qc 109 (g "a") [u 105,u 108],qq 110 (.build [z0,z0,z0,z0] [(0,1,(.const (vi 6))),(1,1,(.tmp 104)),(2,1,(.tmp 109))]),qs 4 6 110]<|.ret) (.skip))<|qS [qm 111 2,qq 112 (.build [z0,z0,z0,z0] [(0,1,(.const z0)),(1,1,(.tmp 111))]),qs 4 6 112]<|.ret⟩
abbrev aLj(v:AV):Prop:=∃f:Fact,v=.agg (aI f)/\f.Ok
abbrev aBt(A:af)(f:Nat)(args:LA)(P:AV->Prop):Prop:=∀(l:List Int) (i:Int) (o v:Nat) (H:LO),jP l->H[o]? = Qr (.box v (aM l i)) ->
 ∃val i' wr,aG A f (.ptr o v 0::args) H=Qr (val,H.set o (.box v (aM l i')),wr)/\(wr=[]∨wr=[o])/\P val
theorem Has.Hf{A:af}{g:SN}{name:String}{fn:bw}(h:Has A g name fn){args:LA}{P:AV->Prop}(hN:args.length+1<=fn.ntmps)(hok:∀n,dK fn.ntmps ⟨n,fn.sites⟩ fn.body=Qt) (hw:∀(l:List Int) (i:Int) (o v:Nat) (H:LO),jP l->o<H.length->H[o]? = Qr (.box v (aM l i)) ->wc A fn.ntmps ⟨H.length,fn.sites⟩ fn.body (pO (.ptr o v 0::args)) (H++List.replicate fn.sites.length (.gone 0)) [] (aRz H.length fn.results (fun val H' wr=>(∃i',H'=H.set o (.box v (aM l i')))/\(wr=[]∨wr=[o])/\P val) ⟨⟩) ⟨⟩):aBt A (g name) args P:=by intro l i o v H hl ho;obtain⟨val,H',wr,h1,⟨i',rfl⟩,gn,h2⟩:=h.bp (args:=.ptr o v 0::args) (hw l i o v H hl (getElem?_lt ho) ho) (Nat.ble_eq_true_of_le (by simpa using hN)) (hok _);exact⟨val,i',wr,h1,gn,h2⟩
theorem aSz{A:af}{g:SN}(h:Has A g "H" (gF g))(ht:fR A g){b:Block}(hb:kf b){at':Int}(Bt:0<=at')(M1:at'<=1000):aBt A (g "H") [.agg (aE b),vi at'] aLj:=by
 refine h.Hf (by simp[gF]) (fun n=>by kernel_rfl) ?_;intro l i o v H hl hlt ho;obtain⟨qe,iq,yz,yv⟩:=hb.lens;have fin:∀k x y:Int,0<=k->k<=1000->0<=x->x<=1000->0<=y->y<=1000->aLj (.agg [vi k,vi at',vi x,vi y]):=fun k x y h1 h2 h3 h4 h5 h6=>⟨⟨k,at',x,y⟩,rfl,⟨cC h1 (by show k<=1000000;omega),cC Bt (by show at'<=1000000;omega),cC h3 (by show x<=1000000;omega),cC h5 (by show y<=1000000;omega)⟩⟩;simp only[gF];cases nz:b.expr with | mk op n kids=>
 by_cases k6:b.kind=6
 ·have hn:=hb.mq k6;simp only[go_sem,seval,aE,nz,aF,bD,k6];refine bB (bA ht (m:=3) (by decide)) hl (i:=i) (by simp only[go_sem,seval,eK,hlt,ho]) ?_;rintro val i1 ⟨x,rfl,jr,lz⟩;simp only[go_sem,seval,hlt,fN];refine aD (fun fo=>?_) (fun fo=>?_)
  ·simp only[go_sem,seval,hlt];refine bB (bA ht (m:=b.lines.length) (by omega)) hl (i:=i1) (by simp only[go_sem,seval,aP,hlt]) ?_;rintro val i2 ⟨y,rfl,oj,tc⟩;simp only[go_sem,seval,hlt,aR,aW,aA (aC aU _)];exact⟨⟨i2,rfl⟩,.inr trivial,fin 6 y 0 (by decide) (by decide) oj (by omega) (by decide) (by decide)⟩
  simp only[go_sem,seval,hlt,aW,aA (aC aU _)];exact⟨⟨i1,rfl⟩,.inr trivial,fin 0 0 0 (by decide) (by decide) (by decide) (by decide) (by decide) (by decide)⟩
 by_cases k5:b.kind=5
 ·have hn:=hb.L7 k5;cases tz:b.bo with
  |nil=>rw[tz]at hn;simp at hn
  |cons h0 hr=>
  have ft:=hn.2 h0 (by rw[tz];simp);rw[tz]at yz;simp only[AW]at yz;simp only[go_sem,seval,aE,nz,aF,bD,k5,tz];refine bB (bA ht (m:=3) (by decide)) hl (i:=i) (by simp only[go_sem,seval,eK,hlt,ho]) ?_;rintro val i1 ⟨x,rfl,jr,lz⟩;simp only[go_sem,seval,hlt,fN];refine aD (fun fo=>?_) (fun fo=>?_)
  ·simp only[go_sem,seval];refine aY (aq:=mD) (by rfl) (by rfl) ?_;simp only[go_sem,seval,mD,hlt,bS];refine eB (bA ht (m:=h0.length) (by have:=ft.1;omega)) hl (i:=i1) (by simp only[go_sem,seval,aP,hlt]) ?_;rintro val i2 ⟨y,rfl,oj,tc⟩;simp only[go_sem,seval,hlt,aR];refine eB (bA ht (m:=((hr.length+1:Nat):Int)) (by omega)) hl (i:=i2) (by simp only[go_sem,seval,aP,hlt]) ?_;rintro val i3 ⟨z,rfl,me,rr⟩;have bl:(H.length==o)=false:=by simp;omega
   simp only[go_sem,seval,hlt,aR,aW,aA (aC aU _),eH,dG,bl,aL];have:=ft.2.1;exact⟨⟨i3,rfl⟩,.inr trivial,fin 5 y z (by decide) (by decide) oj (by omega) me (by omega)⟩
  simp only[go_sem,seval,hlt,aW,aA (aC aU _)];exact⟨⟨i1,rfl⟩,.inr trivial,fin 0 0 0 (by decide) (by decide) (by decide) (by decide) (by decide) (by decide)⟩
 by_cases k3:b.kind=3
 ·have hn:=hb.cd k3;cases tz:b.cd with
  |nil=>rw[tz]at hn;simp at hn
  |cons h0 hr=>
  have ft:=hn.2 h0 (by rw[tz];simp);rw[tz]at iq;simp only[AW]at iq;simp only[go_sem,seval,aE,nz,aF,bD,k3,tz];refine bB (bA ht (m:=3) (by decide)) hl (i:=i) (by simp only[go_sem,seval,eK,hlt,ho]) ?_;rintro val i1 ⟨x,rfl,jr,lz⟩;simp only[go_sem,seval,hlt,fN];refine aD (fun fo=>?_) (fun fo=>?_)
  ·simp only[go_sem,seval];refine aY (aq:=mC) (by rfl) (by rfl) ?_;simp only[go_sem,seval,mC,hlt,bY];refine eB (bA ht (m:=((hr.length+1:Nat):Int)) (by omega)) hl (i:=i1) (by simp only[go_sem,seval,aP,hlt]) ?_;rintro val i2 ⟨y,rfl,oj,tc⟩;simp only[go_sem,seval,hlt,aR];refine eB (bA ht (m:=h0.length) (by have:=ft.1;omega)) hl (i:=i2) (by simp only[go_sem,seval,aP,hlt]) ?_;rintro val i3 ⟨z,rfl,me,rr⟩;have bl:(H.length==o)=false:=by simp;omega
   simp only[go_sem,seval,hlt,aR,aW,aA (aC aU _),eH,dG,bl,aL];have:=ft.2.1;exact⟨⟨i3,rfl⟩,.inr trivial,fin 1 y z (by decide) (by decide) oj (by omega) me (by omega)⟩
  simp only[go_sem,seval,hlt,aW,aA (aC aU _)];exact⟨⟨i1,rfl⟩,.inr trivial,fin 0 0 0 (by decide) (by decide) (by decide) (by decide) (by decide) (by decide)⟩
 by_cases k4:b.kind=4
 ·have hn:=hb.ye k4;have od:AR.wrap ((b.aw.length:Int) - 1)=(b.aw.length:Int) - 1:=wrap_i64 (by omega) (by omega);simp only[go_sem,seval,aE,nz,aF,bD,k4];refine bB (bA ht (m:=b.aw.length) (by omega)) hl (i:=i) (by simp only[go_sem,seval,eK,hlt,ho]) ?_;rintro val i1 ⟨x,rfl,jr,lz⟩;simp only[go_sem,seval,hlt,fN];refine aY (aq:=mB) (H0:=_) (by simp only[go_sem,seval,cS];rfl) (by rfl) ?_;simp only[go_sem,seval,mB];refine eB (bA ht (m:=2) (by decide)) hl (i:=i1) (by simp only[go_sem,seval,aP,hlt]) ?_;rintro val i2 ⟨y,rfl,oj,tc⟩;obtain⟨kd,Cz,cx⟩:=aQk [3,4] oj tc;simp only[DR,bF]at cx;have Ng:0<=kd/\kd<=4:=by
   simp only[BD,CC,or_false]at Cz;omega
  have wk:AR.wrap (x+1)=x+1:=wrap_i64 (by omega) (by omega);have bl:(H.length==o)=false:=by simp;omega
  have ya:(H.length+2==o)=false:=by simp;omega
  simp only[go_sem,seval,hlt,aR,oj,cx,wk,od];refine eB (bA ht (m:=(b.aw.length:Int) - 1) (by omega)) hl (i:=i2) (by simp only[go_sem,seval,aP,hlt]) ?_;rintro val i3 ⟨z,rfl,me,rr⟩;have Nh:AR.wrap (x+1+z)=x+1+z:=wrap_i64 (by omega) (by omega);have Ni:(b.aw.length:Int)≠0:=by omega
  have Cx:=HV (b.aw.length:Int) (a:=x+1+z) (by omega);have gj:=GX (x+1+z) (b:=(b.aw.length:Int)) (by omega);simp only[go_sem,seval,hlt,aR,Nh,tS Ni,eH,dG,ya,aL];refine bB (bA ht (m:=3) (by decide)) hl (i:=i3) (by simp only[go_sem,seval,aP,hlt]) ?_;rintro val i4 ⟨w,rfl,od,dy⟩;have last:=fin kd x ((x+1+z).tmod b.aw.length) Ng.1 (by omega) jr (by omega) Cx (by omega);simp only[go_sem,seval,hlt,aR];refine aD (fun fo=>?_) (fun fo=>?_)
  ·have dp:(w==0)=true:=by simpa using fo
   simp only[go_sem,seval,dp];refine aD (fun D3=>?_) (fun D3=>?_)
   ·simp only[go_sem,seval,hlt,aW,aA (aC aU _)];exact⟨⟨i4,rfl⟩,.inr trivial,fin 2 x 0 (by decide) (by decide) jr (by omega) (by decide) (by decide)⟩
   simp only[go_sem,seval,hlt,aW,aA (aC aU _)];exact⟨⟨i4,rfl⟩,.inr trivial,last⟩
  have dp:(w==0)=false:=by
   cases hq:(w==0)with
   |false=>rfl
   |true=>rw[hq]at fo;cases fo
  simp only[go_sem,seval,dp,hlt,aW,aA (aC aU _)];exact⟨⟨i4,rfl⟩,.inr trivial,last⟩
 simp only[go_sem,seval,aE,nz,aF,bD,aF9 k3,aF9 k4,aF9 k5,aF9 k6];exact⟨⟨i,(aJo ho).symm⟩,.inl trivial,fin 0 0 0 (by decide) (by decide) (by decide) (by decide) (by decide) (by decide)⟩
end Go.AM
end
section

end
section
namespace Go.AM
open Go
theorem pS{α:Type}{P:α->Prop}{l:List α}{a:α}(h:∀x∈l,P x)(ha:P a):∀x∈l++[a],P x:=by
 intro x hx;rcases AY.1 hx with hx | hx
 ·exact h x hx
 have:x=a:=by simpa using hx
 subst this;exact ha
structure uz(q:Question):Prop where
 opts:q.options.length<=15
 cy:q.cy.length<=15
 lk:∀r∈q.lk,r.text.length<=60
structure va(b:Block):Prop where
 runs:b.runs.length<=15
 kids:∀op n ks,b.expr=.mk op n ks->ks.length<=15
 size:gY b.expr<=999
 eg:b.eg.length<=15
 cd:b.cd.length<=15
 bo:b.bo.length<=15
 lines:b.lines.length<=15
 fit:Fit b
theorem kf.U1{b:Block}(h:kf b):va b:=by obtain⟨h1,h2,h3,h4⟩:=h.Bw;obtain⟨k1,k2,k3,k4⟩:=h.lens;exact⟨by omega,fun op n ks e=>by have:=h4 op n ks e;omega,by omega,by omega,by omega,by omega,by omega,h.fit⟩
abbrev rV(g:SN):ag:=.seq (qS [qm 63 12,qm 64 11,qb 65 .lss 63 64]<|qC 65 (.skip) (.exit 4))<|.seq (.block 5 (qS [qm 68 3,qla 69 13 10,qm 70 9,qc 71 (g "H") [u 68,u 69,u 70],qq 13 (.alloc [z0,z0,z0,z0]),qs 4 13 71]<|qS [qf 72 2 7,ql 73 1 72,qla 74 4 13,qc 75 (g "v") [u 73,u 74],qq 76 (.un .not (u 75))]<|qC 76 (qR [qf 77 2 7,ql 78 1 77,qla 79 4 13,qq 80 (.bsl 4 [z0,z0,z0,z0] 1 [(0,(.tmp 79))]),qa 81 4 32 78 80,qf 82 2 7,qs 1 82 81]) (.skip)))<|.region Qu [qm 66 12,qbi 67 .add 66 1,qm 12 67]
abbrev aCI:LN:=[63,64,65,68,69,70,71,13,72,73,74,75,76,77,78,79,80,81,82,66,67,12]
abbrev rW(g:SN):ag:=.seq (qS [qm 45 9,qm 46 8,qb 47 .lss 45 46]<|qC 47 (.skip) (.exit 2))<|.seq (.block 3 (qS [qm 50 3,qm 51 3,qc 52 (g "a") [u 51,ui 7],qc 53 (g "Q") [u 50,u 52],qq 10 (.alloc [z0,(.sl Qt []),z0,z0,(.sl Qt []),z0,(.sl Qt []),(.sl Qt []),z0,z0,(.sl Qt []),(.sl Qt []),(.sl Qt [])]),qs 13 10 53]<|qS [qf 54 1 7,ql 55 1 54,qla 56 13 10,qq 57 (.bsl 13 [z0,(.sl Qu []),z0,z0,(.sl Qu []),z0,(.sl Qu []),(.sl Qu []),z0,z0,(.sl Qu []),(.sl Qu []),(.sl Qu [])] 1 [(0,(.tmp 56))]),qa 58 13 216 55 57,qf 59 1 7,qs 1 59 58]<|qS [qm 60 3,qc 61 (g "a") [u 60,ui 2],qq 62 (.bin .add .no (ui 1) (u 61)),qm 11 62]<|qS [qmc 12 z0]<|.block 4 (.loop (rV g))))<|.region Qu [qm 48 9,qbi 49 .add 48 1,qm 9 49]
abbrev aCJ:LN:=[45,46,47,50,51,52,53,10,54,55,56,57,58,59,60,61,62,11,12,63,64,65,68,69,70,71,13,72,73,74,75,76,77,78,79,80,81,82,66,67,12,48,49,9]
abbrev aCK(g:SN):List ae:=[qf 90 3 7,⟨Qr 91,ol 1 90,Qs,[0]⟩,qm 92 3,qf 93 2 7,⟨Qr 94,ol 1 93,Qs,[3]⟩,⟨Qr 95,on 94,Qs,[4,3]⟩,⟨Qr 96,oc (g "R") [u 92,u 95],Qs,[2,5,4,3]⟩,⟨Qr 97,.bsl 7 [z0,(.sl Qu []),(.sl Qu []),(.sl Qu []),(.str []),z0,(.sl Qu [])] 1 [(0,(.tmp 96))],Qs,[6,2,5,4,3]⟩,⟨Qr 98,oa 7 128 91 97,Qs,[1,0,7,6,2,5,4,3]⟩,⟨Qr 99,of 3 7,Qs,[8,1,0,7,6,2,5,4,3]⟩,⟨Qs,os 1 99 98,Qs,[9,8,1,0,7,6,2,5,4,3]⟩]
abbrev rX:LN:=[1,6]
abbrev rY(g:SN):ag:=.seq (qS [qm 85 15,qm 86 14,qb 87 .lss 85 86]<|qC 87 (.skip) (.exit 6))<|.seq (.block 7 (.region Qt (aCK g)))<|.region Qu [qm 88 15,qbi 89 .add 88 1,qm 15 89]
abbrev aCL:LN:=[85,86,87,90,91,92,93,94,95,96,97,98,99,88,89,15]
abbrev rZ(g:SN):ag:=.seq (qS [qm 32 6,qm 33 5,qb 34 .lss 32 33]<|qC 34 (.skip) (.exit 0))<|.seq (.block 1 (qS [qq 37 (.bsl 1 [(.str [])] 3 [(0,(.const (.str [102,105,114,115,116]))),(1,(.const (.str [113,50]))),(2,(.const (.str [108,97,115,116])))]),qm 38 6,qi 39 37 38 1,ql 40 1 39,qq 41 (.build [(.str []),(.sl Qt []),(.sl Qt []),(.sl Qt [])] [(0,1,(.tmp 40))]),qq 7 (.alloc [(.str []),(.sl Qt []),(.sl Qt []),(.sl Qt [])]),qs 4 7 41]<|qS [qm 42 3,qc 43 (g "a") [u 42,ui 3],qq 44 (.bin .add .no (ui 1) (u 43)),qm 8 44]<|.seq (qS [qmc 9 z0]<|.block 2 (.loop (rW g)))<|qS [qm 83 3,qc 84 (g "a") [u 83,ui 3],qm 14 84]<|.seq (qS [qmc 15 z0]<|.block 6 (.loop (rY g)))<|.region Qu [qf 100 1 4,ql 101 1 100,qla 102 4 7,qq 103 (.bsl 4 [(.str []),(.sl Qu []),(.sl Qu []),(.sl Qu [])] 1 [(0,(.tmp 102))]),qa 104 4 88 101 103,qf 105 1 4,qs 1 105 104]))<|.region Qu [qm 35 6,qbi 36 .add 35 1,qm 6 36]
abbrev aCM:LN:=[32,33,34,37,38,39,40,41,7,42,43,44,8,9,45,46,47,50,51,52,53,10,54,55,56,57,58,59,60,61,62,11,12,63,64,65,68,69,70,71,13,72,73,74,75,76,77,78,79,80,81,82,66,67,12,48,49,9,83,84,14,15,85,86,87,90,91,92,93,94,95,96,97,98,99,88,89,15,100,101,102,103,104,105,35,36,6]
def pM(g:SN):bw:=⟨107,[2,22,4,7,10,58,13,81,98,104],[.cell 2 2 Qt],qS [qq 2 (.alloc [(.str []),(.sl Qt [])])]<|qS [qm 16 0,qm 17 0,qn 18 17,qq 19 (.mm Qu [(.tmp 18),(.const (vi 400))]),qq 20 (.gw 1 (u 16) Qs (Qr (.tmp 19)) Qs),qq 21 (.build [(.sl Qt []),z0] [(0,1,(.tmp 20))]),qx 22 2 21,qm 3 22]<|qS [qq 23 (.bsl 1 [(.str [])] 3 [(0,(.const (.str [84,101,115,116]))),(1,(.const (.str [89,101,97,114,32,55,44,32,112,97,114,116,32,50]))),(2,(.const (.str [65])))]),qm 24 3,qc 25 (g "a") [u 24,ui 3],qi 26 23 25 1,ql 27 1 26,qq 28 (.build [(.str []),(.sl Qt [])] [(0,1,(.tmp 27))]),qq 4 (.alloc [(.str []),(.sl Qt [])]),qs 2 4 28]<|qS [qm 29 3,qc 30 (g "a") [u 29,ui 3],qq 31 (.bin .add .no (ui 1) (u 30)),qm 5 31]<|.seq (qS [qmc 6 z0]<|.block 0 (.loop (rZ g)))<|qS [qla 106 2 4,qs 2 2 106]<|.ret⟩
structure C6(x:Item):Prop where
 blocks:x.blocks.length<=3
 facts:x.facts.length<=6
 ask:x.ask.length<=2
 block:∀b∈x.blocks,va b
 jd:∀q∈x.ask,uz q
 bne:1<=x.blocks.length
structure vb(x:jm):Prop where
 title:x.title.length<=100
 items:x.items.length<=3
 item:∀i∈x.items,C6 i
 ine:1<=x.items.length
abbrev aYl(v:AV):Prop:=∃x:jm,v=dE x/\x.Ok/\vb x
theorem jt.U2{q:Question}(h:jt q):uz q:=by obtain⟨h1,h2,h3,h4⟩:=h.lens;exact⟨by omega,by omega,h.lk⟩
theorem aQz{A:af}{f:Nat}{args:LA}{P:AV->Prop}(hs:aBt A f args P){l:List Int}{i:Int}{o v:Nat}{H H2:LO}(hl:jP l)(ho:H[o]? = Qr (.box v (aM l i))){site:Option Nat}{q:Bool} {k:AV×LO×LN->Prop} {tg} (hk:∀val i' wr,(wr=[]∨wr=[o])->P val->bnd (dY site q H2 (Qr (val,H.set o (.box v (aM l i')),wr))) k):aCi (dY site q H2 (aG A f (.ptr o v 0::args) H)) k tg:=by obtain⟨val,i',wr,h1,h2,h3⟩:=hs l i o v H hl ho;rw[h1];exact hk val i' wr h2 h3
theorem aEB(b:Block):FW 13 (aE b)=aE b:=CH (by rw[cF];exact AQ _)
theorem aNt(f:Fact):(aI f).length=4:=rfl
theorem aLm(f:Fact):FW 4 (aI f)=aI f:=CH (AQ _)
theorem aQA{A:af}{g:SN}(hh:∀(l:List Fact),l.length<=1000->∀f:Fact,∃b:Bool,∀H,aG A (g "v") [.sl Qu (l.map aI),.agg (aI f)] H=Qr (.bool b,H,[])) {id:Nat} {rows:List LA} {fs:List Fact} (hr:rows=fs.map aI) (Nj:fs.length<=1000) {w:AV} {o:ah} (hg:ew id 4 rows w o) (f:Fact):∃b:Bool,∀H site,H[id]? = Qr o ->cX (aG A) H site (.fn (g "v") [] []) [w,.agg (aI f)]=Qr (.bool b,H,[]):=by
 obtain⟨b,hb⟩:=hh fs Nj f;refine⟨b,fun H site ho=>?_⟩;cases hg with
 |nil=>have dp:=hb H;rw[<- hr]at dp;simp only[go_sem,seval,aS (eL _),aK (eL _),dp]
 |obj ver=>
  have bd:(rows.all fun r=>r.all AV.still)=true:=by rw[hr];exact aT (aC eL _)
  rw[<- hr]at hb;simp only[go_sem,seval,aS (eL _),aK (eL _),ho,bd,hb]
abbrev aNu:LN:=[2,22,4,7,10,58,13,81,98,104]
theorem aVy{A:af}{g:SN}(hf:∀{b:Block},kf b->∀{a:Int},0<=a->a<=1000->aBt A (g "H") [.agg (aE b),vi a] aLj) (hh:∀(l:List Fact),l.length<=1000->∀f:Fact,∃b:Bool,∀H,aG A (g "v") [.sl Qu (l.map aI),.agg (aI f)] H=Qr (.bool b,H,[])) {H:LO} {Q:bf->bN->LO->LN->Prop} {tg} {l:List Int} (hl:jP l) {i:Int} {o0 o2 o5 o6 o7 o8 o9:ah} {v7 v10:Nat} {c0 c1 c2 c3:AV} {b:Block} (hb:kf b) {k:Nat} (hk:k<=10) {n:Int} (gq:0<=n) (hn:n<=2) {fs:List Fact} (I9:fs.length<=10) (k9:∀f∈fs,f.Ok) (hg:ew (H.length+7) 4 (fs.map aI) c2 o7) {ρ:bN} (e3:ρ 3=.ptr (H.length+1) 1 0) (e7:ρ 7=.ptr (H.length+3) v7 0) (e9:ρ 9=vi k) (e10:ρ 10=.ptr (H.length+4) v10 0) (e11:ρ 11=vi n) (e12:ρ 12=vi 0) (hQ:∀ρ' i' o6 o7 c2 (fs':List Fact),(∀t,aCI.contains t=Qu->ρ' t=ρ t)->fs'.length<=fs.length+2->(∀f∈fs',f.Ok)->ew (H.length+7) 4 (fs'.map aI) c2 o7 ->Q (.exit 4) ρ' (H++[o0,.box 1 (aM l i'),o2,.box v7 [c0,c1,c2,c3],.box v10 (aE b),o5,o6,o7,o8,o9]) []):wl A 107 ⟨H.length,aNu⟩ (rV g) ρ (H++[o0,.box 1 (aM l i),o2,.box v7 [c0,c1,c2,c3],.box v10 (aE b),o5,o6,o7,o8,o9]) [] Q tg:=by
 refine bJ (fun j ρ1 H1 wr=>wr=[]/\ρ1 12=vi j/\∃i' o6 o7 c2,∃fs':List Fact,H1=H++[o0,.box 1 (aM l i'),o2,.box v7 [c0,c1,c2,c3],.box v10 (aE b),o5,o6,o7,o8,o9]/\ew (H.length+7) 4 (fs'.map aI) c2 o7/\fs'.length<=fs.length+j/\∀f∈fs',f.Ok) n.toNat
  (fun ρ1 H1 wr=>wr=[]/\∃i' o6 o7 c2,∃fs':List Fact,H1=H++[o0,.box 1 (aM l i'),o2,.box v7 [c0,c1,c2,c3],.box v10 (aE b),o5,o6,o7,o8,o9]/\ew (H.length+7) 4 (fs'.map aI) c2 o7/\fs'.length<=fs.length+2/\∀f∈fs',f.Ok)
  (by kernel_rfl) rfl ⟨rfl,e12,i,o6,o7,c2,fs,rfl,hg,AQ _,k9⟩ ?_ (by
   rintro ρ' H' ba ⟨rfl,i',o6,o7,c2,fs',rfl,hg,h1,h2⟩ hf;exact hQ ρ' i' o6 o7 c2 fs' hf h1 h2 hg)
 rintro j ρ1 H1 dc mo ⟨rfl,e12,i',o6,o7,c2,fs',rfl,hg,gu,il⟩ my;have f3:ρ1 3=.ptr (H.length+1) 1 0:=(my 3 rfl).trans e3;have f7:ρ1 7=.ptr (H.length+3) v7 0:=(my 7 rfl).trans e7;have f9:ρ1 9=vi k:=(my 9 rfl).trans e9;have f10:ρ1 10=.ptr (H.length+4) v10 0:=(my 10 rfl).trans e10;have f11:ρ1 11=vi n:=(my 11 rfl).trans e11;simp only[go_sem,↓aB,seval,f11,e12];refine aD (fun fo=>?_) (fun fo=>?_)
 ·have cr:j<n.toNat:=by simp at fo;omega
  simp only[go_sem,↓aB,seval,f3,f9,f10,cF,aEB,aS (bG _),aK (bG _)];refine aQz (hf hb (a:=(k:Int)) (by omega) (by omega)) hl (i:=i') (by simp only[go_sem,seval]) ?_;rintro val i3 dc ma ⟨f,rfl,Hh⟩;have hw:bE H.length [] dc=[]:=by rcases ma with rfl | rfl<;>simp only[go_sem,seval]
  obtain⟨bb,az⟩:=aQA hh rfl (by omega) hg f;simp only[go_sem,↓aB,seval,az,hw,f7,aNt,aLm,bQ (eL _)];refine aD (fun dp=>?_) (fun dp=>?_)
  ·obtain⟨v',o',eu,db⟩:=hg.app (new:=[aI f]) (bytes:=32) (by simp) (by rfl) (by simp only[AF,AW,AZ];omega);rw[show fs'.map aI++[aI f]=(fs'++[f]).map aI by simp]at eu;simp only[go_sem,↓aB,seval,f7,e12,aNt,aLm,aS (eL _),aK (eL _),bR (eL _),db,eu.ak,eu.aj];rw[dW (by omega)];exact⟨cr,rfl,i3,_,o',v',fs'++[f],rfl,eu,by simp;omega,pS il Hh⟩
  simp only[go_sem,↓aB,seval,e12];rw[dW (by omega)];exact⟨cr,rfl,i3,_,o7,c2,fs',rfl,hg,by omega,il⟩
 have cr:j=n.toNat:=by simp at fo;omega
 subst cr;simp only[go_sem,seval];exact⟨i',o6,o7,c2,fs',rfl,hg,by omega,il⟩
theorem aSA{A:af}{g:SN}(ht:fR A g)(dx:∀{k:Int},0<=k->k<7->dI A (g "Q") [vi k] (aMn k)) (hf:∀{b:Block},kf b->∀{a:Int},0<=a->a<=1000->aBt A (g "H") [.agg (aE b),vi a] aLj) (hh:∀(l:List Fact),l.length<=1000->∀f:Fact,∃b:Bool,∀H,aG A (g "v") [.sl Qu (l.map aI),.agg (aI f)] H=Qr (.bool b,H,[])) {H:LO} {Q:bf->bN->LO->LN->Prop} {tg} {l:List Int} (hl:jP l) {i:Int} {o0 o2 o4 o5 o6 o7 o8 o9:ah} {v7:Nat} {c0 c3:AV} {n:Int} (gq:1<=n) (hn:n<=3) {ρ:bN} (e3:ρ 3=.ptr (H.length+1) 1 0) (e7:ρ 7=.ptr (H.length+3) v7 0) (e8:ρ 8=vi n) (e9:ρ 9=vi 0) (hQ:∀ρ' i' o4 o5 o6 o7 c1 c2 (bs:List Block) (fs:List Fact),(∀t,aCJ.contains t=Qu->ρ' t=ρ t)->1<=bs.length/\bs.length<=3->(∀b∈bs,kf b)->fs.length<=6->(∀f∈fs,f.Ok) ->ew (H.length+5) 13 (bs.map aE) c1 o5->ew (H.length+7) 4 (fs.map aI) c2 o7 ->Q (.exit 2) ρ' (H++[o0,.box 1 (aM l i'),o2,.box v7 [c0,c1,c2,c3],o4,o5,o6,o7,o8,o9]) []):wl A 107 ⟨H.length,aNu⟩ (rW g) ρ (H++[o0,.box 1 (aM l i),o2,.box v7 [c0,.sl Qt [],.sl Qt [],c3],o4,o5,o6,o7,o8,o9]) [] Q tg:=by
 refine bJ (fun j ρ1 H1 wr=>wr=[]/\ρ1 9=vi j/\∃i' o4 o5 o6 o7 c1 c2,∃bs:List Block,∃fs:List Fact,H1=H++[o0,.box 1 (aM l i'),o2,.box v7 [c0,c1,c2,c3],o4,o5,o6,o7,o8,o9] /\
   ew (H.length+5) 13 (bs.map aE) c1 o5/\ew (H.length+7) 4 (fs.map aI) c2 o7/\bs.length=j/\(∀b∈bs,kf b)/\fs.length<=2*j/\∀f∈fs,f.Ok) n.toNat
  (fun ρ1 H1 wr=>wr=[]/\∃i' o4 o5 o6 o7 c1 c2,∃bs:List Block,∃fs:List Fact,H1=H++[o0,.box 1 (aM l i'),o2,.box v7 [c0,c1,c2,c3],o4,o5,o6,o7,o8,o9] /\
   ew (H.length+5) 13 (bs.map aE) c1 o5/\ew (H.length+7) 4 (fs.map aI) c2 o7/\(1<=bs.length/\bs.length<=3)/\(∀b∈bs,kf b)/\fs.length<=6/\∀f∈fs,f.Ok)
  (by kernel_rfl) rfl ⟨rfl,e9,i,o4,o5,o6,o7,.sl Qt [],.sl Qt [],[],[],rfl,.nil _,.nil _,rfl,by simp,by simp,by simp⟩ ?_ (by
   rintro ρ' H' ba ⟨rfl,i',o4,o5,o6,o7,c1,c2,bs,fs,rfl,hg,qu,h1,h2,h3,h4⟩ hf;exact hQ ρ' i' o4 o5 o6 o7 c1 c2 bs fs hf h1 h2 h3 h4 hg qu)
 rintro j ρ1 H1 dc mo ⟨rfl,e9,i',o4,o5,o6,o7,c1,c2,bs,fs,rfl,hg,qu,zo,td,I9,k9⟩ my;have f3:ρ1 3=.ptr (H.length+1) 1 0:=(my 3 rfl).trans e3;have f7:ρ1 7=.ptr (H.length+3) v7 0:=(my 7 rfl).trans e7;have f8:ρ1 8=vi n:=(my 8 rfl).trans e8;simp only[go_sem,↓aB,seval,f8,e9];refine aD (fun fo=>?_) (fun fo=>?_)
 ·have cr:j<n.toNat:=by simp at fo;omega
  simp only[go_sem,↓aB,seval,f3];refine bB (bA ht (m:=7) (by decide)) hl (i:=i') (by simp only[go_sem,seval]) ?_;rintro val i3 ⟨x,rfl,jr,lz⟩;simp only[go_sem,↓aB,seval];refine bB (dx jr lz) hl (i:=i3) (by simp only[go_sem,seval]) ?_;rintro val i4 ⟨b,rfl,P7,Jm⟩;obtain⟨v',o',eu,db⟩:=hg.app (new:=[aE b]) (bytes:=216) (by simp) (by rw[aCj,cF];rfl) (by simp only[AF,AW,AZ];omega);rw[show bs.map aE++[aE b]=(bs++[b]).map aE by simp]at eu;simp only[go_sem,↓aB,seval,f3,f7,cF,aEB,bQ (bG _),aS (bG _),aK (bG _),bR (bG _),db,eu.ak,eu.aj];refine bB (bA ht (m:=2) (by decide)) hl (i:=i4) (by simp only[go_sem,seval]) ?_;rintro val i5 ⟨y,rfl,oj,tc⟩;have zz:AR.wrap (1+y)=1+y:=wrap_i64 (by omega) (by omega);simp only[go_sem,↓aB,seval,zz];refine aVy hf hh hl Jm (k:=j) (by omega) (n:=1+y) (by omega) (by omega) (fs:=fs) (by omega) k9 qu (by simp only[go_sem,seval,f3]) (by simp only[go_sem,seval,f7]) (by simp only[go_sem,seval,e9]) (by simp only[go_sem,seval]) (by simp only[go_sem,seval]) (by simp only[go_sem,seval]) ?_;intro ρ2 i6 o6' o7' c2' fs' cq Nk Hi Hj;have g9:ρ2 9=vi j:=by rw[cq 9 rfl];simp only[go_sem,seval,e9]
  simp only[go_sem,↓aB,seval,g9];rw[dW (by omega)];exact⟨cr,rfl,i6,_,o',o6',o7',v',c2',bs++[b],fs',rfl,eu,Hj,by simp[zo],pS td Jm,by omega,Hi⟩
 have cr:j=n.toNat:=by simp at fo;omega
 subst cr;simp only[go_sem,seval];exact⟨i',o4,o5,o6,o7,c1,c2,bs,fs,rfl,hg,qu,by omega,td,by omega,k9⟩
theorem aVz(q:Question):(gR q).length=7:=rfl
theorem aYm{A:af}{g:SN}(Nl:∀{m:Nat},m<=10->dI A (g "R") [vi m] aBr) {H:LO} {Q:bf->bN->LO->LN->Prop} {tg} {l:List Int} (hl:jP l) {i:Int} {o0 o2 o4 o5 o6 o7 o8 o9:ah} {v7:Nat} {c0 c1 c2:AV} {fs:List Fact} (I9:fs.length<=6) (qu:ew (H.length+7) 4 (fs.map aI) c2 o7) {n:Int} (gq:0<=n) (hn:n<=2) {ρ:bN} (e3:ρ 3=.ptr (H.length+1) 1 0) (e7:ρ 7=.ptr (H.length+3) v7 0) (e14:ρ 14=vi n) (e15:ρ 15=vi 0) (hQ:∀ρ' i' o8 c3 (qs:List Question),(∀t,aCL.contains t=Qu->ρ' t=ρ t)->qs.length<=2->(∀q∈qs,jt q)->ew (H.length+8) 7 (qs.map gR) c3 o8 ->Q (.exit 6) ρ' (H++[o0,.box 1 (aM l i'),o2,.box v7 [c0,c1,c2,c3],o4,o5,o6,o7,o8,o9]) []):wl A 107 ⟨H.length,aNu⟩ (rY g) ρ (H++[o0,.box 1 (aM l i),o2,.box v7 [c0,c1,c2,.sl Qt []],o4,o5,o6,o7,o8,o9]) [] Q tg:=by
 refine bJ (fun j ρ1 H1 wr=>wr=[]/\ρ1 15=vi j/\∃i' o8 c3,∃qs:List Question,H1=H++[o0,.box 1 (aM l i'),o2,.box v7 [c0,c1,c2,c3],o4,o5,o6,o7,o8,o9] /\
   ew (H.length+8) 7 (qs.map gR) c3 o8/\qs.length=j/\∀q∈qs,jt q) n.toNat
  (fun ρ1 H1 wr=>wr=[]/\∃i' o8 c3,∃qs:List Question,H1=H++[o0,.box 1 (aM l i'),o2,.box v7 [c0,c1,c2,c3],o4,o5,o6,o7,o8,o9] /\
   ew (H.length+8) 7 (qs.map gR) c3 o8/\qs.length<=2/\∀q∈qs,jt q)
  (by kernel_rfl) rfl ⟨rfl,e15,i,o8,.sl Qt [],[],rfl,.nil _,rfl,by simp⟩ ?_ (by
   rintro ρ' H' ba ⟨rfl,i',o8,c3,qs,rfl,hg,h1,h2⟩ hf;exact hQ ρ' i' o8 c3 qs hf h1 h2 hg)
 rintro j ρ1 H1 dc mo ⟨rfl,e15,i',o8,c3,qs,rfl,hg,Cs,J0⟩ my;have f3:ρ1 3=.ptr (H.length+1) 1 0:=(my 3 rfl).trans e3;have f7:ρ1 7=.ptr (H.length+3) v7 0:=(my 7 rfl).trans e7;have f14:ρ1 14=vi n:=(my 14 rfl).trans e14;simp only[go_sem,↓aB,seval,f14,e15];refine aD (fun fo=>?_) (fun fo=>?_)
 ·have cr:j<n.toNat:=by simp at fo;omega
  simp only[go_sem,seval];refine aY (aq:=rX) (by rfl) (by rfl) ?_;simp only[go_sem,↓aB,seval,rX,f3,f7,qu.len];refine eB (Nl (m:=fs.length) (by omega)) hl (i:=i') (by simp only[go_sem,seval]) ?_;rintro val i3 ⟨q,rfl,Nn⟩;obtain⟨v',o',eu,db⟩:=hg.app (new:=[gR q]) (bytes:=128) (by simp) (by rfl) (by simp only[AF,AW,AZ];omega);rw[show qs.map gR++[gR q]=(qs++[q]).map gR by simp]at eu;simp only[go_sem,↓aB,seval,f7,e15,aVz,aK (aBI _),bR (aBI _),db,eu.ak,eu.aj,eH,dG,aL];rw[dW (by omega)];exact⟨cr,rfl,i3,o',v',qs++[q],rfl,eu,by simp[Cs],pS J0 Nn⟩
 have cr:j=n.toNat:=by simp at fo;omega
 subst cr;simp only[go_sem,seval];exact⟨i',o8,c3,qs,rfl,hg,by omega,J0⟩
structure Gens(A:af)(g:SN):Prop where
 take:fR A g
 block:∀{k:Int},0<=k->k<7->dI A (g "Q") [vi k] (aMn k)
 fact:∀{b:Block},kf b->∀{a:Int},0<=a->a<=1000->aBt A (g "H") [.agg (aE b),vi a] aLj
 has:∀(l:List Fact),l.length<=1000->∀f:Fact,∃b:Bool,∀H,aG A (g "v") [.sl Qu (l.map aI),.agg (aI f)] H=Qr (.bool b,H,[])
 jd:∀{m:Nat},m<=10->dI A (g "R") [vi m] aBr
abbrev aVA(x:Item):Prop:=x.Ok/\C6 x
theorem aVB{A:af}{g:SN}(G:Gens A g) {H:LO} {Q:bf->bN->LO->LN->Prop} {tg} {l:List Int} (hl:jP l) {i:Int} {o0 o3 o4 o5 o6 o7 o8 o9:ah} {v4:Nat} {c0:AV} {n:Int} (gq:1<=n) (hn:n<=3) {ρ:bN} (e3:ρ 3=.ptr (H.length+1) 1 0) (e4:ρ 4=.ptr (H.length+2) v4 0) (e5:ρ 5=vi n) (e6:ρ 6=vi 0) (hQ:∀ρ' i' o3 o4 o5 o6 o7 o8 o9 c1 (xs:List Item),(∀t,aCM.contains t=Qu->ρ' t=ρ t)->1<=xs.length/\xs.length<=3->(∀x∈xs,aVA x)->ew (H.length+9) 4 (xs.map aO) c1 o9 ->Q (.exit 0) ρ' (H++[o0,.box 1 (aM l i'),.box v4 [c0,c1],o3,o4,o5,o6,o7,o8,o9]) []):wl A 107 ⟨H.length,aNu⟩ (rZ g) ρ (H++[o0,.box 1 (aM l i),.box v4 [c0,.sl Qt []],o3,o4,o5,o6,o7,o8,o9]) [] Q tg:=by
 refine bJ (fun j ρ1 H1 wr=>wr=[]/\ρ1 6=vi j/\∃i' o3 o4 o5 o6 o7 o8 o9 c1,∃xs:List Item,H1=H++[o0,.box 1 (aM l i'),.box v4 [c0,c1],o3,o4,o5,o6,o7,o8,o9] /\
   ew (H.length+9) 4 (xs.map aO) c1 o9/\xs.length=j/\∀x∈xs,aVA x) n.toNat
  (fun ρ1 H1 wr=>wr=[]/\∃i' o3 o4 o5 o6 o7 o8 o9 c1,∃xs:List Item,H1=H++[o0,.box 1 (aM l i'),.box v4 [c0,c1],o3,o4,o5,o6,o7,o8,o9] /\
   ew (H.length+9) 4 (xs.map aO) c1 o9/\(1<=xs.length/\xs.length<=3)/\∀x∈xs,aVA x)
  (by kernel_rfl) rfl ⟨rfl,e6,i,o3,o4,o5,o6,o7,o8,o9,.sl Qt [],[],rfl,.nil _,rfl,by simp⟩ ?_ (by
   rintro ρ' H' ba ⟨rfl,i',o3,o4,o5,o6,o7,o8,o9,c1,xs,rfl,hg,h1,h2⟩ hf;exact hQ ρ' i' o3 o4 o5 o6 o7 o8 o9 c1 xs hf h1 h2 hg)
 rintro j ρ1 H1 dc mo ⟨rfl,e6,i',o3,o4,o5,o6,o7,o8,o9,c1,xs,rfl,hg,n9,xa⟩ my;have f3:ρ1 3=.ptr (H.length+1) 1 0:=(my 3 rfl).trans e3;have f4:ρ1 4=.ptr (H.length+2) v4 0:=(my 4 rfl).trans e4;have f5:ρ1 5=vi n:=(my 5 rfl).trans e5;simp only[go_sem,↓aB,seval,f5,e6];refine aD (fun fo=>?_) (fun fo=>?_)
 ·have cr:j<n.toNat:=by simp at fo;omega
  obtain⟨nm,W6,cx⟩:=aQl [[102,105,114,115,116],[113,50],[108,97,115,116]] (x:=(j:Int)) (by omega) (by simp;omega);simp only[DR,aN,AT]at cx;have O4:nm.length<=60:=by simp only[BD,CC,or_false]at W6;rcases W6 with rfl | rfl | rfl<;>simp
  simp only[go_sem,↓aB,seval,f3,e6,cx];refine bB (bA G.take (m:=3) (by decide)) hl (i:=i') (by simp only[go_sem,seval]) ?_;rintro val i3 ⟨x,rfl,jr,lz⟩;have wk:AR.wrap (1+x)=1+x:=wrap_i64 (by omega) (by omega);simp only[go_sem,↓aB,seval,wk];refine aSA G.take G.block G.fact G.has hl (n:=1+x) (by omega) (by omega) (by simp only[go_sem,seval,f3]) (by simp only[go_sem,seval]) (by simp only[go_sem,seval]) (by simp only[go_sem,seval]) ?_;intro ρ2 i4 p4 p5 p6 p7 d1 d2 bs fs cq zo td I9 k9 Gt Jn;have g3:ρ2 3=.ptr (H.length+1) 1 0:=by rw[cq 3 rfl];simp only[go_sem,seval,f3]
  have g4:ρ2 4=.ptr (H.length+2) v4 0:=by rw[cq 4 rfl];simp only[go_sem,seval,f4]
  have g6:ρ2 6=vi j:=by rw[cq 6 rfl];simp only[go_sem,seval,e6]
  have g7:ρ2 7=.ptr (H.length+3) (o3.ver+1) 0:=by rw[cq 7 rfl];simp only[go_sem,seval]
  simp only[go_sem,↓aB,seval,g3];refine bB (bA G.take (m:=3) (by decide)) hl (i:=i4) (by simp only[go_sem,seval]) ?_;rintro val i5 ⟨y,rfl,oj,tc⟩;simp only[go_sem,↓aB,seval];refine aYm G.jd hl I9 Jn (n:=y) (by omega) (by omega) (by simp only[go_sem,seval,g3]) (by simp only[go_sem,seval,g7]) (by simp only[go_sem,seval]) (by simp only[go_sem,seval]) ?_;intro ρ3 i6 p8 d3 qs im Cs J0 No;have k4:ρ3 4=.ptr (H.length+2) v4 0:=by rw[im 4 rfl];simp only[go_sem,seval,g4]
  have k6:ρ3 6=vi j:=by rw[im 6 rfl];simp only[go_sem,seval,g6]
  have k7:ρ3 7=.ptr (H.length+3) (o3.ver+1) 0:=by rw[im 7 rfl];simp only[go_sem,seval,g7]
  obtain⟨b1,b2,b3,b4,b5,b6⟩:=Gt.dw (aC bG _);obtain⟨q1,q2,q3,q4,q5,q6⟩:=No.dw (aC aBI _);obtain⟨r1,r2,r3,r4,r5,r6⟩:=Jn.dw (aC eL _);obtain⟨v',o',eu,db⟩:=hg.app (new:=[[.str nm,.sl Qu (bs.map aE),.sl Qu (fs.map aI),.sl Qu (qs.map gR)]]) (bytes:=88) (by simp) (by rfl) (by simp only[AF,AW,AZ];omega);rw[show xs.map aO++[[.str nm,.sl Qu (bs.map aE),.sl Qu (fs.map aI),.sl Qu (qs.map gR)]]=(xs++[Item.mk nm bs fs qs]).map aO by simp[aO]]at eu;simp only[go_sem,↓aB,seval,k4,k6,k7,b4,b5,b6,q4,q5,q6,r4,r5,r6,uM,aAS,db,eu.ak,eu.aj];rw[dW (by omega)];refine⟨cr,rfl,i6,_,_,_,_,_,_,o',v',xs++[Item.mk nm bs fs qs],rfl,eu,by simp[n9],pS xa ⟨⟨by show nm.length<=1000;omega,by show bs.length<=16;omega,fun b hb=>(td b hb).ok,by show fs.length<=16;omega,k9,by show qs.length<=16;omega,fun q hq=>(J0 q hq).ok⟩,⟨zo.2,I9,Cs,fun b hb=>(td b hb).U1,fun q hq=>(J0 q hq).U2,zo.1⟩⟩⟩
 have cr:j=n.toNat:=by simp at fo;omega
 subst cr;simp only[go_sem,seval];exact⟨i',o3,o4,o5,o6,o7,o8,o9,c1,xs,rfl,hg,by omega,xa⟩
theorem aQB{A:af}{g:SN}(h:Has A g "ar" (pM g))(G:Gens A g){l:List Int}(hl:jP l)(H:LO):∃v H' wr,aG A (g "ar") [.sl Qu (l.map bF)] H=Qr (v,H',wr)/\(H'=H/\wr=[]/\aYl v):=by
 refine h.bp ?_;have hb:dU l.length Qs (Qr (.int .i64 (if (400:Int)<l.length then 400 else l.length))) Qs=Qr (0,min l.length 400,l.length):=by
  by_cases hc:(400:Int)<l.length
  ·rw[Zy hc];simp only[dU,iL];rw[Zy ⟨by decide,by omega⟩];simp;omega
  rw[Zx hc];simp only[dU,iL];rw[Zy ⟨by omega,by omega⟩];simp;omega
 have hh:dF 1 (l.map bF)=true:=by cases l<;>rfl
 have pk:FW (min l.length 400) (l.map bF)=(l.take (min l.length 400)).map bF:=List.map_take.symm;have iq:jP (l.take (min l.length 400)):=fun a ha=>hl a (FA ha);generalize l.take (min l.length 400)=l2 at pk iq;simp only[pM];simp only[go_sem,↓aB,seval,hb,hh,pk];refine bB (bA G.take (m:=3) (by decide)) iq (i:=0) (by simp only[go_sem,seval]) ?_;rintro val i1 ⟨x,rfl,jr,lz⟩;obtain⟨nm,W6,cx⟩:=aQl [[84,101,115,116],[89,101,97,114,32,55,44,32,112,97,114,116,32,50],[65]] jr lz;simp only[DR,aN]at cx;have O4:nm.length<=60:=by simp only[BD,CC,or_false]at W6;rcases W6 with rfl | rfl | rfl<;>simp
 simp only[go_sem,↓aB,seval,jr,cx];refine bB (bA G.take (m:=3) (by decide)) iq (i:=i1) (by simp only[go_sem,seval]) ?_;rintro val i2 ⟨y,rfl,oj,tc⟩;have zz:AR.wrap (1+y)=1+y:=wrap_i64 (by omega) (by omega);simp only[go_sem,↓aB,seval,zz];refine aVB G iq (n:=1+y) (by omega) (by omega) (by simp only[go_sem,seval]) (by simp only[go_sem,seval]) (by simp only[go_sem,seval]) (by simp only[go_sem,seval]) ?_;intro ρ2 i3 o3 o4 o5 o6 o7 o8 o9 c1 xs cq n9 xa hg;have g2:ρ2 2=.ptr H.length 1 0:=by rw[cq 2 rfl];simp only[go_sem,seval]
 have g4:ρ2 4=.ptr (H.length+2) 1 0:=by rw[cq 4 rfl];simp only[go_sem,seval]
 obtain⟨b1,b2,b3,b4,b5,b6⟩:=hg.dw (aC dV _);simp only[go_sem,↓aB,seval,g2,g4,hg.ak,b4,b5,b6,aA (aC dV _)];exact⟨jm.mk nm xs,rfl,⟨by show nm.length<=1000;omega,by show xs.length<=16;omega,fun i hi=>(xa i hi).1⟩,⟨by show nm.length<=100;omega,n9.2,fun i hi=>(xa i hi).2,n9.1⟩⟩
abbrev bDm(g:SN):List ae:=[qm 17 0,qm 18 5,⟨Qr 19,oi 17 18 1,Qs,[0,1]⟩,⟨Qr 20,ol 1 19,Qs,[2,0,1]⟩,qm 21 1,qm 22 5,⟨Qr 23,oi 21 22 1,Qs,[4,5]⟩,⟨Qr 24,ol 1 23,Qs,[6,4,5]⟩,⟨Qr 25,ob .neq 20 24,Qs,[3,2,0,1,7,6,4,5]⟩]
abbrev bCW:LN:=[]
abbrev bDn(g:SN):ag:=.seq (qS [qm 11 5,qm 12 0,qn 13 12,qb 14 .lss 11 13]<|qC 14 (.skip) (.exit 0))<|.seq (.block 1 (.seq (.region Qt (bDm g))<|qC 25 (qS [qmc 4 (.bool Qu)]<|.ret) (.skip)))<|.region Qu [qm 15 5,qbi 16 .add 15 1,qm 5 16]
def kR(g:SN):bw:=⟨26,[],[.tmp 4],qS [qmc 4 (.bool Qu)]<|.seq (qS [qm 6 0,qn 7 6,qm 8 1,qn 9 8,qb 10 .neq 7 9]<|qC 10 (qS [qmc 4 (.bool Qu)]<|.ret) (.skip))<|.seq (qS [qmc 5 z0]<|.block 0 (.loop (bDn g)))<|qS [qmc 4 (.bool Qt)]<|.ret⟩
abbrev bDo(g:SN):List ae:=[qm 17 0,qm 18 5,⟨Qr 19,oi 17 18 1,Qs,[0,1]⟩,⟨Qr 20,ol 1 19,Qs,[2,0,1]⟩,qm 21 1,qm 22 5,⟨Qr 23,oi 21 22 1,Qs,[4,5]⟩,⟨Qr 24,ol 1 23,Qs,[6,4,5]⟩,⟨Qr 25,oc (g "P") [u 20,u 24],Qs,[3,2,0,1,7,6,4,5]⟩,⟨Qr 26,.un .not (u 25),Qs,[8,3,2,0,1,7,6,4,5]⟩]
abbrev bCX:LN:=[]
abbrev bDp(g:SN):ag:=.seq (qS [qm 11 5,qm 12 0,qn 13 12,qb 14 .lss 11 13]<|qC 14 (.skip) (.exit 0))<|.seq (.block 1 (.seq (.region Qt (bDo g))<|qC 26 (qS [qmc 4 (.bool Qu)]<|.ret) (.skip)))<|.region Qu [qm 15 5,qbi 16 .add 15 1,qm 5 16]
def bCN(g:SN):bw:=⟨27,[],[.tmp 4],qS [qmc 4 (.bool Qu)]<|.seq (qS [qm 6 0,qn 7 6,qm 8 1,qn 9 8,qb 10 .neq 7 9]<|qC 10 (qS [qmc 4 (.bool Qu)]<|.ret) (.skip))<|.seq (qS [qmc 5 z0]<|.block 0 (.loop (bDp g)))<|qS [qmc 4 (.bool Qt)]<|.ret⟩
def bCR(g:SN):bw:=⟨61,[3],[.tmp 2],qS [qmc 2 (.bool Qu)]<|qS [qm 10 0,qc 11 (g "ar") [u 10],qq 3 (.alloc [(.str []),(.sl Qt [])]),qs 2 3 11]<|qS [qla 13 2 3,qc 14 (g "aL") [u 13],qm 12 14,qq 15 (.ext 0 (u 12)),qq 16 (.ext 1 (u 12)),qm 4 15,qm 5 16]<|qS [qla 18 2 3,qc 19 (g "J") [u 18],qm 17 19,qq 20 (.ext 0 (u 17)),qq 21 (.ext 1 (u 17)),qm 6 20,qm 7 21]<|.seq (qS [qla 22 2 3,qc 23 (g "e") [u 22],qbi 24 .neq 23 0,qm 25 24,qF 26 25 (om 7),qF 27 25 (obi .neq 26 0),qq 28 (.pick (u 25) uT (u 27))]<|qC 28 (qS [qm 29 5,qbi 30 .neq 29 0,qm 31 30,qT 32 31 (oc (g "bg") []),qp 33 31 32,qm 2 33]<|.ret) (.skip))<|qS [qm 35 4,qc 36 (g "bX") [u 35],qm 34 36,qq 37 (.ext 0 (u 34)),qq 38 (.ext 1 (u 34)),qm 8 37,qm 9 38]<|qS [qm 39 5,qbi 40 .eql 39 0,qm 41 40,qT 42 41 (om 9),qT 43 41 (obi .eql 42 0),qp 44 41 43,qm 45 44,qT 46 45 (om 8),qT 47 45 (on 46),qT 48 45 (of 1 3),qT 49 45 (ol 1 48),qT 50 45 (on 49),qT 51 45 (ob .eql 47 50),qp 52 45 51,qm 53 52,qT 54 53 (om 8),qT 55 53 (om 6),qT 56 53 (oc (g "aG") [u 54,u 55]),qp 57 53 56,qm 58 57,qT 59 58 (oc (g "bg") []),qp 60 58 59,qm 2 60]<|.ret⟩
section
variable {A:af}{g:SN}{V:Item->Fact->Str×Int}{W:jm->Int}
theorem bEy(h:Has A g "P" (kR g))(r:List Str)(hl:r.length<=1000000000)(H:LO):aG A (g "P") [fc r,.sl Qu (r.map aN)] H=Qr (.bool Qt,H,[]):=by
 refine h.call ?_;simp only[kR];by_cases hr:r=[]
 ·subst hr;rw[bGB];simp only[go_sem,↓aB,seval,BY,AZ];refine bJ (id:=0) (fun i ρ1 H1 wr=>wr=[]/\H1=H/\i=0/\ρ1 5=vi 0) 0 (fun ρ1 H1 wr=>wr=[]/\H1=H) (by kernel_rfl) rfl ⟨rfl,by simp,rfl,rfl⟩ ?_ ?_
  ·rintro i ρ1 H1 dc mg ⟨rfl,rfl,rfl,e5⟩ hf;have f0:ρ1 0=.ar:=hf 0 rfl;simp only[go_sem,↓aB,seval,e5,f0]
  rintro ρ' H' ba ⟨rfl,rfl⟩ hf;simp only[go_sem,↓aB,seval]
 rw[bGb hr];simp only[go_sem,↓aB,seval,AF,bne_self_eq_false];refine bJ (id:=0) (fun i ρ1 H1 wr=>wr=[]/\H1=H/\ρ1 5=vi (i:Nat)) r.length (fun ρ1 H1 wr=>wr=[]/\H1=H) (by kernel_rfl) rfl ⟨rfl,by simp,rfl⟩ ?_ ?_
 ·rintro i ρ1 H1 dc mg ⟨rfl,rfl,e5⟩ hf;have f0:ρ1 0=.sl Qu (r.map aN):=hf 0 rfl;have f1:ρ1 1=.sl Qu (r.map aN):=hf 1 rfl;simp only[go_sem,↓aB,seval,e5,f0,AF];refine aD (fun hb=>?_) (fun hb=>?_)
  ·have hlt:i<r.length:=by simpa using hb
   have hg:(r.map aN)[i]? = Qr [.str r[i]]:=getElem?_map_of hlt;have V1:=wS (i:=i) (by omega);simp only[go_sem,seval];refine aY (aq:=bCW) (by rfl) (by rfl) ?_;simp only[go_sem,↓aB,seval,bCW,e5,f0,f1,hg,hlt,V1,bne_self_eq_false,AU,AT,AD,AA,AE]
  have:i=r.length:=by simp at hb;omega
  subst this;simp only[go_sem,seval]
 rintro ρ' H' ba ⟨rfl,rfl⟩ hf;simp only[go_sem,↓aB,seval]
theorem bEz(hT:Has A g "P" (kR g))(h:Has A g "aG" (bCN g))(R:List (List Str))(hl:R.length<=1000000000)(hr:∀r∈R,r.length<=1000000000)(H:LO):aG A (g "aG") [bF6 R,.sl Qu (hU R)] H=Qr (.bool Qt,H,[]):=by
 refine h.call ?_;simp only[bCN];have tl:=bDX R;have O4:=bD0 R;by_cases hR:R=[]
 ·subst hR;have e1:bF6 []=.ar:=rfl;have e2:hU []=[]:=rfl;rw[e1,e2];simp only[go_sem,↓aB,seval,AZ];refine bJ (id:=0) (fun i ρ1 H1 wr=>wr=[]/\H1=H/\i=0/\ρ1 5=vi 0) 0 (fun ρ1 H1 wr=>wr=[]/\H1=H) (by kernel_rfl) rfl ⟨rfl,by simp,rfl,rfl⟩ ?_ ?_
  ·rintro i ρ1 H1 dc mg ⟨rfl,rfl,rfl,e5⟩ hf;have f0:ρ1 0=.ar:=hf 0 rfl;simp only[go_sem,↓aB,seval,e5,f0]
  rintro ρ' H' ba ⟨rfl,rfl⟩ hf;simp only[go_sem,↓aB,seval]
 have e1:bF6 R=.sl Qu (bCF R):=Zx hR;rw[e1];simp only[go_sem,↓aB,seval,tl,O4,bne_self_eq_false];refine bJ (id:=0) (fun i ρ1 H1 wr=>wr=[]/\H1=H/\ρ1 5=vi (i:Nat)) R.length (fun ρ1 H1 wr=>wr=[]/\H1=H) (by kernel_rfl) rfl ⟨rfl,by simp,rfl⟩ ?_ ?_
 ·rintro i ρ1 H1 dc mg ⟨rfl,rfl,e5⟩ hf;have f0:ρ1 0=.sl Qu (bCF R):=hf 0 rfl;have f1:ρ1 1=.sl Qu (hU R):=hf 1 rfl;simp only[go_sem,↓aB,seval,e5,f0,O4];refine aD (fun hb=>?_) (fun hb=>?_)
  ·have hlt:i<R.length:=by simpa using hb
   have hg:(bCF R)[i]? = Qr [fc R[i]]:=by unfold bCF;rw[BN,AP hlt];rfl
   have qu:(hU R)[i]? = Qr [.sl Qu (R[i].map aN)]:=by unfold hU;rw[BN,AP hlt];rfl
   have V1:=wS (i:=i) (by omega);have hc:=fun H=>bEy hT R[i] (hr _ (AS hlt)) H;generalize R[i]=r at *;rcases bDY r with h0 | ⟨rows,h0,_⟩<;>rw[h0]at hc hg
   all_goals
    simp only[go_sem,seval];refine aY (aq:=bCX) (by rfl) (by rfl) ?_;simp only[go_sem,↓aB,seval,bCX,e5,f0,f1,hg,qu,hc,hlt,V1,AU,AT,AD,AA,AE]
  have:i=R.length:=by simp at hb;omega
  subst this;simp only[go_sem,seval]
 rintro ρ' H' ba ⟨rfl,rfl⟩ hf;simp only[go_sem,↓aB,seval]
structure Qi(A:af)(g:SN)(V:Item->Fact->Str×Int)(W:jm->Int):Prop where
 J3:∀{l:List Int},jP l->∀H,∃x:jm,aG A (g "ar") [.sl Qu (l.map bF)] H=Qr (dE x,H,[])/\x.Ok
 ren:Ps A g V W
 read:j0 A g
 Py:Has A g "P" (kR g)
 Pz:Has A g "aG" (bCN g)
 law:Has A g "bf" (bCR g)
 wu:∀H,aG A (g "bg") [] H=Qr (.bool Qt,H,[])
theorem bEP(S:Qi A g V W){l:List Int}(hl:jP l)(H:LO):aG A (g "bf") [.sl Qu (l.map bF)] H=Qr (.bool Qt,H,[]):=by
 refine S.law.call ?_;obtain⟨x,lz,hx⟩:=S.J3 hl (H++[.gone 0]);have kp:=fun H=>(S.ren.valid x hx H).1;have pe:=fun H=>bFx S.ren.val S.ren.y7 x hx H;have E4:=fun H=>S.wu H;simp only[bCR];by_cases hok:W x=0/\bD3 V x=0
 ·obtain⟨hw,hf⟩:=hok;have Pt:=fun H=>bG0 S.ren x hx hw hf H;have Qk:∀i∈x.items,mu i:=fun i hi=>bEF ((S.ren.valid x hx []).2 hw i hi);have J2:(bCV V x).length=x.items.length:=by unfold bCV;rw[AF]
  have y6:∀r∈bCV V x,r.length<=16/\∀s∈r,s.length<=1000000:=fun r hr=>by
   obtain⟨it,M5,rfl⟩:=DB.1 hr;have kh:=hx.items it M5;refine⟨by rw[AF];exact kh.B1,fun s hs=>?_⟩;obtain⟨f,_,rfl⟩:=DB.1 hs;exact (S.ren.val it kh f []).2
  have zj:=fun H=>bFZ S.read x hx Qk (bCV V x) J2 y6 H;have Fg:=fun H=>bEz S.Py S.Pz (bCV V x) (by rw[J2];have:=hx.G8;omega) (fun r hr=>by have:=(y6 r hr).1;omega) H;rw[Zy hf,hf]at pe;rw[hw]at kp;have ax:∀n:Int,n=(x.items.length:Int)->(n==(x.items.length:Int))=true:=fun n h=>by rw[h];simp
  generalize bCV V x=R at *;simp only[dE]at lz kp pe Pt;by_cases hR:R=[]
  ·have h0:x.items.length=0:=by rw[<- J2,hR];rfl
   have e1:bF6 R=.ar:=by rw[hR];rfl
   rw[e1]at zj Fg;have hz:((0:Int)==(x.items.length:Int))=true:=by rw[h0];rfl
   simp only[go_sem,↓aB,seval,lz,Pt,pe,kp,zj,Fg,E4,hz,AF,AJ,AD,AB,AA,AE]
  have e1:bF6 R=.sl Qu (bCF R):=Zx hR;rw[e1]at zj Fg;have hz:((R.length:Int)==(x.items.length:Int))=true:=by rw[J2];simp
  simp only[go_sem,↓aB,seval,lz,Pt,pe,kp,zj,Fg,E4,hz,bD0,AF,AJ,AD,AB,AA,AE]
 have bl:(if W x=0 then bD3 V x else W x)≠0:=by
  split
  ·rename_i h;exact fun h2=>hok ⟨h,h2⟩
  assumption
 have Pt:=fun H=>bFJ S.ren x hx _ rfl bl H;have hz:((if W x=0 then bD3 V x else W x) != 0)=true:=by simpa using bl
 have l7:(W x != 0)=Qt∨((W x != 0)=Qu/\(bD3 V x != 0)=Qt):=by
  by_cases h:W x=0
  ·exact .inr ⟨by simpa using h,by simpa using fun h2=>hok ⟨h,h2⟩⟩
  exact .inl (by simpa using h)
 generalize (if W x=0 then bD3 V x else W x)=e at *;generalize (if bD3 V x=0 then hU (bCV V x)else [])=rows at *;simp only[dE]at lz kp pe Pt;rcases l7 with h | ⟨h,h2⟩
 ·simp only[go_sem,↓aB,seval,lz,Pt,pe,kp,E4,hz,h,AJ,AD,AB,AA,AE]
 simp only[go_sem,↓aB,seval,lz,Pt,pe,kp,E4,hz,h,h2,AJ,AD,AB,AA,AE]
end
def gX(g:SN):bw:=⟨21,[14,20],[.tmp 6],qS [qmc 6 (.sl Qt [])]<|qS [qm 8 1,qq 9 (.conv (.toInt .u64) (u 8)),qm 7 9]<|.seq (qS [qm 10 1,qbi 11 .lss 10 0]<|qC 11 (qS [qm 12 0,qq 13 (.bsl 1 [(.int .u8 0)] 1 [(0,(.const (.int .u8 45)))]),qa 14 1 1 12 13,qm 0 14]<|.region Qu [qm 15 7,qq 16 (.un .neg (u 15)),qm 7 16]) (.skip))<|qS [qm 17 0,qm 18 7,qm 19 2,qq 20 (.ee (uf (g "aZ")) [(.tmp 17),(.tmp 18),(.tmp 19)]),qm 6 20]<|.ret⟩
theorem aJJ:∀(k n:Nat),n<10 ^ (k+1)->nC (k+1) n=dec n
 |0,n,h=>by
  have h':n<10:=by simpa using h
  rw[dec,nC,Zy h',Zy h']
 |k+1,n,h=>by
  rw[dec,nC];split
  ·rfl
  rw[aJJ k (n / 10) (by rw[PL]at h;omega)]
section
variable {A:af}{g:SN}
theorem aLn(hp:A.bq (g "aZ")=Qr oN){n:Int}(h0:0<=n)(h9:n<=999999):fY A (g "aZ") [.int .u64 n,vi 10] (dec n.toNat):=by
 intro H t v hb ht;have e7:nC 7 n.toNat=dec n.toNat:=aJJ 6 _ (by have:(10:Nat) ^ (6+1)=10000000:=(by decide);omega);cases hb with
 |nil=>refine (oL (n:=0) ?_);unfold dD qL;rw[hp];show (match oN [.sl Qt [],.int .u64 n,.int .i64 10] H with | some r=>Qr (cT H r) | none=>_)=_;simp only[oN];rw[Zy ⟨h0,by omega,trivial⟩,e7];simp[cT,eU];rfl
 |obj id ver t ho=>refine (oL (n:=0) ?_);unfold dD qL;rw[hp];show (match oN [.sr id ver t.length,.int .u64 n,.int .i64 10] H with | some r=>Qr (cT H r) | none=>_)=_;simp only[oN,ho];rw[Zy ⟨trivial,kG t,h0,by omega,by omega,trivial,aEk t⟩,e7];simp only[cT,eU,AJ,BI,BY,vX];rfl
abbrev bCn:LO:=[.gone 0,.gone 0]
theorem aLo(h:Has A g "bl" (gX g))(hp:A.bq (g "aZ")=Qr oN){n:Int}(h0:0<=n)(h9:n<=999999):fY A (g "bl") [vi n,vi 10] (dec n.toNat):=by
 intro H t v hb ht;obtain⟨v1,H1,dc,h1,h2⟩:=h.bp (args:=[v,vi n,vi 10]) (H:=H) (K:=fun v' H'' ba=>Qr (v',H'',ba)=oX H t (dec n.toNat) v) (by
  have hw:IntKind.u64.wrap n=n:=by unfold IntKind.wrap;simp[IntKind.bits,IntKind.signed];omega
  have hn:decide (n<0)=false:=by rw[decide_eq_false_iff_not];omega
  obtain⟨o,ver,jk,kq⟩:=hb.call (L:=bCn) (i:=1) ht (by decide) (aLn hp h0 h9);simp only[gX];simp only[go_sem,↓aB,seval,pT,hw,hn,kq];exact jk.done rfl _)
 rw[h1,h2]
theorem aMs(h:Has A g "bj" (vW g))(hi:Has A g "bl" (gX g))(hp:A.bq (g "aZ")=Qr oN):aBk A g:=by
 intro n h0 h9 H t v hb ht;obtain⟨v1,H1,dc,h1,h2⟩:=h.bp (args:=[v,vi n,vi 10]) (H:=H) (K:=fun v' H'' ba=>Qr (v',H'',ba)=oX H t (dec n.toNat) v) (by
  obtain⟨o,ver,jk,kq⟩:=hb.call (L:=[.gone 0]) (i:=0) ht (by decide) (aLo hi hp h0 h9);rw[DU]at kq;simp only[vW];simp only[go_sem,↓aB,seval,kq];exact jk.done rfl _)
 rw[h1,h2]
end
theorem aSy{A:af}{g:SN}(h:Has A g "G" (rR g)){x y w hh:Int}(hx:0<=x/\x<=1000)(hy:0<=y/\y<=1000)(hw:0<=w/\w<=1000)(ft:0<=hh/\hh<=1000)(H:LO):aG A (g "G") [vi x,vi y,vi w,vi hh] H=Qr (.sl Qu ([(x,y),(x+w,y),(x+w,y+hh),(x,y+hh)].map bL),H,[]):=by have h1:AR.wrap (x+w)=x+w:=wrap_i64 (by omega) (by omega);have h2:AR.wrap (y+hh)=y+hh:=wrap_i64 (by omega) (by omega);refine h.call ?_;simp only[rR];simp only[go_sem,seval,h1,h2,bL]
abbrev P4(x y w h:Int):List (Int×Int):=[(x,y),(x+w,y),(x+w,y+h),(x,y+h)]
theorem aYk{x y w h:Int}(hx:0<=x/\x<=1000)(hy:0<=y/\y<=1000)(hw:0<=w/\w<=1000)(ft:0<=h/\h<=1000){k:Int}(hk:0<=k/\k<=2):SOk (Shape.mk k (P4 x y w h)):=by
 refine⟨⟨cC hk.1 (by show k<=1000000;omega),by simp, ?_⟩,hk⟩;intro p hp;simp only[BD,CC,or_false]at hp;rcases hp with rfl | rfl | rfl | rfl
 ·exact⟨cC hx.1 (by omega),cC hy.1 (by omega)⟩
 ·exact⟨cC (by show 0<=x+w;omega) (by show x+w<=1000000;omega),cC hy.1 (by omega)⟩
 ·exact⟨cC (by show 0<=x+w;omega) (by show x+w<=1000000;omega),cC (by show 0<=y+h;omega) (by show y+h<=1000000;omega)⟩
 exact⟨cC hx.1 (by omega),cC (by show 0<=y+h;omega) (by show y+h<=1000000;omega)⟩
theorem aOz{A:af}{g:SN}(h:Has A g "at" (fD g))(ht:fR A g) (V6:∀{x y w hh:Int},(0<=x/\x<=1000)->(0<=y/\y<=1000)->(0<=w/\w<=1000)->(0<=hh/\hh<=1000)->∀H,aG A (g "G") [vi x,vi y,vi w,vi hh] H=Qr (.sl Qu ((P4 x y w hh).map bL),H,[])):dI A (g "at") [] aNr:=by
 refine h.gen (by simp[fD]) (fun n=>by kernel_rfl) ?_;intro l i o v H hl hlt ho;have bl:∀k,(H.length+k==o)=false:=fun k=>by simp;omega
 simp only[fD];simp only[go_sem,seval];refine aY (aq:=kW) (by rfl) (by rfl) ?_;simp only[go_sem,seval,kW];refine eB (bA ht (m:=4) (by decide)) hl (i:=i) (by simp only[go_sem,seval,eK,hlt,ho]) ?_;rintro val i1 ⟨x1,rfl,jr,lz⟩;have w1:AR.wrap (24+x1)=24+x1:=wrap_i64 (by omega) (by omega);simp only[go_sem,seval,hlt,fN,w1];refine eB (bA ht (m:=9) (by decide)) hl (i:=i1) (by simp only[go_sem,seval,aP,hlt]) ?_;rintro val i2 ⟨x2,rfl,C9,Jj⟩;have w2:AR.wrap (30+x2)=30+x2:=wrap_i64 (by omega) (by omega);have fo:=fun H=>V6 (x:=2) (y:=2) (w:=24+x1) (hh:=30+x2) (by decide) (by decide) (by omega) (by omega) H;simp only[go_sem,seval,hlt,aR,w2,fo,bP,eH,dG,bl,aL];refine bB (bA ht (m:=3) (by decide)) hl (i:=i2) (by simp only[go_sem,seval,aP,hlt]) ?_;rintro val i3 ⟨x3,rfl,Pd,Pe⟩;simp only[go_sem,seval,hlt,aR];have s1:SOk (Shape.mk 2 (P4 2 2 (24+x1) (30+x2))):=aYk (by decide) (by decide) (by omega) (by omega) (by decide);refine xX (W:=[23,24,25,26,27,28,29,30,31,32,33,34,35,36]) (fun _ H1 wr=>wr=[o]/\∃i' o5,∃S:List Shape,1<=S.length/\S.length<=2/\(∀a∈S,SOk a) /\
  H1=H.set o (.box v (aM l i'))++[.gone 0,.gone 0,.box 1 [vi 0,vi 0,.sl Qt []],.box 1 [vi 60,vi 50,.sr (H.length+4) 1 S.length],.vec 1 2 (S.map aH),o5,.gone 0,.gone 0,.gone 0]) (by rfl) (fun hb=>?_) (fun hb=>?_) ?_
 ·refine aY (aq:=kX) (by rfl) (by rfl) ?_;simp only[go_sem,seval,kX];refine eB (bA ht (m:=5) (by decide)) hl (i:=i3) (by simp only[go_sem,seval,aP,hlt]) ?_;rintro val i4 ⟨x4,rfl,Pf,Pg⟩;have w4:AR.wrap (10+x4)=10+x4:=wrap_i64 (by omega) (by omega);simp only[go_sem,seval,hlt,aR,w4];refine eB (bA ht (m:=8) (by decide)) hl (i:=i4) (by simp only[go_sem,seval,aP,hlt]) ?_;rintro val i5 ⟨x5,rfl,Ph,Pj⟩;have w5:AR.wrap (12+x5)=12+x5:=wrap_i64 (by omega) (by omega);simp only[go_sem,seval,hlt,aR,w5,bP,eH,dG,bl,aL];refine⟨i5,_,[Shape.mk 2 (P4 2 2 (24+x1) (30+x2)),Shape.mk 0 [(10+x4,12+x5)]],by simp,by simp, ?_,rfl⟩;intro a ha;simp only[BD,CC,or_false]at ha;rcases ha with rfl | rfl
  ·exact s1
  exact⟨⟨cC (by show (0:Int)<=0;decide) (by show (0:Int)<=1000000;decide),by simp,fun q hq=>by
   simp only[BD,CC,or_false]at hq;subst hq;exact⟨cC (by show 0<=10+x4;omega) (by show 10+x4<=1000000;omega),cC (by show 0<=12+x5;omega) (by show 12+x5<=1000000;omega)⟩⟩,by show (0:Int)<=0;decide,by show (0:Int)<=2;decide⟩
 ·simp only[go_sem,seval];exact⟨i3,_,[Shape.mk 2 (P4 2 2 (24+x1) (30+x2))],by simp,by simp,by intro a ha;simp only[BD,CC,or_false]at ha;subst ha;exact s1,rfl⟩
 rintro ρ2 H2 en ⟨rfl,i6,o5,S,Pk,Pl,Jk,rfl⟩ cq;have g0:ρ2 0=.ptr o v 0:=by rw[cq 0 rfl];simp only[go_sem,seval]
 have g2:ρ2 2=.ptr (H.length+2) 1 0:=by rw[cq 2 rfl];simp only[go_sem,seval]
 have g3:ρ2 3=.ptr (H.length+3) 1 0:=by rw[cq 3 rfl];simp only[go_sem,seval]
 have g94:ρ2 94=.undef:=by rw[cq 94 rfl];simp only[go_sem,seval]
 simp only[go_sem,seval,g0];refine bB (bA ht (m:=4) (by decide)) hl (i:=i6) (by simp only[go_sem,seval,aP,hlt]) ?_;rintro val i7 ⟨x6,rfl,Mw,Mx⟩;have w6:AR.wrap (36+x6)=36+x6:=wrap_i64 (by omega) (by omega);simp only[go_sem,seval,hlt,aR,w6];refine bB (bA ht (m:=2) (by decide)) hl (i:=i7) (by simp only[go_sem,seval,aP,hlt]) ?_;rintro val i8 ⟨x7,rfl,My,Mz⟩;simp only[go_sem,seval,hlt,aR];have vg:∀(a:Shape) (S:List Shape),S.map aH++[[vi a.kind,.sl Qu (a.points.map bL)]]=(S++[a]).map aH:=fun a S=>by simp[aH]
 refine xX (W:=[43,44,45,46,47,48,49,50,51,52,53,54,55,56,57,58,59,60,61,62,63,64,65,66,67,68,69,70]) (fun _ H1 wr=>wr=[o]/\∃i' o5 o6 o7,∃S:List Shape,2<=S.length/\S.length<=3/\(∀a∈S,SOk a) /\
  H1=H.set o (.box v (aM l i'))++[.gone 0,.gone 0,.box 1 [vi 0,vi 0,.sl Qt []],.box 1 [vi 60,vi 50,.sr (H.length+4) 1 S.length],.vec 1 2 (S.map aH),o5,o6,o7,.gone 0]) (by rfl) (fun hb=>?_) (fun hb=>?_) ?_
 ·refine aY (aq:=kY) (by rfl) (by rfl) ?_;have w7:AR.wrap (36+x6+8)=36+x6+8:=wrap_i64 (by omega) (by omega);simp only[go_sem,seval,kY,g0,g3,w7];refine eB (bA ht (m:=6) (by decide)) hl (i:=i8) (by simp only[go_sem,seval,aP,hlt]) ?_;rintro val i9 ⟨x8,rfl,Hd,He⟩;have w8:AR.wrap (10+x8)=10+x8:=wrap_i64 (by omega) (by omega);have hr:bP (S.length+1) 32=true:=by unfold bP;simp;omega
  have N0:=vg ⟨1,[(36+x6,4),(36+x6+8,10+x8),(36+x6,30)]⟩ S;simp only[DR,bL]at N0;simp only[go_sem,seval,hlt,aR,w8,hr,N0,eH,dG,bl,aL];refine⟨i9,_,_,_,S++[⟨1,[(36+x6,4),(36+x6+8,10+x8),(36+x6,30)]⟩],by simp;omega,by simp;omega, ?_,by simp only[BA,AW,AZ,BC];rfl⟩;intro a ha;rcases AY.mp ha with ha | ha
  ·exact Jk a ha
  simp only[BD,CC,or_false]at ha;subst ha;refine⟨⟨cC (by show (0:Int)<=1;decide) (by show (1:Int)<=1000000;decide),by simp,fun q hq=>?_⟩,by show (0:Int)<=1;decide,by show (1:Int)<=2;decide⟩;simp only[BD,CC,or_false]at hq;rcases hq with rfl | rfl | rfl
  ·exact⟨cC (by show 0<=36+x6;omega) (by show 36+x6<=1000000;omega),cC (by show (0:Int)<=4;decide) (by show (4:Int)<=1000000;decide)⟩
  ·exact⟨cC (by show 0<=36+x6+8;omega) (by show 36+x6+8<=1000000;omega),cC (by show 0<=10+x8;omega) (by show 10+x8<=1000000;omega)⟩
  exact⟨cC (by show 0<=36+x6;omega) (by show 36+x6<=1000000;omega),cC (by show (0:Int)<=30;decide) (by show (30:Int)<=1000000;decide)⟩
 ·refine aY (aq:=kZ) (by rfl) (by rfl) ?_;simp only[go_sem,seval,kZ,g0,g3];refine eB (bA ht (m:=12) (by decide)) hl (i:=i8) (by simp only[go_sem,seval,aP,hlt]) ?_;rintro val i9 ⟨x8,rfl,Hd,He⟩;have w8:AR.wrap (12+x8)=12+x8:=wrap_i64 (by omega) (by omega);have hr:bP (S.length+1) 32=true:=by unfold bP;simp;omega
  have dp:=fun H=>V6 (x:=36+x6) (y:=5) (w:=10) (hh:=12+x8) (by omega) (by decide) (by decide) (by omega) H;have N0:=vg ⟨2,P4 (36+x6) 5 10 (12+x8)⟩ S;simp only[DR]at N0 dp;simp only[go_sem,seval,hlt,aR,w8,dp,hr,N0,eH,dG,bl,aL];refine⟨i9,_,_,_,S++[⟨2,P4 (36+x6) 5 10 (12+x8)⟩],by simp;omega,by simp;omega, ?_,by simp only[BA,AW,AZ,BC];rfl⟩;intro a ha;rcases AY.mp ha with ha | ha
  ·exact Jk a ha
  simp only[BD,CC,or_false]at ha;subst ha;exact aYk (by omega) (by decide) (by decide) (by omega) (by decide)
 rintro ρ3 H3 wr3 ⟨rfl,i9,o5',o6,o7,T,Na,Pm,Jl,rfl⟩ im;have e0:ρ3 0=.ptr o v 0:=by rw[im 0 rfl];simp only[go_sem,seval,g0]
 have e2:ρ3 2=.ptr (H.length+2) 1 0:=by rw[im 2 rfl];simp only[go_sem,seval,g2]
 have e3:ρ3 3=.ptr (H.length+3) 1 0:=by rw[im 3 rfl];simp only[go_sem,seval,g3]
 have e94:ρ3 94=.undef:=by rw[im 94 rfl];simp only[go_sem,seval,g94]
 clear cq im;simp only[go_sem,seval,e0];refine bB (bA ht (m:=3) (by decide)) hl (i:=i9) (by simp only[go_sem,seval,aP,hlt]) ?_;rintro val i10 ⟨x9,rfl,Nb,Nc⟩;simp only[go_sem,seval,hlt,aR];refine aD (fun hb=>?_) (fun hb=>?_)
 ·simp only[go_sem,seval];refine aY (aq:=lA) (by rfl) (by rfl) ?_;simp only[go_sem,seval,lA,e0,e3];refine eB (bA ht (m:=20) (by decide)) hl (i:=i10) (by simp only[go_sem,seval,aP,hlt]) ?_;rintro val i11 ⟨x10,rfl,Nd,Nf⟩;have w10:AR.wrap (36+x10)=36+x10:=wrap_i64 (by omega) (by omega);have hr:bP (T.length+1) 32=true:=by unfold bP;simp;omega
  simp only[go_sem,seval,e3,hlt,aR,w10,hr,eH,dG,bl,aL];have w11:AR.wrap (((T.length+1:Nat):Int) - 1)=(T.length:Int):=by rw[wrap_i64 (by omega) (by omega)];omega
  have l8:(T.map aH++[[AV.int AR 1,AV.sr H.length 1 2]])[T.length]? = Qr [AV.int AR 1,AV.sr H.length 1 2]:=by simp
  rw[w11];refine aY (aq:=lB) (by rfl) (by rfl) ?_;have w12:AR.wrap (36+x10+3)=36+x10+3:=wrap_i64 (by omega) (by omega);have lg:∀x y,(T.map aH++[x]).set T.length y=T.map aH++[y]:=fun x y=>by simp
  have N0:=vg ⟨1,[(36,44),(36+x10+3,44)]⟩ T;simp only[DR,bL]at N0;have ax:(T++[Shape.mk 1 [(36,44),(36+x10+3,44)]]).length=T.length+1:=by simp
  simp only[go_sem,seval,lB,e2,e3,l8,AT,w12,lg,N0,hlt,ax,AF,aT (aC bW (T++[Shape.mk 1 [(36,44),(36+x10+3,44)]])),aW,aA (aC bW _),aA (aC aU _)];refine⟨⟨i11,rfl⟩,60,50,T++[Shape.mk 1 [(36,44),(36+x10+3,44)]],rfl,cC (by decide) (by decide),cC (by decide) (by decide),by simp;omega,by simp;omega, ?_⟩;intro a ha;rcases AY.mp ha with ha | ha
  ·exact Jl a ha
  simp only[BD,CC,or_false]at ha;subst ha;refine⟨⟨cC (by show (0:Int)<=1;decide) (by show (1:Int)<=1000000;decide),by simp,fun q hq=>?_⟩,by show (0:Int)<=1;decide,by show (1:Int)<=2;decide⟩;simp only[BD,CC,or_false]at hq;rcases hq with rfl | rfl
  ·exact⟨cC (by decide) (by decide),cC (by decide) (by decide)⟩
  exact⟨cC (by show 0<=36+x10+3;omega) (by show 36+x10+3<=1000000;omega),cC (by show (0:Int)<=44;decide) (by show (44:Int)<=1000000;decide)⟩
 simp only[go_sem,seval,e3,e94,e2,hlt,aT (aC bW T),aW,aA (aC bW _),aA (aC aU _)];exact⟨⟨i10,rfl⟩,60,50,T,rfl,cC (by decide) (by decide),cC (by decide) (by decide),Na,by omega,Jl⟩
structure Pu(A:af)(g:SN):Prop where
 J3:Has A g "ar" (pM g)
 bu:Has A g "bh" (nP g)
 J6:Has A g "F" (mV g)
 take:Has A g "a" (kC g)
 block:Has A g "Q" (fT g)
 fact:Has A g "H" (gF g)
 has:Has A g "v" (rI g)
 jd:Has A g "R" (eT g)
 at':Has A g "ay" (oQ g)
 runs:Has A g "I" (gB g)
 expr:Has A g "as" (gE g)
 sum:Has A g "ax" (gQ g)
 cd:Has A g "au" (gC g)
 ye:Has A g "at" (fD g)
 yb:Has A g "aw" (fE g)
 lines:Has A g "av" (fS g)
 phrase:Has A g "j" (fC g)
 term:Has A g "l" (gD g)
 box:Has A g "G" (rR g)
 arity:Has A g "az" (oI g)
structure Pv(A:af)(g:SN)(E:Int->Int->List Shape->Int)(tB tP:Nat):Prop where
 full:oh A g tB
 hold:lp A g tB
 text:og A g tB tP
 check:Has A g "C" (tE g)
 value:Has A g "f" (aAX g)
 ph:C2 A g
 fig:aCD A g E
structure Qa(A:af)(g:SN):Prop where
 Qv:Pu A g
 law:Has A g "bf" (bCR g)
 y7:Has A g "J" (tM g)
 R2:Has A g "aM" (bDx g)
 lines:Has A g "X" (bDk g)
 render:Has A g "aL" (bDt g)
 para:a8 A g
 chunk:kl A g
 read:j0 A g
 Py:Has A g "P" (kR g)
 Pz:Has A g "aG" (bCN g)
 wu:∀H,aG A (g "bg") [] H=Qr (.bool Qt,H,[])
section
variable {A A1:af}{g:SN}{E:Int->Int->List Shape->Int}{tB tP:Nat}
theorem bGO(F:Pu A g):Gens A g:=by
 have ha:=yX F.bu;have ht:=aQi F.take F.at' ha;have hp:=aOq F.phrase ht;have hr:=aSp F.runs ht hp;have Db:=fun op H=>aOv F.arity op H;have qt:=fun d hd=>aNp F.term ht Db d hd;have V6:∀{x y w hh:Int},(0<=x/\x<=1000)->(0<=y/\y<=1000)->(0<=w/\w<=1000)->(0<=hh/\hh<=1000)->∀H,aG A (g "G") [vi x,vi y,vi w,vi hh] H=Qr (.sl Qu ((P4 x y w hh).map bL),H,[]):=
  fun h1 h2 h3 h4 H=>aSy F.box h1 h2 h3 h4 H
 exact⟨ht,fun h0 h1=>aQy F.block hr (aSx F.expr ht qt) (aVx F.sum ht) (aSv F.cd ht hp) (aOz F.ye ht V6) (aOx F.yb ht) (aQp F.lines ht) h0 h1,
  fun hb _ h0 h1=>aSz F.fact ht hb h0 h1,fun l hl f=>aSq F.has l hl f,fun hm=>aLg F.jd ht hp hr (aLd F.J6) hm⟩
theorem bGD(F:Pv A g E tB tP):yc A g E tB tP:=⟨F.hold,F.text,F.check,F.fig,F.value,fun b f H hb hl hw hh h8 a0 b0 a1 b1 k2 k4=>aVp F.ph F.fig b f H hb hl hw hh h8 a0 b0 a1 b1 k2 k4⟩
theorem bG1(F:Qa A g)(G:Pv A1 g E tB tP)(hV:A.bq (g "f")=Qr (aFb A1 (g "f")))(hW:A.bq (g "e")=Qr (aFb A1 (g "e"))){l:List Int}(hl:jP l)(H:LO):aG A (g "bf") [.sl Qu (l.map bF)] H=Qr (.bool Qt,H,[]):=
 bEP (V:=bGF A1 (g "f")) (W:=bFw A1 (g "e")) {
  J3:=fun hl H=>by
   obtain⟨v,H',wr,h1,rfl,rfl,x,rfl,hx,hs⟩:=aQB F.Qv.J3 (bGO F.Qv) hl H;exact⟨x,h1,hx⟩
  ren:=⟨bFF (bGD G) hV,bEY G.full hW,F.y7,F.R2,F.lines,F.para,F.chunk,F.render⟩
  read:=F.read
  Py:=F.Py
  Pz:=F.Pz
  law:=F.law
  wu:=F.wu } hl H
end
def aYp:List (String×Nat)->SN
 | [],_=>100000
 | (a,n)::r,s=>if a=s then n else aYp r s
def bBo:List (String×Nat):=[("a",11),
 ("b",222),
 ("bh",80),
 ("c",59),
 ("d",69),
 ("h",126),
 ("e",7),
 ("f",21),
 ("j",45),
 ("l",81),
 ("g",120),
 ("F",46),
 ("G",82),
 ("i",48),
 ("P",36),
 ("v",14),
 ("k",219),
 ("C",51),
 ("m",73),
 ("ar",4),
 ("n",233),
 ("o",232),
 ("p",89),
 ("H",13),
 ("I",38),
 ("q",71),
 ("r",127),
 ("s",170),
 ("J",6),
 ("t",379),
 ("Q",12),
 ("R",15),
 ("w",70),
 ("x",90),
 ("y",91),
 ("z",92),
 ("u",84),
 ("A",96),
 ("B",389),
 ("as",39),
 ("at",42),
 ("au",41),
 ("av",44),
 ("aw",43),
 ("ax",40),
 ("D",75),
 ("ay",37),
 ("az",128),
 ("E",50),
 ("K",234),
 ("L",22),
 ("M",110),
 ("N",142),
 ("O",282),
 ("S",76),
 ("T",122),
 ("U",367),
 ("V",35),
 ("W",34),
 ("X",18),
 ("Y",172),
 ("Z",56),
 ("aa",168),
 ("ab",173),
 ("ac",134),
 ("ad",169),
 ("ae",109),
 ("af",66),
 ("ag",24),
 ("ah",97),
 ("ai",68),
 ("aj",118),
 ("ak",189),
 ("al",201),
 ("am",58),
 ("an",182),
 ("ao",198),
 ("ap",214),
 ("bi",185),
 ("bj",255),
 ("aq",121),
 ("aA",74),
 ("aB",123),
 ("aC",119),
 ("aD",250),
 ("aE",211),
 ("aF",210),
 ("aG",10),
 ("aH",130),
 ("aI",129),
 ("bk",83),
 ("aJ",131),
 ("aK",215),
 ("aL",5),
 ("aM",16),
 ("aN",171),
 ("aO",57),
 ("aP",124),
 ("aQ",64),
 ("aR",103),
 ("aS",207),
 ("aT",102),
 ("aU",112),
 ("aV",190),
 ("aW",85),
 ("aX",383),
 ("aY",390),
 ("bl",284),
 ("aZ",313),
 ("ba",253),
 ("bb",139),
 ("bc",33),
 ("bO",78),
 ("bd",143),
 ("be",191),
 ("bP",79),
 ("bm",125),
 ("bn",249),
 ("bf",3),
 ("bg",8),
 ("bo",31),
 ("bp",17),
 ("bq",47),
 ("br",141),
 ("bs",135),
 ("bt",136),
 ("bu",138),
 ("bv",140),
 ("bw",137),
 ("bQ",54),
 ("bx",52),
 ("by",87),
 ("bz",55),
 ("bA",106),
 ("bB",108),
 ("bC",203),
 ("bD",205),
 ("bE",62),
 ("bF",101),
 ("bR",100),
 ("bG",25),
 ("bH",289),
 ("bI",218),
 ("bJ",32),
 ("bK",86),
 ("bL",104),
 ("bM",235),
 ("cJ",181),
 ("bN",221),
 ("bS",72),
 ("bT",167),
 ("bU",248),
 ("bV",220),
 ("bW",149),
 ("bX",9),
 ("bY",132),
 ("bZ",53),
 ("ca",144),
 ("cb",163),
 ("cc",148),
 ("cd",151),
 ("ce",155),
 ("cf",159),
 ("cg",156),
 ("ch",164),
 ("ci",160),
 ("cj",88),
 ("ck",145),
 ("cl",152),
 ("cm",107),
 ("cn",200),
 ("co",188),
 ("cp",105),
 ("cq",113),
 ("cr",176),
 ("cs",178),
 ("ct",387),
 ("cu",381),
 ("cv",378),
 ("cw",380),
 ("cx",382),
 ("cy",384),
 ("cz",385),
 ("cA",386),
 ("cB",388),
 ("cC",261),
 ("cD",49),
 ("cE",20),
 ("cF",19),
 ("cG",180),
 ("cK",183),
 ("cH",225),
 ("cI",254),
 ("cL",150),
 ("cM",165),
 ("cN",146),
 ("cO",153),
 ("cP",157),
 ("cQ",161),
 ("cR",202),
 ("cS",204),
 ("cT",63),
 ("cU",65),
 ("cV",23),
 ("cW",206),
 ("cX",67),
 ("cY",111),
 ("cZ",290),
 ("da",133),
 ("db",187),
 ("dc",179),
 ("dd",184),
 ("de",186),
 ("df",177),
 ("dg",291),
 ("dh",292),
 ("dl",60),
 ("dm",226),
 ("di",277),
 ("dj",276),
 ("dk",283)]
def gZ(s:String):Nat:=aYp bBo s
theorem aLp:mh AM2 gZ:=by refine' {load:=by kernel_rfl,..}<;>exact⟨by kernel_rfl,by kernel_rfl⟩
theorem aQI:OutFns AM2 gZ 141 143:=by refine' {cc:=by kernel_rfl,itoa:=by kernel_rfl,..}<;>exact⟨by kernel_rfl,by kernel_rfl⟩
theorem aOC:TextFns AM2 gZ 141 143:=by refine' {toOutFns:=aQI,rep:=aLp,num:=by kernel_rfl,cnt:=by kernel_rfl,..}<;>exact⟨by kernel_rfl,by kernel_rfl⟩
theorem aMt:BlockPrt AM2 gZ 141 143:=by refine' {toTextFns:=aOC,..}<;>exact⟨by kernel_rfl,by kernel_rfl⟩
theorem aQJ:uw AM2 gZ 141 where
 toBlockPrt:=aMt
 source:=⟨by kernel_rfl,by kernel_rfl⟩
 str:=by kernel_rfl
theorem aQK:RepAll AM2 gZ 141 143:=by refine' {cc:=by kernel_rfl,str:=by kernel_rfl,grow:=by kernel_rfl,cnt:=by kernel_rfl,ix1:=by kernel_rfl,..}<;>exact⟨by kernel_rfl,by kernel_rfl⟩
theorem aQL:WrtFns AM2 gZ 141 143:=by refine' {toRepAll:=aQK,join:=by kernel_rfl,itoa:=by kernel_rfl,..}<;>exact⟨by kernel_rfl,by kernel_rfl⟩
theorem aQM:MelFns AM2 gZ 141 143:=by refine' {toWrtFns:=aQL,..}<;>exact⟨by kernel_rfl,by kernel_rfl⟩
theorem aOD:rj AM2 gZ 141 143:=by refine' {toMelFns:=aQM,rpl:=aLp,num:=by kernel_rfl,..}<;>exact⟨by kernel_rfl,by kernel_rfl⟩
theorem bGh:sn AM1 where
 fn:=by kernel_rfl
 bq:=by kernel_rfl
theorem bF8:PlaneFns AM1 gZ:=by refine' {yf:=bGh,..}<;>exact⟨by kernel_rfl,by kernel_rfl⟩
theorem bF9:ij AM1 gZ:=by refine' {toPlaneFns:=bF8,Bb:=⟨216,⟨by kernel_rfl,by kernel_rfl⟩,⟨by kernel_rfl,by kernel_rfl⟩⟩,Bc:=⟨217,⟨by kernel_rfl,by kernel_rfl⟩,⟨by kernel_rfl,by kernel_rfl⟩⟩,..}<;>exact⟨by kernel_rfl,by kernel_rfl⟩
theorem aQN:sn AM2 where
 fn:=by kernel_rfl
 bq:=by kernel_rfl
theorem aMv:PlaneFns AM2 gZ:=by refine' {yf:=aQN,..}<;>exact⟨by kernel_rfl,by kernel_rfl⟩
theorem aMw:ny AM2 gZ:=by constructor<;>exact⟨by kernel_rfl,by kernel_rfl⟩
theorem aQO:si AM2 gZ:=by refine' {Aj:=⟨⟨242,269,243,⟨by kernel_rfl,by kernel_rfl⟩,⟨by kernel_rfl,by kernel_rfl⟩,⟨by kernel_rfl,by kernel_rfl⟩,⟨by kernel_rfl,by kernel_rfl⟩⟩⟩,sj:=⟨⟨244,270,245,⟨by kernel_rfl,by kernel_rfl⟩,⟨by kernel_rfl,by kernel_rfl⟩,⟨by kernel_rfl,by kernel_rfl⟩,⟨by kernel_rfl,by kernel_rfl⟩⟩⟩,Ak:=⟨⟨246,271,247,⟨by kernel_rfl,by kernel_rfl⟩,⟨by kernel_rfl,by kernel_rfl⟩,⟨by kernel_rfl,by kernel_rfl⟩,⟨by kernel_rfl,by kernel_rfl⟩⟩⟩,..}<;>exact⟨by kernel_rfl,by kernel_rfl⟩
theorem aMx:kb AM2 gZ:=by refine' {mel:=aQO,same:=aMw,sj:=⟨⟨93,174,94,⟨by kernel_rfl,by kernel_rfl⟩,⟨by kernel_rfl,by kernel_rfl⟩,⟨by kernel_rfl,by kernel_rfl⟩,⟨by kernel_rfl,by kernel_rfl⟩⟩⟩,Q8:=⟨⟨236,268,237,⟨by kernel_rfl,by kernel_rfl⟩,⟨by kernel_rfl,by kernel_rfl⟩,⟨by kernel_rfl,by kernel_rfl⟩,⟨by kernel_rfl,by kernel_rfl⟩⟩⟩,allI:=⟨⟨192,238,193,⟨by kernel_rfl,by kernel_rfl⟩,⟨by kernel_rfl,by kernel_rfl⟩,⟨by kernel_rfl,by kernel_rfl⟩,⟨by kernel_rfl,by kernel_rfl⟩⟩⟩,Am:=⟨⟨194,239,195,⟨by kernel_rfl,by kernel_rfl⟩,⟨by kernel_rfl,by kernel_rfl⟩,⟨by kernel_rfl,by kernel_rfl⟩,⟨by kernel_rfl,by kernel_rfl⟩⟩⟩,An:=⟨⟨196,240,197,⟨by kernel_rfl,by kernel_rfl⟩,⟨by kernel_rfl,by kernel_rfl⟩,⟨by kernel_rfl,by kernel_rfl⟩,⟨by kernel_rfl,by kernel_rfl⟩⟩⟩,Ao:=⟨⟨133,216,199,⟨by kernel_rfl,by kernel_rfl⟩,⟨by kernel_rfl,by kernel_rfl⟩,⟨by kernel_rfl,by kernel_rfl⟩,⟨by kernel_rfl,by kernel_rfl⟩⟩⟩,Ap:=⟨⟨139,217,241,⟨by kernel_rfl,by kernel_rfl⟩,⟨by kernel_rfl,by kernel_rfl⟩,⟨by kernel_rfl,by kernel_rfl⟩,⟨by kernel_rfl,by kernel_rfl⟩⟩⟩,..}<;>exact⟨by kernel_rfl,by kernel_rfl⟩
theorem aHq:kc AM2 gZ 141:=by refine' {blk:=aMx,src:=aQJ,R9:=⟨⟨98,175,99,⟨by kernel_rfl,by kernel_rfl⟩,⟨by kernel_rfl,by kernel_rfl⟩,⟨by kernel_rfl,by kernel_rfl⟩,⟨by kernel_rfl,by kernel_rfl⟩⟩⟩,B6:=⟨⟨114,208,115,⟨by kernel_rfl,by kernel_rfl⟩,⟨by kernel_rfl,by kernel_rfl⟩,⟨by kernel_rfl,by kernel_rfl⟩,⟨by kernel_rfl,by kernel_rfl⟩⟩⟩,S0:=⟨⟨116,209,117,⟨by kernel_rfl,by kernel_rfl⟩,⟨by kernel_rfl,by kernel_rfl⟩,⟨by kernel_rfl,by kernel_rfl⟩,⟨by kernel_rfl,by kernel_rfl⟩⟩⟩,allI:=⟨⟨60,95,61,⟨by kernel_rfl,by kernel_rfl⟩,⟨by kernel_rfl,by kernel_rfl⟩,⟨by kernel_rfl,by kernel_rfl⟩,⟨by kernel_rfl,by kernel_rfl⟩⟩⟩,..}<;>exact⟨by kernel_rfl,by kernel_rfl⟩
theorem aIM:lu AM2 gZ:=by refine' {con:=⟨252,⟨by kernel_rfl,by kernel_rfl⟩,⟨by kernel_rfl,by kernel_rfl⟩⟩,..}<;>exact⟨by kernel_rfl,by kernel_rfl⟩
theorem aOE:oh AM2 gZ 141:=by refine' {val:=aHq,..}<;>exact⟨by kernel_rfl,by kernel_rfl⟩
theorem aQP:ke AM2 gZ:=by refine' {noY:=aQN,..}<;>exact⟨by kernel_rfl,by kernel_rfl⟩
theorem aMy:lp AM2 gZ 141:=by refine' {fam:=aQP,valid:=aHq,..}<;>exact⟨by kernel_rfl,by kernel_rfl⟩
theorem aSE:C2 AM2 gZ:=by refine' {fns:=aMv,con:=⟨217,⟨by kernel_rfl,by kernel_rfl⟩,⟨by kernel_rfl,by kernel_rfl⟩⟩,..}<;>exact⟨by kernel_rfl,by kernel_rfl⟩
theorem aOF:og AM2 gZ 141 143:=by refine' {form:=aIM,wrt:=aOD,B9:=aMs ⟨by kernel_rfl,by kernel_rfl⟩ ⟨by kernel_rfl,by kernel_rfl⟩ (by kernel_rfl),..}<;>exact⟨by kernel_rfl,by kernel_rfl⟩
theorem bG2:Pv AM2 gZ (aNn AM1 (gZ "u")) 141 143:=by refine' {full:=aOE,hold:=aMy,text:=aOF,ph:=aSE,fig:=aOt bF9 (by kernel_rfl),..}<;>exact⟨by kernel_rfl,by kernel_rfl⟩
theorem bGi:sn AM0 where
 fn:=by kernel_rfl
 bq:=by kernel_rfl
theorem bFK:Pu AM0 gZ:=by constructor<;>exact⟨by kernel_rfl,by kernel_rfl⟩
theorem bFl:a8 AM0 gZ:=by constructor<;>exact⟨by kernel_rfl,by kernel_rfl⟩
theorem bFa:kl AM0 gZ:=by refine' {yf:=bGi,..}<;>exact⟨by kernel_rfl,by kernel_rfl⟩
theorem bFm:j0 AM0 gZ:=by constructor<;>exact⟨by kernel_rfl,by kernel_rfl⟩
theorem bFn:Qa AM0 gZ:=by refine' {Qv:=bFK,para:=bFl,chunk:=bFa,read:=bFm,wu:=fun H=>(by rw[show gZ "bg" = 8 by kernel_rfl];exact dT rfl),..}<;>exact⟨by kernel_rfl,by kernel_rfl⟩
theorem bEG{l:List Int}(hl:jP l)(H:LO):aG AM0 3 [.sl Qu (l.map bF)] H=Qr (.bool Qt,H,[]):=by
 have:=bG1 bFn bG2 (by kernel_rfl) (by kernel_rfl) hl H;have e:gZ "bf" = 3:=by kernel_rfl
 rwa [e]at this
#print axioms bEG
end Go.AM
end
section
namespace Go.AM
open Go Go.ChangeShapes Go.WideShapes Go.ChangeAt Go.RowKit
def G0(C:ag->Mu->Prop)(W:BL):G:={ perm:=fun b i=>W.cell? ⟨b,i,Qs⟩,obj:=fun _=>Qs,whole:=fun b=>W.heap[b]?,io:=(W.os,W.output),code:=C }
theorem wf0(C:ag->Mu->Prop)(W:BL):WF (G0 C W) [] W where
 perm:=fun _ _ _ h=>h
 lt:=fun _ _ h=>by cases h
 blk:=fun _ _ h=>by cases h
 st:=fun _ _ _ _ h=>by cases h
 obj:=fun _ _ _ hb=>by have:=hb.loc;cases this
 jh:=fun _ _ _ hb=>by have:=hb.loc;cases this
 inj:=fun _ _ _ _ _ _ hb=>by have:=hb.loc;cases this
 whole:=⟨fun _ _ h=>⟨h,fun _ _ _ hb=>by have:=hb.loc;cases this⟩,rfl⟩
theorem aLr{C:ag->Mu->Prop}{W W':BL}{g':G}{H':LO}(h:Step (G0 C W) [] W g' H' W' []){b:Nat}(hb:b<W.heap.size):W'.heap[b]? = W.heap[b]? := h.frame.2 b hb fun o ho=>by cases ho
theorem aQR{C:ag->Mu->Prop}{W W':BL}{g':G}{H':LO}(h:Step (G0 C W) [] W g' H' W' [])(may:JI->Prop):W.keptBut W' may:=by have e:=h.wf.whole.io;rw[h.le.io]at e;have e':(W.os,W.output)=(W'.os,W'.output):=e;refine⟨(congrArg Prod.fst e').symm,(congrArg Prod.snd e').symm,fun i hi=>?_⟩;rw[aLr h hi];split<;>simp_all
section
variable {H:Type}{enc:BP×BE->H}{P:CU}{W:BL}{C:ag->Mu->Prop}
theorem aSF{t e:BP}{base:Nat}{v:BE}{d:IK H}{p:List JI}(ht:P.underlying t=Qr (.slice e))(he:P.underlying e=Qr (.int .i64))(hc:P.cellsOf e=1) (kp:LW P W .any base t v) (hd:IE enc P W 0 (fun _=>Qt) Qt t v d p):∃l:List Int,jP l/\ai (G0 C W) (.sl Qu (l.map bF)) v /\ ∀(W':BL) (sp:Nat->Bool),(∀b,b<W.heap.size->W'.heap[b]? = W.heap[b]?)->(∀q∈p,sp q.block=Qt)->IE enc P W' 0 sp Qt t v d p:=by
 simp only[LW,ht,Cell.okWide]at kp;obtain⟨fuel,hd⟩:=hd;have qj:v=.slice Qs 0 0∨∃a len cap,v=.slice (Qr a) len cap/\a.spot=none:=by
  unfold Cell.ok at kp;rw[ht]at kp;split at kp<;>first | exact kp.elim | skip
  all_goals first | (rename_i h;cases h;done) | skip
  ·exact .inl rfl
  exact .inr ⟨_,_,_,rfl,kp.2.2.2.1⟩
 rcases open_ints ht he hc hd with⟨e1,e2⟩ | ⟨a,len,cap,zs,e1,_,hl,hm,hz,e2,bc,U9⟩
 ·have hv:v=.slice Qs 0 0:=by
   rcases qj with rfl | ⟨a,len,cap,rfl,_⟩
   ·rfl
   simp[JY]at e1
  subst hv;cases e2;exact⟨[],(fun a ha=>by cases ha),.kn _,fun W' sp _ _=>shut_slice_nil ht⟩
 have hv:v=.slice (Qr a) len cap/\a.spot=none:=by
  rcases qj with rfl | ⟨a',len',cap',rfl,hs⟩
  ·simp[JY]at e1
  simp[JY]at e1;obtain⟨rfl,rfl,rfl⟩:=e1;exact⟨rfl,hs⟩
 obtain⟨rfl,hs⟩:=hv;simp only[BK]at e2;obtain⟨rfl,rfl⟩:=e2;simp only[Zv]at hz;have ji:∀i,a.add i=⟨a.block,a.off+i,Qs⟩:=fun i=>by
  have ea:a=⟨a.block,a.off,Qs⟩:=by cases a;simp at hs;subst hs;rfl
  rw[ea];exact Addr.add_lit _ _ _
 have hlt:0<zs.length->a.block<W.heap.size:=fun h0=>by
  have:=bc 0 h0;rw[ji]at this;exact World.block_lt_of_cell? (a:=⟨a.block,a.off+0,Qs⟩) W this
 refine⟨zs.take len,fun n hn=>?_, ?_,fun W' sp Df l9=>?_⟩
 ·have:=Go.bounds_i64 (U9 n (FA hn));exact⟨this.1,this.2⟩
 ·have ea:a=⟨a.block,a.off,Qs⟩:=by cases a;simp at hs;subst hs;rfl
  have ax:((zs.take len).map bF).length=len:=by simp;omega
  have key:ai (G0 C W) (.sl Qu ((zs.take len).map bF)) (.slice (Qr ⟨a.block,a.off,Qs⟩) ((zs.take len).map bF).length cap):=by
   refine .sl Qu _ a.block a.off cap 1 (by omega) (fun h=>by cases h) (fun row hr=>?_) (fun row hr=>?_) (fun i j hi hj=>?_) fun i j row c x hr sx hx=>?_
   ·obtain⟨n,_,rfl⟩:=DB.1 hr;rfl
   ·obtain⟨n,_,rfl⟩:=DB.1 hr;rfl
   ·have:j=0:=by omega
    subst this;show (W.cell? ⟨a.block,a.off+i*1+0,Qs⟩).isSome;have:=bc i (by omega);rw[ji]at this;simp only[FK,DU,this];rfl
   have hi:i<len:=by rw[<- ax];exact (AH.1 hr).1
   have hj:j=0:=by obtain⟨n,_,rfl⟩:=DB.1 (AN hr);have:=(AH.1 sx).1;simp[bF]at this;exact this
   subst hj;have wz:W.cell? ⟨a.block,a.off+i*1+0,Qs⟩=Qr x:=hx;have nc:=bc i (by omega);rw[ji]at nc;simp only[FK,DU]at wz;rw[nc]at wz;cases wz;rw[BN]at hr;have l7:(zs.take len)[i]? = Qr (zs.getD i 0):=by rw[List.getElem?_take,Zy hi,AP (by omega)];simp[List.getD,show i<zs.length by omega]
   rw[l7]at hr;simp only[DE,AG]at hr;subst hr;simp only[bF,BG,AG]at sx;subst sx;exact .int _ _
  rw[ax,<- ea]at key;exact key
 refine⟨2,shut_ints 0 ht he hc (Nat.zero_le _) hl hm ?_ (fun i hi=>?_) U9⟩
 ·by_cases h0:0<zs.length
  ·have:sp a.block=true:=l9 (.cell a.block (a.off+0)) (MemPlace.mem_row.2 ⟨0,h0,rfl⟩);rw[this,Zy rfl,hz]
  split<;>omega
 have h1:=bc i hi;rw[ji]at h1 ⊢;exact (World.cell?_of_block (a:=⟨a.block,a.off+i,Qs⟩) (Df a.block (hlt (by omega)))).trans h1
mutual
def aHr{H:Type}:IK H->List BE
 |.lit l=>[l.toCell]
 |.agg ds=>aLs ds
 |_=>[]
def aLs{H:Type}:List (IK H)->List BE
 | []=>[]
 |d::r=>aHr d++aLs r
end
theorem aHs{α:Type}{f:α->Option (IK H×List JI)}{ch:α->List BE}:∀{L:List α} {xs:List (IK H×List JI)},L.mapM f=Qr xs->(∀x∈L,∀a,f x=Qr a->ch x=aHr a.1)->(L.map ch).flatten=aLs (xs.map (·.1))
 | [],xs,h,_=>by
  simp at h;subst h;simp[aLs]
 |x::L,xs,h,da=>by
  rw[KX]at h;simp only[bind,LH,pure,AG]at h;obtain⟨a,ha,asx',has,rfl⟩:=h;rw[BI,List.flatten_cons,BI,aLs,aHs has (fun y hy=>da y (by simp[hy])),da x (by simp) a ha]
theorem aDP{base:Nat}{sp:Nat->Bool}{held:Bool}:∀(m:Nat) (t:BP),P.tiled m t=Qt->∀(n:Nat) (cs:List BE) (x:IK H×List JI),EZ enc P W base sp held n t cs=Qr x->cs=aHr x.1
 |0,_,h=>by simp[OD]at h
 |m+1,t,ht=>by
  intro n cs x h;unfold OD at ht;cases n with
  |zero=>simp[EZ]at h
  |succ n=>
   cases hu:P.underlying t with
   |none=>simp[hu]at ht
   |some kd=>
    cases kd
    case bool=>simp only[EZ,hu]at h;split at h<;>simp_all<;>(subst h;simp[aHr,NP])
    case int q=>simp only[EZ,hu]at h;split at h<;>simp_all<;>(obtain⟨⟨rfl,_⟩,rfl⟩:=h;simp[aHr,NP])
    case string=>simp only[EZ,hu]at h;split at h<;>simp_all<;>(obtain⟨_,rfl⟩:=h;simp[aHr,NP])
    case array k e=>
     simp only[hu,AI,beq_iff_eq]at ht;simp only[EZ,hu]at h;split at h
     ·rename_i hl;obtain⟨asx,ha,rfl⟩:=EL.1 h;show cs=aHr (.agg (asx.map (·.1)));rw[aHr,<- aHs (ch:=fun i=>(cs.drop (i*P.cellsOf e)).take (P.cellsOf e)) ha (fun i _ a Nv=>aDP m e ht.2 n _ a Nv),chunks_flatten _ k cs (by rw[hl,ht.1])]
     cases h
    case struct fs=>
     simp only[hu,AI,beq_iff_eq]at ht;simp only[EZ,hu]at h;split at h
     ·rename_i hl;obtain⟨asx,ha,rfl⟩:=EL.1 h;show cs=aHr (.agg (asx.map (·.1)));rw[aHr,<- aHs (ch:=fun f:Field=>(cs.drop f.offset).take (P.cellsOf f.type)) ha (fun f hf a Br=>aDP m f.type (Array.all_eq_true_iff_forall_mem.1 ht.2 f (Array.mem_toList_iff.1 hf)) n _ a Br),fields_flatten cs _ 0 _ ht.1 hl];rfl
     cases h
    all_goals (simp[hu]at ht;done)
theorem aVD{nm:String}{n:Nat}{row:LA}{vs:List BE}{cs:Array BE}(hn:P.globalNamed nm=Qr n)(hv:W.var? P nm=Qr cs)(ru:cs.toList=vs)(hr:aQZ Qu vs=Qr row)(bd:row.all AV.still=Qt):ai (G0 C W) (.ep row 0) (.pointer (Qr ⟨n,0,Qs⟩))/\∃cs t fz,(G0 C W).whole n=Qr (.cells cs t fz)/\cs.size=row.length:=by
 unfold Hg at hv;rw[hn]at hv;simp only[FG]at hv;split at hv
 ·rename_i cs' t fz fb;simp only[AG]at hv;subst hv;have hl:=aB8 hr (G0 C W);have gd:cs'.size=row.length:=by rw[hl.1,<- ru];simp
  have bc:∀j,W.cell? ⟨n,j,Qs⟩=cs'[j]? := fun j=>by simp[EF,fb]
  refine⟨?_,cs',t,fz,fb,gd⟩;refine .ep row 0 n 0 bd (fun j hj=>?_) fun j a x ha hx=>?_
  ·show (W.cell? ⟨n,0+j,Qs⟩).isSome;rw[BC,bc,Array.getElem?_eq_getElem (by omega)];rfl
  have wz:W.cell? ⟨n,0+j,Qs⟩=Qr x:=hx;rw[BC,bc]at wz;refine hl.2 j a x ha ?_;rw[<- ru];simpa using wz
 cases hv
end
end Go.AM
end
section
namespace Go.Proofs.YtjomjibkahijoaaGreatDoor
open Go Go.ChangeShapes Go.WideShapes Go.ChangeAt Go.WideMaps Go.WideElems Go.RowKit Go.AM
theorem own:ownKnob Tryz.prog.godebug=none:=by kernel_rfl
abbrev aHt:List (String×IK Unit):=Rows.pageFactsRow.laid
abbrev zW:List (String×IK Unit):=aHt.filter fun x=>x.2.handleName?.isNone
abbrev bC7:IK Unit:=match (Rows.laid_dactyl_typing_families:IK Unit)with | .iface _ d=>d | d=>d
def yZ(k b:Int)(f:Nat):FO:=⟨.int .i64 k,.agg #[.int .i64 b,.func (.func f) #[] #[]],k.toNat⟩
def aOG:Array FO := #[yZ 0 (-1) 378,yZ 1 3 380,yZ 2 4 382,yZ 3 4 384,yZ 4 4 385,yZ 5 5 386,yZ 6 6 388]
noncomputable def aNv(os:Os):BL:={ LI Tryz.prog os ⟨#[],#[],[]⟩ with
 heap:=((LI Tryz.prog os ⟨#[],#[],[]⟩).heap.setIfInBounds 5 (.cells #[.map (Qr (LI Tryz.prog os ⟨#[],#[],[]⟩).heap.size)] 297)).push (.map aOG 7) }
noncomputable def aB7(os:Os):BL:=(aNv os).layVars Tryz.prog zW
theorem aLt(os:Os):(aB7 os).os=os:=World.layVars_os _ _ _
theorem aOH(os:Os)(args:Array BE):laidMet Tryz.prog zW ((aB7 os).forCall (fun _ _=>0) ⟨#[],args,[]⟩).memory:=by
 have e1:(zW.filter fun x=>(zW.map (·.1)).contains x.1)=zW:=List.filter_eq_self.2 fun x hx=>EH.2 (DB.2 ⟨x,hx,rfl⟩);have e2:(zW.filter fun x => !(zW.map (·.1)).contains x.1)=[]:=List.filter_eq_nil_iff.2 fun x hx=>by rw[EH.2 (DB.2 ⟨x,hx,rfl⟩)];simp
 have h:laidMet Tryz.prog zW (aB7 os):=laidMet_layVars (w0:=aNv os) (zW.map (·.1)) [] (by rw[e1];rfl) (by rw[e1];kernel_rfl) (by rw[e1];kernel_rfl) (by rw[e2];exact LaidIn.none);exact h.of_heap (by simp[World.memory,World.forCall,Input.heap])
theorem aSG(os:Os)(args:Array BE):laidMetH Tryz.prog aHt ((aB7 os).forCall (fun _ _=>0) ⟨#[],args,[]⟩).memory:=
 laidMetH_of_parts3 (fuel:=8) (aOH os args) (by kernel_rfl) (by kernel_rfl)
end Go.Proofs.YtjomjibkahijoaaGreatDoor
end
section
namespace Go.Proofs.YtjomjibkahijoaaGreatDoor
open Go Go.ChangeShapes Go.WideShapes Go.ChangeAt Go.WideMaps Go.WideElems Go.RowKit Go.AM
theorem aQS:(aHt.filter fun x=>x.2.handleName?.isSome)=[("dactyl/typing.families",Rows.laid_dactyl_typing_families)]:=by kernel_rfl
theorem aNw{W:BL}(h:laidMetH Tryz.prog aHt W):laidMet Tryz.prog zW W:=by unfold laidMetH at h;rw[aQS]at h;exact h.1
theorem aMA{P:CU}{w:BL}{nm:String}{d:IK Unit}:∀{laid:List (String×IK Unit)} {ps:List JI} (i:Nat),DataW.LaidVars P w laid ps->laid[i]? = Qr (nm,d) ->∃g t cs fuel p,P.globalNamed nm=Qr g/\(P.globals[g]?).map (·.type)=Qr t/\w.var? P nm=Qr cs/\EZ (fun _=>()) P w 0 (fun _=>Qt) Qu fuel t cs.toList=Qr (d,p)
 | [],_,i,_,h=>by simp at h
 | (n,d')::r,ps,0,hl,h=>by
  obtain⟨g,t,cs,fuel,p,q,h1,h2,h3,h4,_,_⟩:=hl;simp only[BG,AG,BK]at h;obtain⟨rfl,rfl⟩:=h;exact⟨g,t,cs,fuel,p,h1,h2,h3,h4⟩
 | (n,d')::r,ps,i+1,hl,h=>by
  obtain⟨g,t,cs,fuel,p,q,_,_,_,_,h5,_⟩:=hl;exact aMA i h5 (by simpa using h)
abbrev CK:ag->Mu->Prop:=fun a c=>∃nl ty rs frz,a=nR Tryz.prog ⟨aBx.row,nl,ty,rs⟩ frz c
theorem aIO{W:BL}(h:laidMetH Tryz.prog aHt W){nm:String}{d:IK Unit}(i n t:Nat){row:LA}(hi:zW[i]? = Qr (nm,d))(hn:Tryz.prog.globalNamed nm=Qr n)(ht:(Tryz.prog.globals[n]?).map (·.type)=Qr t) (tl:Tryz.prog.tiled 9 t=Qt) (hr:aQZ Qu (aHr d)=Qr row) (bd:row.all AV.still=Qt):ai (G0 CK W) (.ep row 0) (.pointer (Qr ⟨n,0,Qs⟩))/\∃cs t fz,(G0 CK W).whole n=Qr (.cells cs t fz)/\cs.size=row.length:=by obtain⟨ps,hl,_⟩:=aNw h;obtain⟨g,t',cs,fuel,p,h1,h2,h3,h4⟩:=aMA i hl hi;obtain rfl:=DZ (hn.symm.trans h1);obtain rfl:=DZ (ht.symm.trans h2);exact aVD hn h3 (aDP 9 _ tl fuel _ _ h4) hr bd
theorem aQT{W:BL}{nm:String}{n:Nat}{a:AV}{x:BE}{cs:Array BE}(hn:Tryz.prog.globalNamed nm=Qr n)(hv:W.var? Tryz.prog nm=Qr cs)(ru:cs.toList=[x])(hr:ai (G0 CK W) a x)(bd:a.still=Qt):ai (G0 CK W) (.ep [a] 0) (.pointer (Qr ⟨n,0,Qs⟩))/\∃cs t fz,(G0 CK W).whole n=Qr (.cells cs t fz)/\cs.size=[a].length:=by
 unfold Hg at hv;rw[hn]at hv;simp only[FG]at hv;split at hv
 ·rename_i cs' t fz fb;simp only[AG]at hv;subst hv;have e:cs' = #[x]:=Array.eq_one_of_toList ru;subst e;refine⟨?_,_,t,fz,fb,rfl⟩;refine .ep [a] 0 n 0 (by simp[bd]) (fun j hj=>?_) fun j b y ha hx=>?_
  ·have:j=0:=by simpa using hj
   subst this;show (W.cell? ⟨n,0+0,Qs⟩).isSome;simp[EF,fb]
  have hj:j<1:=(AH.1 ha).1;have:j=0:=by omega
  subst this;have wz:W.cell? ⟨n,0+0,Qs⟩=Qr y:=hx;simp[EF,fb]at wz;subst wz;simp at ha;subst ha;exact hr
 cases hv
theorem aSI{α β:Type}{f:α->β}:∀{m D:List β},m.Perm D->∀{l:List α},l.map f=m->∃xs,l.Perm xs/\xs.map f=D:=by
 intro m D h
 induction h with
 |nil=>intro l e;exact⟨l,.refl _,e⟩
 |cons x _ ih=>
  intro l e;cases l with
  |nil=>simp at e
  |cons a l=>simp only[BI,JG]at e;obtain⟨xs,h1,h2⟩:=ih e.2;exact⟨a::xs,h1.cons a,by simp[e.1,h2]⟩
 |swap x y r=>
  intro l e
  match l,e with
  |a::b::l,e=>simp only[BI,JG]at e;exact⟨b::a::l,.swap _ _ _,by simp[e.1,e.2.1,e.2.2]⟩
 |trans _ _ ih1 ih2=>intro l e;obtain⟨xs,h1,h2⟩:=ih1 e;obtain⟨ys,h3,h4⟩:=ih2 h2;exact⟨ys,h1.trans h3,h4⟩
theorem sA{W:BL}{n:Nat}{x:FO}{k b:Int}{f:Nat}{c:UInt8}{r:List UInt8}(ud:((GZ Tryz.prog.funcs.size).filter fun f=>(Tryz.prog.funcs[f]?).any (·.name.toUTF8.data.toList==c::r))=[f]) (h:KP Tryz.prog 3 (elemAt (funcToken Tryz.prog) Tryz.prog W 0 (fun _=>Qt) Qt n 296) x=Qr (.int .i64 k,.agg [.lit (.int .i64 b),.held (c::r)])):x.key=.int .i64 k/\x.val=.agg #[.int .i64 b,.func (.func f) #[] #[]]:=by
 obtain⟨key,val,born⟩:=x;have hk:=rd_key h;obtain⟨z,hz,he⟩:=rd_val h;constructor
 ·have hu:Tryz.prog.underlying 3=Qr (.int .i64):=Tryz.underlying3;unfold keyOf mapKey at hk;rw[hu]at hk;dsimp only at hk;split at hk<;>first | (cases hk;done) | skip
  ·split at hk
   ·rename_i hc;obtain⟨rfl,_⟩:=hc;cases hk;rfl
   cases hk
  rename_i hA;cases hA
 unfold elemAt at hz;split at hz
 ·rename_i qj;have hu:Tryz.prog.underlying 296=_:=Tryz.underlying296;unfold Value.formed at qj;rw[hu]at qj;cases val<;>simp at qj
  rename_i cs;have Z4:Tryz.prog.cellsOf 3=1:=by kernel_rfl
  have Ro:Tryz.prog.cellsOf 294=1:=by kernel_rfl
  have Qm:Tryz.prog.cellsOf 296=2:=by kernel_rfl
  rw[Qm]at qj;obtain⟨v0,v1,rfl⟩:∃v0 v1,cs = #[v0,v1]:=by
   match cs,qj with
   |⟨[v0,v1]⟩,_=>exact⟨v0,v1,rfl⟩
  cases n with
  |zero=>simp[EZ]at hz
  |succ m=>
   unfold EZ at hz;rw[hu]at hz;dsimp only[JY]at hz;rw[Zy (by rw[Qm];rfl)]at hz;obtain⟨xs,re,rfl⟩:=EL.1 hz;rw[KX,KX,List.mapM_nil]at re;simp only[bind,LH,pure,AG]at re;obtain⟨a,ha,_,⟨c',P8,_,rfl,rfl⟩,rfl⟩:=re;rw[Z4]at ha;rw[Ro]at P8;simp only[BI,BY,M7,JG,and_true]at he;have e0:=aDP 1 3 (by kernel_rfl) _ _ _ ha;rw[<- he.1]at e0;have e0:[v0]=[Value.int .i64 b]:=e0;have ec:c'=(.held (c::r),c'.2):=by rw[he.2]
   rw[ec]at P8;have e1:v1=.func (.func f) #[] #[]:=func_of_trod Tryz.underlying294 ud P8;cases e0;rw[e1]
 cases hz
theorem aVE{W:BL}{n:Nat}{es:Array FO}{xs:List FO}{D:List (Lit×IK (List UInt8))}(hp:es.toList.Perm xs)(hr:∀x∈es.toList,∃y,KP Tryz.prog 3 (elemAt (funcToken Tryz.prog) Tryz.prog W 0 (fun _=>Qt) Qt n 296) x=Qr y) (hx:xs.map (NQ Tryz.prog 3 (elemAt (funcToken Tryz.prog) Tryz.prog W 0 (fun _=>Qt) Qt n 296))=D):∀i:Nat,∀x,xs[i]? = Qr x->∀d,D[i]? = Qr d->KP Tryz.prog 3 (elemAt (funcToken Tryz.prog) Tryz.prog W 0 (fun _=>Qt) Qt n 296) x=Qr d:=by intro i x hi d hd;rw[<- hx,BN,hi]at hd;simp only[DE,AG]at hd;obtain⟨y,hy⟩:=hr x (hp.mem_iff.2 (AN hi));rw[rg_of hy]at hd;rw[hy,hd]
theorem aCN{g:G}(b:Int)(f:Nat):ai g (aT4 b f) (.agg #[.int .i64 b,.func (.func f) #[] #[]]):=.agg _ _ rfl fun i a x ha hx=>by
 match i,ha,hx with
 |0,ha,hx=>simp at ha hx;subst ha;subst hx;exact .int _ _
 |1,ha,hx=>simp at ha hx;subst ha;subst hx;exact .fn f [] [] #[] #[] rfl rfl (fun _ _ _ h=>by simp at h) (fun _ _ _ h=>by simp at h)
 |i+2,ha,hx=>simp at ha
theorem aSJ:bC7.funcsOut=.map [(.int .i64 0,.agg [.lit (.int .i64 (-1)),.held [100,97,99,116,121,108,47,116,121,112,105,110,103,46,102,97,109,105,108,105,101,115,36,49]]),(.int .i64 1,.agg [.lit (.int .i64 3),.held [100,97,99,116,121,108,47,116,121,112,105,110,103,46,102,97,109,105,108,105,101,115,36,50]]),(.int .i64 2,.agg [.lit (.int .i64 4),.held [100,97,99,116,121,108,47,116,121,112,105,110,103,46,102,97,109,105,108,105,101,115,36,51]]),(.int .i64 3,.agg [.lit (.int .i64 4),.held [100,97,99,116,121,108,47,116,121,112,105,110,103,46,102,97,109,105,108,105,101,115,36,52]]),(.int .i64 4,.agg [.lit (.int .i64 4),.held [100,97,99,116,121,108,47,116,121,112,105,110,103,46,102,97,109,105,108,105,101,115,36,53]]),(.int .i64 5,.agg [.lit (.int .i64 5),.held [100,97,99,116,121,108,47,116,121,112,105,110,103,46,102,97,109,105,108,105,101,115,36,54]]),(.int .i64 6,.agg [.lit (.int .i64 6),.held [100,97,99,116,121,108,47,116,121,112,105,110,103,46,102,97,109,105,108,105,101,115,36,55]])]:=by kernel_rfl
theorem aVF{W:BL}(h:laidMetH Tryz.prog aHt W):ai (G0 CK W) (.ep aUy 0) (.pointer (Qr ⟨5,0,Qs⟩))/\∃cs t fz,(G0 CK W).whole 5=Qr (.cells cs t fz)/\cs.size=aUy.length:=by
 obtain⟨g,t,cs,fuel,p,hg,ht,hv,hd⟩:=h.funcs (n:= "dactyl/typing.families") (d:=bC7) (AN (i:=11) rfl);have h0:Tryz.prog.globalNamed "dactyl/typing.families" = Qr 5:=by kernel_rfl
 have h1:(Tryz.prog.globals[5]?).map (·.type)=Qr 297:=by kernel_rfl
 obtain rfl:=DZ (h0.symm.trans hg);obtain rfl:=DZ (h1.symm.trans ht);rw[aSJ]at hd;rcases Np Tryz.underlying297 hd with⟨_,hx⟩ | ⟨b,es,clock,n,_,ru,fb,_,F,hx⟩
 ·cases hx
 simp only[BK,Nq]at hx;have pz:=(sorted_perm (es.toList.map (NQ Tryz.prog 3 (elemAt (funcToken Tryz.prog) Tryz.prog W 0 (fun _=>Qt) Qt n 296)))).symm;rw[<- hx.1]at pz;obtain⟨xs,hp,re⟩:=aSI pz rfl;have ax:xs.length=7:=by have:=congrArg FN re;simpa using this
 have cn:=aVE hp F.reads re;obtain⟨x0,x1,x2,x3,x4,x5,x6,rfl⟩:∃x0 x1 x2 x3 x4 x5 x6,xs=[x0,x1,x2,x3,x4,x5,x6]:=by
  match xs,ax with
  | [x0,x1,x2,x3,x4,x5,x6],_=>exact⟨_,_,_,_,_,_,_,rfl⟩
 obtain⟨k0,v0⟩:=sA (f:=378) (by kernel_rfl) (cn 0 x0 rfl _ rfl);obtain⟨k1,v1⟩:=sA (f:=380) (by kernel_rfl) (cn 1 x1 rfl _ rfl);obtain⟨k2,v2⟩:=sA (f:=382) (by kernel_rfl) (cn 2 x2 rfl _ rfl);obtain⟨k3,v3⟩:=sA (f:=384) (by kernel_rfl) (cn 3 x3 rfl _ rfl);obtain⟨k4,v4⟩:=sA (f:=385) (by kernel_rfl) (cn 4 x4 rfl _ rfl);obtain⟨k5,v5⟩:=sA (f:=386) (by kernel_rfl) (cn 5 x5 rfl _ rfl);obtain⟨k6,v6⟩:=sA (f:=388) (by kernel_rfl) (cn 6 x6 rfl _ rfl);refine aQT h0 hv ru (.fmp _ _ b es clock _ fb (.inr ⟨hp,.i64,[0,1,2,3,4,5,6], ?_,by decide⟩) rfl rfl (fun i a x ha hx=>?_) fun i a x ha hx=>?_) rfl
 ·simp[k0,k1,k2,k3,k4,k5,k6]
 ·match i,ha,hx with
  |0,ha,hx=>simp at ha hx;subst ha;subst hx;rw[k0];exact .int _ _
  |1,ha,hx=>simp at ha hx;subst ha;subst hx;rw[k1];exact .int _ _
  |2,ha,hx=>simp at ha hx;subst ha;subst hx;rw[k2];exact .int _ _
  |3,ha,hx=>simp at ha hx;subst ha;subst hx;rw[k3];exact .int _ _
  |4,ha,hx=>simp at ha hx;subst ha;subst hx;rw[k4];exact .int _ _
  |5,ha,hx=>simp at ha hx;subst ha;subst hx;rw[k5];exact .int _ _
  |6,ha,hx=>simp at ha hx;subst ha;subst hx;rw[k6];exact .int _ _
  |i+7,ha,hx=>simp at hx
 match i,ha,hx with
 |0,ha,hx=>simp at ha hx;subst ha;subst hx;rw[v0];exact aCN _ _
 |1,ha,hx=>simp at ha hx;subst ha;subst hx;rw[v1];exact aCN _ _
 |2,ha,hx=>simp at ha hx;subst ha;subst hx;rw[v2];exact aCN _ _
 |3,ha,hx=>simp at ha hx;subst ha;subst hx;rw[v3];exact aCN _ _
 |4,ha,hx=>simp at ha hx;subst ha;subst hx;rw[v4];exact aCN _ _
 |5,ha,hx=>simp at ha hx;subst ha;subst hx;rw[v5];exact aCN _ _
 |6,ha,hx=>simp at ha hx;subst ha;subst hx;rw[v6];exact aCN _ _
 |i+7,ha,hx=>simp at hx
theorem aSK{W:BL}(h:laidMetH Tryz.prog aHt W):bM Tryz.prog aBx (G0 CK W) where
 row:=fun n row hn=>by
  have hn:aZA n=Qr row:=hn;unfold aZA at hn;split at hn
  ·cases hn;exact aIO h 9 0 146 rfl (by kernel_rfl) (by kernel_rfl) (by kernel_rfl) (by kernel_rfl) (by kernel_rfl)
  ·cases hn;exact aIO h 6 4 285 rfl (by kernel_rfl) (by kernel_rfl) (by kernel_rfl) (by kernel_rfl) (by kernel_rfl)
  ·cases hn;exact aIO h 7 1 205 rfl (by kernel_rfl) (by kernel_rfl) (by kernel_rfl) (by kernel_rfl) (by kernel_rfl)
  ·cases hn;exact aIO h 8 2 206 rfl (by kernel_rfl) (by kernel_rfl) (by kernel_rfl) (by kernel_rfl) (by kernel_rfl)
  ·cases hn;exact aIO h 10 3 206 rfl (by kernel_rfl) (by kernel_rfl) (by kernel_rfl) (by kernel_rfl) (by kernel_rfl)
  ·cases hn;exact aVF h
  ·cases hn;exact aIO h 2 7 392 rfl (by kernel_rfl) (by kernel_rfl) (by kernel_rfl) (by kernel_rfl) (by kernel_rfl)
  cases hn
 code:=fun a c=>Iff.rfl
end Go.Proofs.YtjomjibkahijoaaGreatDoor
end
section
namespace Go.Proofs.YtjomjibkahijoaaGreatDoor
open Go Go.ChangeMaps Go.ChangeShapes Go.WideShapes Go.ChangeAt Go.WideMaps Go.WideElems Go.RowKit Go.AM
theorem bFo{H:Type}{enc:BP×BE->H}{P:CU}{w:BL}{base:Nat}{spare:Nat->Bool}{held:Bool}{t1:BP}{args:Array BE}{ds:List (IK H)}{ps:List JI} (h:OX enc P w base spare held [t1] args.toList ds ps):∃v1 d1 p1,args = #[v1]/\ds=[d1]/\ps=p1/\IE enc P w base spare held t1 v1 d1 p1:=by obtain⟨v1,r1,d1,s1,p1,q1,e1,rfl,rfl,h1,h⟩:=trodAll_cons h;obtain⟨_,rfl,rfl⟩:=trodAll_nil h;exact⟨v1,d1,p1,by cases args;simp_all,rfl,by simp,h1⟩
theorem bFp{l:List Int}(hl:jP l)(g:G)(w:BL)(xs:List BE)(hw:WF g [] w)(hg:bM Tryz.prog aBx g) (hx:fU g [.sl Qu (l.map bF)] xs):Calls Tryz.prog 3 xs.toArray w fun e w'=>e=.returned (.bool Qt)/\∃g',Step g [] w g' [] w' []:=by
 obtain⟨k,a6⟩:=oM (bEG hl []);obtain⟨_,hc⟩:=(sU bBh k).1 3 _ [] _ _ _ a6 g w xs hw hg hx;refine hc.mono ?_;intro e w' he;cases e with
 |returned v=>obtain⟨g',h1,h2⟩:=he;cases h2;exact⟨rfl,g',h1⟩
 |_=>exact he.elim
theorem lifted(os:Os)(started:os.Started)(H:Type)(enc:BP×BE->H):ReturnsInHanded {} Tryz.checked os 3 .any (fun w args=>(Rows.pageFactsSpec.pre enc Tryz.prog Tryz.f3 [] Qu w args/\laidMetH Tryz.prog aHt w)/\sizedMet enc Tryz.prog Tryz.f3 (OpenSpec.ofChange Rows.pageFactsSpec) Qu w args) (Rows.pageFactsSpec.post enc Tryz.prog Tryz.f3 Qu Qt Qu Qu):=by
 refine returnsInHanded_of_change_and (C:=Tryz.checked) (X:=fun w _=>laidMetH Tryz.prog aHt w) (fun _ _ _ hh h=>h.of_heap hh) own started (by kernel_rfl) Tryz.func3
  (Jo (enc:=enc) (C:=Tryz.checked) (os:=os) (X:=fun w _=>laidMetH Tryz.prog aHt w) Qu (aB7 os) #[.slice Qs 0 0] 8 (aLt _) (World.shaped_of_ZipB (by kernel_rfl) (by kernel_rfl)) (by kernel_rfl) (by kernel_rfl) (by kernel_rfl) (aSG os _)) ?_
 intro W base args ds gs before N3 hW _ _ hL _;have kp:∀(j:Nat) t v,Tryz.f3.params[j]? = Qr t->args[j]? = Qr v->LW Tryz.prog W .any base t v:=N3;have Df:=hW;obtain⟨p,q,Jt,hV,rfl,Kq,Ci⟩:=hW;have hA:OX enc Tryz.prog W 0 (fun _=>Qt) Qt Tryz.f3.params.toList args.toList ds p:=Jt;rw[Tryz.params3]at hA kp;obtain⟨v1,d1,p1,rfl,rfl,rfl,h1⟩:=bFo hA;obtain⟨rfl,rfl⟩:=trodVars_none hV;obtain⟨l,hl,r1,k1⟩:=aSF (C:=CK) Tryz.underlying22 Tryz.underlying3 (by kernel_rfl) (kp 0 22 v1 rfl rfl) h1;clear Jt N3;have hx:fU (G0 CK W) [.sl Qu (l.map bF)] [v1]:=by
  refine⟨rfl,fun i c x hc hy=>?_⟩
  match i,hc,hy with
  |0,hc,hy=>cases hc;cases hy;exact r1
 refine (bFp hl (G0 CK W) W _ (wf0 CK W) (aSK hL) hx).mono fun e W' ⟨he,g',bd⟩=>?_;subst he;refine⟨_,rfl,_,_,_,[],p,[],Df, ?_, ?_,rfl,aQR bd _,fun hh=>by cases hh⟩
 ·exact trodAll_mk1 (shut_bool Tryz.underlying4 _)
 have hold:∀b,b<W.heap.size->W'.heap[b]? = W.heap[b]? := fun b hb=>aLr bd hb;have hlt:∀q∈p++[],(fun b=>decide (b<W.heap.size)) q.block=true:=fun q hq=>by simpa using Df.lt q hq
 rw[Tryz.params3];exact trodAll_mk1 (k1 W' _ hold (fun q hq=>hlt q (by simp[hq])))
end Go.Proofs.YtjomjibkahijoaaGreatDoor
end
