/- Part 1. -/
import Derived.Calls
import Derived.Orders
import Derived.KernelRfl
import Derived.Laws.World
import Derived.WalkKit
import Derived.ChangeKeysEq
import Derived.Laws.Tables
import Derived.Lib.ConvBytes
import Derived.MapKept
import Derived.CallsIn
import Derived.OrdersIn
import Derived.TacticsIn
import Derived.LoopNIn
import Derived.RangeFuncRecord
set_option linter.all false
open Array renaming getElem?_push->FE,length_toList->DI,ext'->JD,toList_map->GF,range->Ab,getElem?_eq_getElem->CM,getElem?_eq_none->DV,toList_append->EK,getElem?_toList->Av,getElem?_modify->DJ,size_append->FP
open Bool renaming or_eq_true->EA,and_eq_true->AI,false_eq_true->BX,true->Pa,false->Po
open Go renaming IntKind->DK,BinOp->MZ,Value->BE,MapEntry->FO,Addr->IA,World->BL,TypeId->BP,Program->CU,Operand->CA,Field->JU,undef->EE,Oper->HP,TypeDesc->Bb,run_underlying->BH,run_loadCells_list->OY,Edge->OO,run_equalIn_bool'->Hl,run_eqGuard_agg->Jq,eqGuard_at_nilFunc->OZ,TypeInfo->OH,grownCap_ge->IG,eqGuard_at_slice->PH,run_storeCells_cells->GH,size_zeroCells->HF,storeCells->IB
open Go.Array renaming range_zero'->NF
open Go.Builtin renaming len_->KY,max2->KZ,min2->LB,lenOf->Ba,firstCells->DY,append_->DA,zeroCells->CD,copy_->KJ
open Go.ByteArray renaming toList_eq->HA
open Go.Fence renaming wide->FJ
open Go.Instr renaming sureAddr->IS,sliceBound->JM,sliceBounds->GR,sliceAt->IX,slice->Hn,fieldAt->Gw,indexAt->IY,index->Bg,fill->FZ,buildSlice->JN,alloc->Cc,box->PU,findNow->DD,sameNow->GG,checkKey->IT,lookup->FY,makeSlice->EX,findKey->Aq,findAsking->Ac,keyThatStays->MR,mapUpdate->IH
open Go.IntKind renaming i64->AR,wrap->GA,bits->LK,signed->KC
open Go.Lib renaming bytesCells->HS
open Go.MapKept renaming run_getObj_map->FH,run_findKey->LY,run_setObj_map->LD
open Go.Op renaming bytesLess->Jr,equalIn->DC,eqFields->NB,equal->IF,eqItems->Ez,intArith->KI,intDiv->L6,intBits->LJ,intCmp->JB,stringOp->HM,unary->Hm
open Go.Result renaming andThen_ok->BJ,andThen->DL
open Go.Sem renaming run_bind->BS,run_ite->MP,run_pure->CB
open Go.Utf8 renaming encode->MK,valid->PT
open Go.Value renaming int->EJ,string->Bf
open Go.World renaming cell?->EF,frozen?->OS,alloc_eq->OG,setCell->FR,frozen?_setCells->EI,cell?_setCells_out->BV,cell?_setCells_in->CQ
open Int renaming eq_ofNat_of_zero_le->DN,toNat_natCast->AT
open List renaming replicate->AX,range'->FM,getElem?_eq_some_iff->AH,mem_append_left->CZ,mem_append->AY,mem_singleton->CG,range->GZ,getElem?_map->BN,getElem?_take->CF,getElem?_drop->DF,mem_of_mem_take->FA,mem_of_mem_drop->FX,getElem_mem->AS,drop_drop->OP,mem_iff_getElem?->CO,mem_of_getElem?->AN,getElem?_eq_getElem->AP,ext_getElem?->HN,getElem?_append->DG,getElem?_set->FB,length_take->HB,length_append->BA,map_cons->BI,mem_cons_of_mem->BZ,mem_or_eq_of_mem_set->GI,all_eq_true->AO,mem_replicate->GS,mem_map->DB,take_of_length_le->CH,length_drop->NS,eq_nil_of_length_eq_zero->DP,length_map->AF,mem_cons->BD,mem_append_right->CX,nil_append->CW,size_toArray->FT,length_nil->AZ,getElem_of_mem->MQ,getElem?_append_left->BM,getElem?_append_right->BU
open Nat renaming le_refl->AQ,le_trans->HX,lt_of_lt_of_le->FU,add_assoc->EU,add_zero->DU,mul_one->FK,mul_le_mul_right->BO,mul_comm->HJ,mul_add_div->OR,zero_add->BC,add_mul->CS,one_mul->HY,div_lt_iff_lt_mul->Bl,mod_lt->Bo,div_add_mod->Bn,min_eq_left->Gy,mul_le_mul_left->JC,le_mul_of_pos_right->IC,zero_le->FF,sub_mul->IW,min->Ao,zero_min->Bh
open Option renaming isSome_iff_exists->HT,bind_some->FG,map_some->DE,some->N1,none->N2
open Option.some renaming injEq->AG,inj->DZ
open Prod renaming fst->EM,snd->GQ
open UInt8 renaming ofNat->CN
def Vx{c:Prop}{h:Decidable c}(k:c){α:Sort _}{t e:α}:ite c t e=t:=if_pos k
def Vw{c:Prop}{h:Decidable c}(k:¬c){α:Sort _}{t e:α}:ite c t e=e:=if_neg k
def Vu{α:Sort _}{x:Decidable True}(t e:α):ite True t e=t:=if_true t e
def Vt{α:Sort _}{x:Decidable False}(t e:α):ite False t e=e:=if_false t e
def Vy{α:Type _}[BEq α][ReflBEq α](a:α):(a==a)=true:=beq_self_eq_true a
def Vv{a:Prop}{b:Prop}(h:a)(k:¬a):b:=absurd h k
section
namespace Go.AM
open Go
theorem uWa{p:Prop}(h:p:=by grind):p:=h
theorem uWb{p:Prop}(h:p:=by simp only[go_sem,seval,aP,hlt]):p:=h
theorem uWc{p:Prop}(h:p:=by simp only[go_sem,seval]):p:=h
theorem uWd{p:Prop}(h:p:=by simp only[go_sem,seval,eK,hlt,ho]):p:=h
theorem uWe{p:Prop}(h:p:=by simpa using hb):p:=h
theorem uWf{p:Prop}(h:p:=by simpa using e3):p:=h
theorem uWg{p:Prop}(h:p:=by simpa using h):p:=h
theorem uWh{p:Prop}(h:p:=by simpa using e1):p:=h
theorem uWi{p:Prop}(h:p:=by simp[binOp]):p:=h
theorem uWj{p:Prop}(h:p:=by simpa using h2):p:=h
theorem uWk{p:Prop}(h:p:=by simpa using h1):p:=h
theorem uWl{p:Prop}(h:p:=by simp_all):p:=h
theorem uWm{p:Prop}(h:p:=by simpa [AV.under]using hu):p:=h
theorem uWn{p:Prop}(h:p:=by simpa using hx):p:=h
theorem uWo{p:Prop}(h:p:=by simpa using hl):p:=h
theorem uWp{p:Prop}(h:p:=by simpa using e2):p:=h
theorem uWq{p:Prop}(h:p:=by simp[execOp,ej]):p:=h
theorem uWr{p:Prop}(h:p:=by simpa [eU]using Step.refl hw):p:=h
theorem uWs{p:Prop}(h:p:=by simpa using hk):p:=h
theorem uWt{p:Prop}(h:p:=by simpa using e5):p:=h
theorem uWu{p:Prop}(h:p:=by simpa using hc):p:=h
theorem uWv{p:Prop}(h:p:=by simpa using hlt):p:=h
theorem uWw{p:Prop}(h:p:=by simp only[execOp,hX,ei,BS,vE ht hk _ _ _ hn.1 hn.2,BJ,CB]):p:=h
theorem uWx{p:Prop}(h:p:=by simpa using ha):p:=h
theorem uWy{p:Prop}(h:p:=by simp only[go_sem,seval,f3]):p:=h
theorem uWz{p:Prop}(h:p:=by simp[lJ,aBp,h1]):p:=h
theorem uWA{p:Prop}(h:p:=by simp[kJ]):p:=h
theorem uWB{p:Prop}(h:p:=by simpa using hy):p:=h
theorem uWC{p:Prop}(h:p:=by simpa using gr):p:=h
theorem uWD{p:Prop}(h:p:=by simpa using e6):p:=h
theorem uWE{p:Prop}(h:p:=by simpa using e0):p:=h
theorem uWF{p:Prop}(h:p:=by rw[Wb]):p:=h
theorem uWG{p:Prop}(h:p:=by simp[aE,cV,aF,gO]):p:=h
theorem uWH{p:Prop}(h:p:=by simpa using z):p:=h
theorem uWI{p:Prop}(h:p:=by simpa using dj.1):p:=h
theorem uWJ{p:Prop}(h:p:=by simpa [eU]using Step.nf hw hs.frame.1 (λb hb=>hs.frame.2 b hb λo ho=>by cases ho) kh):p:=h
theorem uWK{p:Prop}(h:p:=by simp[okK,z1,z2]):p:=h
theorem uWL{p:Prop}(h:p:=by simp only[go_sem,seval,cS]):p:=h
theorem uWM{p:Prop}(h:p:=by simp[execOp,resolve,invoke,builtin,hr]):p:=h
theorem uWN{p:Prop}(h:p:=by simp only[AV.under,Rz]):p:=h
theorem uWO{p:Prop}(h:p:=by simpa using h.1):p:=h
theorem uWP{p:Prop}(h:p:=by simp[aIR,e]):p:=h
theorem uWQ{p:Prop}(h:p:=by simpa using hj):p:=h
theorem uWR{p:Prop}(h:p:=by simpa using h3):p:=h
theorem uWS{p:Prop}(h:p:=by simpa using h0):p:=h
theorem uWT{p:Prop}(h:p:=by simp[G.setObj]):p:=h
theorem uWU{p:Prop}(h:p:=by simp[hi]):p:=h
theorem uWV{p:Prop}(h:p:=by simp[gu]):p:=h
theorem uWW{p:Prop}(h:p:=by simp[execOp,Cc,zeroValue,typeInfo,hi,tq,newVar,newRow]):p:=h
theorem uWX{p:Prop}(h:p:=by simp only[go_sem,seval,f5]):p:=h
theorem uWY{p:Prop}(h:p:=by cases new with | nil=>exact Vv rfl hn | cons a r=>rfl):p:=h
theorem uWZ{p:Prop}(h:p:=by cases e):p:=h
theorem uXa{p:Prop}(h:p:=by simp[EF,ld]):p:=h
theorem uXb{p:Prop}(h:p:=by rw[hi,aBh hlt sf,he,BR]):p:=h
theorem uXc{p:Prop}(h:p:=by grind [execOp,BS,BJ,CB]):p:=h
theorem uXd{p:Prop}(h:p:=by simpa using hz):p:=h
theorem uXe{p:Prop}(h:p:=by simpa using he):p:=h
theorem uXf{p:Prop}(h:p:=by simpa using e4):p:=h
theorem uXg{p:Prop}(h:p:=by simp[df.bm,ht]):p:=h
theorem uXh{p:Prop}(h:p:=by simpa using hl.1.symm):p:=h
theorem uXi{p:Prop}(h:p:=by simp[h]):p:=h
theorem uXj{p:Prop}(h:p:=by simp[hr8]):p:=h
theorem uXk{p:Prop}(h:p:=by simp[hlt]):p:=h
theorem uXl{p:Prop}(h:p:=by simp[bH,hid]):p:=h
theorem uXm{p:Prop}(h:p:=by rw[mn,aF,aZ]):p:=h
variable {parts:Array (Nat×CA)}{vs:Array BE}{fields:Array JU}{v u:BE}{w w':BL}{t e ty:BP}{d:Bb}{nl mx:Bool}{s:ByteArray}{X I:CA}{P:CU}{fd:JU}{xs ys:List BE}{op:MZ}{b i o f k n off len cap:Nat}{HI:Option CA}{p:Prop}{α:Type}
def omT(h:p:=by omega):p:=h
def rfT(h:p:=by rfl):p:=h
def deT(h:p:=by decide):p:=h
def siT(h:p:=by simp):p:=h
def bIv(h:p:=by kernel_rfl):p:=h
def soT(h:p:=by (simp;omega)):p:=h
inductive AV where
 |undef
 |bool (b:Bool)
 |int (k:DK) (n:Int)
 |str (l:List UInt8)
 |fn (f:Nat) (first ay:List AV)
 |bx
 |ptr (o v off:Nat)
 |vp (o v n k i off:Nat)
 |nilPtr
 |ep (row:List AV) (off:Nat)
 |sl (full:Bool) (rows:List (List AV))
 |sr (o v n:Nat)
 |srv (o v n k lo:Nat)
 |srw (o v n hi:Nat)
 |ar
 |mp (o v:Nat)
 |fmp (ks vs:List AV)
 |yld (o v:Nat)
 |own (k:Nat) (rows:List (List AV))
 |agg (cs:List AV)
 |tup (vs:List AV)
 |ifc (t:Nat) (v:AV)
 |bj
 deriving Inhabited
variable {a av y z:AV}
inductive aa where
 |tmp (t:Nat)
 |const (v:AV)
 deriving Inhabited
variable {lo:Option aa}{x:aa}
inductive Tag where
 |bool
 |int
 |str
 deriving Inhabited,DecidableEq
variable {tag:Tag}
inductive vd where
 |no
 |bool
 |func
 |ptr
 |iface
 |cells (tags:List Tag)
 deriving Inhabited,DecidableEq
inductive tm where
 |toInt (k:DK)
 |same
 |s2b
 |b2s
 |i2s
 deriving Inhabited,DecidableEq
inductive df where
 |bad
 |mov (x:aa)
 |pick (c a b:aa)
 |alloc (zs:List AV)
 |gv (ty:Nat) (zs:List AV)
 |box (k:Nat) (x:aa)
 |tbx (ty k:Nat) (x:aa)
 |build (zs:List AV) (parts:List (Nat×Nat×aa))
 |bsl (k:Nat) (zs:List AV) (n:Nat) (parts:List (Nat×aa))
 |load (k:Nat) (agg:Bool) (x:aa)
 |store (k:Nat) (x v:aa)
 |cz (x:aa)
 |ky (neg:Bool) (x:aa)
 |bin (op:MZ) (ek:vd) (x y:aa)
 |un (op:UnOp) (x:aa)
 |conv (c:tm) (x:aa)
 |mkf (f:Nat) (first ay:List aa)
 |mks (k bytes:Nat) (zs:List AV) (len cap:aa)
 |fm (x:aa) (lo hi:Option aa)
 |gw (k:Nat) (x:aa) (lo hi mx:Option aa)
 |view (k:Nat) (x:aa) (lo:Option aa)
 |na (n k:Nat) (x:aa) (lo hi mx:Option aa)
 |fa (off:Nat) (x:aa)
 |fld (off k:Nat) (agg:Bool) (x:aa)
 |iaV (x i:aa) (k:Nat)
 |iaA (n k:Nat) (x i:aa)
 |ixS (x i:aa)
 |ixA (n k:Nat) (agg:Bool) (x i:aa)
 |fg (x:aa)
 |Wk (x:aa)
 |zb (n:Nat)
 |mm (mx:Bool) (xs:List aa)
 |app (k bytes:Nat) (s x:aa)
 |ni (ty k bytes:Nat) (s x:aa)
 |ext (i:Nat) (x:aa)
 |dm (f:aa) (args:List aa)
 |ee (f:aa) (args:List aa)
 |jn
 |ins (m k v:aa)
 |look (zero:AV) (m k:aa) (ok:Bool)
 |Fs (m k v:aa)
 |wy (zero:AV) (m k:aa) (ok:Bool)
 |km (t:Nat) (x:aa)
 |Rd (tab:List (Nat×Nat)) (x:aa) (args:List aa)
 |cpy (k:Nat) (x y:aa)
 deriving Inhabited
structure ae where
 dst:Option Nat
 op:df
 guard:Option (Option Nat×Bool)
 pre:List Nat
 deriving Inhabited
inductive ag where
 |skip
 |bad
 |region (draw:Bool) (ops:List ae)
 |seq (a b:ag)
 |cond (c:aa) (a b:ag)
 |block (id:Nat) (c:ag)
 |loop (c:ag)
 |exit (id:Nat)
 |ret
 |frz (ts:List (Nat×Nat))
 |dz (x:aa) (ps:List Nat) (body:ag)
 deriving Inhabited
inductive bf where
 |normal
 |exit (id:Nat)
 |ret
 deriving DecidableEq,Inhabited
inductive ah where
 |gone (v:Nat)
 |box (v:Nat) (cells:List AV)
 |cw (v ty:Nat) (cells:List AV)
 |vec (v k:Nat) (rows:List (List AV))
 |oz (v ty k:Nat) (rows:List (List AV))
 |map (v:Nat) (es:List (AV×AV))
 |rnd (v base:Nat) (sites ps:List Nat) (body:ag) (ρ:List AV) (busy:Bool) (pend:Option bf)
 deriving Inhabited
def ah.ver:ah->Nat
 |.gone v | .box v _ | .cw v _ _ | .vec v _ _ | .oz v _ _ _ | .map v _=>v
 |.rnd v _ _ _ _ _ _ _=>v
inductive ou where
 |tmp (t:Nat)
 |cell (t k:Nat) (agg:Bool)
 deriving Inhabited
structure bw where
 ntmps:Nat
 sites:List Nat
 results:List ou
 body:ag
 deriving Inhabited
abbrev aIP:=List AV->List ah->Option (AV×List (Nat×ah)×List ah)
structure af where
 fn:Nat->Option bw
 bq:Nat->Option aIP
def aa.ev(ρ:List AV):aa->AV
 |.tmp t=>(ρ[t]?).getD .undef
 |.const v=>v
def AV.aj:AV->AV
 |.sl _ rows=>.sl Po rows
 |v=>v
def AV.strip:AV->AV
 |.agg cs=>.agg (cs.map AV.aj)
 |.tup vs=>.tup (vs.map fun
   |.agg cs=>.agg (cs.map AV.aj)
   |v=>v.aj)
 |v=>v.aj
def AV.cells:AV->List AV
 |.agg cs=>cs
 |v=>[v]
def AV.atom:AV->Bool
 |.bool _ | .int _ _ | .str _ | .bx | .nilPtr | .bj | .ar=>Pa
 |_=>Po
def AV.tn:AV->Bool
 |.bool _ | .int _ _ | .str _ | .bx | .nilPtr | .ptr .. | .undef=>Pa
 |_=>Po
def AV.atomic:AV->Bool
 |.agg cs=>cs.all AV.atom
 |.tup vs=>vs.all AV.atom
 |v=>v.atom
def AV.still:AV->Bool
 |.sr .. | .srv .. | .srw .. | .own .. | .agg _ | .tup _ | .undef=>Po
 |_=>Pa
def AV.ak:AV->Bool
 |.srv .. | .srw .. | .own .. | .agg _ | .tup _ | .undef=>Po
 |_=>Pa
mutual
def AV.under(n:Nat):AV->Bool
 |.fn _ xs ys=>dJ n xs&&dJ n ys
 |.ptr o _ _=>decide (o<n)
 |.vp o _ _ _ _ _=>decide (o<n)
 |.sr o _ _=>decide (o<n)
 |.srv o _ _ _ _=>decide (o<n)
 |.srw o _ _ _=>decide (o<n)
 |.mp o _=>decide (o<n)
 |.fmp ks vs=>dJ n ks&&dJ n vs
 |.yld o _=>decide (o<n)
 |.ep row _=>dJ n row
 |.sl _ rows=>eR n rows
 |.own _ rows=>eR n rows
 |.agg cs=>dJ n cs
 |.tup vs=>dJ n vs
 |.ifc _ v=>v.under n
 |_=>Pa
def dJ(n:Nat):List AV->Bool
 | []=>Pa
 |v::r=>v.under n&&dJ n r
def eR(n:Nat):List (List AV)->Bool
 | []=>Pa
 |l::r=>dJ n l&&eR n r
end
def ah.under(n:Nat):ah->Bool
 |.gone _=>Pa
 |.box _ cs=>dJ n cs
 |.cw _ _ cs=>dJ n cs
 |.vec _ _ rows=>eR n rows
 |.oz _ _ _ rows=>eR n rows
 |.map _ es=>es.all λ(k,v)=>k.under n&&v.under n
 |.rnd _ _ _ _ _ ρ _ _=>dJ n ρ
def aA2(H:List ah):AV->Option (AV×List Nat)
 |.sr o v n=>
  match H[o]? with
  |some (.vec v' _ rows)=>if v'=v/\rows.length=n/\rows.all (λr=>r.all AV.still)then N1 (.sl Po rows,[o])else N2
  |_=>N2
 |.own .. | .srv .. | .srw .. | .tup _=>N2
 |v=>N1 (v,[])
def aIQ(H:List ah):List AV->Option (List AV×List Nat)
 | []=>N1 ([],[])
 |a::r=>
  match aA2 H a with
  |none=>N2
  |some (a',l)=>
   match aIQ H r with
   |none=>N2
   |some (r',l')=>N1 (a'::r',l++l')
def dw(H:List ah):AV->Option (AV×List Nat)
 |.agg cs=>match aIQ H cs with
  |some (cs',l)=>N1 (.agg cs',l)
  |none=>N2
 |.tup _=>N2
 |v=>aA2 H v
def kA(H:List ah):List AV->Option (List AV×List Nat)
 | []=>N1 ([],[])
 |a::r=>
  match dw H a with
  |none=>N2
  |some (a',l)=>
   match kA H r with
   |none=>N2
   |some (r',l')=>N1 (a'::r',l++l')
def dL(H:List ah):List Nat->List ah
 | []=>H
 |o::r=>dL (H.set o (.gone ((H[o]?).elim 0 ah.ver))) r
def aFH(k:Nat):(n:Nat)->List AV->List (List AV)
 |0,_=>[]
 |n+1,l=>l.take k::aFH k n (l.drop k)
def bC(H:List ah)(k:Nat):AV->Option (List AV)
 |.ptr o v off=>
  match H[o]? with
  |some (.box v' cells)=>if v'=v/\off+k<=cells.length then N1 ((cells.drop off).take k)else N2
  |some (.cw v' _ cells)=>if v'=v/\off+k<=cells.length then N1 ((cells.drop off).take k)else N2
  |_=>N2
 |.vp o v n k1 i off=>
  match H[o]? with
  |some (.vec v' k2 rows)=>
   if v'=v/\rows.length=n/\k2=k1 then
    match rows[i]? with
    |some row=>if off+k<=row.length then N1 ((row.drop off).take k)else N2
    |none=>N2
   else N2
  |_=>N2
 |.ep row off=>if off+k<=row.length then N1 ((row.drop off).take k)else N2
 |_=>N2
def eD(agg:Bool):List AV->Option AV
 |cs=>if agg then N1 (.agg cs)else match cs with
  | [v]=>N1 v
  |_=>N2
def aC6:List UInt8->List UInt8->Bool
 |_,[]=>Po
 | [],_::_=>Pa
 |a::x,b::y=>a<b || (a==b&&aC6 x y)
def aCO:Tag->AV->AV->Option Bool
 |.bool,.bool a,.bool b=>N1 (a==b)
 |.int,.int k a,.int k' b=>if k=k' then N1 (a==b)else N2
 |.str,.str a,.str b=>N1 (a==b)
 |_,_,_=>N2
def lP:List Tag->List AV->List AV->Option Bool
 | [],[],[]=>N1 Pa
 |t::ts,a::x,b::y=>
  match aCO t a b with
  |some Pa=>lP ts x y
  |some Po=>match lP ts x y with
   |some _=>N1 Po
   |none=>N2
  |none=>N2
 |_,_,_=>N2
def tN:vd->AV->AV->Option Bool
 |.bool,.bool a,.bool b=>N1 (a==b)
 |.cells ts,.agg xs,.agg ys=>lP ts xs ys
 |.func,.bx,.bx=>N1 Pa
 |.func,.fn ..,.bx=>N1 Po
 |.func,.bx,.fn ..=>N1 Po
 |.ptr,.nilPtr,.nilPtr=>N1 Pa
 |.iface,.bj,.bj=>N1 Pa
 |.iface,.ifc ..,.bj=>N1 Po
 |.iface,.bj,.ifc ..=>N1 Po
 |_,_,_=>N2
def kJ(op:MZ)(ek:vd):AV->AV->Option AV
 |.int k a,.int k' b=>
  match op with
  |.shl=>if b<0 then N2 else N1 (.int k (k.wrap (a*2 ^ (min b.toNat k.bits))))
  |.shr=>if b<0 then N2 else N1 (.int k (a.fdiv (2 ^ (min b.toNat k.bits))))
  |.add=>if k=k' then N1 (.int k (k.wrap (a+b)))else N2
  |.sub=>if k=k' then N1 (.int k (k.wrap (a - b)))else N2
  |.mul=>if k=k' then N1 (.int k (k.wrap (a*b)))else N2
  |.quo=>if k=k'/\b≠0 then N1 (.int k (k.wrap (a.tdiv b)))else N2
  |.rem=>if k=k'/\b≠0 then N1 (.int k (a.tmod b))else N2
  |.and=>if k=k' then N1 (.int k (k.wrap (BitVec.ofInt k.bits a &&& BitVec.ofInt k.bits b).toNat))else N2
  |.or=>if k=k' then N1 (.int k (k.wrap (BitVec.ofInt k.bits a ||| BitVec.ofInt k.bits b).toNat))else N2
  |.xor=>if k=k' then N1 (.int k (k.wrap (BitVec.ofInt k.bits a ^^^ BitVec.ofInt k.bits b).toNat))else N2
  |.eql=>if k=k' then N1 (.bool (a==b))else N2
  |.neq=>if k=k' then N1 (.bool (a != b))else N2
  |.lss=>if k=k' then N1 (.bool (decide (a<b)))else N2
  |.leq=>if k=k' then N1 (.bool (decide (a<=b)))else N2
  |.gtr=>if k=k' then N1 (.bool (decide (a>b)))else N2
  |.geq=>if k=k' then N1 (.bool (decide (a ≥ b)))else N2
  |_=>N2
 |.str a,.str b=>
  match op with
  |.add=>if a.length+b.length<=4611686018427387904 then N1 (.str (a++b))else N2
  |.eql=>N1 (.bool (a==b))
  |.neq=>N1 (.bool (a != b))
  |.lss=>N1 (.bool (aC6 a b))
  |.leq=>N1 (.bool (aC6 a b || a==b))
  |.gtr=>N1 (.bool !(aC6 a b || a==b))
  |.geq=>N1 (.bool !aC6 a b)
  |_=>N2
 |x,y=>
  match op with
  |.eql=>(tN ek x y).map .bool
  |.neq=>(tN ek x y).map λb=>.bool !b
  |_=>N2
def unV(op:UnOp):AV->Option AV
 |.int k n=>match op with
  |.neg=>N1 (.int k (k.wrap (0 - n)))
  |.xor=>N1 (.int k (k.wrap (BitVec.ofInt k.bits (if k.signed then -1 else k.max) ^^^ BitVec.ofInt k.bits n).toNat))
  |_=>N2
 |.bool b=>match op with
  |.not=>N1 (.bool !b)
  |_=>N2
 |_=>N2
def cM:List (List AV)->Option (List UInt8)
 | []=>N1 []
 | [.int .u8 n]::r=>(cM r).map (CN n.toNat :: ·)
 |_=>N2
def aJ(l:List UInt8):List (List AV):=l.map λb=>[.int .u8 b.toNat]
def dF(k:Nat):List (List AV)->Bool
 | []=>Pa
 |r::_=>r.length==k
def dO(H:List ah):AV->Option (List (List AV))
 |.sl _ rows=>N1 rows
 |.ar=>N1 []
 |.sr o v n=>
  match H[o]? with
  |some (.vec v' _ rows)=>if v'=v/\rows.length=n then N1 rows else N2
  |some (.oz v' _ _ rows)=>if v'=v/\rows.length=n then N1 rows else N2
  |_=>N2
 |.srv o v n k lo=>
  match H[o]? with
  |some (.vec v' k' rows)=>if v'=v/\rows.length=n/\k'=k then N1 (rows.drop lo)else N2
  |_=>N2
 |.srw o v n hi=>
  match H[o]? with
  |some (.vec v' _ rows)=>if v'=v/\rows.length=n/\hi<=n then N1 (rows.take hi)else N2
  |_=>N2
 |_=>N2
def pT(H:List ah):tm->AV->Option AV
 |.toInt k,.int _ n=>N1 (.int k (k.wrap n))
 |.same,.str l=>N1 (.str l)
 |.s2b,.str l=>if l.length<=1099511627776 then N1 (.sl Po (aJ l))else N2
 |.b2s,x=>match dO H x with
  |some rows=>(cM rows).map .str
  |none=>N2
 |.i2s,.int _ n=>if 0<=n/\n<128 then N1 (.str [CN n.toNat])else N2
 |_,_=>N2
def iL(dflt most:Nat):Option AV->Option Nat
 |none=>N1 dflt
 |some (.int _ n)=>if 0<=n/\n<=most then N1 n.toNat else N2
 |some _=>N2
def dU(len:Nat)(lo hi mx:Option AV):Option (Nat×Nat×Nat):=
 match iL len len mx with
 |none=>N2
 |some m=>match iL len m hi with
  |none=>N2
  |some h=>match iL 0 h lo with
   |none=>N2
   |some l=>N1 (l,h,m)
def nV(cells:List AV)(off:Nat)(vs:List AV):List AV:=cells.take off++vs++cells.drop (off+vs.length)
def iA(ρ:List AV)(cells:List AV):List (Nat×Nat×aa)->Option (List AV)
 | []=>N1 cells
 | (off,size,x)::r=>
  let vs:=(x.ev ρ).cells
  if vs.length=size/\off+size<=cells.length/\vs.all AV.ak then iA ρ (nV cells off vs) r else N2
def lW(ρ:List AV)(k:Nat)(rows:List (List AV)):List (Nat×aa)->Option (List (List AV))
 | []=>N1 rows
 | (i,x)::r=>
  let vs:=(x.ev ρ).strip.cells
  if vs.length=k/\i<rows.length/\vs.all AV.still then lW ρ k (rows.set i vs) r else N2
def jW(ρ:List AV)(k:Nat)(rows:List (List AV)):List (Nat×aa)->Option (List (List AV))
 | []=>N1 rows
 | (i,x)::r=>
  let vs:=(x.ev ρ).strip.cells
  if vs.length=k/\i<rows.length/\vs.all AV.ak then jW ρ k (rows.set i vs) r else N2
def mm2(mx:Bool):AV->AV->Option AV
 |.int k a,.int k' b=>if k=k' then N1 (.int k (if mx then (if b>a then b else a)else (if b<a then b else a)))else N2
 |_,_=>N2
def aEE(mx:Bool):AV->List AV->Option AV
 |x,[]=>N1 x
 |x,y::r=>match mm2 mx x y with
  |some z=>aEE mx z r
  |none=>N2
def mmV(mx:Bool):List AV->Option AV
 | []=>N2
 |x::r=>aEE mx x r
def aJK:AV->AV->Option Bool
 |.int k a,.int k' b=>if k=k' then N1 (a==b)else N2
 |_,_=>N2
def findKey(k:AV):List (AV×AV)->Nat->Option (Option (Nat×AV))
 | [],_=>N1 N2
 | (k',v)::r,i=>
  match aJK k k' with
  |some Pa=>N1 (N1 (i,v))
  |some Po=>findKey k r (i+1)
  |none=>N2
def bJi:AV->AV->Option Bool
 |.agg [.str a,.int .i64 x],.agg [.str b,.int .i64 y]=>N1 (a==b&&x==y)
 |_,_=>N2
def bIO(k:AV):List (AV×AV)->Nat->Option (Option (Nat×AV))
 | [],_=>N1 N2
 | (k',v)::r,i=>
  match bJi k k' with
  |some Pa=>N1 (N1 (i,v))
  |some Po=>bIO k r (i+1)
  |none=>N2
def bJB(zero:AV)(ok:Bool):Option (Option (Nat×AV))->Option AV
 |some (N1 (_,x))=>if ok then N1 (.tup [x,.bool Pa])else N1 x
 |some N2=>if ok then N1 (.tup [zero,.bool Po])else N1 zero
 |none=>N2
def bP(n bytes:Nat):Bool:=decide (n*(bytes+1)<=1099511627776)
def evR(H:List ah)(ρ:List AV):df->Option AV
 |.mov x=>N1 (x.ev ρ)
 |.pick c a b=>match c.ev ρ with
  |.bool t=>N1 (if t then a.ev ρ else b.ev ρ)
  |_=>N2
 |.alloc zs=>if zs.all AV.still then N1 (.ep (zs.map AV.aj) 0)else N2
 |.box k x=>
  let vs:=(x.ev ρ).strip.cells
  if vs.length=k/\vs.all AV.still then N1 (.ep vs 0)else N2
 |.build zs parts=>(iA ρ zs parts).map .agg
 |.bsl k zs n parts=>(lW ρ k (AX n zs) parts).map (.sl Pa)
 |.mks _ bytes zs len cap=>match len.ev ρ,cap.ev ρ with
  |.int _ n,.int _ c=>if 0<=n/\n=c/\bP n.toNat bytes then N1 (.sl Pa (AX n.toNat (zs.map AV.aj)))else N2
  |_,_=>N2
 |.load k agg x=>match bC H k (x.ev ρ)with
  |some cs=>eD agg cs
  |none=>N2
 |.cz x=>match x.ev ρ with
  |.ptr o v off=>N1 (.ptr o v off)
  |.vp o v n k i off=>N1 (.vp o v n k i off)
  |.ep row off=>N1 (.ep row off)
  |.fn f a b=>N1 (.fn f a b)
  |_=>N2
 |.ky neg x=>match x.ev ρ with
  |.sl _ (_::_) | .sr ..=>N1 (.bool neg)
  |.ar=>N1 (.bool !neg)
  |_=>N2
 |.bin op ek x y=>kJ op ek (x.ev ρ) (y.ev ρ)
 |.un op x=>unV op (x.ev ρ)
 |.conv c x=>pT H c (x.ev ρ)
 |.mkf f first ay=>if (first.map (aa.ev ρ)).all AV.still&&(ay.map (aa.ev ρ)).all AV.still then N1 (.fn f (first.map λx=>(x.ev ρ).aj) (ay.map λx=>(x.ev ρ).aj))else N2
 |.fm x lo hi=>match x.ev ρ with
  |.str s=>match dU s.length (lo.map (aa.ev ρ)) (hi.map (aa.ev ρ)) N2 with
   |some (l,h,_)=>N1 (.str ((s.take h).drop l))
   |none=>N2
  |_=>N2
 |.gw k x lo hi mx=>match x.ev ρ with
  |.sl full rows=>match dU rows.length (lo.map (aa.ev ρ)) (hi.map (aa.ev ρ)) (mx.map (aa.ev ρ))with
   |some (l,h,m)=>if dF k rows&&(!mx.isSome || hi.isSome)then N1 (.sl (decide (m=h)&&(mx.isSome || full)) ((rows.take h).drop l))else N2
   |none=>N2
  |.sr o v n=>if mx.isSome then N2 else match dU n (lo.map (aa.ev ρ)) (hi.map (aa.ev ρ)) N2 with
   |some (l,h,_)=>if hi.isSome&&decide (l=0)then N1 (.srw o v n h)else if h=n then N1 (.srv o v n k l)else N2
   |none=>N2
  |_=>N2
 |.view k x lo=>match x.ev ρ with
  |.sl full rows=>match dU rows.length (lo.map (aa.ev ρ)) N2 N2 with
   |some (l,h,m)=>if dF k rows then N1 (.sl (decide (m=h)&&full) ((rows.take h).drop l))else N2
   |none=>N2
  |.sr o v n=>match H[o]? with
   |some (.vec v' _ rows)=>if v'=v/\rows.length=n then match iL 0 n (lo.map (aa.ev ρ))with
     |some l=>N1 (.srv o v n k l)
     |none=>N2
    else N2
   |_=>N2
  |_=>N2
 |.na n k x lo hi mx=>match x.ev ρ with
  |.ep row off=>if off+n*k<=row.length then
    let rows:=aFH k n (row.drop off)
    match dU n (lo.map (aa.ev ρ)) (hi.map (aa.ev ρ)) (mx.map (aa.ev ρ))with
    |some (l,h,m)=>if !mx.isSome || hi.isSome then N1 (.sl (decide (m=h)) ((rows.take h).drop l))else N2
    |none=>N2
   else N2
  |_=>N2
 |.fa off x=>match x.ev ρ with
  |.ptr o v off0=>N1 (.ptr o v (off0+off))
  |.vp o v n k i off0=>N1 (.vp o v n k i (off0+off))
  |.ep row off0=>N1 (.ep row (off0+off))
  |_=>N2
 |.fld off k agg x=>match x.ev ρ with
  |.agg cs=>if off+k<=cs.length then eD agg ((cs.drop off).take k)else N2
  |_=>N2
 |.iaV x i k=>match x.ev ρ,i.ev ρ with
  |.sl _ rows,.int _ n=>if 0<=n then match rows[n.toNat]? with
    |some row=>if row.length=k then N1 (.ep row 0)else N2
    |none=>N2
   else N2
  |.sr o v len,.int _ n=>if 0<=n/\n<len then N1 (.vp o v len k n.toNat 0)else N2
  |_,_=>N2
 |.iaA len k x i=>match x.ev ρ,i.ev ρ with
  |.ptr o v off,.int _ n=>if 0<=n/\n<len then N1 (.ptr o v (off+n.toNat*k))else N2
  |.ep row off,.int _ n=>if 0<=n/\n<len then N1 (.ep row (off+n.toNat*k))else N2
  |.vp o v m k2 r off,.int _ n=>if 0<=n/\n<len then N1 (.vp o v m k2 r (off+n.toNat*k))else N2
  |_,_=>N2
 |.ixS x i=>match x.ev ρ,i.ev ρ with
  |.str s,.int _ n=>if 0<=n then match s[n.toNat]? with
    |some b=>N1 (.int .u8 b.toNat)
    |none=>N2
   else N2
  |_,_=>N2
 |.ixA len k agg x i=>match x.ev ρ,i.ev ρ with
  |.agg cs,.int _ n=>if 0<=n/\n<len/\n.toNat*k+k<=cs.length then eD agg ((cs.drop (n.toNat*k)).take k)else N2
  |_,_=>N2
 |.fg x=>match x.ev ρ with
  |.str s=>N1 (.int .i64 s.length)
  |_=>N2
 |.Wk x=>match x.ev ρ with
  |.sl _ rows=>N1 (.int .i64 rows.length)
  |.sr _ _ n=>N1 (.int .i64 n)
  |.ar=>N1 (.int .i64 0)
  |_=>N2
 |.zb n=>N1 (.int .i64 n)
 |.mm mx xs=>mmV mx (xs.map (aa.ev ρ))
 |.ext i x=>match x.ev ρ with
  |.tup vs=>vs[i]?
  |_=>N2
 |.km t x=>if (x.ev ρ).tn then N1 (.ifc t (x.ev ρ))else N2
 |.look zero m k ok=>match m.ev ρ with
  |.mp o v=>match H[o]? with
   |some (.map v' es)=>if v'=v then
     match findKey (k.ev ρ) es 0 with
     |some (N1 (_,x))=>if ok then N1 (.tup [x,.bool Pa])else N1 x
     |some N2=>if ok then N1 (.tup [zero,.bool Po])else N1 zero
     |none=>N2
    else N2
   |_=>N2
  |.fmp ks vs=>match findKey (k.ev ρ) (ks.zip vs) 0 with
   |some (N1 (_,x))=>if ok then N1 (.tup [x,.bool Pa])else N1 x
   |some N2=>if ok then N1 (.tup [zero,.bool Po])else N1 zero
   |none=>N2
  |_=>N2
 |.wy zero m k ok=>match m.ev ρ with
  |.mp o v=>match H[o]? with
   |some (.map v' es)=>if v'=v/\(bJi (k.ev ρ) (k.ev ρ)).isSome then bJB zero ok (bIO (k.ev ρ) es 0)else N2
   |_=>N2
  |.fmp ks vs=>if (bJi (k.ev ρ) (k.ev ρ)).isSome then bJB zero ok (bIO (k.ev ρ) (ks.zip vs) 0)else N2
  |_=>N2
 |_=>N2
def aIR(ρ:List AV):df->List Nat
 |.load _ _ x=>match x.ev ρ with
  |.ptr o _ _=>[o]
  |.vp o _ _ _ _ _=>[o]
  |_=>[]
 |.conv .b2s x=>match x.ev ρ with
  |.sr o _ _=>[o]
  |.srv o _ _ _ _=>[o]
  |.srw o _ _ _=>[o]
  |_=>[]
 |.look _ m _ _=>match m.ev ρ with
  |.mp o _=>[o]
  |_=>[]
 |.wy _ m _ _=>match m.ev ρ with
  |.mp o _=>[o]
  |_=>[]
 |.view _ x _=>match x.ev ρ with
  |.sr o _ _=>[o]
  |_=>[]
 |_=>[]
abbrev Out:=Option (AV×List ah×List Nat)
def make(H:List ah)(id:Nat)(mk:Nat->ah):List ah:=H.set id (mk ((H[id]?).elim 0 ah.ver+1))
def bH(H:List ah)(id:Nat):Nat:=(H[id]?).elim 0 ah.ver+1
def storeCells(H:List ah)(vs:List AV):AV->Option (List ah×List Nat)
 |.ptr o v off=>
  match H[o]? with
  |some (.box v' cells)=>if v'=v/\off+vs.length<=cells.length then N1 (H.set o (.box v (nV cells off vs)),[o])else N2
  |some (.cw v' ty cells)=>if v'=v/\off+vs.length<=cells.length then N1 (H.set o (.cw v ty (nV cells off vs)),[o])else N2
  |_=>N2
 |.vp o v n k1 i off=>
  match H[o]? with
  |some (.vec v' k rows)=>
   if v'=v/\rows.length=n/\k=k1 then
    match rows[i]? with
    |some row=>if off+vs.length<=row.length/\(vs.map AV.aj).all AV.ak then N1 (H.set o (.vec v k (rows.set i (nV row off (vs.map AV.aj)))),[o])else N2
    |none=>N2
   else N2
  |_=>N2
 |_=>N2
def fix(H:List ah)(v:AV):Option (AV×List ah×List Nat):=
 match dw H v with
 |some (v',l)=>N1 (v'.strip,dL H l,l)
 |none=>N2
def aLw(H:List ah):List (List AV)->Option (List (List AV)×List ah×List Nat)
 | []=>N1 ([],H,[])
 |r::rs=>
  match fix H (.agg r)with
  |some (.agg r',H',l)=>
   match aLw H' rs with
   |some (rs',H'',l')=>N1 (r'::rs',H'',l++l')
   |none=>N2
  |_=>N2
def aA3(H:List ah):AV->Option (AV×List ah×List Nat)
 |.sr o v n=>
  match H[o]? with
  |some (.vec v' k rows)=>
   if v'=v/\rows.length=n then
    match aLw H rows with
    |some (bt,H',l)=>
     if l.contains o=Po/\bt.all (λr=>r.all AV.ak)then
      match fix (H'.set o (.vec v k bt)) (.sr o v n)with
      |some (v2,H2,l2)=>N1 (v2,H2,l++(o::l2))
      |none=>N2
     else N2
    |none=>N2
   else N2
  |_=>N2
 |v=>fix H v
def AV.Xx:AV->Bool
 |.mp .. | .fmp .. | .undef=>Pa
 |_=>Po
def bL5(H:List ah):List AV->Option (List AV×List ah×List Nat)
 | []=>N1 ([],H,[])
 |.mp o v::r=>
  match H[o]? with
  |some (.map v' es)=>
   if v'=v then
    match bL5 (H.set o (.gone v)) r with
    |some (r',H',l)=>N1 (.fmp (es.map EM) (es.map GQ)::r',H',o::l)
    |none=>N2
   else N2
  |_=>N2
 |c::r=>
  match bL5 H r with
  |some (r',H',l)=>N1 (c::r',H',l)
  |none=>N2
def bKj(H:List ah):AV->Option (List ah×List Nat)
 |.ar=>N1 (H,[])
 |.sr o v n=>
  match H[o]? with
  |some (.vec v' k rows)=>
   if v'=v/\rows.length=n then
    match aLw H rows with
    |some (bt,H',l)=>if l.contains o=Po/\bt.all (λr=>r.all AV.ak)then N1 (H'.set o (.vec v k bt),l++[o])else N2
    |none=>N2
   else N2
  |_=>N2
 |.ptr o v _=>
  match H[o]? with
  |some (.box v' cs)=>
   if v'=v/\cs.all AV.Xx then
    match bL5 H cs with
    |some (cs',H',l)=>if l.contains o=Po then N1 (H'.set o (.box v cs'),l++[o])else N2
    |none=>N2
   else N2
  |_=>N2
 |_=>N2
def bPE(H:List ah)(v:AV)(l:List Nat):AV×List ah×List Nat:=
 match v with
 |.ptr o v 0=>
  match H[o]? with
  |some (.box v' cs)=>if v'=v/\cs.all AV.still then (.ep cs 0,H.set o (.gone v),l++[o])else (.ptr o v 0,H,l)
  |_=>(.ptr o v 0,H,l)
 |v=>(v,H,l)
def aMD(H:List ah)(v:AV):Option (AV×List ah×List Nat):=
 match fix H v with
 |some (v',H',l)=>N1 (bPE H' v' l)
 |none=>match v with
  |.agg [c]=>match aA3 H c with
   |some (c',H',l)=>N1 (.agg [c'],H',l)
   |none=>N2
  |v=>aA3 H v
def nW(ρ:List AV)(k:Nat)(H:List ah)(rows:List (List AV)):List (Nat×aa)->Option (List (List AV)×List ah×List Nat)
 | []=>N1 (rows,H,[])
 | (i,x)::r=>
  match fix H (x.ev ρ)with
  |some (v,H',l)=>
   if v.cells.length=k/\i<rows.length/\v.cells.all AV.still then
    match nW ρ k H' (rows.set i v.cells) r with
    |some (bt,H'',l')=>N1 (bt,H'',l++l')
    |none=>N2
   else N2
  |none=>N2
def bIz(H:List ah):AV->Option (List (List AV))
 |.str l=>N1 (aJ l)
 |x=>dO H x
def eX(H:List ah)(site:Option Nat)(k bytes:Nat)(s x:AV):Out:=
 match bIz H x with
 |none=>N2
 |some new=>
  if !dF k new then N2 else
  match s with
  |.ar=>if new.isEmpty then N1 (.ar,H,[])else if bP new.length bytes then
    match site with
    |some id=>if id<H.length then N1 (.sr id (bH H id) new.length,make H id (.vec · k new),[id])else N2
    |none=>N2
   else N2
  |.sl full rows=>
   if new.isEmpty then N1 (.sl full rows,H,[])
   else if full&&dF k rows&&bP (rows.length+new.length) bytes then
    match site with
    |some id=>if id<H.length then N1 (.sr id (bH H id) (rows.length+new.length),make H id (.vec · k (rows++new)),[id])else N2
    |none=>N2
   else N2
  |.sr o v n=>
   match H[o]? with
   |some (.vec v' k' rows)=>
    if v'=v/\rows.length=n/\k'=k/\bP (n+new.length) bytes then
     if new.isEmpty then N1 (.sr o v n,H,[])else
     N1 (.sr o v (n+new.length),H.set o (.vec v k (rows++new)),[o])
    else N2
   |_=>N2
  |.srw o v n h=>
   match H[o]? with
   |some (.vec v' k' rows)=>
    if v'=v/\rows.length=n/\k'=k/\h<=n/\bP (h+new.length) bytes then
     N1 (.sr o (v+1) (h+new.length),H.set o (.vec (v+1) k (rows.take h++new)),[o])
    else N2
   |_=>N2
  |_=>N2
def vB(H:List ah)(site:Option Nat)(ty k bytes:Nat)(s x:AV):Out:=
 match bIz H x with
 |none=>N2
 |some new=>
  if !dF k new then N2 else
  match s with
  |.ar=>if new.isEmpty then N1 (.ar,H,[])else if bP new.length bytes then
    match site with
    |some id=>if id<H.length then N1 (.sr id (bH H id) new.length,make H id (.oz · ty k new),[id])else N2
    |none=>N2
   else N2
  |.sr o v n=>
   match H[o]? with
   |some (.oz v' ty' k' rows)=>
    if v'=v/\rows.length=n/\k'=k/\ty'=ty/\bP (n+new.length) bytes then
     if new.isEmpty then N1 (.sr o v n,H,[])else
     N1 (.sr o v (n+new.length),H.set o (.oz v ty k (rows++new)),[o])
    else N2
   |_=>N2
  |_=>N2
def YF:Nat:=1000000007
def cX(call:Nat->List AV->List ah->Out)(H:List ah)(site:Option Nat)(f:AV)(args:List AV):Out:=
 match f with
 |.fn f first ay=>
  match kA H (first++args++ay)with
  |none=>N2
  |some (args',lent)=>
   match call f (args'.map AV.strip) (dL H lent)with
   |none=>N2
   |some (v,H',wr)=>
    if lent.isEmpty then
     match v with
     |.own k rows=>
      match site with
      |some id=>if id<H'.length then N1 (.sr id (bH H' id) rows.length,make H' id (.vec · k rows),if wr.contains id then wr else id::wr)else N2
      |none=>N1 (.sl Po rows,H',wr)
     |v=>N1 (v,H',wr)
    else if wr.isEmpty&&decide (H'.length=H.length)&&v.atomic then N1 (v,H,[])else N2
 |.yld o v=>match kA H args with
  |none=>N2
  |some (args',lent)=>match call YF (.own 0 []::.yld o v::args'.map AV.strip) (dL H lent)with
   |none=>N2
   |some (b,H',wr)=>if lent.isEmpty&&b.atomic then N1 (b,H',wr)else N2
 |_=>N2
def iN(call:Nat->List AV->List ah->Out)(H:List ah)(site:Option Nat)(f:AV)(args:List AV):Out:=
 match f with
 |.fn f first ay=>
  match call f (first++args++ay) H with
  |none=>N2
  |some (v,H',wr)=>match v with
   |.own k rows=>
    match site with
    |some id=>if id<H'.length then N1 (.sr id (bH H' id) rows.length,make H' id (.vec · k rows),if wr.contains id then wr else id::wr)else N2
    |none=>N1 (.sl Po rows,H',wr)
   |v=>N1 (v,H',wr)
 |_=>N2
def evW(call:Nat->List AV->List ah->Out)(H:List ah)(ρ:List AV)(site:Option Nat):df->Out
 |.alloc zs=>match site with
  |some id=>if id<H.length then N1 (.ptr id (bH H id) 0,make H id (.box · zs),[id])else N2
  |none=>N2
 |.gv ty zs=>match site with
  |some id=>if id<H.length then N1 (.ptr id (bH H id) 0,make H id (.cw · ty zs),[id])else N2
  |none=>N2
 |.box k x=>match site with
  |some id=>if id<H.length/\(x.ev ρ).cells.length=k/\(x.ev ρ).cells.all AV.ak then N1 (.ptr id (bH H id) 0,make H id (.box · (x.ev ρ).cells),[id])else N2
  |none=>N2
 |.tbx ty k x=>match site with
  |some id=>if id<H.length/\(x.ev ρ).cells.length=k/\(x.ev ρ).cells.all AV.ak then N1 (.ptr id (bH H id) 0,make H id (.cw · ty (x.ev ρ).cells),[id])else N2
  |none=>N2
 |.store k x v=>if (v.ev ρ).cells.length=k/\(v.ev ρ).cells.all AV.ak then
   match storeCells H (v.ev ρ).cells (x.ev ρ)with
   |some (H',wr)=>N1 (.undef,H',wr)
   |none=>N2
  else N2
 |.bsl k zs n parts=>match site with
  |some id=>match jW ρ k (AX n zs) parts with
   |some rows=>if id<H.length then N1 (.sr id (bH H id) n,make H id (.vec · k rows),[id])else N2
   |none=>N2
  |none=>match nW ρ k H (AX n zs) parts with
   |some (rows,H',wr)=>N1 (.sl Pa rows,H',wr)
   |none=>N2
 |.mks k bytes zs len cap=>match len.ev ρ,cap.ev ρ with
  |.int _ n,.int _ c=>
   if 0<=n/\n=c/\bP n.toNat bytes then
    match site with
    |some id=>if id<H.length then N1 (.sr id (bH H id) n.toNat,make H id (.vec · k (AX n.toNat (zs.map AV.aj))),[id])else N2
    |none=>N1 (.sl Pa (AX n.toNat (zs.map AV.aj)),H,[])
   else match site with
    |some id=>if n=0/\0<c/\bP c.toNat bytes/\id<H.length then N1 (.sr id (bH H id) 0,make H id (.vec · k []),[id])else N2
    |none=>N2
  |_,_=>N2
 |.app k bytes s x=>eX H site k bytes (s.ev ρ) (x.ev ρ)
 |.ni ty k bytes s x=>vB H site ty k bytes (s.ev ρ) (x.ev ρ)
 |.dm f args=>cX call H site (f.ev ρ) (args.map (aa.ev ρ))
 |.ee f args=>iN call H site (f.ev ρ) (args.map (aa.ev ρ))
 |.Rd tab x args=>match x.ev ρ with
  |.ifc t v=>match tab.lookup t with
   |some f=>cX call H site (.fn f [v] []) (args.map (aa.ev ρ))
   |none=>N2
  |_=>N2
 |.cpy k x y=>match x.ev ρ with
  |.srv o v n k' lo=>match H[o]? with
   |some (.vec v' k2 rows)=>match bIz H (y.ev ρ)with
    |some new=>if new.isEmpty then N1 (.int .i64 0,H,[])else if v'=v/\rows.length=n/\k2=k/\k'=k/\dF k new/\lo+new.length<=n then
      N1 (.int .i64 (new.length:Nat),H.set o (.vec v k (rows.take lo++new++rows.drop (lo+new.length))),[o])
     else N2
    |none=>N2
   |_=>N2
  |.sr o v n=>match H[o]? with
   |some (.vec v' k2 rows)=>match dO H (y.ev ρ)with
    |some new=>if new.isEmpty then N1 (.int .i64 0,H,[])else if v'=v/\rows.length=n/\k2=k/\dF k new/\0<n then
      N1 (.int .i64 ((new.take n).length:Nat),H.set o (.vec v k (rows.take 0++new.take n++rows.drop (0+(new.take n).length))),[o])
     else N2
    |none=>N2
   |_=>N2
  |_=>N2
 |.jn=>match site with
  |some id=>if id<H.length then N1 (.mp id (bH H id),make H id (.map · []),[id])else N2
  |none=>N2
 |.ins m k v=>match m.ev ρ,k.ev ρ with
  |.mp o ver,key=>match H[o]? with
   |some (.map v' es)=>
    if v'=ver/\(aJK key key).isSome/\(v.ev ρ).strip.cells.all AV.still then
     match findKey key es 0 with
     |some (N1 (i,_))=>N1 (.undef,H.set o (.map ver (es.set i (key,(v.ev ρ).strip))),[o])
     |some N2=>N1 (.undef,H.set o (.map ver (es++[(key,(v.ev ρ).strip)])),[o])
     |none=>N2
    else N2
   |_=>N2
  |_,_=>N2
 |.Fs m k v=>match m.ev ρ with
  |.mp o ver=>match H[o]? with
   |some (.map v' es)=>
    if v'=ver/\(bJi (k.ev ρ) (k.ev ρ)).isSome/\(v.ev ρ).strip.cells.all AV.still then
     match bIO (k.ev ρ) es 0 with
     |some (N1 (i,_))=>N1 (.undef,H.set o (.map ver (es.set i (k.ev ρ,(v.ev ρ).strip))),[o])
     |some N2=>N1 (.undef,H.set o (.map ver (es++[(k.ev ρ,(v.ev ρ).strip)])),[o])
     |none=>N2
    else N2
   |_=>N2
  |_=>N2
 |_=>N2
def isW(site:Option Nat)(inDraw:Bool):df->Bool
 |.alloc _ | .gv .. | .box .. | .tbx ..=>site.isSome
 |.bsl .. | .mks ..=>site.isSome || !inDraw
 |.store .. | .app .. | .ni .. | .dm .. | .ee .. | .Rd .. | .cpy .. | .jn | .ins .. | .Fs ..=>Pa
 |_=>Po
structure gp where
 ρ:List AV
 H:List ah
 wr:List Nat
 deriving Inhabited
def bg(ρ:List AV)(dst:Option Nat)(v:AV):List AV:=
 match dst with
 |some d=>ρ.set d v
 |none=>ρ
def bE(base:Nat)(wr:List Nat):List Nat->List Nat
 | []=>wr
 |o::r=>if o<base/\¬wr.contains o then bE base (o::wr) r else bE base wr r
structure Ctx where
 base:Nat
 sites:List Nat
def Ctx.site(c:Ctx)(dst:Option Nat):Option Nat:=
 match dst with
 |none=>N2
 |some t=>(c.sites.idxOf? t).map (c.base + ·)
def aOI(call:Nat->List AV->List ah->Out)(c:Ctx)(inDraw:Bool)(H:List ah)(ρ:List AV)(o:ae):Out:=
 if isW (c.site o.dst) inDraw o.op then evW call H ρ (c.site o.dst) o.op
 else match evR H ρ o.op with
  |some v=>N1 (v,H,[])
  |none=>N2
def wanted(ρ:List AV)(o:ae):Bool:=
 match o.guard with
 |none=>Pa
 |some (N2,_)=>Po
 |some (N1 t,want)=>match ρ[t]? with
  |some (.bool b)=>b==want
  |_=>Po
def pF(ρ:List AV)(o:ae):Bool:=
 match o.guard with
 |none=>Pa
 |some (N2,_)=>Po
 |some (N1 t,_)=>match ρ[t]? with
  |some (.bool _)=>Pa
  |some (.tup [])=>Pa
  |_=>Po
def jL(call:Nat->List AV->List ah->Out)(c:Ctx):List ae->gp->Option gp
 | [],s=>N1 s
 |o::r,s=>
  if pF s.ρ o then
   if wanted s.ρ o then
    match aOI call c Po s.H s.ρ o with
    |some (v,H',wr)=>jL call c r ⟨bg s.ρ o.dst v,H',bE c.base s.wr wr⟩
    |none=>N2
   else jL call c r ⟨bg s.ρ o.dst (.tup []),s.H,s.wr⟩
  else N2
abbrev Log:=List (Nat×List Nat×Option (List Nat))
def dG(a b:List Nat):Bool:=a.all λx => !b.contains x
def eH(pre:Nat->List Nat):Log->Bool
 | []=>Pa
 | (i,rd,wr)::r=>
  (r.all λ(j,rd',ba)=>
   (pre j).contains i ||
   (match wr,ba with
    |some _,N1 _=>Po
    |some ws,N2=>dG rd' ws
    |none,N1 ws=>dG rd ws
    |none,N2=>Pa))&&eH pre r
def aa.slot:aa->List Nat
 |.tmp t=>[t]
 |.const _=>[]
def aFI:Option aa->List Nat
 |none=>[]
 |some x=>x.slot
def df.bm:df->List Nat
 |.bad | .alloc _ | .gv .. | .zb _ | .jn=>[]
 |.mov x | .box _ x | .tbx _ _ x | .load _ _ x | .cz x | .ky _ x | .un _ x | .conv _ x | .fa _ x | .fld _ _ _ x | .fg x | .Wk x | .ext _ x | .km _ x=>x.slot
 |.pick c a b=>c.slot++a.slot++b.slot
 |.build _ ps=>ps.flatMap λp=>p.2.2.slot
 |.bsl _ _ _ ps=>ps.flatMap λp=>p.2.slot
 |.store _ x v=>x.slot++v.slot
 |.bin _ _ x y=>x.slot++y.slot
 |.mkf _ f c=>f.flatMap aa.slot++c.flatMap aa.slot
 |.mks _ _ _ l c=>l.slot++c.slot
 |.fm x lo hi=>x.slot++aFI lo++aFI hi
 |.gw _ x lo hi mx=>x.slot++aFI lo++aFI hi++aFI mx
 |.view _ x lo=>x.slot++aFI lo
 |.na _ _ x lo hi mx=>x.slot++aFI lo++aFI hi++aFI mx
 |.iaV x i _=>x.slot++i.slot
 |.iaA _ _ x i=>x.slot++i.slot
 |.ixS x i=>x.slot++i.slot
 |.ixA _ _ _ x i=>x.slot++i.slot
 |.mm _ xs=>xs.flatMap aa.slot
 |.app _ _ s x=>s.slot++x.slot
 |.ni _ _ _ s x=>s.slot++x.slot
 |.dm f xs=>f.slot++xs.flatMap aa.slot
 |.ee f xs=>f.slot++xs.flatMap aa.slot
 |.Rd _ x xs=>x.slot++xs.flatMap aa.slot
 |.cpy _ x y=>x.slot++y.slot
 |.ins m k v=>m.slot++k.slot++v.slot
 |.look _ m k _=>m.slot++k.slot
 |.Fs m k v=>m.slot++k.slot++v.slot
 |.wy _ m k _=>m.slot++k.slot
def ae.names(o:ae):List Nat:=
 o.dst.toList++o.op.bm++(match o.guard with | some (N1 t,_)=>[t] | _=>[])
def aLx(i:Nat)(o:ae)(j:Nat)(p:ae):Bool:=
 match p.dst with
 |none=>Pa
 |some t => !o.names.contains t || (if i<j then p.pre.contains i else o.pre.contains j)
def aOK(ops:List ae):Bool:=
 ops.zipIdx.all λ(o,i)=>o.pre.all (λk=>decide (k<i))&&ops.zipIdx.all λ(p,j)=>i==j || aLx i o j p
def cS(c:Ctx)(H:List ah):List ae->Option (List ah)
 | []=>N1 H
 |o::r=>
  match o.op,c.site o.dst with
  |.alloc zs,N1 id=>if id<H.length/\o.guard.isNone/\o.pre.isEmpty then cS c (make H id (.box · zs)) r else N2
  |_,_=>cS c H r
def aFJ(call:Nat->List AV->List ah->Out)(c:Ctx)(H:List ah)(ρ:List AV)(o:ae):Option (AV×List ah×List Nat×Option (List Nat)):=
 match o.op,c.site o.dst with
 |.alloc _,N1 id=>N1 (.ptr id ((H[id]?).elim 0 ah.ver) 0,H,[id],N2)
 |op,site=>
  if isW site Pa op then
   match evW call H ρ site op with
   |some (v,H',wr)=>if H'.length=H.length then N1 (v,H',[],N1 wr)else if H.length<H'.length then N1 (v,H',[],N1 (wr++FM H.length (H'.length - H.length)))else N2
   |none=>N2
  else match evR H ρ op with
   |some v=>N1 (v,H,aIR ρ op,N2)
   |none=>N2
def nT(call:Nat->List AV->List ah->Out)(c:Ctx):Nat->List ae->gp->Option (gp×Log)
 |_,[],s=>N1 (s,[])
 |i,o::r,s=>
  if pF s.ρ o then
   if wanted s.ρ o then
    match aFJ call c s.H s.ρ o with
    |some (v,H',rd,wr)=>
     match nT call c (i+1) r ⟨bg s.ρ o.dst v,H',bE c.base s.wr (wr.getD [])⟩ with
     |some (s',log)=>N1 (s',(i,rd,wr)::log)
     |none=>N2
    |none=>N2
   else nT call c (i+1) r ⟨bg s.ρ o.dst (.tup []),s.H,s.wr⟩
  else N2
def iO(call:Nat->List AV->List ah->Out)(c:Ctx)(draw:Bool)(ops:List ae)(s:gp):Option gp:=
 if draw&&aOK ops then
  match cS c s.H ops with
  |some H0=>
   match nT call c 0 ops ⟨s.ρ,H0,s.wr⟩ with
   |some (s',log)=>if eH (λj=>((ops[j]?).map ae.pre).getD []) log then N1 s' else N2
   |none=>N2
  |none=>N2
 else if draw then N2
 else jL call c ops s
def AV.iy:AV->Bool
 |.undef=>Pa
 |.tup []=>Pa
 |_=>Po
def nX(c:Ctx)(s:gp):List (Nat×Nat)->Option gp
 | []=>N1 s
 | (k+1,t)::r=>
  if ((s.ρ[t]?).getD .undef).iy then nX c s r else
  match bKj s.H ((s.ρ[t]?).getD .undef)with
  |some (H',l)=>nX c ⟨s.ρ,H',bE c.base s.wr l⟩ r
  |none=>
  match bC s.H (k+1) ((s.ρ[t]?).getD .undef)with
  |some cs=>
   match aMD s.H (.agg cs)with
   |some (.agg cs',H',l)=>
    match storeCells H' cs' ((s.ρ[t]?).getD .undef)with
    |some (H'',l')=>nX c ⟨s.ρ,H'',bE c.base s.wr (l++l')⟩ r
    |none=>N2
   |_=>N2
  |none=>N2
 | (0,t)::r=>
  match aMD s.H ((s.ρ[t]?).getD .undef)with
  |some (v,H',l)=>nX c ⟨s.ρ.set t v,H',bE c.base s.wr l⟩ r
  |none=>N2
def aYq(H:List ah)(ρ:List AV):ou->Option AV
 |.tmp t=>N1 ((ρ[t]?).getD .undef)
 |.cell t k agg=>match bC H k ((ρ[t]?).getD .undef)with
  |some cs=>eD agg cs
  |none=>N2
def aIS(H:List ah)(ρ:List AV):List ou->Option (List AV)
 | []=>N1 []
 |r::rs=>match aYq H ρ r with
  |none=>N2
  |some v=>match aIS H ρ rs with
   |none=>N2
   |some vs=>N1 (v::vs)
def aDR(base:Nat)(H:List ah):AV->Option (AV×List ah×List Nat)
 |.sr o v n=>
  if o<base then N1 (.sr o v n,H,[])else
  match H[o]? with
  |some (.vec v' k rows)=>if v'=v/\rows.length=n/\base<=o/\rows.all (λr=>r.all AV.still)then N1 (.own k rows,dL H [o],[o])else aA3 H (.sr o v n)
  |_=>N2
 |.mp o v=>
  match H[o]? with
  |some (.map v' es)=>if v'=v/\base<=o then N1 (.fmp (es.map EM) (es.map GQ),H.set o (.gone v),[o])else N1 (.mp o v,H,[])
  |_=>N1 (.mp o v,H,[])
 |x=>fix H x
def aBv(H:List ah):List AV->Option (List AV×List ah×List Nat)
 | []=>N1 ([],H,[])
 |v::r=>match fix H v with
  |none=>N2
  |some (v',H',l)=>match aBv H' r with
   |none=>N2
   |some (r',H'',l')=>N1 (v'::r',H'',l++l')
def aA4(base:Nat)(fn:bw)(s:gp):Out:=
 match aIS s.H s.ρ fn.results with
 |none=>N2
 |some [v]=>match aDR base s.H v with
  |some (v',H',l)=>N1 (v',H',bE base s.wr l)
  |none=>N2
 |some vs=>match aBv s.H vs with
  |some (vs',H',l)=>N1 (.tup vs',H',bE base s.wr l)
  |none=>N2
def cJ(base:Nat):AV×List ah×List Nat->AV×List ah×List Nat
 | (v,H,wr)=>if v.under base&&wr.all (λo=>match H[o]? with | some x=>x.under base | none=>Pa)then (v,H.take base,wr)else (v,H,wr)
def nF(fn:bw)(args:List AV)(H:List ah):gp:=⟨args++AX (fn.ntmps - args.length) .undef,H++AX fn.sites.length (.gone 0),[]⟩
def eU(H:List ah):List (Nat×ah)->List ah
 | []=>H
 | (o,x)::r=>eU (H.set o x) r
def cT(H:List ah)(r:AV×List (Nat×ah)×List ah):AV×List ah×List Nat:=(r.1,eU H r.2.1++r.2.2,r.2.1.map EM)
def dH(ρ:List AV):List Nat->List AV->List AV
 |t::ts,x::xs=>dH (ρ.set t x) ts xs
 |_,_=>ρ
def Ctx.rd(c:Ctx):Option (Nat×Nat):=match c.sites.reverse with
 |a::b::_=>if YF<=a/\YF<=b then N1 (b - YF,a - YF)else N2
 |_=>N2
def sO(ev:Ctx->ag->gp->Option (bf×gp))(H:List ah):List AV->Out
 |.own 0 []::.yld o v::xs=>match H[o]? with
  |some (.rnd v' base sites ps (.seq asg body) ρ Po N2)=>
   if v'=v/\xs.length=ps.length then
    match ev ⟨base,sites++[YF+o,YF+v]⟩ asg ⟨dH ρ ps xs,H,[]⟩ with
    |some (.normal,s0)=>match s0.H[o]? with
     |some (.rnd v1 b1 t1 p1 c1 r1 Po N2)=>
      if v1=v then
       match ev ⟨base,sites++[YF+o,YF+v]⟩ body ⟨s0.ρ,s0.H.set o (.rnd v b1 t1 p1 c1 r1 Pa N2),s0.wr⟩ with
       |some (e,s)=>match s.H[o]? with
        |some (.rnd v2 b2 s2 p2 c2 r2 Pa N2)=>if v2=v then N1 (.bool (decide (e=.normal)),s.H.set o (.rnd v b2 s2 p2 c2 r2 Po (if e=.normal then N2 else N1 e)),FM base (H.length - base)++(o::s.wr))else N2
        |_=>N2
       |none=>N2
      else N2
     |_=>N2
    |_=>N2
   else N2
  |_=>N2
 |_=>N2
def qL(A:af)(ev:Ctx->ag->gp->Option (bf×gp))(f:Nat)(args:List AV)(H:List ah):Out:=
 match (A.bq f).bind (· args H)with
 |some r=>N1 (cT H r)
 |none=>
  match A.fn f with
  |none=>sO ev H args
  |some fn=>
   if args.length<=fn.ntmps then
   match ev ⟨H.length,fn.sites⟩ fn.body (nF fn args H)with
   |some (.normal,s') | some (.ret,s')=>
    match aA4 H.length fn s' with
    |some r=>N1 (cJ H.length r)
    |none=>N2
   |_=>N2
   else N2
def eZ(c:Ctx)(H:List ah):Bool:=match c.rd with
 |none=>Pa
 |some (o,v)=>match H[o]? with
  |some (.rnd v' _ _ _ _ _ Pa N2)=>v'==v
  |_=>Po
def cY(A:af):Nat->Ctx->ag->gp->Option (bf×gp)
 |0,_,_,_=>N2
 |n+1,c,code,s=>
  match code with
  |.skip=>N1 (.normal,s)
  |.bad=>N2
  |.region draw ops=>match iO (qL A (cY A n)) c draw ops s with
   |some s'=>N1 (.normal,s')
   |none=>N2
  |.seq a b=>match cY A n c a s with
   |some (.normal,s')=>cY A n c b s'
   |r=>r
  |.cond x a b=>match x.ev s.ρ with
   |.bool Pa=>cY A n c a s
   |.bool Po=>cY A n c b s
   |_=>N2
  |.block id b=>match cY A n c b s with
   |some (.exit id',s')=>if id'=id then N1 (.normal,s')else N1 (.exit id',s')
   |r=>r
  |.loop b=>match cY A n c b s with
   |some (.normal,s')=>cY A n c (.loop b) s'
   |r=>r
  |.exit id=>N1 (.exit id,s)
  |.ret=>N1 (.ret,s)
  |.frz ts=>match nX c s ts with
   |some s'=>N1 (.normal,s')
   |none=>N2
  |.dz x ps body=>match x.ev s.ρ,c.site ps.head? with
   |.fn f first ay,N1 id=>
    if id<s.H.length/\eZ c s.H=Pa then
     match qL A (cY A n) f (first++.yld id (bH s.H id)::ay) (make s.H id λv=>.rnd v c.base c.sites ps body s.ρ Po N2)with
     |some (_,H2,wr)=>match H2[id]? with
      |some (.rnd v _ _ _ _ _ Po pend)=>if v=bH s.H id/\eZ c H2=Pa then N1 (pend.getD .normal,⟨s.ρ,H2.set id (.gone v),bE c.base s.wr (id::wr)⟩)else N2
      |_=>N2
     |none=>N2
    else N2
   |_,_=>N2
def dD(A:af)(n:Nat)(f:Nat)(args:List AV)(H:List ah):Out:=qL A (cY A n) f args H
abbrev LO:=List ah
variable {H:LO}
abbrev LA:=List AV
variable {aqq ρ cs row zs:LA}{rows:List LA}
abbrev LN:=List Nat
abbrev SN:=String->Nat
structure Loc where
 b:Nat
 st:Nat
 len:Nat
 k:Nat
 cap:Nat
variable {l:Loc}
structure G where
 perm:Nat->Nat->Option BE
 obj:Nat->Option Loc
 whole:Nat->Option Obj
 io:Os×Array (Nat×ByteArray)
 code:ag->Code->Prop
variable {g g':G}
def aLy(es xs:List FO):Prop:=es=xs∨(es.Perm xs/\∃(k:DK)(ns:List Int),xs.map (·.key)=ns.map (EJ k)/\ns.Nodup)
inductive ai(g:G):AV->BE->Prop where
 |undef (x:BE):ai g .undef x
 |bool (b:Bool):ai g (.bool b) (.bool b)
 |int (k:DK) (n:Int):ai g (.int k n) (.int k n)
 |str (s:ByteArray):ai g (.str s.data.toList) (.string s)
 |fn (f:Nat) (first ay:LA) (vf vc:Array BE)
   (hf:first.length=vf.size) (hc:ay.length=vc.size)
   (h1:∀(i:Nat) a x,first[i]? = N1 a->vf[i]? = N1 x->ai g a x)
   (h2:∀(i:Nat) a x,ay[i]? = N1 a->vc[i]? = N1 x->ai g a x):ai g (.fn f first ay) (.func (.func f) vf vc)
 |bx:ai g .bx .nilFunc
 |ptr (o v off:Nat) (l:Loc) (a:IA) (hl:g.obj o=N1 l) (hv:v<=l.st)
   (h:l.st=v->l.len=0->a=⟨l.b,off,N2⟩):ai g (.ptr o v off) (.pointer (N1 a))
 |vp (o v n k i off:Nat) (l:Loc) (a:IA) (hl:g.obj o=N1 l) (hv:v<=l.st) (hn:l.st=v->n<=l.len)
   (h:l.st=v->l.len=n->a=⟨l.b,i*k+off,N2⟩):ai g (.vp o v n k i off) (.pointer (N1 a))
 |nilPtr:ai g .nilPtr (.pointer N2)
 |ep (row:LA) (off b base:Nat) (bd:row.all AV.still=Pa)
   (hp:∀j,j<row.length->(g.perm b (base+j)).isSome)
   (h:∀(j:Nat) a x,row[j]? = N1 a->g.perm b (base+j)=N1 x->ai g a x):ai g (.ep row off) (.pointer (N1 ⟨b,base+off,N2⟩))
 |kn (full:Bool):ai g (.sl full []) (.slice N2 0 0)
 |sl (full:Bool) (rows:List LA) (b off cap k:Nat) (cm:rows.length<=cap) (jo:full=Pa->cap=rows.length)
   (hk:∀(row:LA),row∈rows->row.length=k) (bd:∀(row:LA),row∈rows->row.all AV.still=Pa)
   (hp:∀i j,i<rows.length->j<k->(g.perm b (off+i*k+j)).isSome)
   (h:∀(i j:Nat)(row:LA) a x,rows[i]? = N1 row->row[j]? = N1 a->g.perm b (off+i*k+j)=N1 x->ai g a x):
   ai g (.sl full rows) (.slice (N1 ⟨b,off,N2⟩) rows.length cap)
 |sr (o v n:Nat) (l:Loc) (a:IA) (cap:Nat) (hl:g.obj o=N1 l) (hv:v<=l.st) (hn:l.st=v->n<=l.len) (jg:n<=cap)
   (h:l.st=v->l.len=n->a=⟨l.b,0,N2⟩/\cap=l.cap):ai g (.sr o v n) (.slice (N1 a) n cap)
 |srv (o v n k lo:Nat) (l:Loc) (a:IA) (cap:Nat) (hl:g.obj o=N1 l) (hv:v<=l.st) (hn:l.st=v->n<=l.len) (gr:lo<=n)
   (h:l.st=v->l.len=n->∃off,a=⟨l.b,off,N2⟩/\(lo<n->off=lo*k)/\n - lo<=cap):ai g (.srv o v n k lo) (.slice (N1 a) (n - lo) cap)
 |srw (o v n hi:Nat) (l:Loc) (a:IA) (cap:Nat) (hl:g.obj o=N1 l) (hv:v<=l.st) (hn:l.st=v->n<=l.len) (tf:hi<=n)
   (h:l.st=v->l.len=n->a=⟨l.b,0,N2⟩/\cap=l.cap):ai g (.srw o v n hi) (.slice (N1 a) hi cap)
 |ar:ai g .ar (.slice N2 0 0)
 |mp (o v:Nat) (l:Loc) (r:Nat) (hl:g.obj o=N1 l) (hv:v<=l.st) (h:l.st=v->l.len=0->r=l.b):ai g (.mp o v) (.map (N1 r))
 |fmp (ks vs:LA) (r:Nat) (entries:Array FO) (clock:Nat) (xs:List FO) (hw:g.whole r=N1 (.map entries clock)) (hp:aLy entries.toList xs) (hk:ks.length=xs.length) (hv:vs.length=xs.length)
   (h1:∀(i:Nat) a (e:FO),ks[i]? = N1 a->xs[i]? = N1 e->ai g a e.key)
   (h2:∀(i:Nat) a (e:FO),vs[i]? = N1 a->xs[i]? = N1 e->ai g a e.val):ai g (.fmp ks vs) (.map (N1 r))
 |yld (o v:Nat) (l:Loc) (r:Nat) (hl:g.obj o=N1 l) (hv:v<=l.st) (h:l.st=v->l.len=0->r=l.b):ai g (.yld o v) (.func (.yield r) #[] #[])
 |agg (cs:LA) (vs:Array BE) (hs:cs.length=vs.size)
   (h:∀(i:Nat) a x,cs[i]? = N1 a->vs[i]? = N1 x->ai g a x):ai g (.agg cs) (.agg vs)
 |tup (cs:LA) (vs:Array BE) (hs:cs.length=vs.size)
   (h:∀(i:Nat) a x,cs[i]? = N1 a->vs[i]? = N1 x->ai g a x):ai g (.tup cs) (.tuple vs)
 |ifc (t:Nat) (v:AV) (x:BE) (hv:v.tn=Pa) (h:ai g v x):ai g (.ifc t v) (.iface t x)
 |bj:ai g .bj .nilIface
def fU(g:G)(aqq:LA)(xs:List BE):Prop:=
 aqq.length=xs.length/\∀(i:Nat) a x,aqq[i]? = N1 a->xs[i]? = N1 x->ai g a x
structure G.le(g g':G):Prop where
 perm:∀b i x,g.perm b i=N1 x->g'.perm b i=N1 x
 obj:∀o l,g.obj o=N1 l->∃l',g'.obj o=N1 l'/\l.st<=l'.st/\(l'.st=l.st->l.len<=l'.len/\(l'.len=l.len->l'=l))
 whole:∀b x,g.whole b=N1 x->g'.whole b=N1 x
 io:g'.io=g.io
 code:g'.code=g.code
def G.le.refl(g:G):g.le g:=⟨λ_ _ _ h=>h,λ_ l h=>⟨l,h,AQ _,λ_=>⟨AQ _,λ_=>rfl⟩⟩,λ_ _ h=>h,rfl,rfl⟩
def G.le.trans{a b c:G}(h:a.le b)(h':b.le c):a.le c:=by
 refine⟨λx i v hx=>h'.perm _ _ _ (h.perm _ _ _ hx),λo l hl=>?_,λb x hx=>h'.whole _ _ (h.whole _ _ hx),h'.io.trans h.io,h'.code.trans h.code⟩;obtain⟨l1,h1,s1,e1⟩:=h.obj o l hl;obtain⟨l2,h2,s2,e2⟩:=h'.obj o l1 h1
 grind
def ai.mono(hg:g.le g'){x:BE}(h:ai g a x):ai g' a x:=by
 induction h with
 |undef x=>exact .undef x
 |bool b=>exact .bool b
 |int k n=>exact .int k n
 |str s=>exact .str s
 |fn f first ay vf vc hf hc h1 h2 ih1 ih2=>exact .fn f first ay vf vc hf hc ih1 ih2
 |bx=>exact .bx
 |ptr o v off l a hl hv h=>
  obtain⟨l',kg,hs,he⟩:=hg.obj o l hl;refine .ptr o v off l' a kg omT λe1 e2=>?_
  grind
 |vp o v n k i off l a hl hv hn h=>
  obtain⟨l',kg,hs,he⟩:=hg.obj o l hl;refine .vp o v n k i off l' a kg omT (λe1=>?_) λe1 e2=>?_
  all_goals grind
 |nilPtr=>exact .nilPtr
 |bj=>exact .bj
 |ifc t v x hv h ih=>exact .ifc t v x hv ih
 |ep row off b base bd hp h ih=>
  refine .ep row off b base bd (λj hj=>?_) λj a x ha hx=>?_
  .have:=hp j hj;cases hq:g.perm b (base+j)with
   |none=>grind
   |some y=>rw[hg.perm _ _ _ hq];rfl
  have hj:=(AH.1 ha).1;cases hq:g.perm b (base+j)with
  |none=>grind
  |some y=>
   have hy:=hg.perm _ _ _ hq
   grind
 |kn full=>exact .kn full
 |sl full rows b off cap k cm jo hk bd hp h ih=>
  refine .sl full rows b off cap k cm jo hk bd (λi j hi hj=>?_) λi j row a x hr ha hx=>?_
  .have:=hp i j hi hj;cases hq:g.perm b (off+i*k+j)with
   |none=>grind
   |some y=>rw[hg.perm _ _ _ hq];rfl
  have hi:=(AH.1 hr).1;cases hq:g.perm b (off+i*k+j)with
  |none=>grind
  |some y=>
   have hy:=hg.perm _ _ _ hq
   grind
 |sr o v n l a cap hl hv hn jg h=>
  obtain⟨l',kg,hs,he⟩:=hg.obj o l hl;refine .sr o v n l' a cap kg omT (λe1=>?_) jg λe1 e2=>?_
  all_goals grind
 |srw o v n hi l a cap hl hv hn tf h=>
  obtain⟨l',kg,hs,he⟩:=hg.obj o l hl;refine .srw o v n hi l' a cap kg omT (λe1=>?_) tf λe1 e2=>?_
  all_goals grind
 |srv o v n k lo l a cap hl hv hn gr h=>
  obtain⟨l',kg,hs,he⟩:=hg.obj o l hl;refine .srv o v n k lo l' a cap kg omT (λe1=>?_) gr λe1 e2=>?_
  all_goals grind
 |ar=>exact .ar
 |mp o v l r hl hv h=>
  obtain⟨l',kg,hs,he⟩:=hg.obj o l hl;refine .mp o v l' r kg omT λe1 e2=>?_
  grind
 |fmp ks vs r entries clock xs hw hp hk hv h1 h2 ih1 ih2=>exact .fmp ks vs r entries clock xs (hg.whole _ _ hw) hp hk hv ih1 ih2
 |yld o v l r hl hv h=>
  obtain⟨l',kg,hs,he⟩:=hg.obj o l hl;refine .yld o v l' r kg omT λe1 e2=>?_
  grind
 |agg cs vs hs h ih=>exact .agg cs vs hs ih
 |tup cs vs hs h ih=>exact .tup cs vs hs ih
def fU.mono(hg:g.le g')(h:fU g aqq xs):fU g' aqq xs:=⟨h.1,λi a x ha hx=>(h.2 i a x ha hx).mono hg⟩
def aQV(w:BL)(b:Nat):Prop:=∀j,(w.cell? ⟨b,j,N2⟩).isSome->w.frozen? ⟨b,j,N2⟩=Po
def aIT:bf->Code
 |.normal=>.skip
 |.exit id=>.exit id
 |.ret=>.ret
def aBw(g:G)(w:BL)(l:Loc):ah->Prop
 |.gone _=>True
 |.cw _ ty cells=>l.len=0/\(∃cs:Array BE,w.heap[l.b]? = N1 (.cells cs ty (0,0))/\cs.size=cells.length)/\∀(j:Nat) a,cells[j]? = N1 a->∃x,w.cell? ⟨l.b,j,N2⟩=N1 x/\ai g a x
 |.box _ cells=>l.len=0/\aQV w l.b/\∀(j:Nat) a,cells[j]? = N1 a->∃x,w.cell? ⟨l.b,j,N2⟩=N1 x/\ai g a x
 |.vec _ k rows=>l.len=rows.length/\l.k=k/\rows.length<=l.cap/\aQV w l.b/\(∀row∈rows,row.length=k) /\
   (∀j,j<l.cap*k->(w.cell? ⟨l.b,j,N2⟩).isSome) /\
   ∀(i j:Nat)(row:LA) a,rows[i]? = N1 row->row[j]? = N1 a->a.ak=Pa/\∃x,w.cell? ⟨l.b,i*k+j,N2⟩=N1 x/\ai g a x
 |.oz _ ty k rows=>(l.len=rows.length/\l.k=k/\rows.length<=l.cap/\aQV w l.b/\(∀row∈rows,row.length=k) /\
   (∀j,j<l.cap*k->(w.cell? ⟨l.b,j,N2⟩).isSome) /\
   ∀(i j:Nat)(row:LA) a,rows[i]? = N1 row->row[j]? = N1 a->a.ak=Pa/\∃x,w.cell? ⟨l.b,i*k+j,N2⟩=N1 x/\ai g a x) /\
   ∃cs:Array BE,w.heap[l.b]? = N1 (.cells cs ty (0,0))
 |.map _ es=>l.len=0/\∃entries clock,w.heap[l.b]? = N1 (.map entries clock)/\es.length=entries.size /\
   ∀(i:Nat) k v (e:FO),es[i]? = N1 (k,v)->entries[i]? = N1 e->ai g k e.key/\ai g v e.val
 |.rnd _ _ _ ps body ρ busy pend=>l.len=0/\∃r:Loop,w.heap[l.b]? = N1 (.loop r)/\r.state=(if busy then .busy else if pend.isNone then .ready else .done)/\r.pending=pend.map aIT /\
   r.params.toList=ps/\(∃ca cb,body=.seq ca cb/\g.code ca r.assign/\g.code cb r.body)/\True/\ρ.length=r.tmps.size/\∀t,ai g ((ρ[t]?).getD .undef) (r.tmps.getD t EE)
def ah.alive:ah->Bool
 |.gone _=>Po
 |_=>Pa
structure au(g:G)(H:LO)(o:Nat)(l:Loc)(x:ah):Prop where
 Pr:H[o]? = N1 x
 alive:x.alive=Pa
 loc:g.obj o=N1 l
 st:l.st=x.ver
structure Whole(g:G)(H:LO)(w:BL):Prop where
 blocks:∀b x,g.whole b=N1 x->w.heap[b]? = N1 x/\∀o l y,au g H o l y->l.b≠b
 io:g.io=(w.os,w.output)
def Whole.lt(h:Whole g H w){x:Obj}(hx:g.whole b=N1 x):b<w.heap.size:=by
 have:=(h.blocks b x hx).1
 grind
def Whole.aq{H':LO}(h:Whole g H w)(hw:g'.whole=g.whole)(hg:g'.io=g.io)(kh:w'.os=w.os/\w'.output=w.output)(hh:∀b,b<w.heap.size->(∀o l y,au g H o l y->l.b≠b)->w'.heap[b]? = w.heap[b]?)(ho:∀o l y,au g' H' o l y->w.heap.size<=l.b∨∃o' l' y',au g H o' l' y'/\l'.b=l.b):Whole g' H' w':=by
 refine⟨?_,by rw[hg,kh.1,kh.2];exact h.io⟩;intro b x hx;rw[hw]at hx;obtain⟨h1,h2⟩:=h.blocks b x hx
 grind
structure WF(g:G)(H:LO)(w:BL):Prop where
 perm:∀b i x,g.perm b i=N1 x->w.cell? ⟨b,i,N2⟩=N1 x
 lt:∀o l,g.obj o=N1 l->o<H.length
 blk:∀o l,g.obj o=N1 l->l.b<w.heap.size
 st:∀o x l,H[o]? = N1 x->g.obj o=N1 l->l.st<=x.ver
 obj:∀o l x,au g H o l x->aBw g w l x
 jh:∀o l x,au g H o l x->∀j,g.perm l.b j=N2
 inj:∀o o' l l' x x',au g H o l x->au g H o' l' x'->l.b=l'.b->o=o'
 whole:Whole g H w
def aDS(g:G)(wr:LN)(w w':BL):Prop:=
 w.heap.size<=w'.heap.size /\
 ∀b,b<w.heap.size->(∀o∈wr,∀l,g.obj o=N1 l->l.b≠b)->w'.heap[b]? = w.heap[b]?
structure Step(g:G)(H:LO)(w:BL)(g':G)(H':LO)(w':BL)(wr:LN):Prop where
 le:g.le g'
 wf:WF g' H' w'
 frame:aDS g wr w w'
 same:∀o,o<H.length->o∉wr->H'[o]? = H[o]?
 len:H.length<=H'.length
 mc:∀o l',g'.obj o=N1 l'->w.heap.size<=l'.b∨∃l,g.obj o=N1 l/\l.b=l'.b
 aq:∀o,o<H.length->o∉wr->g'.obj o=g.obj o
def cell_of_heap(h:w'.heap[b]? = w.heap[b]?)(j:Nat):w'.cell? ⟨b,j,N2⟩=w.cell? ⟨b,j,N2⟩:=by simp only[EF,h]
def frozen_of_heap(h:w'.heap[b]? = w.heap[b]?)(j:Nat):w'.frozen? ⟨b,j,N2⟩=w.frozen? ⟨b,j,N2⟩:=by simp only[OS,h]
def aQV.of_heap(h:w'.heap[b]? = w.heap[b]?)(hs:aQV w b):aQV w' b:=λj hj=>by
 rw[frozen_of_heap h];exact hs j (by rwa [cell_of_heap h]at hj)
def aBw.aq{x:ah}(hg:g.le g')(hb:w'.heap[l.b]? = w.heap[l.b]?)(h:aBw g w l x):aBw g' w' l x:=by
 cases x with
 |gone v=>trivial
 |box v cells=>obtain⟨h1,h2,h3⟩:=h;refine⟨h1,h2.of_heap hb,λj a ha=>?_⟩;obtain⟨y,hy,hr⟩:=h3 j a ha;exact⟨y,by rw[cell_of_heap hb];exact hy,hr.mono hg⟩
 |cw v ty cells=>obtain⟨h1,⟨cs,h2,zc⟩,h3⟩:=h;refine⟨h1,⟨cs,by rw[hb];exact h2,zc⟩,λj a ha=>?_⟩;obtain⟨y,hy,hr⟩:=h3 j a ha;exact⟨y,by rw[cell_of_heap hb];exact hy,hr.mono hg⟩
 |vec v k rows=>obtain⟨h1,h2,h3,h4,h5,h6,h7⟩:=h;refine⟨h1,h2,h3,h4.of_heap hb,h5,λj hj=>by rw[cell_of_heap hb];exact h6 j hj,λi j row a hr ha=>?_⟩;obtain⟨hs,y,hy,hv⟩:=h7 i j row a hr ha;exact⟨hs,y,by rw[cell_of_heap hb];exact hy,hv.mono hg⟩
 |oz v ty k rows=>obtain⟨⟨h1,h2,h3,h4,h5,h6,h7⟩,cs,h8⟩:=h;refine⟨?_,cs,by rw[hb];exact h8⟩;refine⟨h1,h2,h3,h4.of_heap hb,h5,λj hj=>by rw[cell_of_heap hb];exact h6 j hj,λi j row a hr ha=>?_⟩;obtain⟨hs,y,hy,hv⟩:=h7 i j row a hr ha;exact⟨hs,y,by rw[cell_of_heap hb];exact hy,hv.mono hg⟩
 |map v es=>obtain⟨h1,entries,clock,h2,h3,h4⟩:=h;exact⟨h1,entries,clock,by rw[hb];exact h2,h3,λi k v e hk he=>⟨(h4 i k v e hk he).1.mono hg,(h4 i k v e hk he).2.mono hg⟩⟩
 |rnd v base sites ps body ρ busy pend=>obtain⟨h1,r,h2,h3,h4,h5,h6,h7,h8,h9⟩:=h;exact⟨h1,r,by rw[hb];exact h2,h3,h4,h5,by rw[hg.code];exact h6,h7,h8,λt=>(h9 t).mono hg⟩
def WF.of_heap(h:WF g H w)(e:w'.heap=w.heap)(io:w'.os=w.os/\w'.output=w.output:=by exact⟨rfl,rfl⟩):WF g H w':=by
 have hc:∀a,w'.cell? a=w.cell? a:=λa=>by simp only[EF,e]
 refine⟨λb i x hx=>by rw[hc];exact h.perm b i x hx,h.lt,λo l hl=>by rw[e];exact h.blk o l hl,h.st,λo l x hb=>?_,h.jh,h.inj,h.whole.aq rfl rfl io (λb _ _=>by rw[e]) λo l y hl=>.inr ⟨o,l,y,hl,rfl⟩⟩;exact (h.obj o l x hb).aq (G.le.refl g) (by rw[e])
def aDS.refl(g:G)(wr:LN)(w:BL):aDS g wr w w:=⟨AQ _,λ_ _ _=>rfl⟩
def Step.refl(h:WF g H w):Step g H w g H w []:=⟨G.le.refl g,h,aDS.refl g _ w,λ_ _ _=>rfl,AQ _,λ_ l' hl=>.inr ⟨l',hl,rfl⟩,λ_ _ _=>rfl⟩
def Step.of_heap(h:WF g H w)(e:w'.heap=w.heap)(io:w'.os=w.os/\w'.output=w.output:=by exact⟨rfl,rfl⟩):Step g H w g H w' []:=⟨G.le.refl g,h.of_heap e io,⟨uWa,λ_ _ _=>by rw[e]⟩,λ_ _ _=>rfl,AQ _,λ_ l' hl=>.inr ⟨l',hl,rfl⟩,λ_ _ _=>rfl⟩
def Step.trans{g1 g2:G}{H1 H2:LO}{w1 w2:BL}{a b:LN}(h:Step g H w g1 H1 w1 a)(h':Step g1 H1 w1 g2 H2 w2 b):Step g H w g2 H2 w2 (a++b):=by
 refine⟨h.le.trans h'.le,h'.wf,⟨HX h.frame.1 h'.frame.1,λx hx ho=>?_⟩,λo hl ho=>?_,HX h.len h'.len,λo l' hl=>?_,λo hl ho=>?_⟩
 .rw[<- h.frame.2 x hx λo hm l hl=>ho o (CZ _ hm) l hl];refine h'.frame.2 x (FU hx h.frame.1) λo hm l hl=>?_;rcases h.mc o l hl with nj | ⟨l0,h0,e0⟩
  .omega
  grind
 .simp only[AY,not_or]at ho;rw[h'.same o (FU hl h.len) ho.2,h.same o hl ho.1]
 .rcases h'.mc o l' hl with nj | ⟨l0,h0,e0⟩
  .exact .inl (HX h.frame.1 nj)
  rcases h.mc o l0 h0 with nj | ⟨l1,h1,e1⟩
  all_goals grind
 simp only[AY,not_or]at ho;rw[h'.aq o (FU hl h.len) ho.2,h.aq o hl ho.1]
def aDS.weaken{wr ba:LN}(h:aDS g wr w w')(hs:∀o∈wr,o∈ba):aDS g ba w w':=⟨h.1,λb hb ho=>h.2 b hb λo hm=>ho o (hs o hm)⟩
def Step.weaken{H':LO}{wr ba:LN}(h:Step g H w g' H' w' wr)(hs:∀o∈wr,o∈ba):Step g H w g' H' w' ba:=⟨h.le,h.wf,h.frame.weaken hs,λo hl ho=>h.same o hl λhm=>ho (hs o hm),h.len,h.mc,λo hl ho=>h.aq o hl λhm=>ho (hs o hm)⟩
def WF.ko(h:WF g H w){x:BE}(hx:g.perm b i=N1 x):b<w.heap.size:=
 World.block_lt_of_cell? (a:=⟨b,i,N2⟩) w (h.perm b i x hx)
def G.bh(g:G)(b:Nat)(f:Nat->Option BE):G:={ g with perm:=λb' i=>if b'=b then f i else g.perm b' i }
def cK{o:Obj}(e:w'.heap=w.heap.push o)(h:b<w.heap.size):w'.heap[b]? = w.heap[b]? := by grind
def Step.ir(h:WF g H w)(c:Array BE)(t:BP)(fz:Nat×Nat)(e:w'.heap=w.heap.push (.cells c t fz))(io:w'.os=w.os/\w'.output=w.output:=by exact⟨rfl,rfl⟩):Step g H w (g.bh w.heap.size λi=>c[i]?) H w' []:=by
 have hle:g.le (g.bh w.heap.size λi=>c[i]?):=by refine⟨λb i x hx=>?_,λo l hl=>⟨l,hl,AQ _,λ_=>⟨AQ _,λ_=>rfl⟩⟩,λ_ _ hx=>hx,rfl,rfl⟩;have:=h.ko hx;have bl:b≠w.heap.size:=omT;simp only[G.bh,bl,Vt];exact hx
 have dx:∀o l x,au (g.bh w.heap.size λi=>c[i]?) H o l x->au g H o l x:=λo l x hb=>⟨hb.Pr,hb.alive,hb.loc,hb.st⟩;refine⟨hle,⟨λb i x hx=>?_,h.lt,λo l hl=>?_,h.st,λo l x hb=>?_,λo l x hb j=>?_,λo o' l l' x x' hb du=>h.inj o o' l l' x x' (dx _ _ _ hb) (dx _ _ _ du),
   h.whole.aq rfl rfl io (λb hb _=>cK e hb) λo l y hl=>.inr ⟨o,l,y,dx o l y hl,rfl⟩⟩,⟨?_,λb hb _=>cK e hb⟩,λ_ _ _=>rfl,AQ _,λ_ l' hl=>.inr ⟨l',hl,rfl⟩,λ_ _ _=>rfl⟩
 .by_cases hb:b=w.heap.size
  .subst hb;simp only[G.bh,Vu]at hx;simp only[EF,e,FE,Vu];exact hx
  simp only[G.bh,hb,Vt]at hx;rw[cell_of_heap (cK e (h.ko hx))];exact h.perm b i x hx
 .have:=h.blk o l hl;rw[e];simp;omega
 .exact (h.obj o l x (dx o l x hb)).aq hle (cK e (h.blk o l hb.loc))
 .have:=h.blk o l hb.loc;have bl:l.b≠w.heap.size:=omT;simp only[G.bh,bl,Vt];exact h.jh o l x (dx o l x hb) j
 rw[e];simp
def G.setObj(g:G)(o:Nat)(l:Loc):G:={ g with obj:=λo'=>if o'=o then N1 l else g.obj o' }
def getElem?_set_ne'(l:List α){j:Nat}(x:α)(h:i≠j):(l.set i x)[j]? = l[j]? := by simp[h]
def Step.update(h:WF g H w)(o:Nat)(x':ah)(l':Loc)(ho:o<H.length)(gd:w.heap.size<=w'.heap.size)(ju:∀b,b<w.heap.size->(∀l x,au g H o l x->l.b≠b)->w'.heap[b]? = w.heap[b]?)(hb:l'.b<w'.heap.size)(wx:w.heap.size<=l'.b∨∃l x,au g H o l x/\l.b=l'.b)(bd:l'.st=x'.ver)(j8:x'.alive=Pa)(X5:∀l,g.obj o=N1 l->l.st<=l'.st/\(l'.st=l.st->l.len<=l'.len/\(l'.len=l.len->l'=l)))(la:g.le (g.setObj o l')->aBw (g.setObj o l') w' l' x')(io:w'.os=w.os/\w'.output=w.output:=by exact⟨rfl,rfl⟩):Step g H w (g.setObj o l') (H.set o x') w' [o]:=by
 have hle:g.le (g.setObj o l'):=by
  refine⟨λ_ _ _ hx=>hx,λo' l hl=>?_,λ_ _ hx=>hx,rfl,rfl⟩;by_cases e:o'=o
  .subst e;exact⟨l',uWT,(X5 l hl).1,(X5 l hl).2⟩
  exact⟨l,by simp only[G.setObj,e,Vt];exact hl,AQ _,λ_=>⟨AQ _,λ_=>rfl⟩⟩
 have hpb:∀b i x,g.perm b i=N1 x->w'.heap[b]? = w.heap[b]? := λb i x hx=>by
  refine ju b (h.ko hx) λl y hb e=>?_;have:=h.jh o l y hb i;rw[e,hx]at this;cases this
 have dx:∀o' l x,o'≠o->au (g.setObj o l') (H.set o x') o' l x->au g H o' l x:=λo' l x bl hb=>⟨by rw[<- getElem?_set_ne' H x' (Ne.symm bl)];exact hb.Pr,hb.alive,by have:=hb.loc;simpa only[G.setObj,bl,Vt]using this,hb.st⟩;have gy:∀l x,au (g.setObj o l') (H.set o x') o l x->l=l'/\x=x':=λl x hb=>by
  have h1:=hb.Pr;have h2:=hb.loc;simp[ho]at h1;simp[G.setObj]at h2;exact⟨h2.symm,h1.symm⟩
 have hkeepB:∀o' l x,o'≠o->au g H o' l x->w'.heap[l.b]? = w.heap[l.b]? := λo' l x bl hb=>ju l.b (h.blk o' l hb.loc) λl0 x0 qw e=>bl (h.inj o' o l l0 x x0 hb qw e.symm);refine⟨hle,⟨λb i x hx=>?_,λo' l hl=>?_,λo' l hl=>?_,λo' x l hx hl=>?_,λo' l x du=>?_,λo' l x du j=>?_,λo1 o2 l1 l2 x1 x2 fo dp e=>?_,
   h.whole.aq rfl rfl io (λb hb tp=>ju b hb λl x hbk'=>tp o l x hbk') λo' l y hl=>by
    by_cases e:o'=o
    .subst e;obtain⟨rfl,rfl⟩:=gy l y hl;rcases wx with nj | ⟨l0,x0,qw,e0⟩
     .exact .inl nj
     exact .inr ⟨_,l0,x0,qw,e0⟩
    exact .inr ⟨o',l,y,dx o' l y e hl,rfl⟩⟩,⟨gd,λb hb hw=>ju b hb λl x hbk'=>hw o siT l hbk'.loc⟩,λo' hl hm=>?_,siT,λo' l hl=>?_,λo' hl hm=>?_⟩
 .rw[cell_of_heap (hpb b i x hx)];exact h.perm b i x hx
 .by_cases e:o'=o
  .subst e;simpa using ho
  simp only[G.setObj,e,Vt]at hl;simpa using h.lt o' l hl
 .by_cases e:o'=o
  .subst e;simp[G.setObj]at hl;subst hl;exact hb
  simp only[G.setObj,e,Vt]at hl;exact FU (h.blk o' l hl) gd
 .by_cases e:o'=o
  .subst e;simp[G.setObj]at hl;simp[ho]at hx;subst hl;subst hx;exact Nat.le_of_eq bd
  simp only[G.setObj,e,Vt]at hl;rw[getElem?_set_ne' H x' (Ne.symm e)]at hx;exact h.st o' x l hx hl
 .by_cases e:o'=o
  .subst e;obtain⟨rfl,rfl⟩:=gy l x du;exact la hle
  exact (h.obj o' l x (dx o' l x e du)).aq hle (hkeepB o' l x e (dx o' l x e du))
 .by_cases e:o'=o
  .subst e;obtain⟨rfl,rfl⟩:=gy l x du;rcases wx with nj | ⟨l0,x0,qw,e0⟩
   .cases hq:(g.setObj o' l).perm l.b j with
    |none=>rfl
    |some y=>have:=h.ko (b:=l.b) (i:=j) (x:=y) hq;omega
   rw[<- e0];exact h.jh o' l0 x0 qw j
  exact h.jh o' l x (dx o' l x e du) j
 .by_cases e1:o1=o
  .by_cases e2:o2=o
   .rw[e1,e2]
   subst e1;obtain⟨rfl,rfl⟩:=gy l1 x1 fo;have hb2':=dx o2 l2 x2 e2 dp;rcases wx with nj | ⟨l0,x0,qw,e0⟩
   .have:=h.blk o2 l2 hb2'.loc;omega
   exact h.inj o1 o2 l0 l2 x0 x2 qw hb2' omT
  by_cases e2:o2=o
  .subst e2;obtain⟨rfl,rfl⟩:=gy l2 x2 dp;have hb1':=dx o1 l1 x1 e1 fo;rcases wx with nj | ⟨l0,x0,qw,e0⟩
   .have:=h.blk o1 l1 hb1'.loc;omega
   exact h.inj o1 o2 l1 l0 x1 x0 hb1' qw omT
  exact h.inj o1 o2 l1 l2 x1 x2 (dx _ _ _ e1 fo) (dx _ _ _ e2 dp) e
 .simp only[CG]at hm;exact getElem?_set_ne' H x' (Ne.symm hm)
 .by_cases e:o'=o
  .subst e;simp[G.setObj]at hl;subst hl;rcases wx with nj | ⟨l0,x0,qw,e0⟩
   .exact .inl nj
   exact .inr ⟨l0,qw.loc,e0⟩
  simp only[G.setObj,e,Vt]at hl;exact .inr ⟨l,hl,rfl⟩
 simp only[CG]at hm;simp[G.setObj,hm]
def Step.gone(h:WF g H w){x:ah}(hb:au g H o l x):Step g H w (g.bh l.b λi=>w.cell? ⟨l.b,i,N2⟩) (H.set o (.gone x.ver)) w [o]:=by
 have ho:o<H.length:=h.lt o l hb.loc;have hle:g.le (g.bh l.b λi=>w.cell? ⟨l.b,i,N2⟩):=by
  refine⟨λb i y hy=>?_,λo l hl=>⟨l,hl,AQ _,λ_=>⟨AQ _,λ_=>rfl⟩⟩,λ_ _ hx=>hx,rfl,rfl⟩;by_cases e:b=l.b
  .subst e;have:=h.jh o l x hb i;rw[hy]at this;cases this
  simp only[G.bh,e,Vt];exact hy
 have dx:∀o' l' x',au (g.bh l.b λi=>w.cell? ⟨l.b,i,N2⟩) (H.set o (.gone x.ver)) o' l' x'->o'≠o/\au g H o' l' x':=λo' l' x' du=>by
  have bl:o'≠o:=λe=>by
   subst e;have h1:=du.Pr;simp[ho]at h1;have h2:=du.alive;subst h1;simp[ah.alive]at h2
  exact⟨bl,⟨by rw[<- getElem?_set_ne' H (.gone x.ver) (Ne.symm bl)];exact du.Pr,du.alive,du.loc,du.st⟩⟩
 refine⟨hle,⟨λb i y hy=>?_,λo' l' hl=>by simpa using h.lt o' l' hl,h.blk,λo' x' l' hx hl=>?_,λo' l' x' du=>?_,λo' l' x' du j=>?_,λo1 o2 l1 l2 x1 x2 fo dp e=>?_,h.whole.aq rfl rfl ⟨rfl,rfl⟩ (λ_ _ _=>rfl) λo l y hl=>.inr ⟨o,l,y,(dx _ _ _ hl).2,rfl⟩⟩,
  aDS.refl _ _ _,λo' hl hm=>?_,siT,λo' l' hl=>.inr ⟨l',hl,rfl⟩,λ_ _ _=>rfl⟩
 .by_cases e:b=l.b
  .subst e;simpa only[G.bh,Vu]using hy
  simp only[G.bh,e,Vt]at hy;exact h.perm b i y hy
 .by_cases e:o'=o
  .subst e;simp[ho]at hx;subst hx;exact h.st o' x l' hb.Pr hl
  rw[getElem?_set_ne' H (.gone x.ver) (Ne.symm e)]at hx;exact h.st o' x' l' hx hl
 .exact (h.obj o' l' x' (dx _ _ _ du).2).aq hle rfl
 .obtain⟨bl,qw⟩:=dx _ _ _ du;have yh:l'.b≠l.b:=λe=>bl (h.inj o' o l' l x' x qw hb e);simp only[G.bh,yh,Vt];exact h.jh o' l' x' qw j
 .exact h.inj o1 o2 l1 l2 x1 x2 (dx _ _ _ fo).2 (dx _ _ _ dp).2 e
 simp only[CG]at hm;exact getElem?_set_ne' H (.gone x.ver) (Ne.symm hm)
structure cu where
 row:Nat->Option LA
 nl:Bool:=Po
 typed:LN:=[]
 refs:LN:=[]
variable {ab:cu}
def aYr(nl:Bool):BE->Option AV
 |.bool b=>N1 (.bool b)
 |.int k n=>N1 (.int k n)
 |.string s=>N1 (.str s.data.toList)
 |.func (.func f) vf vc=>if vf.size=0/\vc.size=0 then N1 (.fn f [] [])else N2
 |.nilFunc=>N1 .bx
 |.pointer N2=>N1 .nilPtr
 |.nilIface=>N1 .bj
 |.map N2=>N1 .undef
 |.slice N2 0 0=>N1 (if nl then .ar else .sl Pa [])
 |_=>N2
def aQZ(nl:Bool):List BE->Option LA
 | []=>N1 []
 |v::r=>match aYr nl v with
  |none=>N2
  |some a=>match aQZ nl r with
   |none=>N2
   |some aqq=>N1 (a::aqq)
def ofV(nl:Bool):BE->Option AV
 |.agg cs=>(aQZ nl cs.toList).map .agg
 |v=>aYr nl v
section
variable (P:CU)(ab:cu)
def fA:CA->Option aa
 |.tmp t=>N1 (.tmp t)
 |.const v=>(ofV ab.nl v).map .const
 |.func f=>N1 (.const (.fn f [] []))
 |.global g=>(ab.row g).map λrow=>.const (.ep row 0)
def sB:List CA->Option (List aa)
 | []=>N1 []
 |x::r=>match fA ab x with
  |none=>N2
  |some a=>match sB r with
   |none=>N2
   |some aqq=>N1 (a::aqq)
def wP:Option CA->Option (Option aa)
 |none=>N1 N2
 |some x=>(fA ab x).map N1
def size?(t:BP):Option Nat:=(P.info? t).map (·.size)
def zeroCells?(t:BP):Option LA:=((P.info? t).bind (·.zero)).bind λz=>aQZ ab.nl z.cells.toList
def zeroV?(t:BP):Option AV:=((P.info? t).bind (·.zero)).bind (ofV ab.nl)
def aVG(t:BP):Bool:=
 match P.underlying t with
 |some (.struct _) | some (.array ..)=>Pa
 |_=>Po
def qM(t:BP):Option (Nat×Bool):=
 match size? P t,P.underlying t with
 |some n,N1 _=>if aVG P t then N1 (n,Pa)else if n=1 then N1 (1,Po)else N2
 |_,_=>N2
def aHU(fields:Array JU):List (Nat×CA)->Option (List (Nat×Nat×aa))
 | []=>N1 []
 | (i,x)::r=>
  match fields[i]? with
  |none=>N2
  |some f=>match size? P f.type,fA ab x,aHU fields r with
   |some n,N1 a,N1 r'=>N1 ((f.offset,n,a)::r')
   |_,_,_=>N2
def aHV(n:Nat):List (Nat×CA)->Option (List (Nat×Nat×aa))
 | []=>N1 []
 | (i,x)::r=>match fA ab x,aHV n r with
  |some a,N1 r'=>N1 ((i*n,n,a)::r')
  |_,_=>N2
def aFK(len:Nat):List (Nat×CA)->Option (List (Nat×aa))
 | []=>N1 []
 | (i,x)::r=>match fA ab x,aFK len r with
  |some a,N1 r'=>if i<len then N1 ((i,a)::r')else N2
  |_,_=>N2
def aOL(t:BP):Option Tag:=
 match P.underlying t with
 |some .bool=>N1 .bool
 |some (.int _)=>N1 .int
 |some .string=>N1 .str
 |_=>N2
def qN:Nat->List JU->Option (List Tag)
 |_,[]=>N1 []
 |i,f::r=>
  match aOL P f.type,qN (i+1) r with
  |some t,N1 ts=>if f.name ≠ "_" /\ f.offset=i then N1 (t::ts)else N2
  |_,_=>N2
def eqK(t:BP):vd:=
 match P.underlying t with
 |some (.struct fields)=>match qN P 0 fields.toList with
  |some ts=>if P.stoodInHeld t || P.eqGuardType P.depth t then .no else .cells ts
  |none=>.no
 |some .bool=>.bool
 |some (.func ..)=>.func
 |some (.pointer _)=>.ptr
 |_=>.no
def aJL(m:String)(t:BP):Option FuncId:=
 match P.info? t,P.underlying t with
 |some i,N1 (.pointer _)=>match i.methods.find? (·.name==m)with
  |some r=>if r.path.isEmpty then match r.func with
   |some (f,Pa)=>N1 f
   |_=>N2
   else N2
  |none=>N2
 |_,_=>N2
def aIU(m:String):List (Nat×Nat):=(GZ P.types.size).filterMap λt=>(aJL P m t).map λf=>(t,f)
def aNy{m:String}{t:Nat}(h:(aIU P m).lookup t=N1 f):aJL P m t=N1 f:=by
 unfold aIU at h;generalize GZ P.types.size=l at h
 induction l with
 |nil=>simp at h
 |cons u r ih=>
  simp only[List.filterMap_cons]at h
  grind [aJL]
def aLz:CA->Bool
 |.const _=>Pa
 |_=>Po
def bIa(t:BP)(n:Nat)(e:BP):vd:=match aOL P e with
 |some tag=>if P.cellsOf e=1/\(P.info? e).isSome=Pa/\P.eqGuardType P.depth t=Po then .cells (AX n tag)else .no
 |none=>.no
def aWr(t:BP)(x y:CA):vd:=
 match P.underlying t with
 |some (.interface _)=>if aLz x || aLz y then .iface else .no
 |some (.array n e)=>bIa P t n e
 |_=>eqK P t
def aYs(e:BP):Bool:=
 match P.underlying e with
 |some (.int .u8)=>size? P e==N1 1
 |_=>Po
def aTm(src dst:BP):Option tm:=
 match P.underlying src,P.underlying dst with
 |some (.int _),N1 (.int k)=>N1 (.toInt k)
 |some (.int _),N1 .string=>N1 .i2s
 |some .string,N1 .string=>N1 .same
 |some .string,N1 (.slice e)=>if aYs P e then N1 .s2b else N2
 |some (.slice e),N1 .string=>if aYs P e then N1 .b2s else N2
 |_,_=>N2
def aIV(t:BP)(y:CA):Bool:=
 match P.underlying t,y with
 |some (.slice _),.const (.slice N2 0 0)=>Pa
 |_,_=>Po
def aZK:aa->Bool
 |.const (.fn f _ _)=>ab.refs.contains f
 |_=>Po
def cOp(o:HP):Option df:=
 match o.op with
 |.move x | .assign x=>(fA ab x).map .mov
 |.pick c a b=>match fA ab c,fA ab a,fA ab b with
  |some c,N1 a,N1 b=>N1 (.pick c a b)
  |_,_,_=>N2
 |.alloc t=>if ab.typed.contains t then (zeroCells? P ab t).map (.gv t)else (zeroCells? P ab t).map .alloc
 |.box t x=>match size? P t,fA ab x with
  |some n,N1 x=>if ab.typed.contains t then N1 (.tbx t n x)else N1 (.box n x)
  |_,_=>N2
 |.build t parts=>match zeroCells? P ab t,P.underlying t with
  |some zs,N1 (.struct fields)=>if fields.all (λf=>(size? P f.type).isSome)then (aHU P ab fields parts.toList).map (.build zs)else N2
  |some zs,N1 (.array _ e)=>match size? P e with
   |some n=>(aHV ab n parts.toList).map (.build zs)
   |none=>N2
  |_,_=>N2
 |.buildSlice t len parts=>match P.underlying t with
  |some (.slice e)=>match size? P e,zeroCells? P ab e,aFK ab len parts.toList with
   |some k,N1 zs,N1 ps=>if 0<k/\zs.length=k/\len*k<=16777216/\zs.all AV.still then N1 (.bsl k (zs.map AV.aj) len ps)else N2
   |_,_,_=>N2
  |_=>N2
 |.load t x=>match qM P t,fA ab x with
  |some (n,agg),N1 x=>N1 (.load n agg x)
  |_,_=>N2
 |.store t x v=>match size? P t,fA ab x,fA ab v with
  |some n,N1 x,N1 v=>N1 (.store n x v)
  |_,_,_=>N2
 |.nilCheck x=>(fA ab x).map .cz
 |.binOp op t x y _=>if aIV P t y then
   match op with
   |.eql=>(fA ab x).map (.ky Po)
   |.neq=>(fA ab x).map (.ky Pa)
   |_=>N2
  else match fA ab x,fA ab y with
  |some x',N1 y'=>N1 (.bin op (aWr P t x y) x' y')
  |_,_=>N2
 |.unOp op _ x=>(fA ab x).map (.un op)
 |.convert src dst x=>match aTm P src dst,fA ab x with
  |some c,N1 x=>N1 (.conv c x)
  |_,_=>N2
 |.makeFunc (.func f) first ay=>match sB ab first.toList,sB ab ay.toList with
  |some a,N1 b=>N1 (.mkf f a b)
  |_,_=>N2
 |.makeSlice t len cap=>match P.underlying t with
  |some (.slice e)=>match P.info? e,zeroCells? P ab e,fA ab len,fA ab cap with
   |some i,N1 zs,N1 l,N1 c=>if 0<i.size/\zs.length=i.size/\zs.all AV.still then N1 (.mks i.size i.bytes zs l c)else N2
   |_,_,_,_=>N2
  |_=>N2
 |.slice t x lo hi mx=>match P.underlying t,fA ab x,wP ab lo,wP ab hi,wP ab mx with
  |some .string,N1 x,N1 lo,N1 hi,N1 N2=>N1 (.fm x lo hi)
  |some (.slice e),N1 x,N1 lo,N1 hi,N1 mx=>match size? P e with
   |some k=>if 0<k then (if ab.nl/\hi.isNone/\mx.isNone then N1 (.view k x lo)else N1 (.gw k x lo hi mx))else N2
   |none=>N2
  |some (.array n e),N1 x,N1 lo,N1 hi,N1 mx=>match size? P e with
   |some k=>if 0<k then N1 (.na n k x lo hi mx)else N2
   |none=>N2
  |_,_,_,_,_=>N2
 |.fieldAddr s x f=>match P.underlying s,fA ab x with
  |some (.struct fields),N1 x=>match fields[f]? with
   |some fd=>match size? P fd.type with
    |some (_+1)=>N1 (.fa fd.offset x)
    |_=>N2
   |none=>N2
  |_,_=>N2
 |.field s x f=>match P.underlying s,fA ab x with
  |some (.struct fields),N1 x=>match fields[f]? with
   |some fd=>match qM P fd.type with
    |some (n,agg)=>N1 (.fld fd.offset n agg x)
    |none=>N2
   |none=>N2
  |_,_=>N2
 |.indexAddr t x i=>match P.underlying t,fA ab x,fA ab i with
  |some (.array n e),N1 x,N1 i=>match size? P e with
   |some k=>N1 (.iaA n k x i)
   |none=>N2
  |some (.slice e),N1 x,N1 i=>match size? P e with
   |some k=>if 0<k then N1 (.iaV x i k)else N2
   |none=>N2
  |_,_,_=>N2
 |.index t x i=>match P.underlying t,fA ab x,fA ab i with
  |some (.array n e),N1 x,N1 i=>match qM P e with
   |some (k,agg)=>N1 (.ixA n k agg x i)
   |none=>N2
  |some .string,N1 x,N1 i=>N1 (.ixS x i)
  |_,_,_=>N2
 |.extract x i=>(fA ab x).map (.ext i)
 |.makeInterface t x=>match P.underlying t with
  |some (.interface _)=>N2
  |some _=>(fA ab x).map (.km t)
  |none=>N2
 |.makeMap _ N2=>N1 .jn
 |.insert t m k v=>match P.underlying t with
  |some (.map kt _)=>match P.underlying kt,fA ab m,fA ab k,fA ab v with
   |some (.int _),N1 m,N1 k,N1 v=>N1 (.ins m k v)
   |_,_,_,_=>N2
  |_=>N2
 |.mapUpdate t m k v=>match P.underlying t with
  |some (.map kt _)=>match P.underlying kt,fA ab m,fA ab k,fA ab v with
   |some (.struct _),N1 m,N1 k,N1 v=>if eqK P kt=.cells [.str,.int] then N1 (.Fs m k v)else N2
   |_,_,_,_=>N2
  |_=>N2
 |.lookup t m k ok=>match P.underlying t with
  |some (.map kt et)=>match P.underlying kt,zeroV? P ab et,fA ab m,fA ab k with
   |some (.int _),N1 z,N1 m,N1 k=>N1 (.look z m k ok)
   |some (.struct _),N1 z,N1 m,N1 k=>if eqK P kt=.cells [.str,.int] then N1 (.wy z m k ok)else N2
   |_,_,_,_=>N2
  |_=>N2
 |.call { callee:=.builtin b,args,argTypes }=>match b,sB ab args.toList,argTypes.toList with
  |.len,N1 [x],[t]=>match P.underlying t with
   |some .string=>N1 (.fg x)
   |some (.slice _)=>N1 (.Wk x)
   |some (.array n _)=>N1 (.zb n)
   |_=>N2
  |.append,N1 [s,x],[t,u]=>match P.underlying t,P.underlying u with
   |some (.slice e),N1 d=>if d matches .int _ then N2 else match P.info? e with
    |some i=>match i.zero with
     |some z=>if 0<i.size/\z.cells.size=i.size then (if ab.typed.contains e then N1 (.ni e i.size i.bytes s x)else N1 (.app i.size i.bytes s x))else N2
     |none=>N2
    |none=>N2
   |_,_=>N2
  |.copy,N1 [x,y],[t,_]=>match P.underlying t with
   |some (.slice e)=>match size? P e with
    |some k=>if 0<k then N1 (.cpy k x y)else N2
    |none=>N2
   |_=>N2
  |.max,N1 xs,_=>N1 (.mm Pa xs)
  |.min,N1 xs,_=>N1 (.mm Po xs)
  |_,_,_=>N2
 |.call { callee:=.invoke x m,args,.. }=>match fA ab x,sB ab args.toList with
  |some x,N1 xs=>N1 (.Rd (aIU P m) x xs)
  |_,_=>N2
 |.call { callee:=.value f,args,.. }=>match fA ab f,sB ab args.toList with
  |some f,N1 xs=>N1 (if aZK ab f then .ee f xs else .dm f xs)
  |_,_=>N2
 |_=>N2
def aFL(ops:List HP)(g:Option (Nat×Bool)):Option (Option Nat×Bool):=
 match g with
 |none=>N2
 |some (j,want)=>N1 ((ops[j]?).bind (·.dst),want)
def once:LN->LN | []=>[] | x::r=>let d:=once r;if d.contains x then d else x::d
def aIW a:∀(l:LN),a∈once l↔a∈l
 | []=>by simp[once]
 |x::r=>by
  have ih:=aIW a r;simp only[once]
  grind
def aJM(pres:List LN)(o:HP):LN:=
 once (o.after.toList.flatMap λe=>if Region.binds .any e then e.on::(pres[e.on]?).getD [] else [])
def aDQ(all:List HP):List HP->List LN->List ae
 | [],_=>[]
 |o::r,pres=>⟨o.dst,(cOp P ab o).getD .bad,aFL all o.guard,aJM pres o⟩::aDQ all r (pres++[aJM pres o])
def aTn:Bool->List ae->List ae
 |true,l=>l
 |false,l=>l.map λo=>⟨o.dst,o.op,o.guard,[]⟩
def nR(frz:Nat->List (Nat×Nat)):Code->ag
 |.skip=>.skip
 |.region id ops draw=>
  let r:=.region draw (aTn draw (aDQ P ab ops.toList ops.toList []))
  match frz id with
  | []=>r
  |ts=>.seq (.frz ts) r
 |.seq a b=>.seq (nR frz a) (nR frz b)
 |.cond (.tmp t) a b=>.cond (.tmp t) (nR frz a) (nR frz b)
 |.block id c=>.block id (nR frz c)
 |.loop c=>.loop (nR frz c)
 |.exit id=>.exit id
 |.ret=>.ret
 |.rangeFunc g ps a c=>match fA ab g with
  |some x=>.dz x ps.toList (.seq (nR frz a) (nR frz c))
  |none=>.bad
 |_=>.bad
def aZL:ResultVar->Option ou
 |.tmp t=>N1 (.tmp t)
 |.cell a t=>(qM P t).map λ(n,agg)=>.cell a n agg
def aNz:List ResultVar->Option (List ou)
 | []=>N1 []
 |r::rs=>match aZL P r,aNz rs with
  |some a,N1 aqq=>N1 (a::aqq)
  |_,_=>N2
end
def aX(g:G)(ρ:LA)(tmps:Array BE):Prop:=
 ρ.length=tmps.size/\∀t,ai g ((ρ[t]?).getD .undef) (tmps.getD t EE)
def aX.mono(hg:g.le g'){tmps:Array BE}(h:aX g ρ tmps):aX g' ρ tmps:=⟨h.1,λt=>(h.2 t).mono hg⟩
structure D6(P:CU)(tab:Nat->Option LA)(g:G):Prop where
 row:∀n row,tab n=N1 row->ai g (.ep row 0) (.pointer (N1 ⟨n,0,N2⟩))/\∃cs t fz,g.whole n=N1 (.cells cs t fz)/\cs.size=row.length
 code:∀a c,g.code a c↔∃nl ty rs frz,a=nR P ⟨tab,nl,ty,rs⟩ frz c
def bM(P:CU)(ab:cu)(g:G):Prop:=D6 P ab.row g
def bM.mono(hg:g.le g')(h:bM P ab g):bM P ab g':=⟨λn row e=>by
  obtain⟨h1,cs,t,fz,h2,h3⟩:=h.row n row e;exact⟨h1.mono hg,cs,t,fz,hg.whole _ _ h2,h3⟩,λa c=>by rw[hg.code];exact h.code a c⟩
def aHW(h:aYr nl v=N1 a)(g:G):ai g a v:=by
 unfold aYr at h;split at h
 .cases h;exact .bool _
 .cases h;exact .int _ _
 .cases h;exact .str _
 .split at h
  .rename_i hs;cases h;refine .fn _ [] [] _ _ (by simp[hs.1]) (by simp[hs.2]) (λi a x hi _=>by simp at hi) (λi a x hi _=>by simp at hi)
  cases h
 .cases h;exact .bx
 .cases h;exact .nilPtr
 .cases h;exact .bj
 .cases h;exact .undef _
 .cases h;split
  .exact .ar
  exact .kn _
 cases h
def aB8:∀{nl:Bool}{l:List BE}{aqq:LA},aQZ nl l=N1 aqq->∀g,fU g aqq l
 |_,[],aqq,h,g=>by simp only[aQZ,AG]at h;subst h;exact⟨rfl,λi a x hi _=>by simp at hi⟩
 |_,v::r,aqq,h,g=>by
  unfold aQZ at h;split at h
  .cases h
  rename_i a ha;split at h
  .cases h
  rename_i as' has;cases h;have ih:=aB8 has g;refine⟨by simp[ih.1],λi b x hb hx=>?_⟩;cases i with
  |zero=>simp at hb hx;subst hb;subst hx;exact aHW ha g
  |succ i=>simp at hb hx;exact ih.2 i b x hb hx
def fU.agg(h:fU g aqq vs.toList):ai g (.agg aqq) (.agg vs):=.agg aqq vs uWO λi a x ha hx=>h.2 i a x ha uWn
def aJN(h:ofV nl v=N1 a)(g:G):ai g a v:=by
 unfold ofV at h;split at h
 .cases hq:aQZ nl (‹Array BE›).toList with
  |none=>simp[hq]at h
  |some aqq=>simp[hq]at h;subst h;exact (aB8 hq g).agg
 exact aHW h g
theorem bIw(h:fA ab X=N1 x)(hg:bM P ab g){a:Act}(hs:aX g ρ a.tmps):ai g (x.ev ρ) (a.eval X):=by
 cases X with
 |tmp t=>simp only[fA,AG]at h;subst h;exact hs.2 t
 |const v=>
  simp only[fA]at h;cases hv:ofV ab.nl v with
  |none=>simp[hv]at h
  |some y=>simp[hv]at h;subst h;exact aJN hv g
 |func f=>simp only[fA,AG]at h;subst h;exact .fn f [] [] #[] #[] rfl rfl (λi a x hi _=>by simp at hi) (λi a x hi _=>by simp at hi)
 |global n=>
  simp only[fA]at h;cases hv:ab.row n with
  |none=>simp[hv]at h
  |some y=>simp[hv]at h;subst h;exact (hg.row n y hv).1
def mJ{P:CU}{ab:cu}:∀{X:List CA}{x:List aa},sB ab X=N1 x->∀{g:G},bM P ab g ->∀{ρ:LA}{a:Act},aX g ρ a.tmps->fU g (x.map (aa.ev ρ)) (X.map a.eval)
 | [],x,h,g,_,ρ,a,_=>by simp only[sB,AG]at h;subst h;exact⟨rfl,λi a x hi _=>by simp at hi⟩
 |X::r,x,h,g,hg,ρ,a,hs=>by
  unfold sB at h;split at h
  .cases h
  rename_i y hy;split at h
  .cases h
  rename_i ys j9;cases h;have ih:=mJ j9 hg hs;refine⟨by simpa using ih.1,λi b x hb hx=>?_⟩;cases i with
  |zero=>simp at hb hx;subst hb;subst hx;exact bIw hy hg hs
  |succ i=>exact ih.2 i b x uWe uWn
def ai.aj{x:BE}(h:ai g a x):ai g a.aj x:=by
 cases h with
 |kn full=>exact .kn Po
 |ar=>exact .ar
 |srv o v n k lo l a cap hl hv hn gr h=>exact .srv o v n k lo l a cap hl hv hn gr h
 |srw o v n hi l a cap hl hv hn tf h=>exact .srw o v n hi l a cap hl hv hn tf h
 |sl full rows b off cap k cm jo hk bd hp h=>exact .sl Po rows b off cap k cm siT hk bd hp h
 |undef x=>exact .undef x
 |bool b=>exact .bool b
 |int k n=>exact .int k n
 |str s=>exact .str s
 |fn f first ay vf vc hf hc h1 h2=>exact .fn f first ay vf vc hf hc h1 h2
 |bx=>exact .bx
 |ptr o v off l a hl hv h=>exact .ptr o v off l a hl hv h
 |vp o v n k i off l a hl hv hn h=>exact .vp o v n k i off l a hl hv hn h
 |nilPtr=>exact .nilPtr
 |bj=>exact .bj
 |ifc t v x hv h=>exact .ifc t v x hv h
 |ep row off b base bd hp h=>exact .ep row off b base bd hp h
 |sr o v n l a cap hl hv hn jg h=>exact .sr o v n l a cap hl hv hn jg h
 |mp o v l r hl hv h=>exact .mp o v l r hl hv h
 |yld o v l r hl hv h=>exact .yld o v l r hl hv h
 |fmp ks vs r entries clock xs hw hp hk hv h1 h2=>exact .fmp ks vs r entries clock xs hw hp hk hv h1 h2
 |agg cs vs hs h=>exact .agg cs vs hs h
 |tup cs vs hs h=>exact .tup cs vs hs h
def fU.aj(h:fU g aqq xs):fU g (aqq.map AV.aj) xs:=by
 refine⟨uWO,λi a x ha hx=>?_⟩;cases hq:aqq[i]? with
 |none=>simp[hq]at ha
 |some b=>simp[hq]at ha;subst ha;exact (h.2 i b x hq hx).aj
def ai.fu{x:BE}(h:ai g (.agg cs) x):∃vs:Array BE,x=.agg vs/\fU g cs vs.toList:=by
 cases h with
 |agg cs vs hs h=>exact⟨vs,rfl,by simpa using hs,λi a x ha hx=>h i a x ha uWn⟩
def ai.np{x:BE}(h:ai g (.tup cs) x):∃vs:Array BE,x=.tuple vs/\fU g cs vs.toList:=by
 cases h with
 |tup cs vs hs h=>exact⟨vs,rfl,by simpa using hs,λi a x ha hx=>h i a x ha uWn⟩
def ai.skip(g:G):ai g (.tup []) EE:=.tup [] #[] rfl λi a x h=>by simp at h
def ai.strip{x:BE}(h:ai g a x):ai g a.strip x:=by
 unfold AV.strip;split
 .obtain⟨vs,rfl,hl⟩:=h.fu;exact hl.aj.agg
 .obtain⟨vs,rfl,hl⟩:=h.np;refine .tup _ vs (by simpa using hl.1) λi a x ha hx=>?_;cases hq:(‹LA›)[i]? with
  |none=>simp[hq]at ha
  |some b=>
   simp[hq]at ha;have hb:=hl.2 i b x hq uWn;subst ha;split
   .obtain⟨vs',rfl,kg⟩:=hb.fu;exact kg.aj.agg
   exact hb.aj
 exact h.aj
def ai.cells{x:BE}(h:ai g a x)(hok:a.cells.all AV.ak=Pa):fU g a.cells x.cells.toList:=by
 have one:∀{a:AV}{x:BE},ai g a x->x.cells = #[x]->fU g [a] x.cells.toList:=λ{a x} h e=>by
  rw[e];refine⟨rfl,λi b y hb hy=>?_⟩;cases i with
  |zero=>simp at hb hy;subst hb;subst hy;exact h
  |succ i=>simp at hb
 cases a with
 |agg cs=>obtain⟨vs,rfl,hl⟩:=h.fu;exact hl
 |undef=>simp[AV.cells,AV.ak]at hok
 |tup vs=>simp[AV.cells,AV.ak]at hok
 |own k rows=>simp[AV.cells,AV.ak]at hok
 |srv o v n k lo=>simp[AV.cells,AV.ak]at hok
 |srw o v n hi=>simp[AV.cells,AV.ak]at hok
 |_=>cases h<;>exact one (by first | assumption | constructor<;>assumption) rfl
section
variable {P:CU}{ab:cu}{g:G}{H:LO}{w:BL}
theorem fZ(b o n:Nat):(⟨b,o,N2⟩:IA).add n=⟨b,o+n,N2⟩:=Addr.add_lit b o n
def eI(hw:WF g H w){pv:AV}(h:bC H k pv=N1 cs){x:BE}(hx:ai g pv x):∃(b off:Nat)(vs:List BE),x=.pointer (N1 ⟨b,off,N2⟩)/\cs.length=k/\fU g cs vs/\∀(j:Nat) v,vs[j]? = N1 v->w.cell? ⟨b,off+j,N2⟩=N1 v:=by
 have build:∀(cs:LA)(b off:Nat),(∀(j:Nat) a,cs[j]? = N1 a->∃y,w.cell? ⟨b,off+j,N2⟩=N1 y/\ai g a y) ->
   ∃vs:List BE,fU g cs vs/\∀(j:Nat) v,vs[j]? = N1 v->w.cell? ⟨b,off+j,N2⟩=N1 v:=by
  intro cs b off hc;refine⟨(GZ cs.length).map λj=>(w.cell? ⟨b,off+j,N2⟩).getD EE,⟨siT,λi a y ha hy=>?_⟩,λj v hv=>?_⟩
  .have hi:i<cs.length:=(AH.1 ha).1;obtain⟨z,hz,hr⟩:=hc i a ha;simp[hi,hz]at hy;subst hy;exact hr
  rw[BN]at hv;by_cases hj:j<cs.length
  .obtain⟨z,hz,_⟩:=hc j cs[j] (by simp[hj]);simp[hj,hz]at hv;rw[hz,hv]
  simp[hj]at hv
 cases hx with
 |ptr o v off l a hl hv hh=>
  simp only[bC]at h;split at h
  .rename_i v' cells hH;split at h
   .rename_i hc;simp only[AG]at h;obtain⟨rfl,ax⟩:=hc;have bd:l.st=v':=by
     have:=hw.st o _ l hH hl;simp only[ah.ver]at this;omega
    have hb:au g H o l (.box v' cells):=⟨hH,rfl,hl,bd⟩;obtain⟨h0,_,bc⟩:=hw.obj o l _ hb;have ha:=hh bd h0;subst ha;have rl:cs.length=k:=by rw[<- h];simp;omega
    obtain⟨vs,qy,D7⟩:=build cs l.b off λj a ha=>by
     have hj:j<cs.length:=(AH.1 ha).1;refine bc (off+j) a ?_;rw[<- h,CF,DF]at ha
     rwa [Vx omT]at ha
    exact⟨l.b,off,vs,rfl,rl,qy,D7⟩
   cases h
  .rename_i v' ty cells hH;split at h
   .rename_i hc;simp only[AG]at h;obtain⟨rfl,ax⟩:=hc;have bd:l.st=v':=by
     have:=hw.st o _ l hH hl;simp only[ah.ver]at this;omega
    have hb:au g H o l (.cw v' ty cells):=⟨hH,rfl,hl,bd⟩;obtain⟨h0,_,bc⟩:=hw.obj o l _ hb;have ha:=hh bd h0;subst ha;have rl:cs.length=k:=by rw[<- h];simp;omega
    obtain⟨vs,qy,D7⟩:=build cs l.b off λj a ha=>by
     have hj:j<cs.length:=(AH.1 ha).1;refine bc (off+j) a ?_;rw[<- h,CF,DF]at ha
     rwa [Vx omT]at ha
    exact⟨l.b,off,vs,rfl,rl,qy,D7⟩
   cases h
  cases h
 |vp o v n k1 i off l a hl hv hn hh=>
  simp only[bC]at h;split at h
  .rename_i v' k' rows hH;split at h
   .rename_i hc;obtain⟨rfl,ax,rfl⟩:=hc;split at h
    .rename_i row cn;split at h
     .rename_i hlt;simp only[AG]at h;have bd:l.st=v':=by
       have:=hw.st o _ l hH hl;simp only[ah.ver]at this;omega
      have hb:au g H o l (.vec v' k' rows):=⟨hH,rfl,hl,bd⟩;obtain⟨h0,hk,_,_,_,_,bc⟩:=hw.obj o l _ hb;have ha:=hh bd omT;subst ha;have rl:cs.length=k:=by rw[<- h];simp;omega
      obtain⟨vs,qy,D7⟩:=build cs l.b (i*k'+off) λj a ha=>by
       have hj:j<cs.length:=(AH.1 ha).1;rw[<- h,CF,DF,Vx omT]at ha;obtain⟨_,y,hy,hr⟩:=bc i (off+j) row a cn ha;exact⟨y,by rw[EU];exact hy,hr⟩
      exact⟨l.b,i*k'+off,vs,rfl,rl,qy,D7⟩
     cases h
    cases h
   cases h
  cases h
 |ep row off b base bd hp hh=>
  simp only[bC]at h;split at h
  .rename_i hlt;simp only[AG]at h;have rl:cs.length=k:=by rw[<- h];simp;omega
   obtain⟨vs,qy,D7⟩:=build cs b (base+off) λj a ha=>by
    have hj:j<cs.length:=(AH.1 ha).1;rw[<- h,CF,DF,Vx omT]at ha;have hi:off+j<row.length:=(AH.1 ha).1;have:=hp (off+j) hi;cases hq:g.perm b (base+(off+j))with
    |none=>simp[hq]at this
    |some y=>exact⟨y,by rw[EU];exact hw.perm _ _ _ hq,hh (off+j) a y ha hq⟩
   exact⟨b,base+off,vs,rfl,rl,qy,D7⟩
  cases h
 |undef x=>simp[bC]at h
 |bool b=>simp[bC]at h
 |int k n=>simp[bC]at h
 |str s=>simp[bC]at h
 |fn f first ay vf vc hf hc h1 h2=>simp[bC]at h
 |bx=>simp[bC]at h
 |nilPtr=>simp[bC]at h
 |srv=>simp[bC]at h
 |srw=>simp[bC]at h
 |fmp=>simp[bC]at h
 |ar=>simp[bC]at h
 |bj=>simp[bC]at h
 |ifc t v x hv h'=>simp[bC]at h
 |kn full=>simp[bC]at h
 |sl full rows b off cap k cm jo hk bd hp h'=>simp[bC]at h
 |sr o v n l a cap hl hv hn jg h'=>simp[bC]at h
 |mp o v l r hl hv h'=>simp[bC]at h
 |yld o v l r hl hv h'=>simp[bC]at h
 |agg cs vs hs h'=>simp[bC]at h
 |tup cs vs hs h'=>simp[bC]at h
theorem size?_info(h:size? P t=N1 n):∃i,P.info? t=N1 i/\i.size=n:=by
 unfold size? at h;cases hq:P.info? t with
 |none=>simp[hq]at h
 |some i=>exact⟨i,rfl,by simpa [hq]using h⟩
def fV(h:size? P t=N1 n)(w:BL):(sizeOf t).run P w=.ok n w:=by obtain⟨i,hi,hn⟩:=size?_info h;simp[sizeOf,typeInfo,hi,hn]
def aB9(h:P.underlying t=N1 d)(w:BL):(isAgg t).run P w=.ok (aVG P t) w:=by unfold aVG;simp only[isAgg,BS,BH h,BJ,h];cases d<;>rfl
def aA5{agg:Bool}(h:qM P t=N1 (n,agg)):size? P t=N1 n/\aVG P t=agg/\(∃d,P.underlying t=N1 d)/\(agg=Po->n=1):=by
 unfold qM at h;split at h
 .rename_i m d hm hd;split at h
  .rename_i ha;cases h;exact⟨hm,ha,⟨_,hd⟩,λe=>by cases e⟩
  split at h
  .rename_i ha h1;cases h;subst h1;exact⟨hm,uWx,⟨_,hd⟩,λ_=>rfl⟩
  cases h
 cases h
def aEF{agg:Bool}(hs:qM P t=N1 (n,agg))(w:BL)(b off:Nat)(vs:List BE)(hn:vs.length=n)(hc:∀(j:Nat) v,vs[j]? = N1 v->w.cell? ⟨b,off+j,N2⟩=N1 v):(loadVar t ⟨b,off,N2⟩).run P w=.ok (if agg then .agg vs.toArray else vs.headD EE) w:=by
 obtain⟨h1,h2,⟨d,h3⟩,h4⟩:=aA5 hs;simp only[loadVar,BS,aB9 h3,BJ,h2,MP];cases agg with
 |true=>have:=OY (P:=P) w ⟨b,off,N2⟩ vs (λj v hv=>by rw[fZ];exact hc j v hv);subst hn;simp[fV h1,this]
 |false=>
  have lx:=h4 rfl;cases vs with
  |nil=>simp at hn;omega
  |cons v r=>have:=hc 0 v rfl;simp only[DU]at this;simp[this]
def wQ{agg:Bool}(h:eD agg cs=N1 av){vs:List BE}(hl:fU g cs vs):ai g av (if agg then .agg vs.toArray else vs.headD EE):=by
 cases agg with
 |true=>simp only[eD,Vu,AG]at h;subst h;exact fU.agg uWo
 |false=>
  cases cs with
  |nil=>simp[eD]at h
  |cons c r=>
   cases r with
   |nil=>
    simp[eD]at h;subst h;cases vs with
    |nil=>have:=hl.1;simp at this
    |cons v r=>simpa using hl.2 0 c v rfl rfl
   |cons d r=>simp[eD]at h
def iK(P:CU)(o:HP)(a:Act)(w:BL)(R:BE->BL->Prop):Prop:=
 ∃v w',(execOp a.eval o).run P w=.ok (.value v) w'/\R v w'
def iP(g:G)(H:LO)(w:BL)(av:AV)(v:BE)(w':BL):Prop:=
 ∃g',Step g H w g' H w' []/\ai g' av v
def iP.same(hw:WF g H w)(h:ai g av v):iP g H w av v w:=⟨g,.refl hw,h⟩
end
section
variable {P:CU}{ab:cu}{g:G}{H:LO}{w:BL}{ρ:LA}{a:Act}
variable {dst:Option Tmp}{type:BP}{pos:String}{after:Array OO}{guard:Option (Nat×Bool)}
def bK{o:HP}{R:BE->BL->Prop}(h:(execOp a.eval o).run P w=.ok (.value v) w')(hr:R v w'):iK P o a w R:=⟨v,w',h,hr⟩
def map_some{β:Type}{f:α->β}{x:Option α}{y:β}(h:x.map f=N1 y):∃z,x=N1 z/\f z=y:=uWl
def aWs(hx:fA ab X=N1 x)(hw:WF g H w)(hg:bM P ab g)(hs:aX g ρ a.tmps):iK P ⟨dst,.move X,type,pos,after,guard⟩ a w (iP g H w (x.ev ρ)):=
 bK (by simp[execOp]) (.same hw (bIw hx hg hs))
def aR0(hx:fA ab X=N1 x)(hw:WF g H w)(hg:bM P ab g)(hs:aX g ρ a.tmps):iK P ⟨dst,.assign X,type,pos,after,guard⟩ a w (iP g H w (x.ev ρ)):=
 bK (by simp[execOp]) (.same hw (bIw hx hg hs))
def ai.jx{b:Bool}{x:BE}(h:ai g (.bool b) x):x=.bool b:=by cases h;rfl
def ai.di{k:DK}{n:Int}{x:BE}(h:ai g (.int k n) x):x=.int k n:=by cases h;rfl
def ai.ln{l:List UInt8}{x:BE}(h:ai g (.str l) x):∃s:ByteArray,x=.string s/\s.data.toList=l:=by cases h;grind
def aWt{C A B:CA}{c y:aa}(hc:fA ab C=N1 c)(hx:fA ab A=N1 x)(hy:fA ab B=N1 y){t:Bool}(ht:c.ev ρ=.bool t)(hw:WF g H w)(hg:bM P ab g)(hs:aX g ρ a.tmps):iK P ⟨dst,.pick C A B,type,pos,after,guard⟩ a w (iP g H w (if t then x.ev ρ else y.ev ρ)):=by
 have h:=bIw hc hg hs;rw[ht]at h;have e:=h.jx;refine bK (v:=if t then a.eval A else a.eval B) ?_ (.same hw ?_)
 .cases t<;>simp[execOp,e,asBool]
 grind [bIw]
def aWu{agg:Bool}(hx:fA ab X=N1 x)(vg:qM P t=N1 (n,agg))(hr:bC H n (x.ev ρ)=N1 cs)(ho:eD agg cs=N1 av)(hw:WF g H w)(hg:bM P ab g)(hs:aX g ρ a.tmps):iK P ⟨dst,.load t X,type,pos,after,guard⟩ a w (iP g H w av):=by obtain⟨b,off,vs,e,ax,hl,hc⟩:=eI hw hr (bIw hx hg hs);have ej:=aEF vg w b off vs (by rw[<- hl.1];exact ax) hc;refine bK ?_ (.same hw (wQ ho hl));simp[execOp,Instr.loadAt,IS,e,ej]
def ai.D8{v:Nat}{x:BE}(h:ai g (.ptr o v off) x):∃b:IA,x=.pointer (N1 b):=by cases h;grind
def ai.vp_inv{v:Nat}{x:BE}(h:ai g (.vp o v n k i off) x):∃b:IA,x=.pointer (N1 b):=by cases h;grind
def ai.ep_inv{x:BE}(h:ai g (.ep row off) x):∃b base:Nat,x=.pointer (N1 ⟨b,base+off,N2⟩):=by cases h;grind
def ai.rm{first ay:LA}{x:BE}(h:ai g (.fn f first ay) x):∃vf vc:Array BE,x=.func (.func f) vf vc/\fU g first vf.toList/\fU g ay vc.toList:=by
 cases h with
 |fn f first ay vf vc hf hc h1 h2=>exact⟨vf,vc,rfl,⟨by simpa using hf,λi a x ha hx=>h1 i a x ha uWn⟩,⟨uWu,λi a x ha hx=>h2 i a x ha uWn⟩⟩
def aTo(hx:fA ab X=N1 x)(hv:evR H ρ (.cz x)=N1 av)(hw:WF g H w)(hg:bM P ab g)(hs:aX g ρ a.tmps):iK P ⟨dst,.nilCheck X,type,pos,after,guard⟩ a w (iP g H w av):=by
 have h:=bIw hx hg hs;simp only[evR]at hv;have key:∀y,x.ev ρ=y->N1 y=N1 av->(∀z,ai g y z->(∃b:IA,z=.pointer (N1 b))∨∃f vf vc,z=.func (.func f) vf vc) ->
   iK P ⟨dst,.nilCheck X,type,pos,after,guard⟩ a w (iP g H w av):=by
  intro y hy hav hz;cases hav;rw[hy]at h;refine bK ?_ (.same hw h);rcases hz _ h with⟨b,e⟩ | ⟨f,vf,vc,e⟩<;>simp[execOp,e]
 split at hv
 .rename_i o v off e;exact key _ e hv λz hz=>.inl hz.D8
 .rename_i o v n k i off e;exact key _ e hv λz hz=>.inl hz.vp_inv
 .rename_i row off e;exact key _ e hv λz hz=>.inl (by obtain⟨b,base,e⟩:=hz.ep_inv;grind)
 .rename_i f b c e;exact key _ e hv λz hz=>.inr (by obtain⟨vf,vc,e,_⟩:=hz.rm;grind)
 cases hv
def vC:∀a b:List UInt8,Jr a b=aC6 a b
 | [],[]=>rfl
 | [],_::_=>rfl
 |_::_,[]=>rfl
 |x::a,y::b=>by simp only[Jr,aC6,vC a b]
def aOM(h:aOL P t=N1 tag):aVG P t=Po/\∃d,P.underlying t=N1 d:=by grind [aOL,aVG]
def aTp{t:ByteArray}:(s.data.toList==t.data.toList)=(s.toList==t.toList):=by rw[HA,HA]
def aCP(ht:aOL P t=N1 tag){x:AV}{b:Bool}(h:aCO tag x y=N1 b)(hx:ai g x u)(hy:ai g y v)(d:Nat):(DC (d+1) t u v).run P w=.ok b w:=by
 unfold aOL at ht;unfold aCO at h;split at h
 .cases h;cases hx.jx;cases hy.jx;split at ht<;>try cases ht
  rename_i hd;exact Hl w d t _ _ hd
 .split at h
  .rename_i e;cases h;subst e;cases hx.di;cases hy.di;split at ht<;>try cases ht
   rename_i hd;exact run_equalIn_int w d t _ _ _ _ hd
  cases h
 .cases h;obtain⟨s,rfl,hs⟩:=hx.ln;obtain⟨t',rfl,ht'⟩:=hy.ln;split at ht<;>try cases ht
  rename_i hd;rw[<- hs,<- ht',aTp];exact run_equalIn_string w d t _ _ hd
 cases h
def aBD d(us vs:Array BE):∀(fs:List JU) i (tags:List Tag),qN P i fs=N1 tags->∀(xs ys:LA)(b:Bool),lP tags xs ys=N1 b->(∀j a u,xs[j]? = N1 a->us[i+j]? = N1 u->ai g a u)->(∀j a u,ys[j]? = N1 a->vs[i+j]? = N1 u->ai g a u) ->(∀j,j<xs.length->(us[i+j]?).isSome)->(∀j,j<ys.length->(vs[i+j]?).isSome) ->(NB (d+1) us vs fs).run P w=.ok b w
 | [],i,tags,hp,xs,ys,b,h,_,_,_,_=>by
  simp only[qN,AG]at hp;subst hp;cases xs<;>cases ys<;>simp[lP]at h
  subst h;simp[NB]
 |f::fs,i,tags,hp,xs,ys,b,h,hx,hy,re,j9=>by
  unfold qN at hp;split at hp
  .rename_i t ts ht Dg;split at hp
   .rename_i hn;simp only[AG]at hp;subst hp;cases xs with
    |nil=>simp[lP]at h
    |cons x xs=>
     cases ys with
     |nil=>simp[lP]at h
     |cons y ys=>
      obtain⟨u,hu⟩:=HT.1 (re 0 siT);obtain⟨v,hv⟩:=HT.1 (j9 0 siT);have h1:=hx 0 x u rfl hu;have h2:=hy 0 y v rfl hv;obtain⟨hagg,dd,hdd⟩:=aOM ht;have p1:(part f.type us f.offset).run P w=.ok u w:=by simp_all [part,BS,aB9,BJ]
      have p2:(part f.type vs f.offset).run P w=.ok v w:=by simp_all [part,BS,aB9,BJ]
      have shift:∀(zs:LA)(z:AV)(ws:Array BE),(∀j,j<(z::zs).length->(ws[i+j]?).isSome)->∀j,j<zs.length->(ws[i+1+j]?).isSome:=λzs z ws hh j hj=>by
       have:=hh (j+1) soT
       grind
      have shiftR:∀(zs:LA)(z:AV)(ws:Array BE),(∀j a u,(z::zs)[j]? = N1 a->ws[i+j]? = N1 u->ai g a u)->∀j a u,zs[j]? = N1 a->ws[i+1+j]? = N1 u->ai g a u:=λzs z ws hh j a u ha hu=>hh (j+1) a u uWx (by rwa [show i+(j+1)=i+1+j by omega]);simp only[NB,hn.1,ne_eq,not_false_eq_true,Vu,BS,p1,p2,BJ];unfold lP at h;split at h
      .rename_i he;rw[aCP ht he h1 h2 d];exact aBD d us vs fs (i+1) ts Dg xs ys b h (shiftR _ _ _ hx) (shiftR _ _ _ hy) (shift _ _ _ re) (shift _ _ _ j9)
      .rename_i he;split at h
       .cases h;rw[aCP ht he h1 h2 d];simp
       cases h
      cases h
   cases hp
  cases hp
def aFM(t:BP):eqK P t≠.iface:=by grind [eqK]
theorem aIX{x:AV}{b:Bool}(h:tN (eqK P t) x y=N1 b)(hx:ai g x u)(hy:ai g y v)(X Y:CA)(op:MZ):(eqGuard op t X Y u v).run P w=.ok () w/\(IF t u v).run P w=.ok b w/\(binOp .eql t u v=do pure (.bool (<- IF t u v)))/\(binOp .neq t u v=do pure (.bool (!(<- IF t u v)))):=by
 generalize hk:eqK P t=k at h;unfold tN at h;split at h
 .cases h;cases hx.jx;cases hy.jx;unfold eqK at hk;split at hk<;>try cases hk
  .split at hk<;>try cases hk
   split at hk<;>cases hk
  rename_i hd;exact⟨by simp[eqGuard_at_bool],Hl w 9999 t _ _ hd,uWi,uWi⟩
 .rename_i ts xs ys;obtain⟨us,rfl,C7⟩:=hx.fu;obtain⟨vs,rfl,C8⟩:=hy.fu;unfold eqK at hk;split at hk<;>try cases hk
  rename_i fields hd;split at hk<;>try cases hk
  rename_i ts' Dg;split at hk<;>try cases hk
  rename_i tp;simp only[EA,not_or,Bool.not_eq_true]at tp;have k9:P.fieldsOf t=fields:=by simp[Program.fieldsOf,hd]
  refine⟨Jq w op t X Y us vs tp.2, ?_,uWi,uWi⟩;show (DC (9999+1) t (.agg us) (.agg vs)).run P w=.ok b w;rw[run_equalIn_struct w 9999 t us vs (by rw[k9];exact hd) tp.1,k9];exact aBD 9998 us vs fields.toList 0 ts Dg xs ys b h (λj a z ha hz=>C7.2 j a z ha uXd) (λj a z ha hz=>C8.2 j a z ha uXd)
   (λj hj=>by have:=C7.1;simp at this ⊢;omega) (λj hj=>by have:=C8.1;simp at this ⊢;omega)
 .cases h;cases hx;cases hy;unfold eqK at hk;split at hk<;>try cases hk
  .split at hk<;>try cases hk
   split at hk<;>cases hk
  rename_i hd;have key:∀d (b:Nat×Array BE×Array BE),(DC (d+1) t .nilFunc .nilFunc).run P w=.ok Pa w/\(DC (d+1) t .nilFunc (.func (.func b.1) b.2.1 b.2.2)).run P w=.ok Po w:=λd b=>by simp[DC,BH hd]
  exact⟨by simp[OZ],by first | exact (key 9999 (0,#[],#[])).1 | exact (key 9999 (_,_,_)).2,uWi,uWi⟩
 .cases h;cases hx;cases hy;unfold eqK at hk;split at hk<;>try cases hk
  .split at hk<;>try cases hk
   split at hk<;>cases hk
  rename_i hd;have key:∀d (b:Nat×Array BE×Array BE),(DC (d+1) t (.func (.func b.1) b.2.1 b.2.2) .nilFunc).run P w=.ok Po w:=λd b=>by simp[DC,BH hd]
  exact⟨by simp[eqGuard_at_func],key 9999 (_,_,_),uWi,uWi⟩
 .cases h;cases hx;cases hy;unfold eqK at hk;split at hk<;>try cases hk
  .split at hk<;>try cases hk
   split at hk<;>cases hk
  rename_i hd;have key:∀d (b:Nat×Array BE×Array BE),(DC (d+1) t .nilFunc .nilFunc).run P w=.ok Pa w/\(DC (d+1) t .nilFunc (.func (.func b.1) b.2.1 b.2.2)).run P w=.ok Po w:=λd b=>by simp[DC,BH hd]
  exact⟨by simp[OZ],by first | exact (key 9999 (0,#[],#[])).1 | exact (key 9999 (_,_,_)).2,uWi,uWi⟩
 .cases h;cases hx;cases hy;unfold eqK at hk;split at hk<;>try cases hk
  .split at hk<;>try cases hk
   split at hk<;>cases hk
  rename_i hd;have key:∀d,(DC (d+1) t (.pointer N2) (.pointer N2)).run P w=.ok Pa w:=λd=>by simp[DC,BH hd]
  exact⟨by simp[eqGuard_at_pointer],key 9999,uWi,uWi⟩
 .exact Vv hk (aFM t)
 .exact Vv hk (aFM t)
 .exact Vv hk (aFM t)
 cases h
def bDY{e:BP}{tag:Tag}(ht:aOL P e=N1 tag)(d:Nat)(us vs:Array BE):∀(k i:Nat)(xs ys:LA)(b:Bool),lP (AX k tag) xs ys=N1 b->(∀(j:Nat) a u,xs[j]? = N1 a->us[i+j]? = N1 u->ai g a u)->(∀(j:Nat) a u,ys[j]? = N1 a->vs[i+j]? = N1 u->ai g a u) ->(∀j,j<xs.length->(us[i+j]?).isSome)->(∀j,j<ys.length->(vs[i+j]?).isSome) ->(Ez (d+1) e 1 us vs (FM i k)).run P w=.ok b w
 |0,i,xs,ys,b,h,_,_,_,_=>by
  cases xs<;>cases ys<;>simp[lP]at h
  subst h;simp[Ez]
 |k+1,i,xs,ys,b,h,hx,hy,re,j9=>by
  rw[List.replicate_succ]at h;cases xs with
  |nil=>simp[lP]at h
  |cons x xs=>
   cases ys with
   |nil=>simp[lP]at h
   |cons y ys=>
    obtain⟨u,hu⟩:=HT.1 (re 0 siT);obtain⟨v,hv⟩:=HT.1 (j9 0 siT);have h1:=hx 0 x u rfl hu;have h2:=hy 0 y v rfl hv;obtain⟨hagg,dd,hdd⟩:=aOM ht;have p1:(part e us (i*1)).run P w=.ok u w:=by simp_all [part,BS,aB9,BJ,FK]
    have p2:(part e vs (i*1)).run P w=.ok v w:=by simp_all [part,BS,aB9,BJ,FK]
    have shift:∀(zs:LA)(z:AV)(ws:Array BE),(∀j,j<(z::zs).length->(ws[i+j]?).isSome)->∀j,j<zs.length->(ws[i+1+j]?).isSome:=λzs z ws hh j hj=>by
     have:=hh (j+1) soT
     grind
    have shiftR:∀(zs:LA)(z:AV)(ws:Array BE),(∀j a u,(z::zs)[j]? = N1 a->ws[i+j]? = N1 u->ai g a u)->∀j a u,zs[j]? = N1 a->ws[i+1+j]? = N1 u->ai g a u:=λzs z ws hh j a u ha hu=>hh (j+1) a u uWx (by rwa [show i+(j+1)=i+1+j by omega]);rw[List.range'_succ];simp only[Ez,BS,p1,p2,BJ];unfold lP at h;split at h
    .rename_i he;rw[aCP ht he h1 h2 d];exact bDY ht d us vs k (i+1) xs ys b h (shiftR _ _ _ hx) (shiftR _ _ _ hy) (shift _ _ _ re) (shift _ _ _ j9)
    .rename_i he;split at h
     .cases h;rw[aCP ht he h1 h2 d];simp
     cases h
    cases h
theorem bFQ(hd:P.underlying t=N1 (.array n e)){x:AV}{b:Bool}(h:tN (bIa P t n e) x y=N1 b)(hx:ai g x u)(hy:ai g y v)(X Y:CA)(op:MZ):(eqGuard op t X Y u v).run P w=.ok () w/\(IF t u v).run P w=.ok b w/\(binOp .eql t u v=do pure (.bool (<- IF t u v)))/\(binOp .neq t u v=do pure (.bool (!(<- IF t u v)))):=by
 unfold bIa at h;split at h
 .rename_i tag ht;split at h
  .rename_i hc;obtain⟨h1,h2,h3⟩:=hc;obtain⟨i,hi⟩:=HT.1 h2;unfold tN at h;split at h<;>first | (rename_i he;cases he;done) | skip
   all_goals (first | (cases h;done) | skip)
   rename_i ts xs ys he;cases he;obtain⟨us,rfl,C7⟩:=hx.fu;obtain⟨vs,rfl,C8⟩:=hy.fu;refine⟨Jq w op t X Y us vs h3, ?_,uWi,uWi⟩;show (DC (9999+1) t (.agg us) (.agg vs)).run P w=.ok b w;rw[run_equalIn_array w 9999 us vs hd hi,h1,List.range_eq_range'];exact bDY ht 9998 us vs n 0 xs ys b h (λj a z ha hz=>C7.2 j a z ha uXd) (λj a z ha hz=>C8.2 j a z ha uXd)
    (λj hj=>by have:=C7.1;grind) (λj hj=>by have:=C8.1;grind)
  simp[tN]at h
 simp[tN]at h
def aHX{x:AV}{b:Bool}(X Y:CA)(h:tN (aWr P t X Y) x y=N1 b)(hx:ai g x u)(hy:ai g y v)(op:MZ):(eqGuard op t X Y u v).run P w=.ok () w/\(IF t u v).run P w=.ok b w/\(binOp .eql t u v=do pure (.bool (<- IF t u v)))/\(binOp .neq t u v=do pure (.bool (!(<- IF t u v)))):=by
 unfold aWr at h;split at h
 .rename_i ms hd;split at h
  .rename_i hc;have k0:(eqGuard op t X Y .nilIface .nilIface).run P w=.ok () w:=by
    cases X<;>cases Y<;>first | (simp[aLz]at hc;done) | simp[eqGuard]
   have k1:∀d,(DC (d+1) t .nilIface .nilIface).run P w=.ok Pa w:=λd=>by simp[DC,BH hd]
   have k2:∀d s z,(DC (d+1) t (.iface s z) .nilIface).run P w=.ok Po w:=λd s z=>by simp[DC,BH hd]
   have k3:∀d s z,(DC (d+1) t .nilIface (.iface s z)).run P w=.ok Po w:=λd s z=>by simp[DC,BH hd]
   unfold tN at h;split at h<;>first | (rename_i he;cases he;done) | skip
   all_goals (first | (cases h;done) | skip)
   .cases h;cases hx;cases hy;exact⟨k0,k1 9999,uWi,uWi⟩
   .cases h;cases hx;cases hy;exact⟨by simp[eqGuard],k2 9999 _ _,uWi,uWi⟩
   cases h;cases hx;cases hy;exact⟨by simp[eqGuard],k3 9999 _ _,uWi,uWi⟩
  simp[tN]at h
 all_goals grind [bFQ,aIX]
def aNA{x:AV}(X Y:CA)(h:kJ op (aWr P t X Y) x y=N1 z)(hx:ai g x u)(hy:ai g y v):∃c,(eqGuard op t X Y u v).run P w=.ok () w/\(binOp op t u v).run P w=.ok c w/\ai g z c:=by
 unfold kJ at h;split at h
 .rename_i k p k' q;cases hx.di;cases hy.di;have fin:∀c,z=c->(∃cv,(binOp op t (.int k p) (.int k' q)).run P w=.ok cv w/\ai g c cv) ->
    ∃c,(eqGuard op t X Y (.int k p) (.int k' q)).run P w=.ok () w/\(binOp op t (.int k p) (.int k' q)).run P w=.ok c w/\ai g z c:=by
   rintro c rfl ⟨cv,h1,h2⟩;exact⟨cv,by simp[eqGuard_at_int],h1,h2⟩
  split at h
  all_goals (try (cases h;done))
  all_goals (split at h<;>try (cases h;done))
  all_goals (rename_i hc;cases h)
  all_goals refine fin _ rfl ?_
  .exact⟨_,by simp only[binOp,Op.shift,hc,Vt];rfl,.int _ _⟩
  .exact⟨_,by simp only[binOp,Op.shift,hc,Vt];rfl,.int _ _⟩
  .subst hc;exact⟨_,by simp only[binOp,ne_eq,not_true_eq_false,Vt,KI];rfl,.int _ _⟩
  .subst hc;exact⟨_,by simp only[binOp,ne_eq,not_true_eq_false,Vt,KI];rfl,.int _ _⟩
  .subst hc;exact⟨_,by simp only[binOp,ne_eq,not_true_eq_false,Vt,KI];rfl,.int _ _⟩
  .obtain⟨rfl,hq⟩:=hc;exact⟨_,by simp only[binOp,ne_eq,not_true_eq_false,Vt,L6,hq];rfl,.int _ _⟩
  .obtain⟨rfl,hq⟩:=hc;exact⟨_,by simp only[binOp,ne_eq,not_true_eq_false,Vt,L6,hq];rfl,.int _ _⟩
  .subst hc;exact⟨_,by simp only[binOp,ne_eq,not_true_eq_false,Vt,LJ];rfl,.int _ _⟩
  .subst hc;exact⟨_,by simp only[binOp,ne_eq,not_true_eq_false,Vt,LJ];rfl,.int _ _⟩
  .subst hc;exact⟨_,by simp only[binOp,ne_eq,not_true_eq_false,Vt,LJ];rfl,.int _ _⟩
  .subst hc;exact⟨_,by simp only[binOp,ne_eq,not_true_eq_false,Vt,JB];rfl,.bool _⟩
  .subst hc;exact⟨_,by simp only[binOp,ne_eq,not_true_eq_false,Vt,JB];rfl,.bool _⟩
  .subst hc;exact⟨_,by simp only[binOp,ne_eq,not_true_eq_false,Vt,JB];rfl,.bool _⟩
  .subst hc;exact⟨_,by simp only[binOp,ne_eq,not_true_eq_false,Vt,JB];rfl,.bool _⟩
  .subst hc;exact⟨_,by simp only[binOp,ne_eq,not_true_eq_false,Vt,JB];rfl,.bool _⟩
  subst hc;exact⟨_,by simp only[binOp,ne_eq,not_true_eq_false,Vt,JB];rfl,.bool _⟩
 .rename_i p q;obtain⟨s,rfl,hs⟩:=hx.ln;obtain⟨t',rfl,ht⟩:=hy.ln;have fin:∀c,z=c->(∃cv,(binOp op t (.string s) (.string t')).run P w=.ok cv w/\ai g c cv) ->
    ∃c,(eqGuard op t X Y (.string s) (.string t')).run P w=.ok () w/\(binOp op t (.string s) (.string t')).run P w=.ok c w/\ai g z c:=by
   rintro c rfl ⟨cv,h1,h2⟩;exact⟨cv,by simp[eqGuard_at_string],h1,h2⟩
  have e1:s.toList=p:=by rw[HA];exact hs
  have e2:t'.toList=q:=by rw[HA];exact ht
  split at h
  .split at h
   .rename_i ax;cases h;refine fin _ rfl ⟨.string (s++t'), ?_, ?_⟩
    .have:¬(((s.size+t'.size:Nat):Int)>AR.max):=by
      have h1:s.size=p.length:=by rw[<- hs,DI];rfl
      have h2:t'.size=q.length:=by rw[<- ht,DI];rfl
      rw[IntKind.max_i64];omega
     simp only[binOp,HM,this,Vt];rfl
    have:(s++t').data.toList=p++q:=uWl
    rw[<- this];exact .str _
   cases h
  .cases h;exact fin _ rfl ⟨_,by simp only[binOp,HM,e1,e2];rfl,.bool _⟩
  .cases h;exact fin _ rfl ⟨_,by simp only[binOp,HM,e1,e2];rfl,.bool _⟩
  .cases h;exact fin _ rfl ⟨_,by simp only[binOp,HM,e1,e2,vC];rfl,.bool _⟩
  .cases h;exact fin _ rfl ⟨_,by simp only[binOp,HM,e1,e2,vC];rfl,.bool _⟩
  .cases h;exact fin _ rfl ⟨_,by simp only[binOp,HM,e1,e2,vC];rfl,.bool _⟩
  .cases h;exact fin _ rfl ⟨_,by simp only[binOp,HM,e1,e2,vC];rfl,.bool _⟩
  cases h
 split at h
 .obtain⟨b,hb,rfl⟩:=map_some h;obtain⟨h1,h2,h3,_⟩:=aHX X Y hb hx hy .eql;exact⟨.bool b,h1,uWl,.bool b⟩
 .obtain⟨b,hb,rfl⟩:=map_some h;obtain⟨h1,h2,_,h4⟩:=aHX X Y hb hx hy .neq;exact⟨.bool !b,h1,uWl,.bool _⟩
 cases h
def aZM{yt:BP}{Y:CA}{y:aa}(hx:fA ab X=N1 x)(hy:fA ab Y=N1 y)(h:kJ op (aWr P t X Y) (x.ev ρ) (y.ev ρ)=N1 z)(hw:WF g H w)(hg:bM P ab g)(hs:aX g ρ a.tmps):iK P ⟨dst,.binOp op t X Y yt,type,pos,after,guard⟩ a w (iP g H w z):=by obtain⟨c,h1,h2,h3⟩:=aNA (w:=w) X Y h (bIw hx hg hs) (bIw hy hg hs);exact bK (by simp[execOp,h1,h2]) (.same hw h3)
def bC8{op:UnOp}(hx:fA ab X=N1 x)(h:unV op (x.ev ρ)=N1 z)(hw:WF g H w)(hg:bM P ab g)(hs:aX g ρ a.tmps):iK P ⟨dst,.unOp op t X,type,pos,after,guard⟩ a w (iP g H w z):=by
 have hr:=bIw hx hg hs;unfold unV at h;split at h
 .rename_i e;rw[e]at hr;have ev:=hr.di;split at h
  .cases h;exact bK (by simp only[execOp,ev,Hm,KI];rfl) (.same hw (.int _ _))
  .cases h;exact bK (by simp only[execOp,ev,Hm,LJ];rfl) (.same hw (.int _ _))
  cases h
 .rename_i e;rw[e]at hr;have ev:=hr.jx;split at h
  .cases h;exact bK (by simp only[execOp,ev,Hm];rfl) (.same hw (.bool _))
  cases h
 cases h
def sP{p:List UInt8}(h:s.data.toList=p):s.size=p.length:=by rw[<- h,DI];rfl
def aFN{p:List UInt8}(h:s.data.toList=p)(l r:Nat):(s.extract l r).data.toList=(p.take r).drop l:=by rw[ByteArray.data_extract,Array.toList_extract,<- h,List.drop_take]
def ai.str'{p:List UInt8}(h:s.data.toList=p):ai g (.str p) (.string s):=h ▸ .str s
def iM{dflt most y:Nat}{x:Option AV}(h:iL dflt most x=N1 n)(hm:most<=y){v:Option BE}(hx:∀a,x=N1 a->∃u,v=N1 u/\ai g a u)(hn:x=N2->v=N2):(x=N2/\v=N2/\n=dflt)∨(x.isSome=Pa/\n<=most/\∃u,v=N1 u/\∀code,(JM u y code).run P w=.ok n w):=by
 unfold iL at h;split at h
 .cases h;exact .inl ⟨rfl,hn rfl,rfl⟩
 .split at h
  .rename_i k m hc;cases h;obtain⟨u,rfl,hr⟩:=hx _ rfl;cases hr.di;refine .inr ⟨rfl,omT,_,rfl,λcode=>?_⟩;have h1:0<=m/\m<=(y:Int):=omT;simp[JM,asIntOf,h1]
  cases h
 cases h
end
section
variable {P:CU}{ab:cu}{g:G}{H:LO}{w:BL}{ρ:LA}{a:Act}
variable {dst:Option Tmp}{type:BP}{pos:String}{after:Array OO}{guard:Option (Nat×Bool)}
def fW{X:Option CA}{x:Option aa}(hx:wP ab X=N1 x)(hg:bM P ab g)(hs:aX g ρ a.tmps):(∀y,x.map (aa.ev ρ)=N1 y->∃u,X.map a.eval=N1 u/\ai g y u)/\(x.map (aa.ev ρ)=N2->X.map a.eval=N2):=by
 cases X with
 |none=>
  simp only[wP,AG]at hx
  grind
 |some X=>obtain⟨z,hz,rfl⟩:=map_some hx;refine⟨λy h=>?_,λh=>by simp at h⟩;simp at h;subst h;exact⟨_,rfl,bIw hz hg hs⟩
def mW{isSlice:Bool}{l h m:Nat}{lo hi mx:Option AV}(hb:dU len lo hi mx=N1 (l,h,m))(cm:len<=cap){ulo uhi umx:Option BE}(h1:∀y,lo=N1 y->∃u,ulo=N1 u/\ai g y u)(h1':lo=N2->ulo=N2)(h2:∀y,hi=N1 y->∃u,uhi=N1 u/\ai g y u)(zc:hi=N2->uhi=N2)(h3:∀y,mx=N1 y->∃u,umx=N1 u/\ai g y u)(D9:mx=N2->umx=N2)(hmh:mx.isSome=Pa->hi.isSome=Pa):∃m',(GR isSlice len cap ulo uhi umx).run P w=.ok (l,h,m') w/\l<=h/\h<=m/\m<=len/\((mx.isSome=Pa/\m'=m)∨(mx=N2/\m'=cap/\m=len)):=by
 unfold dU at hb;split at hb
 .cases hb
 rename_i m0 hm;split at hb
 .cases hb
 rename_i h0 hh;split at hb
 .cases hb
 rename_i l0 hl;simp only[AG,Prod.mk.injEq]at hb;obtain⟨rfl,rfl,rfl⟩:=hb;have Rf:m0<=len:=by rcases iM (P:=P) (w:=w) (y:=cap) hm cm h3 D9 with⟨_,_,e⟩ | ⟨_,e,_⟩<;>omega
 have J7:h0<=m0:=by
  rcases iM (P:=P) (w:=w) (y:=m0) hh (AQ _) h2 zc with⟨hn,_,e⟩ | ⟨_,e,_⟩
  .rcases iM (P:=P) (w:=w) (y:=cap) hm cm h3 D9 with⟨_,_,e'⟩ | ⟨e',_,_⟩
   .omega
   have:=hmh e';simp[hn]at this
  exact e
 have E0:l0<=h0:=by rcases iM (P:=P) (w:=w) (y:=h0) hl (AQ _) h1 h1' with⟨_,_,e⟩ | ⟨_,e,_⟩<;>omega
 have low:(ulo=N2/\l0=0)∨(∃u,ulo=N1 u/\∀code,(JM u h0 code).run P w=.ok l0 w):=by
  rcases iM (P:=P) (w:=w) (y:=h0) hl (AQ _) h1 h1' with⟨_,e1,e2⟩ | ⟨_,_,u,e1,e2⟩
  .exact .inl ⟨e1,e2⟩
  exact .inr ⟨u,e1,e2⟩
 rcases iM (P:=P) (w:=w) (y:=cap) hm cm h3 D9 with⟨e1,e2,e3⟩ | ⟨e1,_,um,e2,e3⟩
 .subst e2;subst e1;refine⟨cap, ?_,E0,J7,Rf,.inr ⟨rfl,rfl,e3⟩⟩;rcases iM (P:=P) (w:=w) (y:=cap) hh omT h2 zc with⟨_,e5,e6⟩ | ⟨_,_,uh,e5,e6⟩
  .subst e5;subst e6;rcases low with⟨l1,l2⟩ | ⟨u,l1,l2⟩<;>subst l1<;>cases isSlice<;>simp[GR,l2]
  subst e5;rcases low with⟨l1,l2⟩ | ⟨u,l1,l2⟩<;>subst l1<;>cases isSlice<;>simp[GR,l2,e6]
 subst e2;refine⟨m0, ?_,E0,J7,Rf,.inl ⟨e1,rfl⟩⟩;rcases iM (P:=P) (w:=w) (y:=m0) hh (AQ _) h2 zc with⟨e4,_,_⟩ | ⟨_,_,uh,e5,e6⟩
 .have:=hmh e1;simp[e4]at this
 subst e5;rcases low with⟨l1,l2⟩ | ⟨u,l1,l2⟩<;>subst l1<;>cases isSlice<;>simp[GR,l2,e3,e6]
def aR1{LO:Option CA}{hi:Option aa}(hx:fA ab X=N1 x)(gr:wP ab LO=N1 lo)(tf:wP ab HI=N1 hi)(ht:P.underlying t=N1 .string)(h:evR H ρ (.fm x lo hi)=N1 z)(hw:WF g H w)(hg:bM P ab g)(hs:aX g ρ a.tmps):iK P ⟨dst,.slice t X LO HI N2,type,pos,after,guard⟩ a w (iP g H w z):=by
 have hr:=bIw hx hg hs;obtain⟨l1,l2⟩:=fW gr hg hs;obtain⟨h1,h2⟩:=fW tf hg hs;simp only[evR]at h;split at h
 .rename_i s e;rw[e]at hr;obtain⟨bs,es,ss⟩:=hr.ln;split at h
  .rename_i l r m hb;cases h;obtain⟨m',ej,_,_,_,_⟩:=mW (P:=P) (w:=w) (isSlice:=Po) hb (AQ _) l1 l2 h1 h2 (λy hy=>by simp at hy) (λ_=>rfl) (λh=>by simp at h);rw[<- sP ss]at ej;refine bK ?_ (.same hw (.str' (aFN ss l r)));simp[execOp,IX,BH ht,Hn,es,ej]
  cases h
 cases h
def aCQ(rows:List α)(l h i:Nat):((rows.take h).drop l)[i]? = if l+i<h then rows[l+i]? else none:=uWa
def aHY{k':Nat}(h:dF k rows=Pa)(hk:∀row∈rows,row.length=k'):∀row∈rows,row.length=k:=by
 cases rows with
 |nil=>grind
 |cons r rs=>simp_all [dF,beq_iff_eq,siT]
def ai.ov{full:Bool}{x:BE}(hx:ai g (.sl full rows) x):(rows=[]/\x=.slice N2 0 0)∨∃b off cap k,x=.slice (N1 ⟨b,off,N2⟩) rows.length cap/\rows.length<=cap/\(full=Pa->cap=rows.length)/\(∀row∈rows,row.length=k)/\(∀(row:LA),row∈rows->row.all AV.still=Pa) /\ (∀i j,i<rows.length->j<k->(g.perm b (off+i*k+j)).isSome) /\ ∀(i j:Nat)(row:LA) a x,rows[i]? = N1 row->row[j]? = N1 a->g.perm b (off+i*k+j)=N1 x->ai g a x:=by
 cases hx with
 |kn full=>grind
 |sl full rows b off cap k cm jo hk bd hp h=>exact .inr ⟨b,off,cap,k,rfl,cm,jo,hk,bd,hp,h⟩
def wR(ht:P.underlying t=N1 (.slice e))(hk:size? P e=N1 k){A:Option IA}{l h m:Nat}{lo hi mx:Option BE}(ej:(GR Pa len cap lo hi mx).run P w=.ok (l,h,m) w):(IX t (.slice A len cap) lo hi mx).run P w=.ok (.slice (if m=l then A else A.map (·.add (l*k))) (h - l) (m - l)) w:=by simp_all [IX,BS,BH,BJ,Hn,fV,CB]
def aME{LO MX:Option CA}{hi mx:Option aa}(hx:fA ab X=N1 x)(gr:wP ab LO=N1 lo)(tf:wP ab HI=N1 hi)(E1:wP ab MX=N1 mx)(ht:P.underlying t=N1 (.slice e))(hk:size? P e=N1 k)(h:evR H ρ (.gw k x lo hi mx)=N1 z)(hw:WF g H w)(hg:bM P ab g)(hs:aX g ρ a.tmps):iK P ⟨dst,.slice t X LO HI MX,type,pos,after,guard⟩ a w (iP g H w z):=by
 have hr:=bIw hx hg hs;obtain⟨l1,l2⟩:=fW gr hg hs;obtain⟨h1,h2⟩:=fW tf hg hs;obtain⟨m1,m2⟩:=fW E1 hg hs;simp only[evR]at h;split at h
 .rename_i full rows eq;rw[eq]at hr;split at h
  .rename_i l r m hb;split at h
   .rename_i hc;cases h;simp only[AI,EA,Bool.not_eq_true']at hc;obtain⟨nq,hmh⟩:=hc;have E2:(mx.map (aa.ev ρ)).isSome=Pa->(hi.map (aa.ev ρ)).isSome=true:=λe=>by
     grind
    rcases hr.ov with⟨er,ex⟩ | ⟨b,off,cap,k',ex,cm,jo,xe,bd,hp,dj⟩
    .subst er;obtain⟨m',ej,E0,J7,Rf,oq⟩:=mW (w:=w) hb (AQ _) l1 l2 h1 h2 m1 m2 E2;simp at Rf;have e1:r=0:=omT;have e2:l=0:=omT;have e3:m'=0:=uWa
     subst e1;subst e2;subst e3;refine bK ?_ (.same hw (.kn _));have:=wR ht hk (A:=N2) ej
     grind [execOp,BS,BJ,CB]
    obtain⟨m',ej,E0,J7,Rf,oq⟩:=mW (w:=w) hb cm l1 l2 h1 h2 m1 m2 E2;have pt:=aHY nq xe;have vh:=wR ht hk (A:=N1 ⟨b,off,N2⟩) ej;have ax:((rows.take r).drop l).length=r - l:=soT;refine bK (by simp only[execOp,ex,BS,vh,BJ,CB];rfl) (.same hw ?_);rw[<- ax];have ji:(if m'=l then N1 (⟨b,off,N2⟩:IA)else (N1 (⟨b,off,N2⟩:IA)).map (·.add (l*k)))=N1 ⟨b,if m'=l then off else off+l*k,N2⟩:=by
     split
     .simp
     simp[fZ]
    rw[ji];refine .sl _ _ b _ (m' - l) k omT (λhf=>?_) (λrow hm=>?_) (λrow hm=>bd row (FA (FX hm))) (λi j hi hj=>?_) λi j row c y cn hc hy=>?_
    .grind
    .grind
    .have bl:m'≠l:=omT;have gu:l+i<rows.length:=omT;have hk'k:k'=k:=by rw[<- xe rows[l+i] (AS gu)];grind
     grind
    grind
   cases h
  cases h
 .rename_i o v n eq;rw[eq]at hr;split at h
  .cases h
  rename_i hmx0;have hmxn:mx=none:=by simpa using hmx0
  subst hmxn;split at h
  .rename_i l r m hb;generalize hX:a.eval X=xv at hr;cases hr with
   |sr o v n lc b cap hl hv hn jg hh=>
    obtain⟨m',ej,E0,J7,Rf,oq⟩:=mW (w:=w) hb jg l1 l2 h1 h2 (λy hy=>by simp at hy) (λ_=>m2 rfl) (λe=>by simp at e);have vh:=wR ht hk (A:=N1 b) ej;have hmm:=oq.elim (λh=>Vv h.1 siT) λh=>h.2;obtain⟨rfl,rfl⟩:=hmm;have ji:(if m'=l then N1 b else (N1 b).map (·.add (l*k)))=N1 (if m'=l then b else b.add (l*k)):=by split<;>rfl
    refine bK (by simp only[execOp,hX,BS,vh,BJ,CB];rfl) (.same hw ?_);rw[ji];split at h
    .rename_i mj;simp only[AI,decide_eq_true_eq]at mj;obtain⟨_,rfl⟩:=mj;cases h;refine .srw o v _ r lc _ _ hl hv hn J7 λe1 e2=>?_;obtain⟨rfl,rfl⟩:=hh e1 e2;exact⟨by simp[fZ],siT⟩
    split at h
    .rename_i hrn;cases h;subst hrn;refine .srv o v _ k l lc _ _ hl hv hn E0 λe1 e2=>?_;obtain⟨rfl,rfl⟩:=hh e1 e2;by_cases Rf:lc.cap=l
     .grind
     rw[Vw Rf];exact⟨l*k,by simp[fZ],λ_=>rfl,omT⟩
    cases h
  cases h
 cases h
def aWv{LO MX:Option CA}(hx:fA ab X=N1 x)(gr:wP ab LO=N1 lo)(tf:wP ab HI=N1 N2)(E1:wP ab MX=N1 N2)(ht:P.underlying t=N1 (.slice e))(hk:size? P e=N1 k)(h:evR H ρ (.view k x lo)=N1 z)(hw:WF g H w)(hg:bM P ab g)(hs:aX g ρ a.tmps):iK P ⟨dst,.slice t X LO HI MX,type,pos,after,guard⟩ a w (iP g H w z):=by
 have hr:=bIw hx hg hs;obtain⟨l1,l2⟩:=fW gr hg hs;obtain⟨h1,h2⟩:=fW tf hg hs;obtain⟨m1,m2⟩:=fW E1 hg hs;simp only[evR]at h;split at h
 .rename_i full rows eq;refine aME hx gr tf E1 ht hk ?_ hw hg hs
  grind [evR]
 .rename_i o v n eq;rw[eq]at hr;split at h
  .rename_i v' k2 rows hH;split at h
   .rename_i hc;obtain⟨rfl,ax⟩:=hc;split at h
    .rename_i l hbv;cases h;have hb:dU n (lo.map (aa.ev ρ)) ((N2:Option aa).map (aa.ev ρ)) ((N2:Option aa).map (aa.ev ρ))=N1 (l,n,n):=by
      have e1:iL n n N2=N1 n:=rfl;simp only[dU,Option.map_none,e1,hbv]
     generalize hX:a.eval X=xv at hr;cases hr with
     |sr o v n lc b cap hl hv hn jg hh=>
      have bd:lc.st=v':=by have:=hw.st o _ lc hH hl;simp only[ah.ver]at this;omega
      obtain⟨h0,ow,cm,_,_,_,_⟩:=hw.obj o lc _ ⟨hH,rfl,hl,bd⟩;obtain⟨rfl,rfl⟩:=hh bd omT;obtain⟨m',ej,E0,J7,Rf,oq⟩:=mW (w:=w) hb omT l1 l2 h1 h2 m1 m2 (λe=>by simp at e);have vh:=wR ht hk (A:=N1 ⟨lc.b,0,N2⟩) ej;refine bK (by simp only[execOp,hX,BS,vh,BJ,CB];rfl) (.same hw ?_);have ji:(if m'=l then N1 (⟨lc.b,0,N2⟩:IA)else (N1 (⟨lc.b,0,N2⟩:IA)).map (·.add (l*k)))=N1 ⟨lc.b,if m'=l then 0 else l*k,N2⟩:=by
       split
       .simp
       simp[fZ]
      rw[ji];refine .srv o v' n k l lc _ _ hl hv hn E0 λ_ _=>⟨_,rfl,λhlt=>Vw omT,omT⟩
    cases h
   cases h
  cases h
 cases h
end
section
variable {P:CU}{ab:cu}{g:G}{H:LO}{w:BL}{ρ:LA}{a:Act}
variable {dst:Option Tmp}{type:BP}{pos:String}{after:Array OO}{guard:Option (Nat×Bool)}
def aJO{k:Nat}:∀(n:Nat)(l:LA)(i:Nat),i<n->(aFH k n l)[i]? = N1 ((l.drop (i*k)).take k)
 |0,_,i,h=>by omega
 |n+1,l,0,_=>by simp[aFH]
 |n+1,l,i+1,h=>by
  simp only[aFH,List.getElem?_cons_succ];rw[aJO n (l.drop k) i omT,OP,show k+i*k=(i+1)*k by grind]
def aJP{k:Nat}:∀(n:Nat)(l:LA),(aFH k n l).length=n
 |0,_=>rfl
 |n+1,l=>by simp[aFH,aJP n]
def aR2{LO MX:Option CA}{hi mx:Option aa}(hx:fA ab X=N1 x)(gr:wP ab LO=N1 lo)(tf:wP ab HI=N1 hi)(E1:wP ab MX=N1 mx)(ht:P.underlying t=N1 (.array n e))(hk:size? P e=N1 k)(h:evR H ρ (.na n k x lo hi mx)=N1 z)(hw:WF g H w)(hg:bM P ab g)(hs:aX g ρ a.tmps):iK P ⟨dst,.slice t X LO HI MX,type,pos,after,guard⟩ a w (iP g H w z):=by
 have hr:=bIw hx hg hs;obtain⟨l1,l2⟩:=fW gr hg hs;obtain⟨h1,h2⟩:=fW tf hg hs;obtain⟨m1,m2⟩:=fW E1 hg hs;simp only[evR]at h;split at h
 .rename_i row off eq;rw[eq]at hr;split at h
  .rename_i zd;split at h
   .rename_i l r m hb;split at h
    .rename_i hmh;cases h;have E2:(mx.map (aa.ev ρ)).isSome=Pa->(hi.map (aa.ev ρ)).isSome=true:=λe=>by
      grind
     generalize hX:a.eval X=xv at hr;cases hr with
     |ep row off b base bd hp dj=>
      obtain⟨m',ej,E0,J7,Rf,oq⟩:=mW (P:=P) (w:=w) (isSlice:=Po) hb (AQ _) l1 l2 h1 h2 m1 m2 E2;have ax:(((aFH k n (row.drop off)).take r).drop l).length=r - l:=by simp[aJP];omega
      have cn:∀i (rw':LA),(((aFH k n (row.drop off)).take r).drop l)[i]? = N1 rw'->l+i<r/\rw'=(row.drop (off+(l+i)*k)).take k:=λi rw' hi=>by
       rw[aCQ]at hi;split at hi
       .rename_i hlt;rw[aJO n _ (l+i) omT,OP]at hi
        grind
       cases hi
      have iv:∀i,l+i<r->off+(l+i)*k+k<=row.length:=λi hi=>by
       have:(l+i+1)*k<=n*k:=BO _ omT
       grind
      refine bK (v:=.slice (N1 (if m'=l then (⟨b,base+off,N2⟩:IA)else (⟨b,base+off,N2⟩:IA).add (l*k))) (r - l) (m' - l)) ?_ (.same hw ?_)
      .simp only[execOp,hX,IX,BS,BH ht,BJ,IS,CB,ej,fV hk]
      rw[<- ax];have ji:(if m'=l then (⟨b,base+off,N2⟩:IA)else (⟨b,base+off,N2⟩:IA).add (l*k))=⟨b,if m'=l then base+off else base+off+l*k,N2⟩:=by
       split
       .rfl
       rw[fZ]
      rw[ji];refine .sl _ _ b _ (m' - l) k omT (λhf=>?_) (λrw' hm=>?_) (λrw' hm=>?_) (λi j hi hj=>?_) λi j rw' c y hrw hc hy=>?_
      .grind
      .obtain⟨i,hi⟩:=CO.1 hm
       grind
      .obtain⟨i,hi⟩:=CO.1 hm
       grind
      .have hlt:l+i<r:=omT;have:=iv i hlt;have:=hp (off+(l+i)*k+j) omT
       grind
      grind
    cases h
   cases h
  cases h
 cases h
theorem aLA{s:BP}(ht:P.underlying s=N1 (.struct fields))(hf:fields[f]? = N1 fd)(hk:size? P fd.type=N1 (n+1))(b:IA):(Gw s (.pointer (N1 b)) f).run P w=.ok (.pointer (N1 (b.add fd.offset))) w:=by simp only[Gw,BS,BH ht,BJ,hf,IS,fieldPlace,fV hk,CB];simp
def bC9{s:BP}(hx:fA ab X=N1 x)(ht:P.underlying s=N1 (.struct fields))(hf:fields[f]? = N1 fd)(hk:size? P fd.type=N1 (n+1))(h:evR H ρ (.fa fd.offset x)=N1 z)(hw:WF g H w)(hg:bM P ab g)(hs:aX g ρ a.tmps):iK P ⟨dst,.fieldAddr s X f,type,pos,after,guard⟩ a w (iP g H w z):=by
 have hr:=bIw hx hg hs;have fin:∀b,a.eval X=.pointer (N1 b)->ai g z (.pointer (N1 (b.add fd.offset)))->iK P ⟨dst,.fieldAddr s X f,type,pos,after,guard⟩ a w (iP g H w z):=λb e hz=>bK (by grind [execOp,BS,aLA,BJ,CB]) (.same hw hz);simp only[evR]at h;split at h
 .rename_i e;rw[e]at hr;cases h;generalize hX:a.eval X=xv at hr;cases hr with
  |ptr o v off l b hl hv hh=>exact fin b hX (.ptr _ _ _ l _ hl hv λe1 e2=>by rw[hh e1 e2,fZ])
 .rename_i e;rw[e]at hr;cases h;generalize hX:a.eval X=xv at hr;cases hr with
  |vp o v n k i off l b hl hv hn hh=>exact fin b hX (.vp _ _ _ _ _ _ l _ hl hv hn λe1 e2=>by rw[hh e1 e2,fZ,EU])
 .rename_i e;rw[e]at hr;cases h;generalize hX:a.eval X=xv at hr;cases hr with
  |ep row off b base bd hp hh=>exact fin _ hX (by rw[fZ,EU];exact .ep _ _ b base bd hp hh)
 cases h
def fU.sub{g:G}{vs:List BE}(h:fU g cs vs)(off n:Nat):fU g ((cs.drop off).take n) ((vs.drop off).take n):=by
 refine⟨by have:=h.1;simp;omega,λi a x ha hx=>?_⟩;rw[CF,DF]at ha hx;split at ha
 .rename_i hi;rw[Vx hi]at hx;exact h.2 _ a x ha hx
 cases ha
def aHZ{agg:Bool}(vg:qM P t=N1 (n,agg))(hl:fU g cs vs.toList)(ho:off+n<=cs.length)(h:eD agg ((cs.drop off).take n)=N1 z):∃c,(part t vs off).run P w=.ok c w/\ai g z c:=by
 obtain⟨h1,h2,⟨d,h3⟩,h4⟩:=aA5 vg;have gd:vs.size=cs.length:=by have:=hl.1;simp at this;omega
 refine⟨_, ?_,wQ h (hl.sub off n)⟩;simp only[part,BS,aB9 h3,BJ,h2];cases agg with
 |true=>simp only[Vu,BS,fV h1,BJ,CB];congr 2;apply JD;simp[List.extract]
 |false=>have lx:=h4 rfl;subst lx;have hlt:off<vs.size:=omT;have hd:vs.toList.drop off=vs.toList[off]::vs.toList.drop (off+1):=List.drop_eq_getElem_cons uWv;rw[hd];simp[hlt]
def aZN{s:BP}{agg:Bool}(hx:fA ab X=N1 x)(ht:P.underlying s=N1 (.struct fields))(hf:fields[f]? = N1 fd)(vg:qM P fd.type=N1 (n,agg))(h:evR H ρ (.fld fd.offset n agg x)=N1 z)(hw:WF g H w)(hg:bM P ab g)(hs:aX g ρ a.tmps):iK P ⟨dst,.field s X f,type,pos,after,guard⟩ a w (iP g H w z):=by
 have hr:=bIw hx hg hs;simp only[evR]at h;split at h
 .rename_i cs e;rw[e]at hr;obtain⟨vs,ev,hl⟩:=hr.fu;split at h
  .rename_i ho;obtain⟨c,h1,h2⟩:=aHZ (w:=w) vg hl ho h;refine bK ?_ (.same hw h2);simp[execOp,Instr.field,BH ht,hf,ev,asAgg,h1]
  cases h
 cases h
def aFO(k:DK) n:(asIntOf (.int k n)).run P w=.ok (k,n) w:=rfl
theorem vD(ht:P.underlying t=N1 (.slice e))(hk:size? P e=N1 k)(b:IA)(len cap:Nat)(ik:DK)(n:Int)(h0:0<=n)(hn:n<len):(IY t (.slice (N1 b) len cap) (.int ik n)).run P w=.ok (.pointer (N1 (b.add (n.toNat*k)))) w:=by have hc:0<=n/\n<len:=⟨h0,hn⟩;simp[IY,asIntOf,BH ht,hc,fV hk]
def vE(ht:P.underlying t=N1 (.array len e))(hk:size? P e=N1 k)(b:IA)(ik:DK)(n:Int)(h0:0<=n)(hn:n<len):(IY t (.pointer (N1 b)) (.int ik n)).run P w=.ok (.pointer (N1 (b.add (n.toNat*k)))) w:=by have hc:0<=n/\n<len:=⟨h0,hn⟩;simp[IY,asIntOf,BH ht,hc,fV hk,IS]
def aZO{i:aa}(hx:fA ab X=N1 x)(hi:fA ab I=N1 i)(ht:P.underlying t=N1 (.slice e))(hk:size? P e=N1 k)(h:evR H ρ (.iaV x i k)=N1 z)(hw:WF g H w)(hg:bM P ab g)(hs:aX g ρ a.tmps):iK P ⟨dst,.indexAddr t X I,type,pos,after,guard⟩ a w (iP g H w z):=by
 have hr:=bIw hx hg hs;have xf:=bIw hi hg hs;simp only[evR]at h;split at h
 .rename_i full rows ik n e1 e2;rw[e1]at hr;rw[e2]at xf;have ei:=xf.di;split at h
  .rename_i h0;split at h
   .rename_i row cn;split at h
    .rename_i ax;cases h;have hlt:=(AH.1 cn).1;rcases hr.ov with⟨er,_⟩ | ⟨b,off,cap,k',ex,cm,jo,xe,bd,hp,dj⟩
     .grind
     have pt:k'=k:=uWa
     refine bK ?_ (.same hw (.ep row 0 b (off+n.toNat*k') (bd row (AN cn)) (λj hj=>hp n.toNat j hlt omT) λj c y hc hy=>dj n.toNat j row c y cn hc hy))
     simp_all [execOp,BS,vD,BJ,CB,fZ,DU]
    cases h
   cases h
  cases h
 .rename_i o v len ik n e1 e2;rw[e1]at hr;rw[e2]at xf;have ei:=xf.di;split at h
  .rename_i hn;cases h;generalize hX:a.eval X=xv at hr;cases hr with
   |sr o v n0 l b cap hl hv gq jg hh=>
    refine bK (v:=.pointer (N1 (b.add (n.toNat*k)))) ?_ (.same hw (.vp _ _ _ _ _ _ l _ hl hv gq λe1 e2=>?_))
    all_goals grind [execOp,BS,vD,BJ,CB,fZ]
  cases h
 cases h
def aZP{i:aa}(hx:fA ab X=N1 x)(hi:fA ab I=N1 i)(ht:P.underlying t=N1 (.array len e))(hk:size? P e=N1 k)(h:evR H ρ (.iaA len k x i)=N1 z)(hw:WF g H w)(hg:bM P ab g)(hs:aX g ρ a.tmps):iK P ⟨dst,.indexAddr t X I,type,pos,after,guard⟩ a w (iP g H w z):=by
 have hr:=bIw hx hg hs;have xf:=bIw hi hg hs;simp only[evR]at h;split at h
 .rename_i o v off ik n e1 e2;rw[e1]at hr;rw[e2]at xf;have ei:=xf.di;split at h
  .rename_i hn;cases h;generalize hX:a.eval X=xv at hr;cases hr with
   |ptr o v off l b hl hv hh=>refine bK (v:=.pointer (N1 (b.add (n.toNat*k)))) uWw (.same hw (.ptr _ _ _ l _ hl hv λe1 e2=>by rw[hh e1 e2,fZ]))
  cases h
 .rename_i row off ik n e1 e2;rw[e1]at hr;rw[e2]at xf;have ei:=xf.di;split at h
  .rename_i hn;cases h;generalize hX:a.eval X=xv at hr;cases hr with
   |ep row off b base bd hp hh=>refine bK (v:=.pointer (N1 (Addr.add ⟨b,base+off,N2⟩ (n.toNat*k)))) uWw (.same hw (by rw[fZ,EU];exact .ep _ _ b base bd hp hh))
  cases h
 .rename_i o v m k2 r off ik n e1 e2;rw[e1]at hr;rw[e2]at xf;have ei:=xf.di;split at h
  .rename_i hn;cases h;generalize hX:a.eval X=xv at hr;cases hr with
   |vp _ _ _ _ _ _ l b hl hv xh hh=>refine bK (v:=.pointer (N1 (b.add (n.toNat*k)))) uWw (.same hw (.vp _ _ _ _ _ _ l _ hl hv xh λe1 e2=>by rw[hh e1 e2,fZ,EU]))
  cases h
 cases h
def aZQ{i:aa}(hx:fA ab X=N1 x)(hi:fA ab I=N1 i)(ht:P.underlying t=N1 .string)(h:evR H ρ (.ixS x i)=N1 z)(hw:WF g H w)(hg:bM P ab g)(hs:aX g ρ a.tmps):iK P ⟨dst,.index t X I,type,pos,after,guard⟩ a w (iP g H w z):=by
 have hr:=bIw hx hg hs;have xf:=bIw hi hg hs;simp only[evR]at h;split at h
 .rename_i s ik n e1 e2;rw[e1]at hr;rw[e2]at xf;have ei:=xf.di;obtain⟨bs,ex,ss⟩:=hr.ln;split at h
  .rename_i h0;split at h
   .rename_i c hc;cases h;have hb:bs[n.toNat]? = N1 c:=by
     rw[<- ss]at hc;have hlt:=(AH.1 hc).1;have rn:n.toNat<bs.size:=uWv
     rw[getElem?_pos bs n.toNat rn];rw[AP hlt]at hc;rw[<- hc];simp;rfl
    refine bK ?_ (.same hw (.int _ _));simp only[execOp,ex,ei,Bg,BS,aFO,BH ht,BJ,h0,Vu,hb,CB]
   cases h
  cases h
 cases h
def aZR{agg:Bool}{i:aa}(hx:fA ab X=N1 x)(hi:fA ab I=N1 i)(ht:P.underlying t=N1 (.array len e))(vg:qM P e=N1 (k,agg))(h:evR H ρ (.ixA len k agg x i)=N1 z)(hw:WF g H w)(hg:bM P ab g)(hs:aX g ρ a.tmps):iK P ⟨dst,.index t X I,type,pos,after,guard⟩ a w (iP g H w z):=by
 have hr:=bIw hx hg hs;have xf:=bIw hi hg hs;simp only[evR]at h;split at h
 .rename_i cs ik n e1 e2;rw[e1]at hr;rw[e2]at xf;have ei:=xf.di;obtain⟨vs,ev,hl⟩:=hr.fu;split at h
  .rename_i hn;obtain⟨c,h1,h2⟩:=aHZ (w:=w) vg hl hn.2.2 h;have hc:0<=n/\n<len:=⟨hn.1,hn.2.1⟩;refine bK ?_ (.same hw h2);simp only[execOp,ev,ei,Bg,BS,aFO,BH ht,BJ,hc,and_self,Vu,fV (aA5 vg).1,h1,CB]
  cases h
 cases h
def aWw(hx:fA ab X=N1 x)(ht:P.underlying t=N1 .string)(h:evR H ρ (.fg x)=N1 z)(hw:WF g H w)(hg:bM P ab g)(hs:aX g ρ a.tmps):iK P ⟨dst,.call { callee:=.builtin .len,args := #[X],argTypes := #[t] },ty,pos,after,guard⟩ a w (iP g H w z):=by
 have hr:=bIw hx hg hs;simp only[evR]at h;split at h
 .rename_i s e;rw[e]at hr;obtain⟨bs,ex,ss⟩:=hr.ln;cases h;refine bK (v:=.int .i64 bs.size) ?_ (.same hw (by rw[sP ss];exact .int _ _));simp[execOp,resolve,invoke,builtin,KY,BH ht,ex,goInt]
 cases h
def aWx(hx:fA ab X=N1 x)(ht:P.underlying t=N1 (.slice e))(h:evR H ρ (.Wk x)=N1 z)(hw:WF g H w)(hg:bM P ab g)(hs:aX g ρ a.tmps):iK P ⟨dst,.call { callee:=.builtin .len,args := #[X],argTypes := #[t] },ty,pos,after,guard⟩ a w (iP g H w z):=by
 have hr:=bIw hx hg hs;have fin:∀A n c,a.eval X=.slice A n c->z=.int .i64 n->iK P ⟨dst,.call { callee:=.builtin .len,args := #[X],argTypes := #[t] },ty,pos,after,guard⟩ a w (iP g H w z):=λA n c ex ez=>bK (v:=.int .i64 n) (by simp[execOp,resolve,invoke,builtin,KY,BH ht,ex,goInt]) (.same hw (by rw[ez];exact .int _ _));simp only[evR]at h;split at h
 .rename_i full rows e;rw[e]at hr;cases h;rcases hr.ov with⟨er,ex⟩ | ⟨b,off,cap,k',ex,_⟩
  all_goals grind
 .rename_i o v n e;rw[e]at hr;cases h;generalize hX:a.eval X=xv at hr;cases hr with
  |sr o v n0 l b cap hl hv gq jg hh=>grind
 .rename_i e;rw[e]at hr;cases h;generalize hX:a.eval X=xv at hr;cases hr
  grind
 cases h
def aWy(ht:P.underlying t=N1 (.array n e))(hw:WF g H w):iK P ⟨dst,.call { callee:=.builtin .len,args := #[X],argTypes := #[t] },ty,pos,after,guard⟩ a w (iP g H w (.int .i64 n)):=by refine bK ?_ (.same hw (.int _ _));simp[execOp,resolve,invoke,builtin,KY,BH ht,goInt]
def aTq(hd:P.underlying t=N1 d)(hn:∀ms,d≠.interface ms)(hx:fA ab X=N1 x)(h:evR H ρ (.km t x)=N1 z)(hw:WF g H w)(hg:bM P ab g)(hs:aX g ρ a.tmps):iK P ⟨dst,.makeInterface t X,type,pos,after,guard⟩ a w (iP g H w z):=by
 have hr:=bIw hx hg hs;simp only[evR]at h;split at h
 .rename_i hi;cases h;refine bK ?_ (.same hw (.ifc t _ _ hi hr));cases d<;>first | (exact Vv rfl (hn _)) | simp[execOp,Instr.makeInterface,BH hd]
 cases h
def aZS(hx:fA ab X=N1 x)(h:evR H ρ (.ext n x)=N1 z)(hw:WF g H w)(hg:bM P ab g)(hs:aX g ρ a.tmps):iK P ⟨dst,.extract X n,type,pos,after,guard⟩ a w (iP g H w z):=by
 have hr:=bIw hx hg hs;simp only[evR]at h;split at h
 .rename_i vs e;rw[e]at hr;obtain⟨us,ex,hl⟩:=hr.np;have rn:n<us.size:=by have:=hl.1;grind
  refine bK (v:=us[n]) ?_ (.same hw (hl.2 n z _ h (by simp[rn])));simp[execOp,ex,Instr.extract,rn]
 cases h
end
section
variable {P:CU}{ab:cu}{g:G}{H:LO}{w:BL}{ρ:LA}{a:Act}
variable {dst:Option Tmp}{type:BP}{pos:String}{after:Array OO}{guard:Option (Nat×Bool)}
def aJQ off:∀(l:List BE) k (vs:Array BE),off+k+l.length<=vs.size ->((l.zipIdx k).foldl (λcs p=>cs.setIfInBounds (off+p.2) p.1) vs).toList=vs.toList.take (off+k)++l++vs.toList.drop (off+k+l.length)
 | [],k,vs,_=>by simp
 |x::l,k,vs,h=>by
  simp only[List.zipIdx_cons,List.foldl_cons];rw[aJQ off l (k+1) _ uWa];simp at h;apply HN;intro i;simp only[Array.toList_setIfInBounds,DG,CF,FB,HB,List.length_set,DI,DF,BA,List.length_cons];by_cases h1:i<off+k
  .have e1:i<min (off+(k+1)) vs.size+l.length:=omT;have e2:i<min (off+(k+1)) vs.size:=omT;have e3:i<min (off+k) vs.size+(l.length+1):=omT;have e4:i<min (off+k) vs.size:=omT;have e5:i<off+(k+1):=omT;have e6:¬(off+k=i):=omT;simp[e1,e2,e3,e4,e5,e6,h1]
  by_cases h2:i=off+k
  .subst h2;have e1:off+k<min (off+(k+1)) vs.size+l.length:=omT;have e2:off+k<min (off+(k+1)) vs.size:=omT;have e3:off+k<min (off+k) vs.size+(l.length+1):=omT;have e4:¬(off+k<min (off+k) vs.size):=omT;have e5:off+k<off+(k+1):=omT;have e6:off+k - min (off+k) vs.size=0:=omT;have e7:off+k<vs.size:=omT;simp[e1,e2,e3,e4,e5,e6,e7]
  by_cases h3:i<off+k+1+l.length
  .have e1:i<min (off+(k+1)) vs.size+l.length:=omT;have e2:¬(i<min (off+(k+1)) vs.size):=omT;have e3:i<min (off+k) vs.size+(l.length+1):=omT;have e4:¬(i<min (off+k) vs.size):=omT;have e5:i - min (off+k) vs.size=(i - min (off+(k+1)) vs.size)+1:=omT;simp[e1,e2,e3,e4,e5]
  have e1:¬(i<min (off+(k+1)) vs.size+l.length):=omT;have e3:¬(i<min (off+k) vs.size+(l.length+1)):=omT;have e6:off+(k+1)+l.length+(i - (min (off+(k+1)) vs.size+l.length))=i:=omT;have e7:off+k+(l.length+1)+(i - (min (off+k) vs.size+(l.length+1)))=i:=omT;have e8:¬(off+k=i):=omT;simp[e1,e3,e6,e7,e8]
def aCR{place:Nat->Option (Nat×Nat)}{cells:Array BE}{bML:List (Nat×BE)}(hp:place i=N1 (off,v.cells.size))(h:off+v.cells.size<=cells.size):∃dh:Array BE,dh.toList=cells.toList.take off++v.cells.toList++cells.toList.drop (off+v.cells.size)/\FZ place cells ((i,v)::bML)=FZ place dh bML:=by
 refine⟨v.cells.zipIdx.foldl (λcs p=>cs.setIfInBounds (off+p.2) p.1) cells, ?_, ?_⟩
 .have:=aJQ off v.cells.toList 0 cells uWg;rw[<- Array.foldl_toList,Array.toList_zipIdx]
  grind
 simp only[FZ,hp]
 grind
def wT(cells:LA) off (vs:LA) (h:off+vs.length<=cells.length) i:(nV cells off vs)[i]? = if off<=i/\i<off+vs.length then vs[i - off]? else cells[i]? := by
 unfold nV;simp only[DG,CF,HB,BA,DF]
 grind
theorem aC7(cells:LA) off (vs:LA) (h:off+vs.length<=cells.length):(nV cells off vs).length=cells.length:=by unfold nV;simp;omega
def aI0(cells:List BE) off (vs:List BE) (h:off+vs.length<=cells.length) i:(cells.take off++vs++cells.drop (off+vs.length))[i]? = if off<=i/\i<off+vs.length then vs[i - off]? else cells[i]? := by
 simp only[DG,CF,HB,BA,DF]
 grind
def fU.fill(h:fU g cs xs){vs:LA}(hv:fU g vs ys)(ho:off+vs.length<=cs.length):fU g (nV cs off vs) (xs.take off++ys++xs.drop (off+ys.length)):=by
 have h1:=h.1;have h2:=hv.1;refine⟨by rw[aC7 _ _ _ ho];simp;omega,λi c x hc hx=>?_⟩;rw[wT _ _ _ ho]at hc;rw[aI0 _ _ _ omT]at hx;by_cases hi:off<=i/\i<off+vs.length
 .rw[Vx hi]at hc;rw[Vx omT]at hx;exact hv.2 _ c x hc hx
 rw[Vw hi]at hc;rw[Vw omT]at hx;exact h.2 _ c x hc hx
def aDT{place:Nat->Option (Nat×Nat)}:∀(parts:List (Nat×CA))(aps:List (Nat×Nat×aa)),parts.length=aps.length->(∀(j:Nat) i X o s x,parts[j]? = N1 (i,X)->aps[j]? = N1 (o,s,x)->place i=N1 (o,s)/\((x.ev ρ).cells.length=s->(x.ev ρ).cells.all AV.ak=Pa->fU g (x.ev ρ).cells (a.eval X).cells.toList)) ->∀(cs:LA)(cells:Array BE),fU g cs cells.toList->∀out,iA ρ cs aps=N1 out ->∃dh:Array BE,FZ place cells (parts.map λp=>(p.1,a.eval p.2))=N1 dh/\fU g out dh.toList
 | [],aps,hl,_,cs,cells,hr,out,h=>by
  cases aps with
  |nil=>simp only[iA,AG]at h;subst h;exact⟨cells,rfl,hr⟩
  |cons _ _=>simp at hl
 | (i,X)::parts,aps,hl,hp,cs,cells,hr,out,h=>by
  cases aps with
  |nil=>simp at hl
  |cons p aps=>
   obtain⟨o,s,x⟩:=p;simp only[iA]at h;split at h
   .rename_i hc;obtain⟨h1,h2⟩:=hp 0 i X o s x rfl rfl;have hv:=h2 hc.1 hc.2.2;have E4:=hv.1;have hlc:=hr.1;simp only[DI]at E4 hlc;obtain⟨rz,e1,e2⟩:=aCR (place:=place) (cells:=cells) (i:=i) (off:=o) (v:=a.eval X) (bML:=parts.map λp=>(p.1,a.eval p.2)) (by rw[h1];simp;omega) omT;have gj:fU g (nV cs o (x.ev ρ).cells) rz.toList:=by
     rw[e1];have:=hr.fill hv (off:=o) omT;simpa using this
    obtain⟨dh,e3,e4⟩:=aDT parts aps uWo (λj i X o s x h1 h2=>hp (j+1) i X o s x uWk uWj) _ rz gj out h;exact⟨dh,by simp only[BI];rw[e2];exact e3,e4⟩
   cases h
def zeroCells?_spec(h:zeroCells? P ab t=N1 zs):∃i z,P.info? t=N1 i/\i.zero=N1 z/\∀g,fU g zs z.cells.toList:=by
 unfold zeroCells? at h;cases hi:P.info? t with
 |none=>simp[hi]at h
 |some i=>
  simp only[hi,FG]at h;cases hz:i.zero with
  |none=>simp[hz]at h
  |some z=>simp only[hz,FG]at h;exact⟨i,z,rfl,hz,aB8 h⟩
def aFP:∀(l:List JU),(∀f∈l,(size? P f.type).isSome=Pa) ->l.mapM (λf=>(P.info? f.type).map λi=>(f.offset,i.size))=N1 (l.map λf=>(f.offset,(size? P f.type).getD 0))
 | [],_=>rfl
 |f::l,h=>by
  have ih:=aFP l λf hf=>h f (BZ _ hf)
  grind [HT,size?_info]
def aFQ{fields:Array JU}:∀{parts:List (Nat×CA)}{aps:List (Nat×Nat×aa)},aHU P ab fields parts=N1 aps ->parts.length=aps.length/\∀(j:Nat) i X o s x,parts[j]? = N1 (i,X)->aps[j]? = N1 (o,s,x)->∃f,fields[i]? = N1 f/\size? P f.type=N1 s/\o=f.offset/\fA ab X=N1 x
 | [],aps,h=>by simp only[aHU,AG]at h;grind
 | (i,X)::r,aps,h=>by
  unfold aHU at h;split at h
  .cases h
  rename_i f hf;split at h
  .rename_i n x r' hn hx pw;cases h;obtain⟨h1,h2⟩:=aFQ pw
   grind
  cases h
def aFR{n:Nat}:∀{parts:List (Nat×CA)}{aps:List (Nat×Nat×aa)},aHV ab n parts=N1 aps ->parts.length=aps.length/\∀(j:Nat) i X o s x,parts[j]? = N1 (i,X)->aps[j]? = N1 (o,s,x)->o=i*n/\s=n/\fA ab X=N1 x
 | [],aps,h=>by simp only[aHV,AG]at h;grind
 | (i,X)::r,aps,h=>by
  unfold aHV at h;split at h
  .rename_i x r' hx pw;cases h;obtain⟨h1,h2⟩:=aFR pw
   grind
  cases h
def aON{aps:List (Nat×Nat×aa)}(hz:zeroCells? P ab t=N1 zs)(hd:(∃fields:Array JU,P.underlying t=N1 (.struct fields)/\fields.all (λf=>(size? P f.type).isSome)=Pa/\aHU P ab fields parts.toList=N1 aps) ∨ (∃n e k,P.underlying t=N1 (.array n e)/\size? P e=N1 k/\aHV ab k parts.toList=N1 aps))(h:evR H ρ (.build zs aps)=N1 av)(hw:WF g H w)(hg:bM P ab g)(hs:aX g ρ a.tmps):iK P ⟨dst,.build t parts,type,pos,after,guard⟩ a w (iP g H w av):=by
 obtain⟨out,E5,rfl⟩:=map_some h;obtain⟨it,z,hi,tq,ub⟩:=zeroCells?_spec hz;have cellsOk:∀(X:CA)(x:aa),fA ab X=N1 x->(x.ev ρ).cells.all AV.ak=Pa->fU g (x.ev ρ).cells (a.eval X).cells.toList:=λX x hx hok=>(bIw hx hg hs).cells hok;have key:∃cells:Array BE,P.built t (parts.map λp=>(p.1,a.eval p.2)).toList=N1 cells/\fU g out cells.toList:=by
  rcases hd with⟨fields,hu,da,hp⟩ | ⟨n,e,k,hu,hk,hp⟩
  .obtain⟨h1,h2⟩:=aFQ hp;have hall':∀f∈fields.toList,(size? P f.type).isSome=true:=λf hf=>by
    grind [Array.all_eq_true_iff_forall_mem]
   obtain⟨cells,e1,e2⟩:=aDT (a:=a) (ρ:=ρ) (place:=λi=>((fields.toList.map λf=>(f.offset,(size? P f.type).getD 0)).toArray)[i]?) parts.toList aps h1
    (λj i X o s x e1 e2=>by
     grind) zs z.cells (ub g) out E5
   simp_all [Go.Program.built,aFP,GF]
  obtain⟨h1,h2⟩:=aFR hp;obtain⟨ie,hie,gd⟩:=size?_info hk;obtain⟨cells,e1,e2⟩:=aDT (a:=a) (ρ:=ρ) (place:=λi=>N1 (i*ie.size,ie.size)) parts.toList aps h1
   (λj i X o s x e1 e2=>by
    grind) zs z.cells (ub g) out E5
  grind [Go.Program.built,GF]
 obtain⟨cells,e1,e2⟩:=key;refine bK ?_ (.same hw e2.agg)
 grind [execOp,BS,run_build,BJ,CB]
end
section
variable {P:CU}{ab:cu}{g:G}{H:LO}{w:BL}{ρ:LA}{a:Act}
variable {dst:Option Tmp}{type:BP}{pos:String}{after:Array OO}{guard:Option (Nat×Bool)}
structure bz(g:G)(k:Nat)(rows:List LA)(cells:List BE):Prop where
 len:cells.length=rows.length*k
 row:∀row∈rows,row.length=k
 rel:∀(i j:Nat)(row:LA) c x,rows[i]? = N1 row->row[j]? = N1 c->cells[i*k+j]? = N1 x->ai g c x
def bz.mono{g:G}(hg:g.le g'){cells:List BE}(h:bz g k rows cells):bz g' k rows cells:=⟨h.len,h.row,λi j row c x h1 h2 h3=>(h.rel i j row c x h1 h2 h3).mono hg⟩
def eV{j:Nat}(hi:i<n)(hj:j<k):i*k+j<n*k:=by
 have:(i+1)*k<=n*k:=BO _ hi
 grind
def aMF{j i' j':Nat}(hj:j<k)(tt:j'<k)(h:i*k+j=i'*k+j'):i=i'/\j=j':=by
 have h1:(i*k+j) / k=i:=by rw[HJ,OR omT];simp_all
 have h2:(i'*k+j') / k=i':=by rw[HJ,OR omT];simp_all
 grind
theorem bz.set{cells:List BE}(h:bz g k rows cells)(hi:i<rows.length){vs:LA}(hv:fU g vs ys)(hk:vs.length=k):bz g k (rows.set i vs) (cells.take (i*k)++ys++cells.drop (i*k+ys.length)):=by
 have hl:=hv.1;have hb:i*k+k<=rows.length*k:=by
  have:(i+1)*k<=rows.length*k:=BO _ hi
  grind
 have ax:=h.len;refine⟨soT,λrow hm=>?_,λi' j row c x h1 h2 h3=>?_⟩
 .rcases GI hm with oq|rfl
  .exact h.row row oq
  exact hk
 have hj:=(AH.1 h2).1;rw[aI0 _ _ _ omT]at h3;by_cases e:i'=i
 .subst e;simp[hi]at h1;subst h1;rw[Vx omT,show i'*k+j - i'*k=j by omega]at h3;exact hv.2 j c x h2 h3
 rw[getElem?_set_ne' _ _ (Ne.symm e)]at h1;have yg:=h.row row (AN h1);have nh:=yg ▸ hj;rw[Vw (λhh=>e (aMF (j':=i'*k+j - i*k) nh omT omT).1)]at h3;exact h.rel i' j row c x h1 h2 h3
def ai.rp{cells:Array BE}{f:Bool}(bd:rows.all (λr=>r.all AV.still)=Pa)(cm:rows.length<=cap)(hf:f=Pa->cap=rows.length)(h:bz (g.bh b λi=>cells[i]?) k rows ((cells.toList).take (rows.length*k))):ai (g.bh b λi=>cells[i]?) (.sl f rows) (.slice (N1 ⟨b,0,N2⟩) rows.length cap):=by
 have gd:rows.length*k<=cells.size:=by have:=h.len;grind
 refine .sl f rows b 0 cap k cm hf h.row (AO.1 bd) (λi j hi hj=>?_) λi j row c x h1 h2 h3=>?_
 .have:=eV hi hj;simp only[G.bh,Vu,BC]
  grind
 have hi:=(AH.1 h1).1;have hj:=(AH.1 h2).1;have nh:j<k:=by have:=h.row row (AN h1);omega
 have:=eV hi nh;simp only[G.bh,Vu,BC]at h3;refine h.rel i j row c x h1 h2 ?_
 grind
def aC8{len:Nat}:∀{parts:List (Nat×CA)}{aps:List (Nat×aa)},aFK ab len parts=N1 aps ->parts.length=aps.length/\∀(j:Nat) i X i' x,parts[j]? = N1 (i,X)->aps[j]? = N1 (i',x)->i'=i/\i<len/\fA ab X=N1 x
 | [],aps,h=>by simp only[aFK,AG]at h;grind
 | (i,X)::r,aps,h=>by
  unfold aFK at h;split at h
  .rename_i x r' hx pw;split at h
   .rename_i hi;cases h;obtain⟨h1,h2⟩:=aC8 pw
    grind
   cases h
  cases h
theorem aEG{v:AV}(h:v.still=Pa):v.ak=true:=by cases v<;>simp_all [AV.still,AV.ak]
theorem jM{l:LA}(h:l.all AV.still=Pa):l.all AV.ak=true:=by grind [AO,aEG]
def vF(h:rows.all (λr=>r.all AV.still)=Pa):rows.all (λr=>r.all AV.ak)=true:=by grind [AO,jM]
def aBE{k:Nat}:∀(parts:List (Nat×CA))(aps:List (Nat×aa)),parts.length=aps.length->(∀(j:Nat) i X i' x,parts[j]? = N1 (i,X)->aps[j]? = N1 (i',x)->i'=i/\ai g (x.ev ρ) (a.eval X)) ->∀(rows:List LA)(cells:Array BE),bz g k rows cells.toList->rows.all (λr=>r.all AV.still)=Pa->∀out,lW ρ k rows aps=N1 out ->∃dh:Array BE,FZ (λi=>N1 (i*k,k)) cells (parts.map λp=>(p.1,a.eval p.2))=N1 dh/\bz g k out dh.toList/\out.length=rows.length/\out.all (λr=>r.all AV.still)=Pa
 | [],aps,hl,_,rows,cells,hr,bd,out,h=>by
  cases aps with
  |nil=>simp only[lW,AG]at h;subst h;exact⟨cells,rfl,hr,rfl,bd⟩
  |cons _ _=>simp at hl
 | (i,X)::parts,aps,hl,hp,rows,cells,hr,bd,out,h=>by
  cases aps with
  |nil=>simp at hl
  |cons p aps=>
   obtain⟨i',x⟩:=p;simp only[lW]at h;split at h
   .rename_i hc;obtain⟨h1,h2⟩:=hp 0 i X i' x rfl rfl;subst h1;have hv:=h2.strip.cells (jM hc.2.2);have E4:=hv.1;simp only[DI]at E4;have ax:=hr.len;simp only[DI]at ax;have hb:i'*k+k<=rows.length*k:=by
     have:(i'+1)*k<=rows.length*k:=BO _ hc.2.1
     rwa [CS,HY]at this
    obtain⟨rz,e1,e2⟩:=aCR (place:=λi=>N1 (i*k,k)) (cells:=cells) (i:=i') (off:=i'*k) (v:=a.eval X) (bML:=parts.map λp=>(p.1,a.eval p.2)) soT omT;have gj:bz g k (rows.set i' (x.ev ρ).strip.cells) rz.toList:=by rw[e1];have:=hr.set hc.2.1 hv hc.1;simpa using this
    have q7:(rows.set i' (x.ev ρ).strip.cells).all (λr=>r.all AV.still)=true:=by
     rw[AO]at bd ⊢;intro r hm;rcases GI hm with oq|rfl
     .exact bd r oq
     exact hc.2.2
    obtain⟨dh,e3,e4,e5,e6⟩:=aBE parts aps uWo (λj i X o x h1 h2=>hp (j+1) i X o x uWk uWj) _ rz gj q7 out h;exact⟨dh,by simp only[BI];rw[e2];exact e3,e4,by rw[e5];simp,e6⟩
   cases h
def aA6{k:Nat}:∀(parts:List (Nat×CA))(aps:List (Nat×aa)),parts.length=aps.length->(∀(j:Nat) i X i' x,parts[j]? = N1 (i,X)->aps[j]? = N1 (i',x)->i'=i/\ai g (x.ev ρ) (a.eval X)) ->∀(rows:List LA)(cells:Array BE),bz g k rows cells.toList->rows.all (λr=>r.all AV.ak)=Pa->∀out,jW ρ k rows aps=N1 out ->∃dh:Array BE,FZ (λi=>N1 (i*k,k)) cells (parts.map λp=>(p.1,a.eval p.2))=N1 dh/\bz g k out dh.toList/\out.length=rows.length/\out.all (λr=>r.all AV.ak)=Pa
 | [],aps,hl,_,rows,cells,hr,bd,out,h=>by
  cases aps with
  |nil=>simp only[jW,AG]at h;subst h;exact⟨cells,rfl,hr,rfl,bd⟩
  |cons _ _=>simp at hl
 | (i,X)::parts,aps,hl,hp,rows,cells,hr,bd,out,h=>by
  cases aps with
  |nil=>simp at hl
  |cons p aps=>
   obtain⟨i',x⟩:=p;simp only[jW]at h;split at h
   .rename_i hc;obtain⟨h1,h2⟩:=hp 0 i X i' x rfl rfl;subst h1;have hv:=h2.strip.cells hc.2.2;have E4:=hv.1;simp only[DI]at E4;have ax:=hr.len;simp only[DI]at ax;have hb:i'*k+k<=rows.length*k:=by
     have:(i'+1)*k<=rows.length*k:=BO _ hc.2.1
     rwa [CS,HY]at this
    obtain⟨rz,e1,e2⟩:=aCR (place:=λi=>N1 (i*k,k)) (cells:=cells) (i:=i') (off:=i'*k) (v:=a.eval X) (bML:=parts.map λp=>(p.1,a.eval p.2)) soT omT;have gj:bz g k (rows.set i' (x.ev ρ).strip.cells) rz.toList:=by rw[e1];have:=hr.set hc.2.1 hv hc.1;simpa using this
    have q7:(rows.set i' (x.ev ρ).strip.cells).all (λr=>r.all AV.ak)=true:=by
     rw[AO]at bd ⊢;intro r hm;rcases GI hm with oq|rfl
     .exact bd r oq
     exact hc.2.2
    obtain⟨dh,e3,e4,e5,e6⟩:=aA6 parts aps uWo (λj i X o x h1 h2=>hp (j+1) i X o x uWk uWj) _ rz gj q7 out h;exact⟨dh,by simp only[BI];rw[e2];exact e3,e4,by rw[e5];simp,e6⟩
   cases h
def aFx{z:Array BE}(hz:fU g zs z.toList)(hk:zs.length=k):bz g k (AX n zs) (((Ab (n*k)).map (z[· % z.size]!)).toList):=by
 have su:z.size=k:=by have:=hz.1;grind
 refine⟨siT,λrow hm=>by grind,λi j row c x h1 h2 h3=>?_⟩;have cn:=(GS.1 (AN h1)).2;subst cn;have hj:j<k:=uWa
 have hmod:(i*k+j) % k=j:=by rw[HJ,Nat.mul_add_mod,Nat.mod_eq_of_lt hj]
 refine hz.2 j c x h2 ?_
 grind
def aJR{v:AV}(h:v.still=Pa):v.aj.still=true:=by cases v<;>simp_all [AV.still,AV.aj]
theorem jN{l:LA}(h:l.all AV.still=Pa):(l.map AV.aj).all AV.still=true:=by rw[AO]at h ⊢;intro v hv;obtain⟨u,hu,rfl⟩:=DB.1 hv;exact aJR (h u hu)
theorem aBF{i:OH}{z:BE}(ht:P.underlying t=N1 (.slice e))(hi:P.info? e=N1 i)(gd:i.size=k)(hz:i.zero=N1 z)(hn:n*k<=16777216){parts:Array (Nat×BE)}{cells:Array BE}(hf:FZ (λi=>N1 (i*k,k)) ((Ab (n*k)).map (z.cells[· % z.cells.size]!)) parts.toList=N1 cells):(JN t n parts).run P w=.ok (.slice (N1 ⟨w.heap.size,0,N2⟩) n n) (w.alloc (.cells cells e)):=by
 have:¬(n*k>2 ^ 24):=soT;by_cases me:n*k=0
 .have he:((Ab (n*k)).map λx=>(#[]:Array BE)[x % (#[]:Array BE).size]!)=((Ab (n*k)).map (z.cells[· % z.cells.size]!)):=by simp[me]
  rw[<- he]at hf;simp only[JN,BS,BH ht,BJ,sizeOf,typeInfo,run_program,hi,gd,CB,MP,me,Vu]
  simp_all [Vt,CB,BJ,newRow,run_newObj,BS,OG]
 simp only[JN,BS,BH ht,BJ,sizeOf,typeInfo,run_program,hi,gd,CB,MP,zeroValue,hz,me,Vt];simp only[this,Vt,CB,BJ,hf,newRow,run_newObj,BS,OG]
def aZT{aps:List (Nat×aa)}(ht:P.underlying t=N1 (.slice e))(hk:size? P e=N1 k)(hz:zeroCells? P ab e=N1 zs)(hp:aFK ab n parts.toList=N1 aps)(hzl:zs.length=k)(hn:n*k<=16777216)(bd:zs.all AV.still=Pa)(h:evR H ρ (.bsl k (zs.map AV.aj) n aps)=N1 av)(hw:WF g H w)(hg:bM P ab g)(hs:aX g ρ a.tmps):iK P ⟨dst,.buildSlice t n parts,type,pos,after,guard⟩ a w (iP g H w av):=by
 obtain⟨out,E5,rfl⟩:=map_some h;obtain⟨it,z,hi,tq,ub⟩:=zeroCells?_spec hz;obtain⟨i',nr,gd⟩:=size?_info hk;rw[hi]at nr;cases nr;obtain⟨h1,h2⟩:=aC8 hp;have me:bz g k (AX n (zs.map AV.aj)) (((Ab (n*k)).map (z.cells[· % z.cells.size]!)).toList):=aFx (ub g).aj uWa;obtain⟨cells,e1,e2,e3,e4⟩:=aBE (a:=a) (ρ:=ρ) parts.toList aps h1 (λj i X i' x e1 e2=>by
  grind [bIw]) _ _ me (by grind [AO,jN]) out E5
 have ax:out.length=n:=by rw[e3];simp
 have bn:=Step.ir (w':=w.alloc (.cells cells e)) hw cells e (0,0) rfl;refine bK (v:=.slice (N1 ⟨w.heap.size,0,N2⟩) n n) ?_ ⟨_,bn, ?_⟩
 .have hf:FZ (λi=>N1 (i*k,k)) ((Ab (n*k)).map (z.cells[· % z.cells.size]!)) (parts.map λp=>(p.1,a.eval p.2)).toList=N1 cells:=uWl
  grind [execOp,BS,aBF,BJ,CB]
 have hr:bz (g.bh w.heap.size λi=>cells[i]?) k out (cells.toList.take (out.length*k)):=by have hl:=(e2.mono bn.le).len;rw[CH omT];exact e2.mono bn.le
 have:=ai.rp (f:=Pa) e4 omT (λ_=>ax.symm) hr
 grind
end
section
variable {P:CU}{ab:cu}{g:G}{H:LO}{w:BL}{ρ:LA}{a:Act}
variable {dst:Option Tmp}{type:BP}{pos:String}{after:Array OO}{guard:Option (Nat×Bool)}
def aA7(hw:WF g H w)(h:dO H av=N1 rows){x:BE}(hx:ai g av x):(rows=[]/\∃cap,x=.slice N2 0 cap)∨∃(b off cap k:Nat)(cells:List BE),x=.slice (N1 ⟨b,off,N2⟩) rows.length cap/\rows.length<=cap/\bz g k rows cells /\ (∀(row:LA),row∈rows->row.all AV.ak=Pa)/\∀(j:Nat) v,cells[j]? = N1 v->w.cell? ⟨b,off+j,N2⟩=N1 v:=by
 have build:∀(b off k:Nat)(rows:List LA),(∀row∈rows,row.length=k)->(∀(i j:Nat)(row:LA) c,rows[i]? = N1 row->row[j]? = N1 c->∃y,w.cell? ⟨b,off+(i*k+j),N2⟩=N1 y/\ai g c y) ->
   ∃cells:List BE,bz g k rows cells/\∀(j:Nat) v,cells[j]? = N1 v->w.cell? ⟨b,off+j,N2⟩=N1 v:=by
  intro b off k rows hk hc;refine⟨(GZ (rows.length*k)).map λj=>(w.cell? ⟨b,off+j,N2⟩).getD EE,⟨siT,hk,λi j row c x h1 h2 h3=>?_⟩,λj v hv=>?_⟩
  .obtain⟨y,hy,hr⟩:=hc i j row c h1 h2;rw[BN]at h3;have hi:i<rows.length:=(AH.1 h1).1;have hj:j<k:=by rw[<- hk row (AN h1)];exact (AH.1 h2).1
   have:=eV hi hj;simp[this,hy]at h3;subst h3;exact hr
  rw[BN]at hv;by_cases hj:j<rows.length*k
  .have Rj:0<k:=(Nat.eq_zero_or_pos k).elim (λe=>by subst e;simp at hj) id;have hi:j / k<rows.length:=by rw[Bl Rj];exact hj
   have hm:j % k<k:=Bo _ Rj;have yg:=hk rows[j / k] (AS hi);obtain⟨y,hy,_⟩:=hc (j / k) (j % k) rows[j / k] (rows[j / k][j % k]'omT) uWU (by simp[yg,hm]);have e:j / k*k+j % k=j:=by rw[HJ];exact Bn j k
   rw[e]at hy;simp[hj,hy]at hv;rw[hy,hv]
  simp[hj]at hv
 unfold dO at h;split at h
 .cases h;rcases hx.ov with⟨er,ex⟩ | ⟨b,off,cap,k,ex,cm,_,hk,bd,hp,dj⟩
  .exact .inl ⟨er,0,ex⟩
  refine .inr ⟨b,off,cap,k, ?_⟩;obtain⟨cells,h1,h2⟩:=build b off k _ hk λi j row c h1 h2=>by
   have hi:=(AH.1 h1).1;have hj:j<k:=by rw[<- hk row (AN h1)];exact (AH.1 h2).1
   have:=hp i j hi hj;cases hq:g.perm b (off+i*k+j)with
   |none=>simp[hq]at this
   |some y=>exact⟨y,by rw[<- EU];exact hw.perm _ _ _ hq,dj i j row c y h1 h2 hq⟩
  exact⟨cells,ex,cm,h1,λrow hm=>jM (bd row hm),h2⟩
 .cases h;cases hx;exact .inl ⟨rfl,0,rfl⟩
 .split at h
  .rename_i o v n _ v' k bt hH;split at h
   .rename_i hc;cases h;obtain⟨rfl,ax⟩:=hc;cases hx with
    |sr o v n l b cap hl hv hn jg hh=>
     have bd:l.st=v':=by have:=hw.st o _ l hH hl;simp only[ah.ver]at this;omega
     obtain⟨h0,ow,cm,_,hk,_,bc⟩:=hw.obj o l _ ⟨hH,rfl,hl,bd⟩;obtain⟨rfl,rfl⟩:=hh bd omT;refine .inr ⟨l.b,0,l.cap,k, ?_⟩;obtain⟨cells,h1,h2⟩:=build l.b 0 k _ hk λi j row c h1 h2=>by
      obtain⟨_,y,hy,hr⟩:=bc i j row c h1 h2;exact⟨y,by rw[BC];exact hy,hr⟩
     refine⟨cells,by rw[ax],omT,h1,λrow hm=>?_,h2⟩;obtain⟨i,hi⟩:=CO.1 hm;rw[AO];intro c hc;obtain⟨j,hj⟩:=CO.1 hc;exact (bc i j row c hi hj).1
   cases h
  .rename_i o v n _ v' ty k bt hH;split at h
   .rename_i hc;cases h;obtain⟨rfl,ax⟩:=hc;cases hx with
    |sr o v n l b cap hl hv hn jg hh=>
     have bd:l.st=v':=by have:=hw.st o _ l hH hl;simp only[ah.ver]at this;omega
     obtain⟨⟨h0,ow,cm,_,hk,_,bc⟩,_⟩:=hw.obj o l _ ⟨hH,rfl,hl,bd⟩;obtain⟨rfl,rfl⟩:=hh bd omT;refine .inr ⟨l.b,0,l.cap,k, ?_⟩;obtain⟨cells,h1,h2⟩:=build l.b 0 k _ hk λi j row c h1 h2=>by
      obtain⟨_,y,hy,hr⟩:=bc i j row c h1 h2;exact⟨y,by rw[BC];exact hy,hr⟩
     refine⟨cells,by rw[ax],omT,h1,λrow hm=>?_,h2⟩;obtain⟨i,hi⟩:=CO.1 hm;rw[AO];intro c hc;obtain⟨j,hj⟩:=CO.1 hc;exact (bc i j row c hi hj).1
   cases h
  cases h
 .split at h
  .rename_i o v n k0 lo _ v' k bt hH;split at h
   .rename_i hc;cases h;obtain⟨rfl,ax,rfl⟩:=hc;cases hx with
    |srv o v n k lo l b cap hl hv hn gr hh=>
     have bd:l.st=v':=by have:=hw.st o _ l hH hl;simp only[ah.ver]at this;omega
     obtain⟨h0,ow,cm,_,hk,_,bc⟩:=hw.obj o l _ ⟨hH,rfl,hl,bd⟩;obtain⟨off,rfl,zd,hcp⟩:=hh bd omT;refine .inr ⟨l.b,off,cap,k, ?_⟩;obtain⟨cells,h1,h2⟩:=build l.b off k (bt.drop lo) (λrow hm=>hk row (FX hm)) λi j row c h1 h2=>by
      rw[DF]at h1;obtain rfl:=zd (by have:=(AH.1 h1).1;omega);obtain⟨_,y,hy,hr⟩:=bc (lo+i) j row c h1 h2;exact⟨y,by rw[<- EU,<- CS];exact hy,hr⟩
     refine⟨cells,by rw[NS,ax],by rw[NS];omega,h1,λrow hm=>?_,h2⟩;obtain⟨i,hi⟩:=CO.1 (FX hm);rw[AO];intro c hc;obtain⟨j,hj⟩:=CO.1 hc;exact (bc i j row c hi hj).1
   cases h
  cases h
 .split at h
  .rename_i o v n U6 _ v' k bt hH;split at h
   .rename_i hc;cases h;obtain⟨rfl,ax,hle⟩:=hc;cases hx with
    |srw o v n U6 l b cap hl hv hn tf hh=>
     have bd:l.st=v':=by have:=hw.st o _ l hH hl;simp only[ah.ver]at this;omega
     obtain⟨h0,ow,cm,_,hk,_,bc⟩:=hw.obj o l _ ⟨hH,rfl,hl,bd⟩;obtain⟨rfl,rfl⟩:=hh bd omT;refine .inr ⟨l.b,0,l.cap,k, ?_⟩;obtain⟨cells,h1,h2⟩:=build l.b 0 k (bt.take U6) (λrow hm=>hk row (FA hm)) λi j row c h1 h2=>by
      rw[CF]at h1;split at h1
      .obtain⟨_,y,hy,hr⟩:=bc i j row c h1 h2;exact⟨y,by rw[BC];exact hy,hr⟩
      cases h1
     refine⟨cells,by rw[HB,Gy omT],by rw[HB];omega,h1,λrow hm=>?_,h2⟩;obtain⟨i,hi⟩:=CO.1 (FA hm);rw[AO];intro c hc;obtain⟨j,hj⟩:=CO.1 hc;exact (bc i j row c hi hj).1
   cases h
  cases h
 cases h
def ai.q8{cells:Array BE}(bd:row.all AV.still=Pa)(h:fU (g.bh b λi=>cells[i]?) row cells.toList):ai (g.bh b λi=>cells[i]?) (.ep row 0) (.pointer (N1 ⟨b,0,N2⟩)):=by
 refine .ep row 0 b 0 bd (λj hj=>?_) λj c x hc hx=>?_
 .have:=h.1;simp at this;simp only[G.bh,Vu,BC];rw[CM omT];rfl
 simp only[G.bh,Vu,BC]at hx;exact h.2 j c x hc uWn
def aTr(hz:zeroCells? P ab t=N1 zs)(h:evR H ρ (.alloc zs)=N1 av)(hw:WF g H w):iK P ⟨dst,.alloc t,type,pos,after,guard⟩ a w (iP g H w av):=by
 simp only[evR]at h;split at h
 .rename_i bd;cases h;obtain⟨it,z,hi,tq,ub⟩:=zeroCells?_spec hz;have bn:=Step.ir (w':=w.alloc (.cells z.cells t)) hw z.cells t (0,0) rfl;refine bK ?_ ⟨_,bn,ai.q8 (jN bd) (ub _).aj⟩;simp[execOp,Cc,zeroValue,typeInfo,hi,tq,newVar,newRow]
 cases h
def aZU(hx:fA ab X=N1 x)(h:evR H ρ (.box k x)=N1 av)(hw:WF g H w)(hg:bM P ab g)(hs:aX g ρ a.tmps):iK P ⟨dst,.box t X,type,pos,after,guard⟩ a w (iP g H w av):=by
 simp only[evR]at h;split at h
 .rename_i hc;cases h;have hl:=(bIw hx hg hs).strip.cells (jM hc.2);have bn:=Step.ir (w':=w.alloc (.cells (a.eval X).cells t)) hw (a.eval X).cells t (0,0) rfl;refine bK ?_ ⟨_,bn,ai.q8 hc.2 (hl.mono bn.le)⟩;simp[execOp,PU,newVar,newRow]
 cases h
def aZV{F C:Array CA}{first ay:List aa}(hf:sB ab F.toList=N1 first)(hc:sB ab C.toList=N1 ay)(h:evR H ρ (.mkf f first ay)=N1 av)(hw:WF g H w)(hg:bM P ab g)(hs:aX g ρ a.tmps):iK P ⟨dst,.makeFunc (.func f) F C,type,pos,after,guard⟩ a w (iP g H w av):=by
 simp only[evR]at h;split at h
 .cases h;have h1:=(mJ hf hg hs).aj;have h2:=(mJ hc hg hs).aj;rw[List.map_map]at h1 h2;refine bK (v:=.func (.func f) (F.map a.eval) (C.map a.eval)) (by simp[execOp,Instr.makeFunc]) (.same hw (.fn f _ _ _ _ ?_ ?_ ?_ ?_))
  .have:=h1.1;grind
  .have:=h2.1;grind
  .intro i c x h3 h4;exact h1.2 i c x h3 (by simpa using h4)
  intro i c x h3 h4;exact h2.2 i c x h3 (by simpa using h4)
 cases h
def aOO{x:AV}(h:mm2 mx x y=N1 z)(hx:ai g x u)(hy:ai g y v):∃c,(if mx then KZ u v else LB u v).run P w=.ok c w/\ai g z c:=by
 unfold mm2 at h;split at h
 .split at h
  .rename_i e;cases h;cases hx.di;cases hy.di;cases mx
   .exact⟨_,by simp only[BX,Vt,LB,CB],.int _ _⟩
   exact⟨_,by simp only[Vu,KZ,CB],.int _ _⟩
  cases h
 cases h
def aEH{mx:Bool}:∀(l:LA)(x z:AV),aEE mx x l=N1 z->∀(u:BE)(vs:List BE),ai g x u->fU g l vs ->∃c,(vs.foldlM (λp q=>if mx then KZ p q else LB p q) u).run P w=.ok c w/\ai g z c
 | [],x,z,h,u,vs,hx,hl=>by
  simp only[aEE,AG]at h;have:vs=[]:=DP (by have:=hl.1;grind)
  simp_all
 |y::l,x,z,h,u,vs,hx,hl=>by
  simp only[aEE]at h;split at h
  .rename_i z1 hz;cases vs with
   |nil=>have:=hl.1;simp at this
   |cons v vs=>
    obtain⟨c,h1,h2⟩:=aOO (P:=P) (w:=w) hz hx (hl.2 0 y v rfl rfl);obtain⟨c',h3,h4⟩:=aEH l z1 z h c vs h2 ⟨by have:=hl.1;grind,λi a b ha hb=>hl.2 (i+1) a b uWx uWe⟩
    simp_all
  cases h
def bBp{ts:Array BP}{X:Array CA}{xs:List aa}(hx:sB ab X.toList=N1 xs)(h:evR H ρ (.mm mx xs)=N1 av)(hw:WF g H w)(hg:bM P ab g)(hs:aX g ρ a.tmps):iK P ⟨dst,.call { callee:=.builtin (if mx then .max else .min),args:=X,argTypes:=ts },ty,pos,after,guard⟩ a w (iP g H w av):=by
 have hl:=mJ hx hg hs;simp only[evR]at h;generalize re:xs.map (aa.ev ρ)=l at h hl;cases l with
 |nil=>simp[mmV]at h
 |cons y r=>
  generalize C8:X.toList.map a.eval=vs at hl;cases vs with
  |nil=>have:=hl.1;simp at this
  |cons v vs=>
   obtain⟨c,h1,h2⟩:=aEH (P:=P) (w:=w) r y av h v vs (hl.2 0 y v rfl rfl) ⟨by have:=hl.1;grind,λi a b ha hb=>hl.2 (i+1) a b uWx uWe⟩;refine bK ?_ (.same hw h2);cases mx
   .simp_all [BX,Vt,execOp,resolve,invoke,builtin,Builtin.min_]
   simp_all [Vu,execOp,resolve,invoke,builtin,Builtin.max_]
def zA:∀{rows:List LA}{l:List UInt8},cM rows=N1 l->∃ns:List Int,rows=ns.map (λn=>[AV.int .u8 n])/\l=ns.map λn=>CN n.toNat
 | [],l,h=>by simp only[cM,AG]at h;simp_all
 |row::r,l,h=>by
  unfold cM at h;split at h
  .simp_all
  .rename_i n r' e;obtain⟨l',kg,rfl⟩:=map_some h;cases e;obtain⟨ns,rfl,rfl⟩:=zA kg;exact⟨n::ns,rfl,rfl⟩
  cases h
def aNB(ns:List Int):∀s:ByteArray,(ns.foldl (λr n=>r.push (CN n.toNat)) s).data.toList=s.data.toList++ns.map λn=>CN n.toNat:=by
 induction ns with
 |nil=>intro s;simp
 |cons n ns ih=>simp_all
def aFS(w:BL)(e:BP)(s:ByteArray):(Lib.bytesWorld w e s).heap=w.heap.push (.cells (HS w e s) e ((HS w e s).size,(HS w e s).size+1)):=by
 apply Array.ext_getElem?;intro i;rw[FE];rcases Nat.lt_trichotomy i w.heap.size with h|h|h
 .have:i≠w.heap.size:=omT;rw[Lib.bytesWorld_at_old w e s i h];simp[this]
 .subst h;rw[Lib.bytesWorld_at_new];simp
 have:i≠w.heap.size:=omT;rw[DV (by rw[Lib.bytesWorld_size];omega),Vw this,DV omT]
def aJS(h:aYs P e=Pa):P.underlying e=N1 (.int .u8)/\size? P e=N1 1:=by grind [aYs]
def aWz{src d:BP}{c:tm}(hc:aTm P src d=N1 c)(hx:fA ab X=N1 x)(h:evR H ρ (.conv c x)=N1 av)(hw:WF g H w)(hg:bM P ab g)(hs:aX g ρ a.tmps):iK P ⟨dst,.convert src d X,type,pos,after,guard⟩ a w (iP g H w av):=by
 have hr:=bIw hx hg hs;simp only[evR]at h;unfold aTm at hc;generalize hxv:x.ev ρ=xv at h hr;split at hc
 .rename_i k0 k h1 h2;cases hc;cases xv<;>simp[pT]at h
  subst h;have e:=hr.di;exact bK (by simp_all [execOp,convert,BH,Conv.intToInt]) (.same hw (.int _ _))
 .rename_i k0 h1 h2;cases hc;cases xv<;>simp[pT]at h
  rename_i k n;obtain⟨hn,rfl⟩:=h;have e:=hr.di;refine bK (v:=.string (MK n)) (by simp_all [execOp,convert,BH,Conv.intToString]) (.same hw ?_);have hen:(MK n).data.toList=[CN n.toNat]:=by
   have hv:PT n=true:=by unfold PT;simp;omega
   have hlt:n.toNat<128:=omT;simp[MK,hv,hlt]
  rw[<- hen];exact .str _
 .rename_i h1 h2;cases hc;cases xv<;>simp[pT]at h
  subst h;obtain⟨s,e,ml⟩:=hr.ln;exact bK (by simp[execOp,convert,BH h1,BH h2,e]) (.same hw (e ▸ hr))
 .rename_i e h1 h2;split at hc
  .rename_i hu;cases hc;obtain⟨hu1,Rz⟩:=aJS hu;cases xv<;>simp[pT]at h
   rename_i l;obtain⟨ax,rfl⟩:=h;obtain⟨s,ex,ml⟩:=hr.ln;have bn:=Step.ir hw _ e _ (aFS w e s);refine bK (v:=.slice (N1 ⟨w.heap.size,0,N2⟩) s.size (grownCap w s.size 0 e)) ?_ ⟨_,bn, ?_⟩
   .grind [execOp,BS,Lib.run_convert_string_bytes,BJ,CB]
   have hl:(aJ l).length=s.size:=by rw[sP ml];simp[aJ]
   rw[<- hl];refine ai.rp (k:=1) ?_ (by rw[hl];exact IG w s.size 0 e) siT ⟨?_, ?_, ?_⟩
   .simp[aJ,AV.still]
   .have:=IG w s.size 0 e;have h4:s.data.size=s.size:=rfl;rw[hl];simp[HS,h4]
   .intro row hm;simp only[aJ,DB]at hm
    grind
   intro i j row c y h3 h4 h5;simp only[aJ,BN]at h3;cases hb:l[i]? with
   |none=>grind
   |some b=>
    simp[hb]at h3;subst h3;cases j with
    |succ j=>simp at h4
    |zero=>
     simp at h4;subst h4;rw[<- ml]at hb;rw[CF,hl]at h5;have nr:i<s.size:=uWa
     have Xc:=nr;have hi3:i<s.data.toList.length:=uWa
     simp only[FK,DU,nr,Vu,HS,EK,GF,DG,AF,hi3,BN,AP hi3,DE,AG,Array.getElem_toList]at h5;rw[Av,CM Xc]at hb;cases hb;rw[<- h5];exact .int _ _
  cases hc
 .rename_i e h1 h2;split at hc
  .rename_i hu;cases hc;obtain⟨hu1,Rz⟩:=aJS hu;simp only[pT]at h;cases lv:dO H xv with
   |none=>grind
   |some rows=>
    simp only[lv]at h;obtain⟨l,hl,rfl⟩:=map_some h;obtain⟨ns,hns,rfl⟩:=zA hl;have hun:∀A n c,(convert src d (.slice A n c)).run P w=(Go.Conv.bytesToString (.slice A n c)).run P w:=λA n c=>by
     simp_all [convert,BH]
    rcases aA7 hw lv hr with⟨er,cap,ex⟩ | ⟨b,off,cap,k,cells,ex,cm,hrr,bd,bc⟩
    .subst er;have:ns=[]:=uWl
     subst this;refine bK (v:=.string .empty) ?_ (.same hw (.str' rfl))
     grind [execOp,BS,Go.Conv.bytesToString,CB,BJ]
    have jy:cells=ns.map (EJ .u8):=by
     by_cases bl:ns=[]
     .subst bl;have:=hrr.len
      simp_all
     have Ch:k=1:=by
      cases ns with
      |nil=>grind
      |cons n ns=>have:=hrr.row [.int .u8 n] (by rw[hns];simp);grind
     subst Ch;have ax:=hrr.len;rw[hns]at ax;simp at ax;apply HN;intro i;by_cases hi:i<ns.length
     .have h3:cells[i]? = N1 (cells[i]'omT):=uWa
      have h4:=hrr.rel i 0 [.int .u8 ns[i]] (.int .u8 ns[i]) (cells[i]'omT) uWa rfl siT;rw[h3];simp[hi,h4.di]
     grind
    have hld:=OY (P:=P) w ⟨b,off,N2⟩ cells (λj v hv=>by rw[fZ];grind);have hb:=run_bytesToString (P:=P) w ⟨b,off,N2⟩ rows.length cap ns uWa;refine bK ?_ (.same hw (.str' (aNB ns ByteArray.empty)))
    grind [execOp,BS,BJ,CB]
  cases hc
 cases hc
end
end Go.AM
end
section
namespace Go.AM
open Go Go.MapKept
section
variable {P:CU}{ab:cu}{g:G}{H:LO}{w w':BL}{ρ:LA}{a:Act}
variable {dst:Option Tmp}{type:BP}{pos:String}{after:Array OO}{guard:Option (Nat×Bool)}
def aTs(g:G)(es:List (AV×AV))(xs:List FO):Prop:=
 es.length=xs.length/\∀(i:Nat) k v e,es[i]? = N1 (k,v)->xs[i]? = N1 e->ai g k e.key/\ai g v e.val
def aTs.tail{k v:AV}{es:List (AV×AV)}{e:FO}{xs:List FO}(h:aTs g ((k,v)::es) (e::xs)):aTs g es xs:=⟨uWO,λi k v e h1 h2=>h.2 (i+1) k v e uWk uWj⟩
def iQ{K:DK}{key:AV}{x:BE}(hx:ai g key x):∀(es:List (AV×AV))(xs:List FO)(i:Nat)(r:Option (Nat×AV)),aTs g es xs->findKey key es i=N1 r ->match r with
  |none=>DD (.int K) x xs i=N1 N2
  |some (j,v)=>∃j' e k n,j=i+j'/\xs[j']? = N1 e/\es[j']? = N1 (.int k n,v)/\key=.int k n/\DD (.int K) x xs i=N1 (N1 (j,e.val))
 | [],xs,i,r,hr,h=>by
  simp only[findKey,AG]at h;subst h;have:=hr.1;cases xs with
  |nil=>rfl
  |cons _ _=>simp at this
 | (k',v)::es,xs,i,r,hr,h=>by
  cases xs with
  |nil=>have:=hr.1;simp at this
  |cons e xs=>
   obtain⟨hk,hv⟩:=hr.2 0 k' v e rfl rfl;unfold findKey at h;split at h
   .rename_i he;cases h;unfold aJK at he;split at he
    .rename_i k a k2 b;split at he
     .rename_i pt;subst pt;simp at he;subst he;cases hx;cases xe:e.key<;>rw[xe]at hk<;>cases hk
      exact⟨0,e,k,a,rfl,rfl,rfl,rfl,by simp[DD,xe,GG]⟩
     cases he
    cases he
   .rename_i he;have ih:=iQ (K:=K) hx es xs (i+1) r hr.tail h;have hnow:GG (.int K) x e.key=N1 false:=by
     unfold aJK at he;split at he
     .rename_i k a k2 b;split at he
      .rename_i pt;subst pt;cases hx;cases xe:e.key<;>rw[xe]at hk<;>cases hk
       simp[GG,he]
      cases he
     cases he
    have bn:DD (.int K) x (e::xs) i=DD (.int K) x xs (i+1):=by simp[DD,hnow]
    cases r with
    |none=>grind
    |some jv=>obtain⟨j',e',k,n,h1,h2,h3,h4,h5⟩:=ih;exact⟨j'+1,e',k,n,omT,uWj,uWR,h4,uWa⟩
   cases h
def pG{kt:BP}{K:DK}(hd:P.underlying kt=N1 (.int K))(b:Bool)(n:Nat)(x:BE):(IT b (n+1) kt x).run P w=.ok () w:=by simp_all [IT,BS,BH,DL]
def aFT(hw:WF g H w){o v v':Nat}{es:List (AV×AV)}(ho:H[o]? = N1 (.map v' es))(hv:v'=v){x:BE}(hx:ai g (.mp o v) x):∃l entries clock,au g H o l (.map v es)/\x=.map (N1 l.b)/\w.heap[l.b]? = N1 (.map entries clock)/\aTs g es entries.toList/\l.len=0:=by
 subst hv;cases hx with
 |mp _ _ l r hl hv h=>
  have bd:l.st=v':=by have:=hw.st o _ l ho hl;simp only[ah.ver]at this;omega
  have hb:au g H o l (.map v' es):=⟨ho,rfl,hl,bd⟩;obtain⟨h0,entries,clock,h2,h3,h4⟩:=hw.obj o l _ hb;refine⟨l,entries,clock,hb,by rw[h bd h0],h2,⟨uWR,λi k v e h5 h6=>h4 i k v e h5 (by simpa using h6)⟩,h0⟩
def zeroV?_spec{t:BP}{z:AV}(h:zeroV? P ab t=N1 z):∃zv,(∀w,(zeroValue t).run P w=.ok zv w)/\∀g,ai g z zv:=by
 unfold zeroV? at h;cases hi:P.info? t with
 |none=>grind
 |some i=>
  rw[hi]at h;simp only[FG]at h;cases hz:i.zero with
  |none=>grind
  |some zv=>rw[hz]at h;exact⟨zv,λw=>by simp[zeroValue,typeInfo,hi,hz],λg=>aJN h g⟩
def ai.E6{b c:AV}{x y:BE}(h1:ai g b x)(h2:ai g c y):ai g (.tup [b,c]) (.tuple #[x,y]):=by
 refine ai.tup _ _ rfl λi a z ha hz=>?_
 grind
def aOP{α β:Type}{f:α->β}:∀{l:List α},(l.map f).Nodup->∀{a b:α},a∈l->b∈l->f a=f b->a=b
 | [],_,a,b,ha,_,_=>by cases ha
 |x::l,h,a,b,ha,hb,e=>by
  rw[BI,List.nodup_cons]at h;rcases BD.1 ha with rfl|ha
  .rcases BD.1 hb with rfl|hb
   all_goals grind
  rcases BD.1 hb with e2|hb
  .grind
  exact aOP h.2 ha hb e
def aJT(k:DK):∀{ns:List Int},ns.Nodup->(ns.map (EJ k)).Nodup
 | [],_=>by simp
 |n::ns,h=>by
  grind
def wU{K k:DK}{n:Int}:∀(l:List FO)(i:Nat),(∀e∈l,∃m,e.key=.int k m) ->(DD (.int K) (.int k n) l i=N1 N2/\∀e∈l,e.key≠.int k n)∨∃j e,e∈l/\e.key=.int k n/\DD (.int K) (.int k n) l i=N1 (N1 (j,e.val))
 | [],i,_=>.inl ⟨rfl,λe h=>by cases h⟩
 |e::l,i,h=>by
  obtain⟨m,hm⟩:=h e siT;have ih:=wU (K:=K) (k:=k) (n:=n) l (i+1) λe' he=>h e' (by simp[he]);by_cases e0:n=m
  .subst e0;exact .inr ⟨i,e,siT,hm,by simp[DD,GG,hm]⟩
  have hs:DD (.int K) (.int k n) (e::l) i=DD (.int K) (.int k n) l (i+1):=by
   have hb:(n==m)=false:=uWE
   simp[DD,GG,hm,hb]
  rw[hs];rcases ih with⟨h1,h2⟩ | ⟨j,e',h1,h2,h3⟩
  .refine .inl ⟨h1,λe' he=>?_⟩;rcases BD.1 he with rfl|he
   .rw[hm];intro hc;cases hc;exact e0 rfl
   exact h2 e' he
  exact .inr ⟨j,e',by simp[h1],h2,h3⟩
def aEI{K:DK}{x:BE}{es xs:List FO}(h:aLy es xs){r:Option (Nat×BE)}(hr:DD (.int K) x xs 0=N1 r):match r with
  |none=>DD (.int K) x es 0=N1 N2
  |some (_,v)=>∃j,DD (.int K) x es 0=N1 (N1 (j,v)):=by
 rcases h with rfl | ⟨hp,k,ns,E7,hnd⟩
 .cases r with
  |none=>exact hr
  |some p=>exact⟨p.1,hr⟩
 have jr:∀e∈xs,∃m,e.key=.int k m:=λe he=>by
  have:e.key∈xs.map (·.key):=DB.2 ⟨e,he,rfl⟩;rw[E7]at this;obtain⟨m,_,hm⟩:=DB.1 this;exact⟨m,hm.symm⟩
 have he0:∀e∈es,∃m,e.key=.int k m:=λe he=>jr e (hp.mem_iff.1 he);cases xs with
 |nil=>
  have:=hp.eq_nil;subst this;cases r with
  |none=>exact hr
  |some p=>exact⟨p.1,hr⟩
 |cons y ys=>
  obtain⟨m,hm⟩:=jr y siT;obtain⟨n,rfl⟩:∃n,x=.int k n:=by
   unfold DD at hr;rw[hm]at hr;cases x
   case int k' n=>
    by_cases e:k'=k
    .subst e;exact⟨n,rfl⟩
    simp[GG,e]at hr
   all_goals (simp[GG]at hr)
  rcases wU (K:=K) (n:=n) (y::ys) 0 jr with⟨h1,h2⟩ | ⟨j,e,h1,h2,h3⟩
  .rw[h1]at hr;cases hr;rcases wU (K:=K) (n:=n) es 0 he0 with⟨h3,_⟩ | ⟨j,e,h3,h4,_⟩
   .exact h3
   exact Vv h4 (h2 e (hp.mem_iff.1 h3))
  rw[h3]at hr;cases hr;rcases wU (K:=K) (n:=n) es 0 he0 with⟨_,h5⟩ | ⟨j',e',h5,h6,h7⟩
  .exact Vv h2 (h5 e (hp.mem_iff.2 h1))
  have:e'=e:=aOP (by rw[E7];exact aJT k hnd) (hp.mem_iff.1 h5) h1 (h6.trans h2.symm);subst this;exact⟨j',h7⟩
def aNC(hw:WF g H w){ks vs:LA}{x:BE}(hx:ai g (.fmp ks vs) x):∃r entries clock xs,x=.map (N1 r)/\w.heap[r]? = N1 (.map entries clock)/\aLy entries.toList xs/\aTs g (ks.zip vs) xs:=by
 cases hx with
 |fmp _ _ r entries clock xs hwh hp hk hv h1 h2=>
  refine⟨r,entries,clock,xs,rfl,(hw.whole.blocks _ _ hwh).1,hp,by simp[hk,hv],λi k v e h5 h6=>?_⟩
  grind
def aWA{t kt et:BP}{K:DK}{M X:CA}{m k:aa}{zero:AV}{ok:Bool}(ht:P.underlying t=N1 (.map kt et))(hk:P.underlying kt=N1 (.int K))(hz:zeroV? P ab et=N1 zero)(hM:fA ab M=N1 m)(hX:fA ab X=N1 k){av:AV}(h:evR H ρ (.look zero m k ok)=N1 av)(hw:WF g H w)(hg:bM P ab g)(hs:aX g ρ a.tmps):iK P ⟨dst,.lookup t M X ok,type,pos,after,guard⟩ a w (iP g H w av):=by
 have hm:=bIw hM hg hs;have hx:=bIw hX hg hs;simp only[evR]at h;split at h
 .rename_i o v e;rw[e]at hm;split at h
  .rename_i v' es ho;split at h
   .rename_i hv;obtain⟨l,entries,clock,hb,J8,pe,dj,_⟩:=aFT hw ho hv hm;obtain⟨zv,Wg,Xy⟩:=zeroV?_spec hz;have E8:∀b,(IT b 10000 kt (a.eval X)).run P w=.ok () w:=λb=>pG hk b 9999 (a.eval X);split at h
    .rename_i j x hf;obtain⟨j',e',k',n,h1,h2,h3,h4,h5⟩:=iQ hx es entries.toList 0 _ dj hf;have kp:=(dj.2 j' _ _ e' h3 h2).2;have qo:=run_findKey (w:=w) hk h5;have ej:(FY t (a.eval M) (a.eval X) ok).run P w=.ok (if ok then .tuple #[e'.val,.bool Pa] else e'.val) w:=by
      simp[FY,BH ht,J8,FH pe,E8,qo,DL]
     refine bK (v:=if ok then .tuple #[e'.val,.bool Pa] else e'.val) uWq (.same hw ?_);cases ok with
     |true=>simp at h;subst h;exact ai.E6 kp (.bool Pa)
     |false=>grind
    .rename_i hf;have h5:=iQ (K:=K) hx es entries.toList 0 _ dj hf;have qo:=run_findKey (w:=w) hk h5;have ej:(FY t (a.eval M) (a.eval X) ok).run P w=.ok (if ok then .tuple #[zv,.bool Po] else zv) w:=by
      simp[FY,BH ht,J8,FH pe,E8,qo,Wg,DL]
     refine bK (v:=if ok then .tuple #[zv,.bool Po] else zv) uWq (.same hw ?_);cases ok with
     |true=>simp at h;subst h;exact ai.E6 (Xy g) (.bool Po)
     |false=>grind
    cases h
   cases h
  cases h
 .rename_i ks vs e;rw[e]at hm;obtain⟨l,entries,clock,xs,J8,pe,Pv,dj⟩:=aNC hw hm;obtain⟨zv,Wg,Xy⟩:=zeroV?_spec hz;have E8:∀b,(IT b 10000 kt (a.eval X)).run P w=.ok () w:=λb=>pG hk b 9999 (a.eval X);split at h
  .rename_i j x hf;obtain⟨j',e',k',n,h1,h2,h3,h4,h5⟩:=iQ hx (ks.zip vs) xs 0 _ dj hf;obtain⟨j2,h5⟩:=aEI Pv h5;have kp:=(dj.2 j' _ _ e' h3 h2).2;have qo:=run_findKey (w:=w) hk h5;have ej:(FY t (a.eval M) (a.eval X) ok).run P w=.ok (if ok then .tuple #[e'.val,.bool Pa] else e'.val) w:=by
    simp[FY,BH ht,J8,FH pe,E8,qo,DL]
   refine bK (v:=if ok then .tuple #[e'.val,.bool Pa] else e'.val) uWq (.same hw ?_);cases ok with
   |true=>simp at h;subst h;exact ai.E6 kp (.bool Pa)
   |false=>grind
  .rename_i hf;have h5:=aEI Pv (iQ (K:=K) hx (ks.zip vs) xs 0 _ dj hf);have qo:=run_findKey (w:=w) hk h5;have ej:(FY t (a.eval M) (a.eval X) ok).run P w=.ok (if ok then .tuple #[zv,.bool Po] else zv) w:=by
    simp[FY,BH ht,J8,FH pe,E8,qo,Wg,DL]
   refine bK (v:=if ok then .tuple #[zv,.bool Po] else zv) uWq (.same hw ?_);cases ok with
   |true=>simp at h;subst h;exact ai.E6 (Xy g) (.bool Po)
   |false=>grind
  cases h
 cases h
def aJU{t:BP}{Y:CA}(h:aIV P t Y=Pa):(∃e,P.underlying t=N1 (.slice e))/\Y=.const (.slice N2 0 0):=by
 unfold aIV at h
 grind
def aOQ{t yt:BP}{op:MZ}{X Y:CA}{x:aa}(hx:fA ab X=N1 x)(hn:aIV P t Y=Pa){neg:Bool}(Qx:(op=.eql/\neg=Po)∨(op=.neq/\neg=Pa)){av:AV}(h:evR H ρ (.ky neg x)=N1 av)(hw:WF g H w)(hg:bM P ab g)(hs:aX g ρ a.tmps):iK P ⟨dst,.binOp op t X Y yt,type,pos,after,guard⟩ a w (iP g H w av):=by
 obtain⟨⟨e,ht⟩,rfl⟩:=aJU hn;have hv:=bIw hx hg hs;have key:∀(b:IA) n c,a.eval X=.slice (N1 b) n c->av=.bool neg->iK P ⟨dst,.binOp op t X (.const (.slice N2 0 0)) yt,type,pos,after,guard⟩ a w (iP g H w av):=by
  intro b n c e1 e2;subst e2;have hq:∀d,(DC (d+1) t (.slice (N1 b) n c) (.slice N2 0 0)).run P w=.ok Po w:=λd=>by simp[DC,BH ht]
  have Qq:(IF t (.slice (N1 b) n c) (.slice N2 0 0)).run P w=.ok Po w:=hq 9999;have xg:(eqGuard op t X (.const (.slice N2 0 0)) (.slice (N1 b) n c) (.slice N2 0 0)).run P w=.ok () w:=by simp[PH]
  have je:a.eval (.const (.slice N2 0 0))=.slice N2 0 0:=rfl;refine bK (v:=.bool neg) (w':=w) ?_ (.same hw (.bool neg));rcases Qx with⟨rfl,rfl⟩ | ⟨rfl,rfl⟩
  .simp[execOp,e1,je,xg,binOp,Qq]
  simp[execOp,e1,je,xg,binOp,Qq]
 simp only[evR]at h;split at h
 .rename_i f r rs e1;rw[e1]at hv;cases h;generalize hz:a.eval X=z at hv;cases hv with
  |sl full rows b off cap k=>exact key _ _ _ hz rfl
 .rename_i o v n e1;rw[e1]at hv;cases h;generalize hz:a.eval X=z at hv;cases hv;exact key _ _ _ hz rfl
 .rename_i e1;rw[e1]at hv;cases h;generalize hz:a.eval X=z at hv;cases hv;have hq:∀d,(DC (d+1) t (.slice N2 0 0) (.slice N2 0 0)).run P w=.ok Pa w:=λd=>by simp[DC,BH ht]
  have Qq:(IF t (.slice N2 0 0) (.slice N2 0 0)).run P w=.ok Pa w:=hq 9999;have xg:(eqGuard op t X (.const (.slice N2 0 0)) (.slice N2 0 0) (.slice N2 0 0)).run P w=.ok () w:=by simp[PH]
  have je:a.eval (.const (.slice N2 0 0))=.slice N2 0 0:=rfl;refine bK (v:=.bool !neg) (w':=w) ?_ (.same hw (.bool !neg));rcases Qx with⟨rfl,rfl⟩ | ⟨rfl,rfl⟩
  .simp[execOp,hz,je,xg,binOp,Qq]
  simp[execOp,hz,je,xg,binOp,Qq]
 cases h
end
end Go.AM
end
section
namespace Go.AM
open Go
section
variable {P:CU}{ab:cu}{g:G}{H:LO}{w w':BL}{ρ:LA}{a:Act}
variable {dst:Option Tmp}{type:BP}{pos:String}{after:Array OO}{guard:Option (Nat×Bool)}
def aZW{t e:BP}{i:OH}{L C:CA}{l c:aa}{zs:LA}(ht:P.underlying t=N1 (.slice e))(hi:P.info? e=N1 i)(hz:zeroCells? P ab e=N1 zs)(hL:fA ab L=N1 l)(hC:fA ab C=N1 c)(hzl:zs.length=i.size)(bd:zs.all AV.still=Pa){av:AV}(h:evR H ρ (.mks i.size i.bytes zs l c)=N1 av)(hw:WF g H w)(hg:bM P ab g)(hs:aX g ρ a.tmps):iK P ⟨dst,.makeSlice t L C,type,pos,after,guard⟩ a w (iP g H w av):=by
 simp only[evR]at h;have gu:=bIw hL hg hs;have hrc:=bIw hC hg hs;split at h
 .rename_i k1 n k2 m e1 e2;rw[e1]at gu;rw[e2]at hrc;have el:=gu.di;have ec:=hrc.di;split at h
  .rename_i fj;obtain⟨h0,rfl,ed⟩:=fj;obtain⟨it,z,nr,tq,ub⟩:=zeroCells?_spec hz;rw[hi]at nr;cases nr;obtain⟨n',rfl⟩:=DN h0;simp only[bP,decide_eq_true_eq,AT]at ed;have fo:n'*i.bytes<=n'*(i.bytes+1):=JC _ omT;have dp:n'<=n'*(i.bytes+1):=IC _ omT;have qd:AR.wrap n'=n':=by
    unfold GA;simp only[LK,KC];simp;omega
   have q9:(i.bytes:Int)*n'<=281474976710656:=by have:((i.bytes*n':Nat):Int)=(i.bytes:Int)*n':=siT;rw[<- this,HJ];omega
   have ej:(EX t (.int k1 n') (.int k2 n')).run P w=.ok (.slice (N1 ⟨w.heap.size,0,N2⟩) n' n') (w.alloc (.cells ((Ab (n'*i.size)).map (z.cells[· % z.cells.size]!)) e)):=by
    have lx:¬((n':Int)<0):=omT;have xh:¬((i.bytes:Int)*n'>281474976710656):=omT;by_cases me:n'*i.size=0
    .simp[EX,BH ht,asInt,asIntOf,typeInfo,hi,qd,lx,xh,sizeOf,me,newRow,NF]
    simp[EX,BH ht,asInt,asIntOf,typeInfo,hi,qd,lx,xh,sizeOf,me,zeroValue,tq,newRow]
   have yj:bz g i.size (AX n' (zs.map AV.aj)) (((Ab (n'*i.size)).map (z.cells[· % z.cells.size]!)).toList):=aFx (ub g).aj (by simpa using hzl);have Pt:(AX n' (zs.map AV.aj)).all (λr=>r.all AV.still)=true:=by rw[AO];intro r hm;rw[(GS.1 hm).2];exact jN bd
   have tu:(AX n' (zs.map AV.aj)).length=n':=siT;have gm:(((Ab (n'*i.size)).map (z.cells[· % z.cells.size]!)).toList).take ((AX n' (zs.map AV.aj)).length*i.size)=((Ab (n'*i.size)).map (z.cells[· % z.cells.size]!)).toList:=
    CH siT
   cases h;have bn:=Step.ir (w':=w.alloc (.cells ((Ab (n'*i.size)).map (z.cells[· % z.cells.size]!)) e)) hw ((Ab (n'*i.size)).map (z.cells[· % z.cells.size]!)) e (0,0) rfl;have hv:=ai.rp (f:=Pa) Pt omT (λ_=>tu.symm) (by rw[gm];exact yj.mono bn.le);rw[tu]at hv;exact⟨.slice (N1 ⟨w.heap.size,0,N2⟩) n' n',_,by simp only[execOp,el,ec,BS,ej,BJ,CB],_,bn,hv⟩
  cases h
 cases h
end
end Go.AM
end
section
namespace Go.AM
open Go Go.MapKept
section
variable {P:CU}{ab:cu}{g:G}{H:LO}{w w':BL}{ρ:LA}{a:Act}
variable {dst:Option Tmp}{type:BP}{pos:String}{after:Array OO}{guard:Option (Nat×Bool)}
def bNt{k:AV}{b:Bool}(h:bJi k k=N1 b):∃s n,k=.agg [.str s,.int .i64 n]:=by
 unfold bJi at h;split at h
 .exact⟨_,_,rfl⟩
 cases h
def bOi{k k':AV}{b:Bool}(h:bJi k k'=N1 b):(b=Pa↔k=k')/\tN (.cells [.str,.int]) k k'=N1 b:=by
 unfold bJi at h;split at h
 .rename_i s n s' n';cases h;refine⟨siT, ?_⟩;simp only[tN,lP,aCO,Vu];cases h1:s==s'<;>cases h2:n==n'<;>simp
 cases h
def ai.Zc{s:List UInt8}{n:Int}{x:BE}(h:ai g (.agg [.str s,.int .i64 n]) x):∃t:ByteArray,x=.agg #[.string t,.int .i64 n]/\t.data.toList=s:=by
 obtain⟨us,rfl,hl,hu⟩:=h.fu;have h0:us.size=2:=by simpa using hl.symm
 obtain⟨a,b,rfl⟩:∃a b,us = #[a,b]:=by
  obtain⟨l⟩:=us
  match l,h0 with
  | [a,b],_=>exact⟨a,b,rfl⟩
 obtain⟨t,rfl,ht⟩:=(hu 0 (.str s) a rfl rfl).ln;cases (hu 1 (.int .i64 n) b rfl rfl).di;exact⟨t,rfl,ht⟩
def bRX{k k':AV}{s:List UInt8}{n:Int}{x y:BE}(hk:k=.agg [.str s,.int .i64 n])(h:k=k')(hx:ai g k x)(hy:ai g k' y):x=y:=by
 subst h;subst hk;obtain⟨t,rfl,ht⟩:=hx.Zc;obtain⟨t',rfl,ht'⟩:=hy.Zc;have:t.data=t'.data:=Array.toList_inj.1 (ht.trans ht'.symm);have e:t=t':=by cases t;cases t';cases this;rfl
 rw[e]
def bNM{fields:Array JU}{x:BE}{e:FO}{xs:List FO}{i:Nat}:DD (.struct fields) x (e::xs) i=none:=by simp[DD,GG]
def bKY{kt:BP}{fields:Array JU}(hk:P.underlying kt=N1 (.struct fields)){x:BE}{xs:List FO}:(Aq kt x xs).run P w=(Ac kt x xs).run P w:=by
 cases xs with
 |nil=>simp[Aq,BH hk,DD,Ac,DL]
 |cons e xs=>simp[Aq,BH hk,bNM,DL]
def bJv{kt:BP}(hq:eqK P kt=.cells [.str,.int]){key:AV}{x:BE}(hx:ai g key x):∀(es:List (AV×AV))(xs:List FO)(i:Nat)(r:Option (Nat×AV)),aTs g es xs->bIO key es i=N1 r ->match r with
  |none=>(Ac kt x xs i).run P w=.ok N2 w
  |some (j,v)=>∃j' e,j=i+j'/\xs[j']? = N1 e/\es[j']? = N1 (key,v)/\(Ac kt x xs i).run P w=.ok (N1 (j,e.val)) w
 | [],xs,i,r,hr,h=>by
  simp only[bIO,AG]at h;subst h;have:=hr.1;cases xs with
  |nil=>simp[Ac]
  |cons _ _=>simp at this
 | (k',v)::es,xs,i,r,hr,h=>by
  cases xs with
  |nil=>have:=hr.1;simp at this
  |cons e xs=>
   obtain⟨hk,hv⟩:=hr.2 0 k' v e rfl rfl;unfold bIO at h;split at h
   .rename_i he;cases h;obtain⟨h1,h2⟩:=bOi he;have h3:=(aIX (w:=w) (by rw[hq];exact h2) hx hk (.const x) (.const x) .eql).2.1;exact⟨0,e,rfl,rfl,by rw[h1.1 rfl];rfl,by simp[Ac,h3]⟩
   .rename_i he;obtain⟨h1,h2⟩:=bOi he;have h3:=(aIX (w:=w) (by rw[hq];exact h2) hx hk (.const x) (.const x) .eql).2.1;have ih:=bJv hq hx es xs (i+1) r hr.tail h;have bn:(Ac kt x (e::xs) i).run P w=(Ac kt x xs (i+1)).run P w:=by
     conv=>lhs;unfold Ac
     simp[h3]
    cases r with
    |none=>simp only at ih ⊢;rw[bn];exact ih
    |some jv=>obtain⟨j',e',h1,h2,h3,h5⟩:=ih;exact⟨j'+1,e',omT,uWj,uWR,by rw[bn];exact h5⟩
   cases h
def bLw{kt:BP}{tag:Tag}(h:aOL P kt=N1 tag)(b:Bool)(n:Nat)(x:BE):(IT b (n+1) kt x).run P w=.ok () w:=by
 unfold aOL at h;unfold IT;split at h
 all_goals first | (rename_i hd;simp only[BS,BH hd,DL];cases x<;>rfl) | cases h
def bKB{kt:BP}{fields:Array JU}(hk:P.underlying kt=N1 (.struct fields))(hq:eqK P kt=.cells [.str,.int])(b:Bool)(n:Nat){s:List UInt8}{m:Int}{x:BE}(hx:ai g (.agg [.str s,.int .i64 m]) x):(IT b (n+2) kt x).run P w=.ok () w:=by
 obtain⟨t,rfl,ht⟩:=hx.Zc;unfold eqK at hq;rw[hk]at hq;simp only at hq;split at hq<;>try cases hq
 rename_i ts Dg;split at hq<;>cases hq
 obtain⟨l⟩:=fields
 match l,Dg with
 | [],Dg=>simp[qN]at Dg
 | [f1],Dg=>
  unfold qN at Dg;split at Dg
  .rename_i t1 ts1 h1 h2;simp only[qN,AG]at h2;subst h2;split at Dg<;>cases Dg
  cases Dg
 |f1::f2::r,Dg=>
  unfold qN at Dg;split at Dg
  .rename_i t1 ts1 h1 h2;split at Dg
   .rename_i lx;cases Dg;unfold qN at h2;split at h2
    .rename_i t2 ts2 h3 h4;split at h2
     .rename_i xh;cases h2;have hr:r=[]:=by
       cases r with
       |nil=>rfl
       |cons f3 r=>
        unfold qN at h4;split at h4
        .split at h4<;>cases h4
        cases h4
      subst hr;unfold IT;simp only[BS,BH hk,BJ];obtain⟨M1,d1,hd1⟩:=aOM h1;obtain⟨ha2,d2,O9⟩:=aOM h3;have p1:(part f1.type #[Bf t,.int .i64 m] f1.offset).run P w=.ok (.string t) w:=by simp only[part,BS,aB9 hd1,BJ,M1,lx.2];rfl
      have p2:(part f2.type #[Bf t,.int .i64 m] f2.offset).run P w=.ok (.int .i64 m) w:=by simp only[part,BS,aB9 O9,BJ,ha2,xh.2];rfl
      have c1:=bLw (w:=w) h1 b n (.string t);have c2:=bLw (w:=w) h3 b n (.int .i64 m);simp[lx.1,xh.1,p1,p2,c1,c2]
     cases h2
    cases h2
   cases Dg
  cases Dg
def bRY{t kt et:BP}{fields:Array JU}{M X:CA}{m k:aa}{zero:AV}{ok:Bool}(ht:P.underlying t=N1 (.map kt et))(hk:P.underlying kt=N1 (.struct fields))(hq:eqK P kt=.cells [.str,.int])(hz:zeroV? P ab et=N1 zero)(hM:fA ab M=N1 m)(hX:fA ab X=N1 k){av:AV}(h:evR H ρ (.wy zero m k ok)=N1 av)(hw:WF g H w)(hg:bM P ab g)(hs:aX g ρ a.tmps):iK P ⟨dst,.lookup t M X ok,type,pos,after,guard⟩ a w (iP g H w av):=by
 have hm:=bIw hM hg hs;have hx:=bIw hX hg hs;obtain⟨zv,Wg,Xy⟩:=zeroV?_spec hz;have key:∀{es:List (AV×AV)}{r:Nat}{entries:Array FO}{clock:Nat},a.eval M=.map (N1 r)->w.heap[r]? = N1 (.map entries clock)->(bJi (k.ev ρ) (k.ev ρ)).isSome=Pa ->
   (∀rr,bIO (k.ev ρ) es 0=N1 rr->match rr with
    |none=>(Ac kt (a.eval X) entries.toList 0).run P w=.ok N2 w
    |some (_,v)=>∃j x,ai g v x/\(Ac kt (a.eval X) entries.toList 0).run P w=.ok (N1 (j,x)) w) ->
   bJB zero ok (bIO (k.ev ρ) es 0)=N1 av->iK P ⟨dst,.lookup t M X ok,type,pos,after,guard⟩ a w (iP g H w av):=by
  intro es r entries clock J8 pe hke hfind hl;obtain⟨b0,qw⟩:=HT.1 hke;obtain⟨s,n,E7⟩:=bNt qw;have E8:∀b,(IT b 10000 kt (a.eval X)).run P w=.ok () w:=λb=>bKB hk hq b 9998 (by rw[<- E7];exact hx);cases hf:bIO (k.ev ρ) es 0 with
  |none=>rw[hf]at hl;cases hl
  |some rr=>
   rw[hf]at hl;have h5:=hfind rr hf;cases rr with
   |none=>
    have qo:=(bKY hk).trans h5;have ej:(FY t (a.eval M) (a.eval X) ok).run P w=.ok (if ok then .tuple #[zv,.bool Po] else zv) w:=by simp[FY,BH ht,J8,FH pe,E8,qo,Wg,DL]
    refine bK (v:=if ok then .tuple #[zv,.bool Po] else zv) uWq (.same hw ?_);cases ok with
    |true=>simp[bJB]at hl;subst hl;exact ai.E6 (Xy g) (.bool Po)
    |false=>simp[bJB]at hl;subst hl;exact Xy g
   |some jv=>
    obtain⟨j,x,kp,h6⟩:=h5;have qo:=(bKY hk).trans h6;have ej:(FY t (a.eval M) (a.eval X) ok).run P w=.ok (if ok then .tuple #[x,.bool Pa] else x) w:=by simp[FY,BH ht,J8,FH pe,E8,qo,DL]
    refine bK (v:=if ok then .tuple #[x,.bool Pa] else x) uWq (.same hw ?_);cases ok with
    |true=>simp[bJB]at hl;subst hl;exact ai.E6 kp (.bool Pa)
    |false=>simp[bJB]at hl;subst hl;exact kp
 simp only[evR]at h;split at h
 .rename_i o v e;rw[e]at hm;split at h
  .rename_i v' es ho;split at h
   .rename_i hv;obtain⟨l,entries,clock,hb,J8,pe,dj,_⟩:=aFT hw ho hv.1 hm;refine key J8 pe hv.2 (λrr hf=>?_) h;have h5:=bJv (w:=w) hq hx es entries.toList 0 rr dj hf;cases rr with
    |none=>exact h5
    |some jv=>obtain⟨j,v⟩:=jv;obtain⟨j',e',h1,h2,h3,h4⟩:=h5;exact⟨j,e'.val,(dj.2 j' _ _ e' h3 h2).2,h4⟩
   cases h
  cases h
 .rename_i ks vs e;rw[e]at hm;split at h
  .rename_i hv;obtain⟨l,entries,clock,xs,J8,pe,Pv,dj⟩:=aNC hw hm;refine key J8 pe hv (λrr hf=>?_) h;have re:entries.toList=xs:=by
    rcases Pv with e | ⟨hp,kk,ns,E7,hnd⟩
    .exact e
    cases xs with
    |nil=>exact hp.eq_nil
    |cons y ys=>
     exfalso;cases hz:ks.zip vs with
     |nil=>have:=dj.1;rw[hz]at this;simp at this
     |cons kv r=>
      rw[hz]at dj hf;have h1:=(dj.2 0 kv.1 kv.2 y rfl rfl).1;cases ns with
      |nil=>simp at E7
      |cons n0 ns=>
       simp only[BI,List.cons.injEq]at E7;rw[E7.1]at h1;obtain⟨kk',vv⟩:=kv;have e0:bJi (k.ev ρ) kk'=none:=by
        unfold bJi;split
        .cases h1
        rfl
       unfold bIO at hf;rw[e0]at hf;cases hf
   rw[re];have h5:=bJv (w:=w) hq hx (ks.zip vs) xs 0 rr dj hf;cases rr with
   |none=>exact h5
   |some jv=>obtain⟨j,v⟩:=jv;obtain⟨j',e',h1,h2,h3,h4⟩:=h5;exact⟨j,e'.val,(dj.2 j' _ _ e' h3 h2).2,h4⟩
  cases h
 cases h
end
end Go.AM
end
section
namespace Go.AM
open Go
section
variable {P:CU}{ab:cu}{g:G}{H:LO}{w:BL}{ρ:LA}{a:Act}
def aND{X:Option CA}(h:wP ab X=N1 N2):X=none:=by
 cases X with
 |none=>rfl
 |some x=>simp only[wP]at h;obtain⟨z,_,hz⟩:=map_some h;cases hz
def aJV{X:Array CA}{x:aa}(h:sB ab X.toList=N1 [x]):∃Y,X = #[Y]/\fA ab Y=N1 x:=by
 obtain⟨l⟩:=X;cases l with
 |nil=>simp[sB]at h
 |cons Y r=>
  simp only[sB]at h;split at h
  .cases h
  rename_i y hy;split at h
  .cases h
  rename_i ys j9;cases h;cases r with
  |nil=>exact⟨Y,rfl,hy⟩
  |cons Z r=>
   simp only[sB]at j9;split at j9
   .cases j9
   split at j9<;>cases j9
def aJW{X:Array CA}{x y:aa}(h:sB ab X.toList=N1 [x,y]):∃Y Z,X = #[Y,Z]/\fA ab Y=N1 x/\fA ab Z=N1 y:=by
 obtain⟨l⟩:=X;cases l with
 |nil=>simp[sB]at h
 |cons Y r=>
  simp only[sB]at h;split at h
  .cases h
  rename_i z hz;split at h
  .cases h
  rename_i ys j9;cases h;obtain⟨Z,e,hZ⟩:=aJV (by simpa using j9);have:r=[Z]:=by simpa using congrArg Array.toList e
  subst this;exact⟨Y,Z,rfl,hz,hZ⟩
def aNE{α:Type}{X:Array α}{t:α}(h:X.toList=[t]):X = #[t]:=by obtain⟨l⟩:=X;simp at h;rw[h]
def mX{α:Type}{X:Array α}{t u:α}(h:X.toList=[t,u]):X = #[t,u]:=by obtain⟨l⟩:=X;simp at h;rw[h]
def aJX{o:HP}{op:df}(hc:cOp P ab o=N1 op){av:AV}(h:evR H ρ op=N1 av)(hw:WF g H w)(hg:bM P ab g)(hs:aX g ρ a.tmps):iK P o a w (iP g H w av):=by
 obtain⟨dst,o,type,pos,after,guard⟩:=o;unfold cOp at hc;dsimp only at hc;split at hc
 .obtain⟨x,hx,rfl⟩:=map_some hc;simp only[evR,AG]at h;subst h;exact aWs hx hw hg hs
 .obtain⟨x,hx,rfl⟩:=map_some hc;simp only[evR,AG]at h;subst h;exact aR0 hx hw hg hs
 .split at hc
  .rename_i c x y h1 h2 h3;cases hc;simp only[evR]at h;split at h
   .rename_i t ht;cases h;exact aWt h1 h2 h3 ht hw hg hs
   cases h
  cases hc
 .split at hc
  .obtain⟨zs,hz,rfl⟩:=map_some hc;simp[evR]at h
  obtain⟨zs,hz,rfl⟩:=map_some hc;exact aTr hz h hw
 .split at hc
  .rename_i n x h1 h2;split at hc
   .cases hc;simp[evR]at h
   cases hc;exact aZU h2 h hw hg hs
  cases hc
 .split at hc
  .rename_i zs fields h1 h2;split at hc
   .rename_i da;obtain⟨aps,hp,rfl⟩:=map_some hc;exact aON h1 (.inl ⟨fields,h2,da,hp⟩) h hw hg hs
   cases hc
  .rename_i zs n e h1 h2;split at hc
   .rename_i k hk;obtain⟨aps,hp,rfl⟩:=map_some hc;exact aON h1 (.inr ⟨n,e,k,h2,hk,hp⟩) h hw hg hs
   cases hc
  cases hc
 .split at hc
  .rename_i e ht;split at hc
   .rename_i k zs ps h1 h2 h3;split at hc
    .rename_i fj;cases hc;exact aZT ht h1 h2 h3 fj.2.1 fj.2.2.1 fj.2.2.2 h hw hg hs |> λf=>f
    cases hc
   cases hc
  cases hc
 .split at hc
  .rename_i n agg x h1 h2;cases hc;simp only[evR]at h;split at h
   .rename_i cs ru;exact aWu h2 h1 ru h hw hg hs
   cases h
  cases hc
 .split at hc
  .cases hc;simp[evR]at h
  cases hc
 .obtain⟨x,hx,rfl⟩:=map_some hc;exact aTo hx h hw hg hs
 .split at hc
  .rename_i hn;split at hc
   .obtain⟨x,hx,rfl⟩:=map_some hc;exact aOQ hx hn (.inl ⟨rfl,rfl⟩) h hw hg hs
   .obtain⟨x,hx,rfl⟩:=map_some hc;exact aOQ hx hn (.inr ⟨rfl,rfl⟩) h hw hg hs
   cases hc
  split at hc
  .rename_i x y h1 h2;cases hc;exact aZM h1 h2 h hw hg hs
  cases hc
 .obtain⟨x,hx,rfl⟩:=map_some hc;exact bC8 hx h hw hg hs
 .split at hc
  .rename_i c x h1 h2;cases hc;exact aWz h1 h2 h hw hg hs
  cases hc
 .split at hc
  .rename_i x y h1 h2;cases hc;exact aZV h1 h2 h hw hg hs
  cases hc
 .split at hc
  .rename_i e ht;split at hc
   .rename_i i zs l c h1 h2 h3 h4;split at hc
    .rename_i fj;cases hc;exact aZW ht h1 h2 h3 h4 fj.2.1 fj.2.2 h hw hg hs
    cases hc
   cases hc
  cases hc
 .split at hc
  .rename_i x lo hi h1 h2 h3 h4 h5;cases hc;cases aND h5;exact aR1 h2 h3 h4 h1 h hw hg hs
  .rename_i e x lo hi mx h1 h2 h3 h4 h5;split at hc
   .rename_i k hk;split at hc
    .split at hc
     .rename_i X7;have e1:hi=none:=by simpa using X7.2.1
      have e2:mx=none:=by simpa using X7.2.2
      subst e1;subst e2;cases hc;exact aWv h2 h3 h4 h5 h1 hk h hw hg hs
     cases hc;exact aME h2 h3 h4 h5 h1 hk h hw hg hs
    cases hc
   cases hc
  .rename_i n e x lo hi mx h1 h2 h3 h4 h5;split at hc
   .rename_i k hk;split at hc
    .cases hc;exact aR2 h2 h3 h4 h5 h1 hk h hw hg hs
    cases hc
   cases hc
  cases hc
 .split at hc
  .rename_i fields x h1 h2;split at hc
   .rename_i fd hfd;split at hc
    .rename_i n hn;cases hc;exact bC9 h2 h1 hfd hn h hw hg hs
    cases hc
   cases hc
  cases hc
 .split at hc
  .rename_i fields x h1 h2;split at hc
   .rename_i fd hfd;split at hc
    .rename_i n agg hn;cases hc;exact aZN h2 h1 hfd hn h hw hg hs
    cases hc
   cases hc
  cases hc
 .split at hc
  .rename_i n e x i h1 h2 h3;split at hc
   .rename_i k hk;cases hc;exact aZP h2 h3 h1 hk h hw hg hs
   cases hc
  .rename_i e x i h1 h2 h3;split at hc
   .rename_i k hk;split at hc
    .cases hc;exact aZO h2 h3 h1 hk h hw hg hs
    cases hc
   cases hc
  cases hc
 .split at hc
  .rename_i n e x i h1 h2 h3;split at hc
   .rename_i k agg hk;cases hc;exact aZR h2 h3 h1 hk h hw hg hs
   cases hc
  .rename_i x i h1 h2 h3;cases hc;exact aZQ h2 h3 h1 h hw hg hs
  cases hc
 .obtain⟨x,hx,rfl⟩:=map_some hc;exact aZS hx h hw hg hs
 .split at hc
  .cases hc
  .rename_i d hn hd;obtain⟨x,hx,rfl⟩:=map_some hc;exact aTq hd (λms e=>hn ms e) hx h hw hg hs
  cases hc
 .cases hc;simp[evR]at h
 .repeat' split at hc
  all_goals first | (cases hc;done)|(cases hc;simp[evR]at h)
 .repeat' split at hc
  all_goals first | (cases hc;done)|(cases hc;simp[evR]at h)
 .split at hc
  .rename_i kt et ht;split at hc
   .rename_i K z m k hk hz h1 h2;cases hc;exact aWA ht hk hz h1 h2 h hw hg hs
   .rename_i fields z m k hk hz h1 h2;split at hc
    .rename_i hq;cases hc;exact bRY ht hk hq hz h1 h2 h hw hg hs
    cases hc
   cases hc
  cases hc
 .split at hc
  .rename_i x t h1 h2;obtain⟨X,rfl,hx⟩:=aJV h1;cases aNE h2;split at hc
   .rename_i ht;cases hc;exact aWw hx ht h hw hg hs
   .rename_i e ht;cases hc;exact aWx hx ht h hw hg hs
   .rename_i n e ht;cases hc;simp only[evR,AG]at h;subst h;exact aWy ht hw
   cases hc
  .repeat' split at hc
   all_goals first | (cases hc;done)|(cases hc;simp[evR]at h)
  .repeat' split at hc
   all_goals first | (cases hc;done)|(cases hc;simp[evR]at h)
  .rename_i xs h1;cases hc;exact bBp h1 h hw hg hs
  .rename_i xs h1;cases hc;exact bBp h1 h hw hg hs
  cases hc
 .split at hc
  .cases hc;simp[evR]at h
  cases hc
 .split at hc
  .cases hc;split at h<;>simp[evR]at h
  cases hc
 cases hc
end
section
variable {P:CU}{ab:cu}{g:G}{H:LO}{w:BL}{ρ:LA}{a:Act}
variable {dst:Option Tmp}{type:BP}{pos:String}{after:Array OO}{guard:Option (Nat×Bool)}
def aA8(P:CU)(o:HP)(a:Act)(w:BL)(R:BE->BL->Prop):Prop:=
 (∃v w',(execOp a.eval o).run P w=.ok (.value v) w'/\R v w')∨(∃w',(execOp a.eval o).run P w=.ok .skip w'/\R EE w') ∨
 (∃f args w1,(execOp a.eval o).run P w=.ok (.enter f args) w1/\Calls P f args w1 λe w'=>match e with | .returned v=>R v w' | _=>False) ∨
 (∃l f tmps assign body w1,(execOp a.eval o).run P w=.ok (.round l f tmps assign body) w1/\RoundIn FJ 0 P l f tmps assign body w1 λe w'=>match e with | .returned v=>R v w' | _=>False)
def fr(r:Option Nat):Fence:={ FJ with round:=r }
def aA8.E9{o:HP}{R:BE->BL->Prop}(h:aA8 P o a w R)(c:Call):o.op≠.defer c:=λe=>by
 have mn:(execOp a.eval o).run P w=(Sem.run P (resolve a.eval c o.type) w).andThen λd w'=>.ok (.defer d) w':=by grind [guard,execOp,BS,CB]
 rcases h with⟨v,w',hr,_⟩ | ⟨w',hr,_⟩ | ⟨f,args,w1,hr,_⟩ | ⟨l,f,t,b,c',w1,hr,_⟩<;>
 .rw[mn]at hr;cases hq:Sem.run P (resolve a.eval c o.type) w with
  |ok d w2=>simp_all
  |halt x w2=>simp_all
def aA8.wp{o:HP}{R:BE->BL->Prop}(h:aA8 P o a w R){next:Act->BL->Prop}{Q:Exit->Act->BL->Prop}(hn:∀v w',R v w'->next (a.put o.dst v) w'):∀{r:Option Nat},o.wpIn (fr r) 0 P a w next Q:=by
 intro r;have hnd:=h.E9;have hsem:o.semAt (fr r).round a.eval=execOp a.eval o:=by
  cases r with
  |none=>rfl
  |some l=>exact Oper.semAt_some l a.eval o hnd
 refine⟨λ_ _=>trivial, ?_⟩;rw[hsem];rcases h with⟨v,w',hr,hR⟩ | ⟨w',hr,hR⟩ | ⟨f,args,w1,hr,hR⟩ | ⟨l,f,t,b,c,w1,hr,hR⟩
 .rw[hr];exact hn v w' hR
 .rw[hr];exact hn _ w' hR
 .rw[hr];refine⟨λh=>(by simp[fr,FJ]at h), ?_⟩;have h1:CallsIn FJ (0 - 1) P f args w1 _:=callsIn_wide.2 hR;refine CallsIn.mono h1 λe w' he=>?_
  grind
 rw[hr];refine⟨λh=>(by simp[fr,FJ]at h), ?_⟩;refine RoundIn.mono hR λe w' he=>?_
 grind
def iK.does{o:HP}{R:BE->BL->Prop}(h:iK P o a w R):aA8 P o a w R:=.inl h
def lE b:∀(vs:List BE) o (w:BL),(w.setCells b o vs).heap.size=w.heap.size/\∀b',b'≠b->(w.setCells b o vs).heap[b']? = w.heap[b']?
 | [],_,_=>⟨rfl,λ_ _=>rfl⟩
 |v::r,o,w=>by
  obtain⟨h1,h2⟩:=lE b r (o+1) (w.setCell ⟨b,o,N2⟩ v)
  simp_all [World.setCells,World.size_setCell,FR,DJ,Ne.symm]
def tO b:∀(vs:List BE) o (w:BL) (cs:Array BE) (t:BP) (fz:Nat×Nat),w.heap[b]? = N1 (.cells cs t fz)->∃cs',(w.setCells b o vs).heap[b]? = N1 (.cells cs' t fz)/\cs'.size=cs.size
 | [],_,_,cs,_,_,h=>⟨cs,h,rfl⟩
 |v::r,o,w,cs,t,fz,h=>by
  have h1:(w.setCell ⟨b,o,N2⟩ v).heap[b]? = N1 (.cells (cs.setIfInBounds o v) t fz):=by simp[FR,DJ,h]
  obtain⟨cs',h2,h3⟩:=tO b r (o+1) _ _ t fz h1;exact⟨cs',h2,by rw[h3];simp⟩
def aNF{w:BL}{b:Nat}{cs:Array BE}{t:BP}(h:w.heap[b]? = N1 (.cells cs t (0,0))):aQV w b:=λj _=>by
 simp[OS,h]
def ai.js{v:AV}{x:BE}(h:ai g v x)(hok:v.ak=Pa):x.oneCell'=true:=by cases h<;>first | rfl | (simp[AV.ak]at hok)
def fU.js{vs:LA}{xs:List BE}(h:fU g vs xs)(hok:vs.all AV.ak=Pa):∀x∈xs,x.oneCell'=true:=by
 intro x hx;obtain⟨i,hi⟩:=CO.1 hx;have hlt:i<vs.length:=by rw[h.1];grind
 exact (h.2 i vs[i] x uXk hi).js (AO.1 hok _ (AS hlt))
def vG(w:BL)(a:IA)(v:BE):(w.setCell a v).os=w.os/\(w.setCell a v).output=w.output:=by unfold FR;split<;>exact⟨rfl,rfl⟩
def nY b:∀(vs:List BE) off (w:BL),(w.setCells b off vs).os=w.os/\(w.setCells b off vs).output=w.output
 | [],_,_=>⟨rfl,rfl⟩
 |v::vs,off,w=>by
  have h1:=vG w ⟨b,off,N2⟩ v;have h2:=nY b vs (off+1) (w.setCell ⟨b,off,N2⟩ v);exact⟨h2.1.trans h1.1,h2.2.trans h1.2⟩
def Step.write(hw:WF g H w){o:Nat}{l:Loc}{x x':ah}(hb:au g H o l x){off:Nat}{xs:List BE}(X5:x'.ver=x.ver)(j8:x'.alive=Pa)(la:aBw g (w.setCells l.b off xs) l x'):Step g H w g (H.set o x') (w.setCells l.b off xs) [o]:=by
 obtain⟨h1,h2⟩:=lE l.b xs off w;have hg:g.setObj o l=g:=by
  cases g with
  |mk p ob wh io=>
   have:=hb.loc;simp only[G.setObj,G.mk.injEq,true_and,and_true]
   grind
 have:=Step.update hw o x' l (hw.lt o l hb.loc) uWa
  (λb _ bl=>h2 b (Ne.symm (bl l x hb))) (by rw[h1];exact hw.blk o l hb.loc) (.inr ⟨l,x,hb,rfl⟩) (by rw[X5];exact hb.st) j8
  (λl0 h0=>by rw[hb.loc]at h0;grind)
  (λ_=>by grind) (nY _ _ _ _)
 grind
def fF(hw:WF g H w){vs:LA}{pv:AV}{H':LO}{wr:LN}(h:storeCells H vs pv=N1 (H',wr)){x:BE}(hx:ai g pv x){xs:List BE}(hl:fU g vs xs):∃b off,x=.pointer (N1 ⟨b,off,N2⟩)/\(∀j,j<xs.length->(w.cell? ⟨b,off+j,N2⟩).isSome=Pa)/\(∀j,j<xs.length->w.frozen? ⟨b,off+j,N2⟩=Po) /\ Step g H w g H' (w.setCells b off xs) wr:=by
 cases hx with
 |ptr o v off l ad gr hv hh=>
  simp only[storeCells]at h;split at h
  .rename_i v' cells hH;split at h
   .rename_i hc;obtain⟨rfl,rfl⟩:=h;obtain⟨rfl,ax⟩:=hc;have bd:l.st=v':=by
     have:=hw.st o _ l hH gr;simp only[ah.ver]at this;omega
    have hb:au g H o l (.box v' cells):=⟨hH,rfl,gr,bd⟩;obtain⟨h0,dr,bc⟩:=hw.obj o l _ hb;have ha:=hh bd h0;subst ha;have iv:∀j,j<xs.length->(w.cell? ⟨l.b,off+j,N2⟩).isSome=true:=λj hj=>by
     have:=hl.1;obtain⟨y,hy,_⟩:=bc (off+j) (cells[off+j]'omT) siT;rw[hy];rfl
    refine⟨l.b,off,rfl,iv,λj hj=>dr _ (iv j hj),Step.write hw hb rfl rfl ⟨h0,λj hj=>?_,λj c hc=>?_⟩⟩
    .rw[EI];refine dr j ?_;by_cases hr:off<=j/\j<off+xs.length
     .have:=iv (j - off) omT
      grind
     rwa [BV l.b xs off w ⟨l.b,j,N2⟩ (λ_ _=>soT)]at hj
    rw[wT _ _ _ ax]at hc;have hlx:=hl.1;by_cases hr:off<=j/\j<off+vs.length
    .rw[Vx hr]at hc;have:=CQ l.b xs off w iv (j - off) omT;rw[show off+(j - off)=j by omega]at this;exact⟨_,this,hl.2 (j - off) c _ hc siT⟩
    rw[Vw hr]at hc;obtain⟨y,hy,pw⟩:=bc j c hc;exact⟨y,by rw[BV l.b xs off w ⟨l.b,j,N2⟩ (λ_ _=>soT)];exact hy,pw⟩
   cases h
  .rename_i v' ty cells hH;split at h
   .rename_i hc;obtain⟨rfl,rfl⟩:=h;obtain⟨rfl,ax⟩:=hc;have bd:l.st=v':=by
     have:=hw.st o _ l hH gr;simp only[ah.ver]at this;omega
    have hb:au g H o l (.cw v' ty cells):=⟨hH,rfl,gr,bd⟩;obtain⟨h0,⟨cs,ld,ru⟩,bc⟩:=hw.obj o l _ hb;have dr:=aNF ld;have ha:=hh bd h0;subst ha;have iv:∀j,j<xs.length->(w.cell? ⟨l.b,off+j,N2⟩).isSome=true:=λj hj=>by
     have:=hl.1;obtain⟨y,hy,_⟩:=bc (off+j) (cells[off+j]'omT) siT;rw[hy];rfl
    refine⟨l.b,off,rfl,iv,λj hj=>dr _ (iv j hj),Step.write hw hb rfl rfl ⟨h0, ?_,λj c hc=>?_⟩⟩
    .obtain⟨cs',h1,h2⟩:=tO l.b xs off w cs ty (0,0) ld;exact⟨cs',h1,by rw[h2,ru,aC7 _ _ _ ax]⟩
    rw[wT _ _ _ ax]at hc;have hlx:=hl.1;by_cases hr:off<=j/\j<off+vs.length
    .rw[Vx hr]at hc;have:=CQ l.b xs off w iv (j - off) omT;rw[show off+(j - off)=j by omega]at this;exact⟨_,this,hl.2 (j - off) c _ hc siT⟩
    rw[Vw hr]at hc;obtain⟨y,hy,pw⟩:=bc j c hc;exact⟨y,by rw[BV l.b xs off w ⟨l.b,j,N2⟩ (λ_ _=>soT)];exact hy,pw⟩
   cases h
  cases h
 |vp o v n k1 i off l ad gr hv hn hh=>
  simp only[storeCells]at h;split at h
  .rename_i v' k rows hH;split at h
   .rename_i hc;obtain⟨rfl,ax,rfl⟩:=hc;split at h
    .rename_i row cn;split at h
     .rename_i X7;obtain⟨rfl,rfl⟩:=h;have bd:l.st=v':=by
       have:=hw.st o _ l hH gr;simp only[ah.ver]at this;omega
      have hb:au g H o l (.vec v' k rows):=⟨hH,rfl,gr,bd⟩;obtain⟨h0,ow,cm,dr,hk,eh,bc⟩:=hw.obj o l _ hb;have ha:=hh bd omT;subst ha;have Hr:=hl.aj;have hlx:=Hr.1;simp only[AF]at hlx;have hi:=(AH.1 cn).1;have iv:∀j,j<xs.length->(w.cell? ⟨l.b,i*k+off+j,N2⟩).isSome=true:=λj hj=>by
       rw[EU];obtain⟨_,y,hy,_⟩:=bc i (off+j) row (row[off+j]'omT) cn siT;rw[hy];rfl
      refine⟨l.b,i*k+off,rfl,iv,λj hj=>dr _ (iv j hj),Step.write hw hb rfl rfl ⟨uWS,ow,uWa,λj hj=>?_,λr hr=>?_,λj hj=>?_,λi' j r c h1 h2=>?_⟩⟩
      .rw[EI];refine dr j ?_;by_cases hr:i*k+off<=j/\j<i*k+off+xs.length
       .have:=iv (j - (i*k+off)) omT
        grind
       rwa [BV l.b xs (i*k+off) w ⟨l.b,j,N2⟩ (λ_ _=>soT)]at hj
      .rcases GI hr with pw|rfl
       all_goals grind [aC7]
      .by_cases hr:i*k+off<=j/\j<i*k+off+xs.length
       .have:=CQ l.b xs (i*k+off) w iv (j - (i*k+off)) omT
        grind
       rw[BV l.b xs (i*k+off) w ⟨l.b,j,N2⟩ (λ_ _=>soT)]
       grind
      by_cases e:i'=i
      .subst e;simp[hi]at h1;subst h1;rw[wT _ _ _ uWa]at h2;simp only[AF]at h2;by_cases hr:off<=j/\j<off+vs.length
       .rw[Vx hr]at h2;have:=CQ l.b xs (i'*k+off) w iv (j - off) omT;rw[show i'*k+off+(j - off)=i'*k+j by omega]at this;exact⟨AO.1 X7.2 c (AN h2),_,this,Hr.2 (j - off) c _ h2 siT⟩
       rw[Vw hr]at h2;obtain⟨hs,y,hy,pw⟩:=bc i' j row c cn h2;exact⟨hs,y,by rw[BV l.b xs (i'*k+off) w ⟨l.b,i'*k+j,N2⟩ (λ_ _=>soT)];exact hy,pw⟩
      rw[getElem?_set_ne' _ _ (Ne.symm e)]at h1;obtain⟨hs,y,hy,pw⟩:=bc i' j r c h1 h2;refine⟨hs,y, ?_,pw⟩;rw[BV l.b xs (i*k+off) w ⟨l.b,i'*k+j,N2⟩ (λ_ _=>?_)]
      .exact hy
      have hj:j<k:=uWa
      by_cases hlt:i'*k+j<i*k+off
      .exact .inl hlt
      by_cases nj:i*k+off+xs.length<=i'*k+j
      .exact .inr nj
      exfalso;have zd:i'*k+j - i*k<k:=uWa
      exact e (aMF hj zd omT).1
     cases h
    cases h
   cases h
  cases h
 |_=>simp[storeCells]at h
def aTt{t:BP}{n:Nat}{X V:CA}{x v:aa}(ht:size? P t=N1 n)(hx:fA ab X=N1 x)(hv:fA ab V=N1 v){call:Nat->LA->LO->Out}{site:Option Nat}{av:AV}{H':LO}{wr:LN}(h:evW call H ρ site (.store n x v)=N1 (av,H',wr))(hw:WF g H w)(hg:bM P ab g)(hs:aX g ρ a.tmps):aA8 P ⟨dst,.store t X V,type,pos,after,guard⟩ a w λv w'=>∃g',Step g H w g' H' w' wr/\ai g' av v:=by
 simp only[evW]at h;split at h
 .rename_i hc;split at h
  .rename_i H1 dc bd;cases h;have hl:=(bIw hv hg hs).cells hc.2;obtain⟨b,off,ex,iv,Pw,bn⟩:=fF hw bd (bIw hx hg hs) hl;have ej:=GH (P:=P) b off (a.eval V).cells.toList 0 w uWa uWa (hl.js hc.2);have gd:(a.eval V).cells.size=n:=by have:=hl.1;grind
   refine .inr (.inl ⟨_, ?_,g,bn,.undef _⟩);simp only[execOp,ex,Instr.storeAt,BS,IS,CB,BJ,storeVar,fV ht,gd,ne_eq,not_true_eq_false,Vt,ej,DU]
  cases h
 cases h
end
section
variable {P:CU}{ab:cu}{g:G}{H:LO}{w w':BL}{ρ:LA}{a:Act}
variable {dst:Option Tmp}{type:BP}{pos:String}{after:Array OO}{guard:Option (Nat×Bool)}
def Step.newObj(hw:WF g H w){id:Nat}(hid:id<H.length){c:Array BE}{t:BP}(e:w'.heap=w.heap.push (.cells c t)){l':Loc}(hb:l'.b=w.heap.size)(bd:l'.st=bH H id){x':ah}(X5:x'.ver=bH H id)(j8:x'.alive=Pa)(la:g.le (g.setObj id l')->aBw (g.setObj id l') w' l' x')(io:w'.os=w.os/\w'.output=w.output:=by exact⟨rfl,rfl⟩):Step g H w (g.setObj id l') (H.set id x') w' [id]:=by
 refine Step.update hw id x' l' hid (by rw[e];simp) (λb du _=>cK e du) (by rw[e,hb];simp) (.inl omT) omT j8 (λl hl=>?_) la io;have hx:H[id]? = N1 H[id]:=by simp[hid]
 have:=hw.st id _ l hx hl;have hv:bH H id=H[id].ver+1:=uXl
 omega
def kD{c:Array BE}{t:BP}(e:w'.heap=w.heap.push (.cells c t))(j:Nat):w'.cell? ⟨w.heap.size,j,N2⟩=c[j]? := by simp[EF,e]
def wV{c:Array BE}{t:BP}(e:w'.heap=w.heap.push (.cells c t)):aQV w' w.heap.size:=λj _=>by
 simp[OS,e]
def Step.r7(hw:WF g H w){id:Nat}(hid:id<H.length){c:Array BE}{t:BP}(e:w'.heap=w.heap.push (.cells c t)){cs:LA}(hl:fU g cs c.toList)(io:w'.os=w.os/\w'.output=w.output:=by exact⟨rfl,rfl⟩):∃g',Step g H w g' (make H id (.box · cs)) w' [id]/\ai g' (.ptr id (bH H id) 0) (.pointer (N1 ⟨w.heap.size,0,N2⟩)):=by
 refine⟨g.setObj id ⟨w.heap.size,bH H id,0,0,0⟩,Step.newObj hw hid e rfl rfl rfl rfl (λhle=>⟨rfl,wV e,λj a ha=>?_⟩) io, ?_⟩
 .have hj:=(AH.1 ha).1;have ax:=hl.1;simp at ax;rw[kD e];exact⟨c[j]'omT,siT,(hl.2 j a _ ha siT).mono hle⟩
 exact .ptr id _ 0 _ _ (by simp[G.setObj];rfl) (AQ _) λ_ _=>rfl
def Step.Py(hw:WF g H w){id:Nat}(hid:id<H.length){c:Array BE}{t:BP}(e:w'.heap=w.heap.push (.cells c t)){k cap:Nat}{rows:List LA}(hr:bz g k rows (c.toList.take (rows.length*k)))(bd:rows.all (λr=>r.all AV.ak)=Pa)(cm:rows.length<=cap)(gd:c.size=cap*k)(io:w'.os=w.os/\w'.output=w.output:=by exact⟨rfl,rfl⟩):∃g',Step g H w g' (make H id (.vec · k rows)) w' [id]/\ai g' (.sr id (bH H id) rows.length) (.slice (N1 ⟨w.heap.size,0,N2⟩) rows.length cap):=by
 refine⟨g.setObj id ⟨w.heap.size,bH H id,rows.length,k,cap⟩,Step.newObj hw hid e rfl rfl rfl rfl (λhle=>⟨rfl,rfl,cm,wV e,hr.row,λj hj=>?_,λi j row a h1 h2=>?_⟩) io, ?_⟩
 .rw[kD e]
  grind
 .have hi:=(AH.1 h1).1;have hj:=(AH.1 h2).1;have nh:j<k:=by rw[<- hr.row row (AN h1)];exact hj
  have hlt:=eV hi nh;have hle':rows.length*k<=cap*k:=BO _ cm;have hs:=AO.1 (AO.1 bd row (AN h1)) a (AN h2);rw[kD e];refine⟨hs,c[i*k+j]'omT,siT,(hr.rel i j row a _ h1 h2 ?_).mono hle⟩
  grind
 exact .sr id _ _ _ _ _ (by simp[G.setObj];rfl) (AQ _) (λ_=>AQ _) uWa λ_ _=>⟨rfl,rfl⟩
def Step.yk(hw:WF g H w){id:Nat}(hid:id<H.length){c:Array BE}{t:BP}(e:w'.heap=w.heap.push (.cells c t)){k cap:Nat}{rows:List LA}(hr:bz g k rows (c.toList.take (rows.length*k)))(bd:rows.all (λr=>r.all AV.ak)=Pa)(cm:rows.length<=cap)(gd:c.size=cap*k)(io:w'.os=w.os/\w'.output=w.output:=by exact⟨rfl,rfl⟩):∃g',Step g H w g' (make H id (.oz · t k rows)) w' [id]/\ai g' (.sr id (bH H id) rows.length) (.slice (N1 ⟨w.heap.size,0,N2⟩) rows.length cap):=by
 refine⟨g.setObj id ⟨w.heap.size,bH H id,rows.length,k,cap⟩,Step.newObj hw hid e rfl rfl rfl rfl (λhle=>⟨⟨rfl,rfl,cm,wV e,hr.row,λj hj=>?_,λi j row a h1 h2=>?_⟩,c,by rw[e];simp⟩) io, ?_⟩
 .rw[kD e]
  grind
 .have hi:=(AH.1 h1).1;have hj:=(AH.1 h2).1;have nh:j<k:=by rw[<- hr.row row (AN h1)];exact hj
  have hlt:=eV hi nh;have hle':rows.length*k<=cap*k:=BO _ cm;have hs:=AO.1 (AO.1 bd row (AN h1)) a (AN h2);rw[kD e];refine⟨hs,c[i*k+j]'omT,siT,(hr.rel i j row a _ h1 h2 ?_).mono hle⟩
  grind
 exact .sr id _ _ _ _ _ (by simp[G.setObj];rfl) (AQ _) (λ_=>AQ _) uWa λ_ _=>⟨rfl,rfl⟩
def aTu{t:BP}{zs:LA}(hz:zeroCells? P ab t=N1 zs){call:Nat->LA->LO->Out}{site:Option Nat}{av:AV}{H':LO}{wr:LN}(h:evW call H ρ site (.alloc zs)=N1 (av,H',wr))(hw:WF g H w):aA8 P ⟨dst,.alloc t,type,pos,after,guard⟩ a w λv w'=>∃g',Step g H w g' H' w' wr/\ai g' av v:=by
 simp only[evW]at h;split at h
 .rename_i id;split at h
  .rename_i hid;cases h;obtain⟨it,z,hi,tq,ub⟩:=zeroCells?_spec hz;obtain⟨g',h1,h2⟩:=Step.r7 (w':=w.alloc (.cells z.cells t)) hw hid rfl (ub g);exact .inl ⟨.pointer (N1 ⟨w.heap.size,0,N2⟩),w.alloc (.cells z.cells t),uWW,g',h1,h2⟩
  cases h
 cases h
def aR3{t:BP}{zs:LA}(hz:zeroCells? P ab t=N1 zs){call:Nat->LA->LO->Out}{site:Option Nat}{av:AV}{H':LO}{wr:LN}(h:evW call H ρ site (.gv t zs)=N1 (av,H',wr))(hw:WF g H w):aA8 P ⟨dst,.alloc t,type,pos,after,guard⟩ a w λv w'=>∃g',Step g H w g' H' w' wr/\ai g' av v:=by
 simp only[evW]at h;split at h
 .rename_i id;split at h
  .rename_i hid;cases h;obtain⟨it,z,hi,tq,ub⟩:=zeroCells?_spec hz;have e:(w.alloc (.cells z.cells t)).heap=w.heap.push (.cells z.cells t):=rfl;have hl:=ub g;have hs:=Step.newObj (l':=⟨w.heap.size,bH H id,0,0,0⟩) (x':=.cw (bH H id) t zs) hw hid e rfl rfl rfl rfl (λhle=>⟨rfl,⟨z.cells,by rw[e];simp,uXh⟩,λj a ha=>by
    have hj:=(AH.1 ha).1;have ax:=hl.1;simp at ax;exact⟨z.cells[j]'omT,siT,(hl.2 j a _ ha siT).mono hle⟩⟩)
   exact .inl ⟨.pointer (N1 ⟨w.heap.size,0,N2⟩),w.alloc (.cells z.cells t),uWW,_,hs,.ptr id _ 0 _ _ (by simp[G.setObj];rfl) (AQ _) λ_ _=>rfl⟩
  cases h
 cases h
def aZX{t:BP}{n:Nat}{X:CA}{x:aa}(hx:fA ab X=N1 x){call:Nat->LA->LO->Out}{site:Option Nat}{av:AV}{H':LO}{wr:LN}(h:evW call H ρ site (.box n x)=N1 (av,H',wr))(hw:WF g H w)(hg:bM P ab g)(hs:aX g ρ a.tmps):aA8 P ⟨dst,.box t X,type,pos,after,guard⟩ a w λv w'=>∃g',Step g H w g' H' w' wr/\ai g' av v:=by
 simp only[evW]at h;split at h
 .rename_i id;split at h
  .rename_i hc;cases h;have hl:=(bIw hx hg hs).cells hc.2.2;obtain⟨g',h1,h2⟩:=Step.r7 (w':=w.alloc (.cells (a.eval X).cells t)) hw hc.1 rfl hl;exact .inl ⟨.pointer (N1 ⟨w.heap.size,0,N2⟩),w.alloc (.cells (a.eval X).cells t),by simp[execOp,PU,newVar,newRow],g',h1,h2⟩
  cases h
 cases h
def aZY{t:BP}{n:Nat}{X:CA}{x:aa}(hx:fA ab X=N1 x){call:Nat->LA->LO->Out}{site:Option Nat}{av:AV}{H':LO}{wr:LN}(h:evW call H ρ site (.tbx t n x)=N1 (av,H',wr))(hw:WF g H w)(hg:bM P ab g)(hs:aX g ρ a.tmps):aA8 P ⟨dst,.box t X,type,pos,after,guard⟩ a w λv w'=>∃g',Step g H w g' H' w' wr/\ai g' av v:=by
 simp only[evW]at h;split at h
 .rename_i id;split at h
  .rename_i hc;cases h;have hl:=(bIw hx hg hs).cells hc.2.2;have e:(w.alloc (.cells (a.eval X).cells t)).heap=w.heap.push (.cells (a.eval X).cells t):=rfl;have hs:=Step.newObj (l':=⟨w.heap.size,bH H id,0,0,0⟩) (x':=.cw (bH H id) t (x.ev ρ).cells) hw hc.1 e rfl rfl rfl rfl (λhle=>⟨rfl,⟨(a.eval X).cells,by rw[e];simp,uXh⟩,λj c ha=>by
    have hj:=(AH.1 ha).1;have ax:=hl.1;simp at ax;exact⟨(a.eval X).cells[j]'omT,siT,(hl.2 j c _ ha siT).mono hle⟩⟩)
   exact .inl ⟨.pointer (N1 ⟨w.heap.size,0,N2⟩),w.alloc (.cells (a.eval X).cells t),by simp[execOp,PU,newVar,newRow],_,hs,.ptr id _ 0 _ _ (by simp[G.setObj];rfl) (AQ _) λ_ _=>rfl⟩
  cases h
 cases h
def aZZ{t e:BP}{i:OH}{L C:CA}{l c:aa}{zs:LA}(ht:P.underlying t=N1 (.slice e))(hi:P.info? e=N1 i)(hz:zeroCells? P ab e=N1 zs)(hL:fA ab L=N1 l)(hC:fA ab C=N1 c)(hzl:zs.length=i.size)(bd:zs.all AV.still=Pa){call:Nat->LA->LO->Out}{site:Option Nat}{av:AV}{H':LO}{wr:LN}(h:evW call H ρ site (.mks i.size i.bytes zs l c)=N1 (av,H',wr))(hw:WF g H w)(hg:bM P ab g)(hs:aX g ρ a.tmps):aA8 P ⟨dst,.makeSlice t L C,type,pos,after,guard⟩ a w λv w'=>∃g',Step g H w g' H' w' wr/\ai g' av v:=by
 simp only[evW]at h;have gu:=bIw hL hg hs;have hrc:=bIw hC hg hs;split at h
 .rename_i k1 n k2 m e1 e2;rw[e1]at gu;rw[e2]at hrc;have el:=gu.di;have ec:=hrc.di;split at h
  .rename_i fj;obtain⟨h0,rfl,ed⟩:=fj;obtain⟨it,z,nr,tq,ub⟩:=zeroCells?_spec hz;rw[hi]at nr;cases nr;obtain⟨n',rfl⟩:=DN h0;simp only[bP,decide_eq_true_eq,AT]at ed;have qd:AR.wrap n'=n':=by
    unfold GA;simp only[LK,KC]
    grind
   have q9:(i.bytes:Int)*n'<=281474976710656:=uWa
   have ej:(EX t (.int k1 n') (.int k2 n')).run P w=.ok (.slice (N1 ⟨w.heap.size,0,N2⟩) n' n') (w.alloc (.cells ((Ab (n'*i.size)).map (z.cells[· % z.cells.size]!)) e)):=by
    have lx:¬((n':Int)<0):=omT;have xh:¬((i.bytes:Int)*n'>281474976710656):=omT;by_cases me:n'*i.size=0
    .simp[EX,BH ht,asInt,asIntOf,typeInfo,hi,qd,lx,xh,sizeOf,me,newRow,NF]
    simp[EX,BH ht,asInt,asIntOf,typeInfo,hi,qd,lx,xh,sizeOf,me,zeroValue,tq,newRow]
   have yj:bz g i.size (AX n' (zs.map AV.aj)) (((Ab (n'*i.size)).map (z.cells[· % z.cells.size]!)).toList):=aFx (ub g).aj uWa;have Pt:(AX n' (zs.map AV.aj)).all (λr=>r.all AV.still)=true:=by grind [AO,jN]
   have tu:(AX n' (zs.map AV.aj)).length=n':=siT;have gm:(((Ab (n'*i.size)).map (z.cells[· % z.cells.size]!)).toList).take ((AX n' (zs.map AV.aj)).length*i.size)=((Ab (n'*i.size)).map (z.cells[· % z.cells.size]!)).toList:=
    CH siT
   split at h
   .rename_i id;split at h
    .rename_i hid;cases h;obtain⟨g',h1,h2⟩:=Step.Py (w':=w.alloc (.cells ((Ab (n'*i.size)).map (z.cells[· % z.cells.size]!)) e)) hw hid rfl (k:=i.size) (cap:=n') uWa (vF Pt) omT siT;rw[tu]at h2;exact .inl ⟨.slice (N1 ⟨w.heap.size,0,N2⟩) n' n',_,uXc,g',h1,h2⟩
    cases h
   cases h;have bn:=Step.ir (w':=w.alloc (.cells ((Ab (n'*i.size)).map (z.cells[· % z.cells.size]!)) e)) hw ((Ab (n'*i.size)).map (z.cells[· % z.cells.size]!)) e (0,0) rfl;have hv:=ai.rp (f:=Pa) Pt omT (λ_=>tu.symm) (by rw[gm];exact yj.mono bn.le);rw[tu]at hv;exact .inl ⟨.slice (N1 ⟨w.heap.size,0,N2⟩) n' n',_,uXc,_,bn,hv⟩
  split at h
  .rename_i id;split at h
   .rename_i hc;cases h;obtain⟨rfl,kj,ed,hid⟩:=hc;obtain⟨it,z,nr,tq,ub⟩:=zeroCells?_spec hz;rw[hi]at nr;cases nr;obtain⟨m',rfl⟩:=DN (Int.le_of_lt kj);simp only[bP,decide_eq_true_eq,AT]at ed;have qd:AR.wrap m'=m':=by
     unfold GA;simp only[LK,KC]
     grind
    have Yg:AR.wrap 0=0:=deT;have q9:(i.bytes:Int)*m'<=281474976710656:=uWa
    have ej:(EX t (.int k1 0) (.int k2 m')).run P w=.ok (.slice (N1 ⟨w.heap.size,0,N2⟩) 0 m') (w.alloc (.cells ((Ab (m'*i.size)).map (z.cells[· % z.cells.size]!)) e)):=by
     have lx:¬((m':Int)<0):=omT;have xh:¬((i.bytes:Int)*m'>281474976710656):=omT;by_cases me:m'*i.size=0
     .simp[EX,BH ht,asInt,asIntOf,typeInfo,hi,qd,Yg,lx,xh,sizeOf,me,newRow,NF]
     simp[EX,BH ht,asInt,asIntOf,typeInfo,hi,qd,Yg,lx,xh,sizeOf,me,zeroValue,tq,newRow]
    obtain⟨g',h1,h2⟩:=Step.Py (w':=w.alloc (.cells ((Ab (m'*i.size)).map (z.cells[· % z.cells.size]!)) e)) hw hid rfl (k:=i.size) (cap:=m') (rows:=[]) ⟨siT,λr hr=>by simp at hr,λi j r c x h=>by simp at h⟩ rfl (FF _) siT;exact .inl ⟨.slice (N1 ⟨w.heap.size,0,N2⟩) 0 m',_,uXc,g',h1,h2⟩
   cases h
  cases h
 cases h
end
section
variable {P:CU}{ab:cu}{g:G}{H:LO}{w w':BL}{ρ:LA}{a:Act}
def aOR(hw:WF g H w){o:Nat}{l:Loc}{v k:Nat}{rows:List LA}(hb:au g H o l (.vec v k rows))(dq:rows.all (λr=>r.all AV.still)=Pa):ai (g.bh l.b λi=>w.cell? ⟨l.b,i,N2⟩) (.sl Po rows) (.slice (N1 ⟨l.b,0,N2⟩) rows.length l.cap):=by
 obtain⟨h0,ow,cm,dr,hk,eh,bc⟩:=hw.obj o l _ hb;have hle:=(Step.gone hw hb).le;refine .sl Po rows l.b 0 l.cap k cm siT hk (λrow hm=>?_) (λi j hi hj=>?_) λi j row c x h1 h2 h3=>?_
 .obtain⟨i,hi⟩:=CO.1 hm;rw[AO];intro c hc;exact AO.1 (AO.1 dq row hm) c hc
 .have yg:=hk rows[i] (AS hi);obtain⟨_,y,hy,_⟩:=bc i j rows[i] (rows[i][j]'omT) uWU siT;simp only[G.bh,Vu,BC,hy];rfl
 obtain⟨_,y,hy,hr⟩:=bc i j row c h1 h2;simp only[G.bh,Vu,BC,hy,AG]at h3;subst h3;exact hr.mono hle
structure vj(g:G)(H:LO)(g':G)(l:LN):Prop where
 le:g.le g'
 vec:∀o lc v k rows,o∈l->au g H o lc (.vec v k rows)->rows.all (λr=>r.all AV.still)=Pa->ai g' (.sl Po rows) (.slice (N1 ⟨lc.b,0,N2⟩) rows.length lc.cap)
def vj.sub{g':G}{l l':LN}(h:vj g H g' l)(hs:∀o∈l',o∈l):vj g H g' l':=⟨h.le,λo lc v k rows ho=>h.vec o lc v k rows (hs o ho)⟩
def iR:∀(l:LN)(g:G)(H:LO),WF g H w->(∀o∈l,(∃lc x,au g H o lc x)∨∃v,H[o]? = N1 (.gone v)) ->∃g',Step g H w g' (dL H l) w l/\vj g H g' l
 | [],g,H,hw,_=>⟨g,.refl hw,G.le.refl g,λo lc v k rows ho=>by simp at ho⟩
 |o::r,g,H,hw,ho=>by
  have Yh:=(ho o siT).symm;rcases Yh with⟨v,hv⟩ | ⟨lc,x,hb⟩
  .have hlt:=(AH.1 hv).1;have lg:H.set o (.gone ((H[o]?).elim 0 ah.ver))=H:=by
    apply HN;intro i;by_cases e:i=o
    .subst e;have hg:H[i]=.gone v:=by have:=hv;simp[hlt]at this;exact this
     simp[hlt,hg,ah.ver]
    rw[getElem?_set_ne' _ _ (Ne.symm e)]
   obtain⟨g',h1,h2⟩:=iR r g H hw λo' hm=>ho o' (BZ _ hm);refine⟨g', ?_,h2.le,λo' lc v' k rows hm hb bd=>?_⟩
   .simp only[dL,lg];exact h1.weaken λo' hm=>BZ _ hm
   rcases BD.1 hm with rfl|hm
   .have:=hb.Pr;rw[hv]at this;cases this
   exact h2.vec o' lc v' k rows hm hb bd
  have X5:(H[o]?).elim 0 ah.ver=x.ver:=by rw[hb.Pr];rfl
  have h1:=Step.gone hw hb;have hlt:=hw.lt o lc hb.loc;have Zq:∀o' lc' x',o'≠o->au g H o' lc' x'->au (g.bh lc.b λi=>w.cell? ⟨lc.b,i,N2⟩) (H.set o (.gone x.ver)) o' lc' x':=λo' lc' x' bl du=>⟨by rw[getElem?_set_ne' _ _ (Ne.symm bl)];exact du.Pr,du.alive,du.loc,du.st⟩;obtain⟨g',h2,h3⟩:=iR r _ _ h1.wf λo' hm=>by
   by_cases e:o'=o
   .subst e;exact .inr ⟨x.ver,uXk⟩
   rcases ho o' (BZ _ hm)with⟨lc',x',du⟩ | ⟨v,hv⟩
   .exact .inl ⟨lc',x',Zq o' lc' x' e du⟩
   exact .inr ⟨v,by rw[getElem?_set_ne' _ _ (Ne.symm e)];exact hv⟩
  refine⟨g', ?_,h1.le.trans h3.le,λo' lc' v k rows hm du bd=>?_⟩
  .simp only[dL,X5];exact h1.trans h2
  by_cases e:o'=o
  .subst e;have hl:lc'=lc:=by have:=du.loc;rw[hb.loc]at this;exact (DZ this).symm
   subst hl;exact (aOR hw du bd).mono h3.le
  rcases BD.1 hm with rfl|hm
  .exact Vv rfl e
  exact h3.vec o' lc' v k rows hm (Zq o' lc' _ e du) bd
def aFU(hw:WF g H w){v v':AV}{l:LN}(h:aA2 H v=N1 (v',l)){x:BE}(hx:ai g v x):(∀o∈l,∃lc y,au g H o lc y)/\∀g',vj g H g' l->ai g' v' x:=by
 unfold aA2 at h;split at h
 .rename_i o ve n;split at h
  .rename_i v0 k rows hH;split at h
   .rename_i hc;cases h;obtain⟨rfl,ax,dq⟩:=hc;cases hx with
    |sr o v n lc b cap hl hv hn jg hh=>
     have bd:lc.st=v0:=by have:=hw.st o _ lc hH hl;simp only[ah.ver]at this;omega
     have hb:au g H o lc (.vec v0 k rows):=⟨hH,rfl,hl,bd⟩;obtain⟨h0,_⟩:=hw.obj o lc _ hb;obtain⟨rfl,rfl⟩:=hh bd omT;refine⟨λo' ho=>?_,λg' kg=>?_⟩
     .simp only[CG]at ho;subst ho;exact⟨lc,_,hb⟩
     rw[<- ax];exact kg.vec o lc v0 k rows siT hb dq
   cases h
  cases h
 .cases h
 .cases h
 .cases h
 .cases h
 cases h;exact⟨λo ho=>by simp at ho,λg' hl=>hx.mono hl.le⟩
def aFV(hw:WF g H w):∀{vs vs':LA}{l:LN},aIQ H vs=N1 (vs',l)->∀{xs:List BE},fU g vs xs ->(∀o∈l,∃lc y,au g H o lc y)/\∀g',vj g H g' l->fU g' vs' xs
 | [],vs',l,h,xs,hx=>by
  obtain⟨rfl,rfl⟩:=h;exact⟨λo ho=>by simp at ho,λg' hl=>hx.mono hl.le⟩
 |v::r,vs',l,h,xs,hx=>by
  unfold aIQ at h;split at h
  .cases h
  rename_i v1 l1 h1;split at h
  .cases h
  rename_i r1 l2 h2;cases h;cases xs with
  |nil=>have:=hx.1;simp at this
  |cons x xs=>
   obtain⟨a1,a2⟩:=aFU hw h1 (hx.2 0 v x rfl rfl);obtain⟨b1,b2⟩:=aFV hw h2 ⟨by have:=hx.1;simpa using this,λi c y hc hy=>hx.2 (i+1) c y uWu uWB⟩;refine⟨λo ho=>?_,λg' hl=>?_⟩
   .rcases AY.1 ho with h|h
    .exact a1 o h
    exact b1 o h
   have c1:=a2 g' (hl.sub λo ho=>CZ _ ho);have c2:=b2 g' (hl.sub λo ho=>CX _ ho);refine⟨by simp[c2.1],λi c y hc hy=>?_⟩;cases i with
   |zero=>simp at hc hy;subst hc;subst hy;exact c1
   |succ i=>exact c2.2 i c y uWu uWB
def aDU(hw:WF g H w){v v':AV}{l:LN}(h:dw H v=N1 (v',l)){x:BE}(hx:ai g v x):(∀o∈l,∃lc y,au g H o lc y)/\∀g',vj g H g' l->ai g' v' x:=by
 unfold dw at h;split at h
 .split at h
  .rename_i cs' l' hl;cases h;obtain⟨vs,rfl,hr⟩:=hx.fu;obtain⟨a1,a2⟩:=aFV hw hl hr;exact⟨a1,λg' hg=>(a2 g' hg).agg⟩
  cases h
 .cases h
 exact aFU hw h hx
def pU(hw:WF g H w):∀{vs vs':LA}{l:LN},kA H vs=N1 (vs',l)->∀{xs:List BE},fU g vs xs ->(∀o∈l,∃lc y,au g H o lc y)/\∀g',vj g H g' l->fU g' vs' xs
 | [],vs',l,h,xs,hx=>by
  obtain⟨rfl,rfl⟩:=h;exact⟨λo ho=>by simp at ho,λg' hl=>hx.mono hl.le⟩
 |v::r,vs',l,h,xs,hx=>by
  unfold kA at h;split at h
  .cases h
  rename_i v1 l1 h1;split at h
  .cases h
  rename_i r1 l2 h2;cases h;cases xs with
  |nil=>have:=hx.1;simp at this
  |cons x xs=>
   obtain⟨a1,a2⟩:=aDU hw h1 (hx.2 0 v x rfl rfl);obtain⟨b1,b2⟩:=pU hw h2 ⟨by have:=hx.1;simpa using this,λi c y hc hy=>hx.2 (i+1) c y uWu uWB⟩;refine⟨λo ho=>?_,λg' hl=>?_⟩
   .rcases AY.1 ho with h|h
    .exact a1 o h
    exact b1 o h
   have c1:=a2 g' (hl.sub λo ho=>CZ _ ho);have c2:=b2 g' (hl.sub λo ho=>CX _ ho);refine⟨by simp[c2.1],λi c y hc hy=>?_⟩;cases i with
   |zero=>simp at hc hy;subst hc;subst hy;exact c1
   |succ i=>exact c2.2 i c y uWu uWB
def qO(hw:WF g H w){v v':AV}{H':LO}{l:LN}(h:fix H v=N1 (v',H',l)){x:BE}(hx:ai g v x):∃g',Step g H w g' H' w l/\ai g' v' x:=by
 unfold fix at h;split at h
 .rename_i v1 l1 hl;cases h;obtain⟨a1,a2⟩:=aDU hw hl hx;obtain⟨g',h1,h2⟩:=iR l g H hw λo ho=>.inl (a1 o ho);exact⟨g',h1,(a2 g' h2).strip⟩
 cases h
end
section
variable {P:CU}{ab:cu}{g:G}{H:LO}{w w':BL}{ρ:LA}{a:Act}
variable {dst:Option Tmp}{type:BP}{pos:String}{after:Array OO}{guard:Option (Nat×Bool)}
structure F0(P:CU)(w:BL)(k:Nat)(x:BE)(n:Nat)(news:List BE):Prop where
 len:∀w2,(Ba x).run P w2=.ok n w2
 cells:∀w2:BL,w2.heap=w.heap->(DY k n x).run P w2=.ok news.toArray w2
 size:news.length=n*k
def gN(hw:WF g H w){k:Nat}{v:AV}{new:List LA}(h:bIz H v=N1 new)(hh:dF k new=Pa){x:BE}(hx:ai g v x):∃news,F0 P w k x new.length news/\bz g k new news/\new.all (λr=>r.all AV.ak)=true:=by
 have viaRows:∀v,dO H v=N1 new->ai g v x->∃news,F0 P w k x new.length news/\bz g k new news/\new.all (λr=>r.all AV.ak)=true:=by
  intro v h hx;rcases aA7 hw h hx with⟨rfl,cap,rfl⟩ | ⟨b,off,cap,k',cells,rfl,cm,hrr,bd,bc⟩
  .exact⟨[],⟨λ_=>rfl,λ_ _=>rfl,siT⟩,⟨siT,λr hr=>by simp at hr,λi j r c x h=>by simp at h⟩,rfl⟩
  have hk:=aHY hh hrr.row;have ax:cells.length=new.length*k:=by
   cases new with
   |nil=>have:=hrr.len;simpa using this
   |cons r rs=>have h1:=hrr.row r siT;have h2:=hk r siT;have:=hrr.len;rw[this];congr 1;omega
  refine⟨cells,⟨λ_=>rfl,λw2 e=>?_,ax⟩,⟨ax,hk,λi j row c y h1 h2 h3=>?_⟩,AO.2 λr hr=>bd r hr⟩
  .have:=OY (P:=P) w2 ⟨b,off,N2⟩ cells (λj v hv=>by rw[fZ];simp only[EF,e];exact bc j v hv);simp only[DY];rw[<- ax];exact this
  have pt:k'=k:=by rw[<- hrr.row row (AN h1)];exact hk row (AN h1)
  exact hrr.rel i j row c y h1 h2 (by rw[pt];exact h3)
 unfold bIz at h;split at h
 .rename_i l;cases h;obtain⟨s,rfl,hs⟩:=hx.ln;have hl:(aJ l).length=s.size:=by rw[sP hs];simp[aJ]
  have hk:l≠[]->k=1:=λbl=>by
   cases l with
   |nil=>exact Vv rfl bl
   |cons b r=>simp[aJ,dF]at hh;omega
  rw[hl];have lh:((s.extract 0 s.size).data.map λb=>EJ .u8 b.toNat)=((l.map λb=>EJ .u8 b.toNat)).toArray:=by
   apply JD;rw[GF,aFN hs];have:(l.take s.size).drop 0=l:=by rw[List.drop_zero,CH (by rw[sP hs];exact AQ _)]
   rw[this]
  refine⟨l.map λb=>EJ .u8 b.toNat,⟨λ_=>rfl,λw2 _=>?_, ?_⟩,⟨?_, ?_, ?_⟩, ?_⟩
  .simp only[DY,lh,CB]
  .by_cases bl:l=[]
   .subst bl;have:=sP hs;simp at this;simp[this]
   rw[hk bl,sP hs];simp
  .by_cases bl:l=[]
   .subst bl;simp[aJ]
   rw[hk bl];simp[aJ]
  .intro row hm;have bl:l≠[]:=λe=>by subst e;simp[aJ]at hm
   rw[hk bl];simp only[aJ,DB]at hm;obtain⟨b,_,rfl⟩:=hm;rfl
  .intro i j row c y h1 h2 h3;simp only[aJ,BN]at h1;cases hb:l[i]? with
   |none=>simp[hb]at h1
   |some b=>
    have bl:l≠[]:=λe=>by subst e;simp at hb
    simp[hb]at h1;subst h1;cases j with
    |succ j=>simp at h2
    |zero=>simp at h2;subst h2;rw[hk bl]at h3;simp only[FK,DU,BN,hb,DE,AG]at h3;subst h3;exact .int _ _
  simp[aJ,AV.ak]
 exact viaRows _ h hx
section
variable {t u e ty:BP}{i:OH}{z:BE}{d:Bb}
def eY(ht:P.underlying t=N1 (.slice e))(hu:P.underlying u=N1 d)(hd:∀k,d≠.int k)(hi:P.info? e=N1 i){base:Option IA}{sLen sCap n:Nat}{x:BE}{news:List BE}{w':BL}(hn:F0 P w i.size x n news)(ed:sLen+n<=sCap)(bd:(match base with | some a=>IB (a.add (sLen*i.size)) news | none=>(pure ():Sem Unit)).run P w=.ok () w'):(DA #[t,u] ty #[.slice base sLen sCap,x]).run P w=.ok (.slice base (sLen+n) sCap) w':=by
 cases base with
 |none=>simp only[CB,Go.Result.ok.injEq,true_and]at bd;subst bd;simp[DA,BH ht,BH hu,sizeOf,typeInfo,hi,hn.len,ed,hn.cells w rfl]
 |some a=>simp only at bd;simp[DA,BH ht,BH hu,sizeOf,typeInfo,hi,hn.len,ed,hn.cells w rfl,bd]
def iC(ht:P.underlying t=N1 (.slice e))(hu:P.underlying u=N1 d)(hd:∀k,d≠.int k)(hi:P.info? e=N1 i)(hz:i.zero=N1 z){base:Option IA}{sLen sCap n:Nat}{x:BE}{news dt:List BE}(hn:F0 P w i.size x n news)(ho:∀w2:BL,w2.heap=w.heap->(DY i.size sLen (.slice base sLen sCap)).run P w2=.ok dt.toArray w2)(ed:sCap<sLen+n)(pc:(sLen+n)*(i.bytes+1)<=1099511627776):(DA #[t,u] ty #[.slice base sLen sCap,x]).run P w = .ok (.slice (N1 ⟨w.heap.size,0,N2⟩) (sLen+n) (grownCap w (sLen+n) sCap e)) (w.drew.alloc (.cells (dt.toArray++(news.toArray++CD z.cells (grownCap w (sLen+n) sCap e - (sLen+n)))) e)):=by have ze:¬(sLen+n<=sCap):=omT;have fo:(sLen+n)*i.bytes<=(sLen+n)*(i.bytes+1):=JC _ omT;have dp:sLen+n<=(sLen+n)*(i.bytes+1):=IC _ omT;have h63':¬(9223372036854775807<((sLen:Int)+n)):=omT;have h48:=growslice_fits (bytes:=i.bytes) omT omT;have h48':¬(281474976710656<Builtin.nextslicecap (sLen+n) sCap*i.bytes):=omT;have hf:=hn.cells w.drew rfl;have k9:=ho w.drew rfl;simp[DA,BH ht,BH hu,sizeOf,typeInfo,zeroValue,hi,hz,hn.len,ze,h63',h48',Question.forced,hf,k9,newRow,grownCap]
end
def bz.append{k:Nat}{r1 r2:List LA}{c1 c2:List BE}(h1:bz g k r1 c1)(h2:bz g k r2 c2):bz g k (r1++r2) (c1++c2):=by
 refine⟨by simp[h1.len,h2.len,CS],λrow hm=>?_,λi j row c x e1 e2 e3=>?_⟩
 .rcases AY.1 hm with h|h
  .exact h1.row row h
  exact h2.row row h
 rw[DG]at e1;have hl:=h1.len;split at e1
 .rename_i hi;have hj:j<k:=by rw[<- h1.row row (AN e1)];exact (AH.1 e2).1
  have:=eV hi hj;rw[DG,Vx omT]at e3;exact h1.rel i j row c x e1 e2 e3
 rename_i hi;have nj:r1.length*k<=i*k:=BO _ omT;rw[DG,Vw omT]at e3;refine h2.rel (i - r1.length) j row c x e1 e2 ?_;rw[IW,show i*k - r1.length*k+j=i*k+j - c1.length by omega];exact e3
end
section
variable {P:CU}{ab:cu}{g:G}{H:LO}{w w':BL}{ρ:LA}{a:Act}
variable {dst:Option Tmp}{type:BP}{pos:String}{after:Array OO}{guard:Option (Nat×Bool)}
def bz.js{k:Nat}{rows:List LA}{cells:List BE}(h:bz g k rows cells)(bd:rows.all (λr=>r.all AV.ak)=Pa):∀x∈cells,x.oneCell'=true:=by
 intro x hx;obtain⟨n,hn⟩:=CO.1 hx;have hlt:=(AH.1 hn).1;rw[h.len]at hlt;have Rj:0<k:=uWa
 have hi:n / k<rows.length:=by rw[Bl Rj];exact hlt
 have hm:n % k<k:=Bo _ Rj;have yg:=h.row rows[n / k] (AS hi);have e:n / k*k+n % k=n:=by rw[HJ];exact Bn n k
 have hv:=h.rel (n / k) (n % k) rows[n / k] (rows[n / k][n % k]'omT) x uWU (by simp) uWa;exact hv.js (AO.1 (AO.1 bd _ (AS hi)) _ (AS _))
def aWB{t u e ty:BP}{i:OH}{z:BE}{d:Bb}{S X:CA}{s x:aa}(ht:P.underlying t=N1 (.slice e))(hu:P.underlying u=N1 d)(hd:∀k,d≠.int k)(hi:P.info? e=N1 i)(hz:i.zero=N1 z)(hS:fA ab S=N1 s)(hX:fA ab X=N1 x)(su:z.cells.size=i.size){call:Nat->LA->LO->Out}{site:Option Nat}{av:AV}{H':LO}{wr:LN}(h:evW call H ρ site (.app i.size i.bytes s x)=N1 (av,H',wr))(hw:WF g H w)(hg:bM P ab g)(hs:aX g ρ a.tmps):aA8 P ⟨dst,.call { callee:=.builtin .append,args := #[S,X],argTypes := #[t,u] },ty,pos,after,guard⟩ a w λv w'=>∃g',Step g H w g' H' w' wr/\ai g' av v:=by
 have sy:=bIw hS hg hs;have hrx:=bIw hX hg hs;have fin:∀v w',(DA #[t,u] ty #[a.eval S,a.eval X]).run P w=.ok v w'->(∃g',Step g H w g' H' w' wr/\ai g' av v) ->
   aA8 P ⟨dst,.call { callee:=.builtin .append,args := #[S,X],argTypes := #[t,u] },ty,pos,after,guard⟩ a w λv w'=>∃g',Step g H w g' H' w' wr/\ai g' av v:=λv w' hr hR=>.inl ⟨v,w',uWM,hR⟩
 simp only[evW,eX]at h;split at h
 .cases h
 rename_i new wx;split at h
 .cases h
 rename_i nq;have xi:dF i.size new=true:=uWa
 obtain⟨news,hN,hrr,dq⟩:=gN (P:=P) hw wx xi hrx;generalize s.ev ρ=sv at h sy;split at h
 .split at h
  .rename_i ja;cases h;have gq:new=[]:=uWa
   subst gq;have lh:news=[]:=DP (by have:=hN.size;grind);subst lh;generalize th:a.eval S=sval at sy;cases sy;refine fin _ w ?_ ⟨g,.refl hw,.ar⟩;rw[th];exact eY ht hu hd hi hN siT siT
  rename_i ja;split at h
  .rename_i ed;simp only[bP,decide_eq_true_eq]at ed;split at h
   .rename_i id;split at h
    .rename_i hid;cases h;have kj:0<new.length:=by
      grind
     generalize th:a.eval S=sval at sy;cases sy;have ej:=iC (w:=w) (P:=P) (ty:=ty) ht hu hd hi hz (base:=N2) (sLen:=0) (sCap:=0) (dt:=[]) hN (λ_ _=>rfl) omT uWa;have cm:=IG w (0+new.length) 0 e;obtain⟨g',h1,h2⟩:=Step.Py (w':=w.drew.alloc (.cells (([]:List BE).toArray++(news.toArray++CD z.cells (grownCap w (0+new.length) 0 e - (0+new.length)))) e)) hw hid (t:=e) rfl
      (k:=i.size) (cap:=grownCap w (0+new.length) 0 e) (rows:=new)
      (by
       have:((([]:List BE).toArray++(news.toArray++CD z.cells (grownCap w (0+new.length) 0 e - (0+new.length)))).toList).take (new.length*i.size)=news:=by
        simp only[EK,CW];rw[<- hrr.len]
        grind
       grind)
      dq omT
      (by
       have h2:=hrr.len;simp only[FP,FT,HF,su,h2,AZ,<- CS,BC]
       grind)
     grind
    cases h
   cases h
  cases h
 .rename_i full rows;split at h
  .rename_i ja;cases h;have gq:new=[]:=uWa
   subst gq;have lh:news=[]:=DP (by have:=hN.size;grind);subst lh;rcases sy.ov with⟨er,es⟩ | ⟨b,off,cap,k,es,cm,_⟩
   .refine fin _ w ?_ ⟨g,.refl hw,es ▸ sy⟩;rw[es];exact eY ht hu hd hi hN siT siT
   refine fin _ w ?_ ⟨g,.refl hw,es ▸ sy⟩;rw[es];exact eY ht hu hd hi hN uWa (by simp[IB])
  rename_i ja;split at h
  .rename_i hc;simp only[AI]at hc;obtain⟨⟨hfu,hhr⟩,ed⟩:=hc;simp only[bP,decide_eq_true_eq]at ed;split at h
   .rename_i id;split at h
    .rename_i hid;cases h;have kj:0<new.length:=by
      grind
     have key:∀(base:Option IA)(sCap:Nat)(dt:List BE),a.eval S=.slice base rows.length sCap->sCap=rows.length->bz g i.size rows dt->rows.all (λr=>r.all AV.ak)=Pa ->
       (∀w2:BL,w2.heap=w.heap->(DY i.size rows.length (.slice base rows.length sCap)).run P w2=.ok dt.toArray w2) ->
       aA8 P ⟨dst,.call { callee:=.builtin .append,args := #[S,X],argTypes := #[t,u] },ty,pos,after,guard⟩ a w λv w'=>∃g',Step g H w g' (make H id (.vec · i.size (rows++new))) w' [id]/\ai g' (.sr id (bH H id) (rows.length+new.length)) v:=by
      intro base sCap dt es hsc il bd ho;have ej:=iC (ty:=ty) ht hu hd hi hz hN ho omT ed;have cm:=IG w (rows.length+new.length) sCap e;have da:=il.append hrr;have ax:(rows++new).length=rows.length+new.length:=siT;have ym:=da.len;obtain⟨g',h1,h2⟩:=Step.Py (w':=w.drew.alloc (.cells (dt.toArray++(news.toArray++CD z.cells (grownCap w (rows.length+new.length) sCap e - (rows.length+new.length)))) e)) hw hid (t:=e) rfl
       (k:=i.size) (cap:=grownCap w (rows.length+new.length) sCap e) (rows:=rows++new)
       (by
        grind)
       uWa omT
       (by
        have h1:=il.len;have h2:=hrr.len;simp only[FP,FT,HF,su,h1,h2,<- CS]
        grind)
      grind
     rcases sy.ov with⟨er,es⟩ | ⟨b,off,cap,k,es,cm,jo,hk,bd,hp,dj⟩
     .subst er;exact key N2 0 [] es rfl ⟨siT,λr hr=>by simp at hr,λi j r c x h=>by simp at h⟩ rfl (λ_ _=>rfl)
     obtain⟨news',Dv,hrr',hst'⟩:=gN (P:=P) (v:=.sl full rows) hw rfl hhr (es ▸ sy);exact key _ cap news' es (jo hfu) hrr' hst' Dv.cells
    cases h
   cases h
  cases h
 .rename_i o v n;split at h
  .rename_i v' k' rows hH;split at h
   .rename_i hc;obtain⟨rfl,ax,rfl,ed⟩:=hc;simp only[bP,decide_eq_true_eq]at ed;generalize th:a.eval S=sval at sy;cases sy with
    |sr o v n l b cap hl hv hn jg hh=>
     have bd:l.st=v':=by have:=hw.st o _ l hH hl;simp only[ah.ver]at this;omega
     have hb:au g H o l (.vec v' i.size rows):=⟨hH,rfl,hl,bd⟩;obtain⟨h0,ow,cm,dr,hk,eh,bc⟩:=hw.obj o l _ hb;obtain⟨rfl,rfl⟩:=hh bd omT;split at h
     .rename_i ja;cases h;have gq:new=[]:=uWa
      subst gq;have lh:news=[]:=DP (by have:=hN.size;grind);subst lh;refine fin (.slice (N1 ⟨l.b,0,N2⟩) n l.cap) w ?_ ⟨g,.refl hw,.sr o v' n l _ _ hl hv hn jg hh⟩;rw[th];exact eY ht hu hd hi hN soT (by simp[IB])
     rename_i ja;cases h;have kj:0<new.length:=uWa
     have hhr:dF i.size rows=true:=by
      cases rows with
      |nil=>rfl
      |cons r rs=>simpa [dF]using hk r siT
     have J9:ai g (.sr o v' rows.length) (.slice (N1 ⟨l.b,0,N2⟩) rows.length l.cap):=by rw[ax];exact .sr o v' n l _ _ hl hv hn jg hh
     obtain⟨dt,hO,il,hrst⟩:=gN (P:=P) (v:=.sr o v' rows.length) hw (by simp[bIz,dO,hH]) hhr J9;have da:=il.append hrr;have mf:(rows++new).all (λr=>r.all AV.ak)=true:=uWa
     have gz:(rows++new).length=n+new.length:=soT;by_cases pc:n+new.length<=l.cap
     ·
      have Rk:(n+new.length)*i.size<=l.cap*i.size:=BO _ pc;rw[CS]at Rk;have O4:=hrr.len;have K1:=il.len;rw[ax]at K1;have iv:∀j,j<news.length->(w.cell? ⟨l.b,n*i.size+j,N2⟩).isSome=true:=λj hj=>eh _ omT;obtain⟨lq,nu⟩:=lE l.b news (n*i.size) w;have ud:∀y∈news,y.oneCell'=true:=hrr.js dq;have Pt:=GH (P:=P) l.b (n*i.size) news 0 w uWa (by intro j hj;exact dr _ uWa) ud;refine fin (.slice (N1 ⟨l.b,0,N2⟩) (n+new.length) l.cap) (w.setCells l.b (n*i.size) news) ?_ ⟨g.setObj o { l with len:=n+new.length },Step.update hw o _ _ (hw.lt o l hl) uWa (λb _ bl=>nu b (Ne.symm (bl l _ hb))) (by rw[lq];exact hw.blk o l hl)
        (.inr ⟨l,_,hb,rfl⟩) bd rfl (λl0 sz=>by grind)
        (λhle=>⟨gz.symm,ow,uWa,λj hj=>?_,da.row,λj hj=>?_,λi' j row c h1 h2=>?_⟩) (nY _ _ _ _),.sr o v' _ { l with len:=n+new.length } _ _ uWT uWa (λ_=>AQ _) uWa λ_ _=>⟨rfl,rfl⟩⟩
      .rw[th];exact eY ht hu hd hi hN pc (by simp only[fZ,BC];grind)
      .show (w.setCells l.b (n*i.size) news).frozen? _=Po;rw[EI];refine dr j ?_;by_cases hr:n*i.size<=j/\j<n*i.size+news.length
       .grind
       have tt:((w.setCells l.b (n*i.size) news).cell? ⟨l.b,j,N2⟩).isSome=true:=hj
       rwa [BV l.b news (n*i.size) w ⟨l.b,j,N2⟩ (λ_ _=>soT)]at tt
      .show ((w.setCells l.b (n*i.size) news).cell? ⟨l.b,j,N2⟩).isSome=Pa;by_cases hr:n*i.size<=j/\j<n*i.size+news.length
       .have:=CQ l.b news (n*i.size) w iv (j - n*i.size) omT
        grind
       rw[BV l.b news (n*i.size) w ⟨l.b,j,N2⟩ (λ_ _=>soT)]
       grind
      have nr:i'<(rows++new).length:=(AH.1 h1).1;have nh:j<i.size:=by rw[<- da.row row (AN h1)];grind
      have hlt:=eV nr nh;rw[gz,CS]at hlt;have hs:=AO.1 (AO.1 mf row (AN h1)) c (AN h2);refine⟨hs, ?_⟩;show ∃x,(w.setCells l.b (n*i.size) news).cell? ⟨l.b,i'*i.size+j,N2⟩=N1 x/\_;rw[DG]at h1;split at h1
      .rename_i Xc;have cr:=eV Xc nh;rw[ax]at cr;rw[BV l.b news (n*i.size) w ⟨l.b,i'*i.size+j,N2⟩ (λ_ _=>soT)];obtain⟨_,y,hy,hr⟩:=bc i' j row c h1 h2;exact⟨y,hy,hr.mono hle⟩
      rename_i Xc;have nj:rows.length*i.size<=i'*i.size:=BO _ omT;rw[ax]at nj;have K2:i'*i.size+j - n*i.size<news.length:=omT;have:=CQ l.b news (n*i.size) w iv (i'*i.size+j - n*i.size) K2;rw[show n*i.size+(i'*i.size+j - n*i.size)=i'*i.size+j by omega]at this;refine⟨_,this,(hrr.rel (i' - rows.length) j row c _ h1 h2 ?_).mono hle⟩;rw[IW,ax,show i'*i.size - n*i.size+j=i'*i.size+j - n*i.size by omega];simp[K2]
     ·
      have ej:=iC (w:=w) (P:=P) (ty:=ty) ht hu hd hi hz (sLen:=n) (sCap:=l.cap) (base:=N1 ⟨l.b,0,N2⟩) (dt:=dt) hN (by intro w2 e;have:=hO.cells w2 e;grind) omT ed;have vk:=IG w (n+new.length) l.cap e;have ym:=da.len;generalize hW:w.drew.alloc (.cells (dt.toArray++(news.toArray++CD z.cells (grownCap w (n+new.length) l.cap e - (n+new.length)))) e)=W at ej;have rf:W.heap=w.heap.push (.cells (dt.toArray++(news.toArray++CD z.cells (grownCap w (n+new.length) l.cap e - (n+new.length)))) e):=by rw[<- hW];rfl
      have u5:W.os=w.os/\W.output=w.output:=by rw[<- hW];exact⟨rfl,rfl⟩
      have gm:(dt.toArray++(news.toArray++CD z.cells (grownCap w (n+new.length) l.cap e - (n+new.length)))).toList.take ((rows++new).length*i.size)=dt++news:=uWa
      have gd:(dt.toArray++(news.toArray++CD z.cells (grownCap w (n+new.length) l.cap e - (n+new.length)))).size=grownCap w (n+new.length) l.cap e*i.size:=by
       have h1:=il.len;have h2:=hrr.len;rw[ax]at h1;simp only[FP,FT,HF,su,h1,h2,<- CS]
       grind
      generalize ru:(dt.toArray++(news.toArray++CD z.cells (grownCap w (n+new.length) l.cap e - (n+new.length))))=C at rf gm gd;refine fin (.slice (N1 ⟨w.heap.size,0,N2⟩) (n+new.length) (grownCap w (n+new.length) l.cap e)) W uWa ⟨g.setObj o ⟨w.heap.size,v',n+new.length,i.size,grownCap w (n+new.length) l.cap e⟩,Step.update hw o _ _ (hw.lt o l hl) (by rw[rf];simp) (λb du _=>cK rf du) (by rw[rf];simp)
        (.inl (AQ _)) rfl rfl (λl0 sz=>by grind)
        (λhle=>⟨gz.symm,rfl,uWa,wV rf,da.row,λj hj=>?_,λi' j row c h1 h2=>?_⟩) u5,.sr o v' _ _ _ _ (by simp[G.setObj];rfl) (AQ _) (λ_=>AQ _) uWa λ_ _=>⟨rfl,rfl⟩⟩
      .rw[kD rf]
       grind
      have nr:i'<(rows++new).length:=(AH.1 h1).1;have nh:j<i.size:=by rw[<- da.row row (AN h1)];grind
      have hlt:=eV nr nh;have hs:=AO.1 (AO.1 mf row (AN h1)) c (AN h2);have iq:i'*i.size+j<(dt++news).length:=uWa
      refine⟨hs,(dt++news)[i'*i.size+j], ?_,(da.rel i' j row c _ h1 h2 siT).mono hle⟩;rw[kD rf]
      grind
   cases h
  cases h
 .rename_i o v n ft;split at h
  .rename_i v' k' rows hH;split at h
   .rename_i hc;cases h;obtain⟨rfl,ax,rfl,hle0,ed⟩:=hc;simp only[bP,decide_eq_true_eq]at ed;generalize th:a.eval S=sval at sy;cases sy with
    |srw o v n hi l b cap hl hv hn tf hh=>
     have bd:l.st=v':=by have:=hw.st o _ l hH hl;simp only[ah.ver]at this;omega
     have hb:au g H o l (.vec v' i.size rows):=⟨hH,rfl,hl,bd⟩;obtain⟨h0,ow,cm,dr,hk,eh,bc⟩:=hw.obj o l _ hb;obtain⟨rfl,rfl⟩:=hh bd omT;have hhr:dF i.size (rows.take ft)=true:=by
      cases hrw:rows.take ft with
      |nil=>rfl
      |cons r rs=>simpa [dF]using hk r (FA (by rw[hrw];simp))
     have J9:ai g (.srw o v' n ft) (.slice (N1 ⟨l.b,0,N2⟩) ft l.cap):=.srw o v' n ft l _ _ hl hv hn tf (λ_ _=>⟨rfl,rfl⟩);obtain⟨dt,hO,il,hrst⟩:=gN (P:=P) (v:=.srw o v' n ft) hw (by simp[bIz,dO,hH,ax,hle0]) hhr J9;have da:=il.append hrr;have mf:(rows.take ft++new).all (λr=>r.all AV.ak)=true:=uWa
     have hlt:(rows.take ft).length=ft:=uWa
     have gz:(rows.take ft++new).length=ft+new.length:=uWa
     have hgle:∀l':Loc,l'.st=v'+1->∀l0,g.obj o=N1 l0->l0.st<=l'.st/\(l'.st=l0.st->l0.len<=l'.len/\(l'.len=l0.len->l'=l0)):=λl' e l0 sz=>by
      grind
     by_cases pc:ft+new.length<=l.cap
     ·
      have Rk:(ft+new.length)*i.size<=l.cap*i.size:=BO _ pc;rw[CS]at Rk;have O4:=hrr.len;have K1:=il.len;rw[hlt]at K1;have iv:∀j,j<news.length->(w.cell? ⟨l.b,ft*i.size+j,N2⟩).isSome=true:=λj hj=>eh _ omT;obtain⟨lq,nu⟩:=lE l.b news (ft*i.size) w;have ud:∀y∈news,y.oneCell'=true:=hrr.js dq;have Pt:=GH (P:=P) l.b (ft*i.size) news 0 w uWa (by intro j hj;exact dr _ uWa) ud;refine fin (.slice (N1 ⟨l.b,0,N2⟩) (ft+new.length) l.cap) (w.setCells l.b (ft*i.size) news) ?_ ⟨g.setObj o { l with len:=ft+new.length,st:=v'+1 },Step.update hw o _ _ (hw.lt o l hl) uWa (λb _ bl=>nu b (Ne.symm (bl l _ hb))) (by rw[lq];exact hw.blk o l hl)
        (.inr ⟨l,_,hb,rfl⟩) rfl rfl (hgle _ rfl)
        (λhle=>⟨gz.symm,ow,uWa,λj hj=>?_,da.row,λj hj=>?_,λi' j row c h1 h2=>?_⟩) (nY _ _ _ _),.sr o (v'+1) _ { l with len:=ft+new.length,st:=v'+1 } _ _ uWT (AQ _) (λ_=>AQ _) uWa λ_ _=>⟨rfl,rfl⟩⟩
      .rw[th];exact eY ht hu hd hi hN pc (by simp only[fZ,BC];grind)
      .show (w.setCells l.b (ft*i.size) news).frozen? _=Po;rw[EI];refine dr j ?_;by_cases hr:ft*i.size<=j/\j<ft*i.size+news.length
       .grind
       have tt:((w.setCells l.b (ft*i.size) news).cell? ⟨l.b,j,N2⟩).isSome=true:=hj
       rwa [BV l.b news (ft*i.size) w ⟨l.b,j,N2⟩ (λ_ _=>soT)]at tt
      .show ((w.setCells l.b (ft*i.size) news).cell? ⟨l.b,j,N2⟩).isSome=Pa;by_cases hr:ft*i.size<=j/\j<ft*i.size+news.length
       .have:=CQ l.b news (ft*i.size) w iv (j - ft*i.size) omT
        grind
       rw[BV l.b news (ft*i.size) w ⟨l.b,j,N2⟩ (λ_ _=>soT)]
       grind
      have nr:i'<(rows.take ft++new).length:=(AH.1 h1).1;have nh:j<i.size:=by rw[<- da.row row (AN h1)];grind
      have Ql:=eV nr nh;rw[gz,CS]at Ql;have hs:=AO.1 (AO.1 mf row (AN h1)) c (AN h2);refine⟨hs, ?_⟩;show ∃x,(w.setCells l.b (ft*i.size) news).cell? ⟨l.b,i'*i.size+j,N2⟩=N1 x/\_;rw[DG]at h1;split at h1
      .rename_i Xc;have cr:=eV Xc nh;rw[hlt]at cr Xc;rw[BV l.b news (ft*i.size) w ⟨l.b,i'*i.size+j,N2⟩ (λ_ _=>soT)];rw[CF,Vx Xc]at h1;obtain⟨_,y,hy,hr⟩:=bc i' j row c h1 h2;exact⟨y,hy,hr.mono hle⟩
      rename_i Xc;have nj:(rows.take ft).length*i.size<=i'*i.size:=BO _ omT;rw[hlt]at nj;have K2:i'*i.size+j - ft*i.size<news.length:=omT;have:=CQ l.b news (ft*i.size) w iv (i'*i.size+j - ft*i.size) K2;rw[show ft*i.size+(i'*i.size+j - ft*i.size)=i'*i.size+j by omega]at this;refine⟨_,this,(hrr.rel (i' - (rows.take ft).length) j row c _ h1 h2 ?_).mono hle⟩;rw[IW,hlt,show i'*i.size - ft*i.size+j=i'*i.size+j - ft*i.size by omega];simp[K2]
     ·
      have ej:=iC (w:=w) (P:=P) (ty:=ty) ht hu hd hi hz (sLen:=ft) (sCap:=l.cap) (base:=N1 ⟨l.b,0,N2⟩) (dt:=dt) hN
       (by intro w2 e;have:=hO.cells w2 e;grind) omT ed
      have vk:=IG w (ft+new.length) l.cap e;have ym:=da.len;generalize hW:w.drew.alloc (.cells (dt.toArray++(news.toArray++CD z.cells (grownCap w (ft+new.length) l.cap e - (ft+new.length)))) e)=W at ej;have rf:W.heap=w.heap.push (.cells (dt.toArray++(news.toArray++CD z.cells (grownCap w (ft+new.length) l.cap e - (ft+new.length)))) e):=by rw[<- hW];rfl
      have u5:W.os=w.os/\W.output=w.output:=by rw[<- hW];exact⟨rfl,rfl⟩
      have gm:(dt.toArray++(news.toArray++CD z.cells (grownCap w (ft+new.length) l.cap e - (ft+new.length)))).toList.take ((rows.take ft++new).length*i.size)=dt++news:=uWa
      have gd:(dt.toArray++(news.toArray++CD z.cells (grownCap w (ft+new.length) l.cap e - (ft+new.length)))).size=grownCap w (ft+new.length) l.cap e*i.size:=by
       have h1:=il.len;have h2:=hrr.len;rw[hlt]at h1;simp only[FP,FT,HF,su,h1,h2,<- CS]
       grind
      generalize ru:(dt.toArray++(news.toArray++CD z.cells (grownCap w (ft+new.length) l.cap e - (ft+new.length))))=C at rf gm gd;refine fin (.slice (N1 ⟨w.heap.size,0,N2⟩) (ft+new.length) (grownCap w (ft+new.length) l.cap e)) W uWa ⟨g.setObj o ⟨w.heap.size,v'+1,ft+new.length,i.size,grownCap w (ft+new.length) l.cap e⟩,Step.update hw o _ _ (hw.lt o l hl) (by rw[rf];simp) (λb du _=>cK rf du) (by rw[rf];simp)
        (.inl (AQ _)) rfl rfl (hgle _ rfl)
        (λhle=>⟨gz.symm,rfl,uWa,wV rf,da.row,λj hj=>?_,λi' j row c h1 h2=>?_⟩) u5,.sr o (v'+1) _ _ _ _ (by simp[G.setObj];rfl) (AQ _) (λ_=>AQ _) uWa λ_ _=>⟨rfl,rfl⟩⟩
      .rw[kD rf]
       grind
      have nr:i'<(rows.take ft++new).length:=(AH.1 h1).1;have nh:j<i.size:=by rw[<- da.row row (AN h1)];grind
      have Ql:=eV nr nh;have hs:=AO.1 (AO.1 mf row (AN h1)) c (AN h2);have iq:i'*i.size+j<(dt++news).length:=uWa
      refine⟨hs,(dt++news)[i'*i.size+j], ?_,(da.rel i' j row c _ h1 h2 siT).mono hle⟩;rw[kD rf]
      grind
   cases h
  cases h
 cases h
def aWC{t u e ty:BP}{i:OH}{z:BE}{d:Bb}{S X:CA}{s x:aa}(ht:P.underlying t=N1 (.slice e))(hu:P.underlying u=N1 d)(hd:∀k,d≠.int k)(hi:P.info? e=N1 i)(hz:i.zero=N1 z)(hS:fA ab S=N1 s)(hX:fA ab X=N1 x)(su:z.cells.size=i.size){call:Nat->LA->LO->Out}{site:Option Nat}{av:AV}{H':LO}{wr:LN}(h:evW call H ρ site (.ni e i.size i.bytes s x)=N1 (av,H',wr))(hw:WF g H w)(hg:bM P ab g)(hs:aX g ρ a.tmps):aA8 P ⟨dst,.call { callee:=.builtin .append,args := #[S,X],argTypes := #[t,u] },ty,pos,after,guard⟩ a w λv w'=>∃g',Step g H w g' H' w' wr/\ai g' av v:=by
 have sy:=bIw hS hg hs;have hrx:=bIw hX hg hs;have fin:∀v w',(DA #[t,u] ty #[a.eval S,a.eval X]).run P w=.ok v w'->(∃g',Step g H w g' H' w' wr/\ai g' av v) ->
   aA8 P ⟨dst,.call { callee:=.builtin .append,args := #[S,X],argTypes := #[t,u] },ty,pos,after,guard⟩ a w λv w'=>∃g',Step g H w g' H' w' wr/\ai g' av v:=λv w' hr hR=>.inl ⟨v,w',uWM,hR⟩
 simp only[evW,vB]at h;split at h
 .cases h
 rename_i new wx;split at h
 .cases h
 rename_i nq;have xi:dF i.size new=true:=uWa
 obtain⟨news,hN,hrr,dq⟩:=gN (P:=P) hw wx xi hrx;generalize s.ev ρ=sv at h sy;split at h
 .split at h
  .rename_i ja;cases h;have gq:new=[]:=uWa
   subst gq;have lh:news=[]:=DP (by have:=hN.size;grind);subst lh;generalize th:a.eval S=sval at sy;cases sy;refine fin _ w ?_ ⟨g,.refl hw,.ar⟩;rw[th];exact eY ht hu hd hi hN siT siT
  rename_i ja;split at h
  .rename_i ed;simp only[bP,decide_eq_true_eq]at ed;split at h
   .rename_i id;split at h
    .rename_i hid;cases h;have kj:0<new.length:=by
      grind
     generalize th:a.eval S=sval at sy;cases sy;have ej:=iC (w:=w) (P:=P) (ty:=ty) ht hu hd hi hz (base:=N2) (sLen:=0) (sCap:=0) (dt:=[]) hN (λ_ _=>rfl) omT uWa;have cm:=IG w (0+new.length) 0 e;obtain⟨g',h1,h2⟩:=Step.yk (w':=w.drew.alloc (.cells (([]:List BE).toArray++(news.toArray++CD z.cells (grownCap w (0+new.length) 0 e - (0+new.length)))) e)) hw hid (t:=e) rfl
      (k:=i.size) (cap:=grownCap w (0+new.length) 0 e) (rows:=new)
      (by
       have:((([]:List BE).toArray++(news.toArray++CD z.cells (grownCap w (0+new.length) 0 e - (0+new.length)))).toList).take (new.length*i.size)=news:=by
        simp only[EK,CW];rw[<- hrr.len]
        grind
       grind)
      dq omT
      (by
       have h2:=hrr.len;simp only[FP,FT,HF,su,h2,AZ,<- CS,BC]
       grind)
     grind
    cases h
   cases h
  cases h
 .rename_i o v n;split at h
  .rename_i v' ty' k' rows hH;split at h
   .rename_i hc;obtain⟨rfl,ax,rfl,hty,ed⟩:=hc;subst ty';simp only[bP,decide_eq_true_eq]at ed;generalize th:a.eval S=sval at sy;cases sy with
    |sr o v n l b cap hl hv hn jg hh=>
     have bd:l.st=v':=by have:=hw.st o _ l hH hl;simp only[ah.ver]at this;omega
     have hb:au g H o l (.oz v' e i.size rows):=⟨hH,rfl,hl,bd⟩;obtain⟨⟨h0,ow,cm,dr,hk,eh,bc⟩,cs0,ld⟩:=hw.obj o l _ hb;obtain⟨rfl,rfl⟩:=hh bd omT;split at h
     .rename_i ja;cases h;have gq:new=[]:=uWa
      subst gq;have lh:news=[]:=DP (by have:=hN.size;grind);subst lh;refine fin (.slice (N1 ⟨l.b,0,N2⟩) n l.cap) w ?_ ⟨g,.refl hw,.sr o v' n l _ _ hl hv hn jg hh⟩;rw[th];exact eY ht hu hd hi hN soT (by simp[IB])
     rename_i ja;cases h;have kj:0<new.length:=uWa
     have hhr:dF i.size rows=true:=by
      cases rows with
      |nil=>rfl
      |cons r rs=>simpa [dF]using hk r siT
     have J9:ai g (.sr o v' rows.length) (.slice (N1 ⟨l.b,0,N2⟩) rows.length l.cap):=by rw[ax];exact .sr o v' n l _ _ hl hv hn jg hh
     obtain⟨dt,hO,il,hrst⟩:=gN (P:=P) (v:=.sr o v' rows.length) hw (by simp[bIz,dO,hH]) hhr J9;have da:=il.append hrr;have mf:(rows++new).all (λr=>r.all AV.ak)=true:=uWa
     have gz:(rows++new).length=n+new.length:=soT;by_cases pc:n+new.length<=l.cap
     ·
      have Rk:(n+new.length)*i.size<=l.cap*i.size:=BO _ pc;rw[CS]at Rk;have O4:=hrr.len;have K1:=il.len;rw[ax]at K1;have iv:∀j,j<news.length->(w.cell? ⟨l.b,n*i.size+j,N2⟩).isSome=true:=λj hj=>eh _ omT;obtain⟨lq,nu⟩:=lE l.b news (n*i.size) w;have ud:∀y∈news,y.oneCell'=true:=hrr.js dq;have Pt:=GH (P:=P) l.b (n*i.size) news 0 w uWa (by intro j hj;exact dr _ uWa) ud;refine fin (.slice (N1 ⟨l.b,0,N2⟩) (n+new.length) l.cap) (w.setCells l.b (n*i.size) news) ?_ ⟨g.setObj o { l with len:=n+new.length },Step.update hw o _ _ (hw.lt o l hl) uWa (λb _ bl=>nu b (Ne.symm (bl l _ hb))) uWa
        (.inr ⟨l,_,hb,rfl⟩) bd rfl (λl0 sz=>by grind)
        (λhle=>⟨⟨gz.symm,ow,uWa,λj hj=>?_,da.row,λj hj=>?_,λi' j row c h1 h2=>?_⟩,let ⟨cs',q,_⟩:=tO l.b news (n*i.size) w cs0 _ (0,0) ld;⟨cs',q⟩⟩) (nY _ _ _ _),.sr o v' _ { l with len:=n+new.length } _ _ uWT uWa (λ_=>AQ _) uWa λ_ _=>⟨rfl,rfl⟩⟩
      .rw[th];exact eY ht hu hd hi hN pc (by simp only[fZ,BC];grind)
      .show (w.setCells l.b (n*i.size) news).frozen? _=Po;rw[EI];refine dr j ?_;by_cases hr:n*i.size<=j/\j<n*i.size+news.length
       .grind
       have tt:((w.setCells l.b (n*i.size) news).cell? ⟨l.b,j,N2⟩).isSome=true:=hj
       rwa [BV l.b news (n*i.size) w ⟨l.b,j,N2⟩ (λ_ _=>soT)]at tt
      .show ((w.setCells l.b (n*i.size) news).cell? ⟨l.b,j,N2⟩).isSome=Pa;by_cases hr:n*i.size<=j/\j<n*i.size+news.length
       .have:=CQ l.b news (n*i.size) w iv (j - n*i.size) omT
        grind
       rw[BV l.b news (n*i.size) w ⟨l.b,j,N2⟩ (λ_ _=>soT)]
       grind
      have nr:i'<(rows++new).length:=(AH.1 h1).1;have nh:j<i.size:=by rw[<- da.row row (AN h1)];grind
      have hlt:=eV nr nh;rw[gz,CS]at hlt;have hs:=AO.1 (AO.1 mf row (AN h1)) c (AN h2);refine⟨hs, ?_⟩;show ∃x,(w.setCells l.b (n*i.size) news).cell? ⟨l.b,i'*i.size+j,N2⟩=N1 x/\_;rw[DG]at h1;split at h1
      .rename_i Xc;have cr:=eV Xc nh;rw[ax]at cr;rw[BV l.b news (n*i.size) w ⟨l.b,i'*i.size+j,N2⟩ (λ_ _=>soT)];obtain⟨_,y,hy,hr⟩:=bc i' j row c h1 h2;exact⟨y,hy,hr.mono hle⟩
      rename_i Xc;have nj:rows.length*i.size<=i'*i.size:=BO _ omT;rw[ax]at nj;have K2:i'*i.size+j - n*i.size<news.length:=omT;have:=CQ l.b news (n*i.size) w iv (i'*i.size+j - n*i.size) K2;rw[show n*i.size+(i'*i.size+j - n*i.size)=i'*i.size+j by omega]at this;refine⟨_,this,(hrr.rel (i' - rows.length) j row c _ h1 h2 ?_).mono hle⟩;rw[IW,ax,show i'*i.size - n*i.size+j=i'*i.size+j - n*i.size by omega];simp[K2]
     ·
      have ej:=iC (w:=w) (P:=P) (ty:=ty) ht hu hd hi hz (sLen:=n) (sCap:=l.cap) (base:=N1 ⟨l.b,0,N2⟩) (dt:=dt) hN (by intro w2 e;have:=hO.cells w2 e;grind) omT ed;have vk:=IG w (n+new.length) l.cap e;have ym:=da.len;generalize hW:w.drew.alloc (.cells (dt.toArray++(news.toArray++CD z.cells (grownCap w (n+new.length) l.cap e - (n+new.length)))) e)=W at ej;have rf:W.heap=w.heap.push (.cells (dt.toArray++(news.toArray++CD z.cells (grownCap w (n+new.length) l.cap e - (n+new.length)))) e):=by rw[<- hW];rfl
      have u5:W.os=w.os/\W.output=w.output:=by rw[<- hW];exact⟨rfl,rfl⟩
      have gm:(dt.toArray++(news.toArray++CD z.cells (grownCap w (n+new.length) l.cap e - (n+new.length)))).toList.take ((rows++new).length*i.size)=dt++news:=uWa
      have gd:(dt.toArray++(news.toArray++CD z.cells (grownCap w (n+new.length) l.cap e - (n+new.length)))).size=grownCap w (n+new.length) l.cap e*i.size:=by
       have h1:=il.len;have h2:=hrr.len;rw[ax]at h1;simp only[FP,FT,HF,su,h1,h2,<- CS]
       grind
      generalize ru:(dt.toArray++(news.toArray++CD z.cells (grownCap w (n+new.length) l.cap e - (n+new.length))))=C at rf gm gd;refine fin (.slice (N1 ⟨w.heap.size,0,N2⟩) (n+new.length) (grownCap w (n+new.length) l.cap e)) W uWa ⟨g.setObj o ⟨w.heap.size,v',n+new.length,i.size,grownCap w (n+new.length) l.cap e⟩,Step.update hw o _ _ (hw.lt o l hl) (by rw[rf];simp) (λb du _=>cK rf du) (by rw[rf];simp)
        (.inl (AQ _)) rfl rfl (λl0 sz=>by grind)
        (λhle=>⟨⟨gz.symm,rfl,uWa,wV rf,da.row,λj hj=>?_,λi' j row c h1 h2=>?_⟩,C,by rw[rf];simp⟩) u5,.sr o v' _ _ _ _ (by simp[G.setObj];rfl) (AQ _) (λ_=>AQ _) uWa λ_ _=>⟨rfl,rfl⟩⟩
      .rw[kD rf]
       grind
      have nr:i'<(rows++new).length:=(AH.1 h1).1;have nh:j<i.size:=by rw[<- da.row row (AN h1)];grind
      have hlt:=eV nr nh;have hs:=AO.1 (AO.1 mf row (AN h1)) c (AN h2);have iq:i'*i.size+j<(dt++news).length:=uWa
      refine⟨hs,(dt++news)[i'*i.size+j], ?_,(da.rel i' j row c _ h1 h2 siT).mono hle⟩;rw[kD rf]
      grind
   cases h
  cases h
 cases h
def aTv{α:Type}{l m:List α}{a:Nat}(h:a+m.length<=l.length) i:(l.take a++m++l.drop (a+m.length))[i]? = if a<=i/\i<a+m.length then m[i - a]? else l[i]? := by
 have ha:(l.take a).length=a:=soT
 grind
def bMe(hw:WF g H w){k:Nat}{v:AV}{new:List LA}(h:dO H v=N1 new)(hh:dF k new=Pa){x:BE}(hx:ai g v x){m:Nat}(hm:m<=new.length):∃news,(∀w2,(Ba x).run P w2=.ok new.length w2)/\(DY k m x).run P w=.ok news.toArray w/\bz g k (new.take m) news/\(new.take m).all (λr=>r.all AV.ak)=true:=by
 rcases aA7 hw h hx with⟨rfl,cap,rfl⟩ | ⟨b,off,cap,k',cells,rfl,cm,hrr,bd,bc⟩
 .exact⟨[],λ_=>rfl,rfl,⟨siT,λr hr=>by simp at hr,λi j r c x h=>by simp at h⟩,siT⟩
 have hk:=aHY hh hrr.row;have ax:cells.length=new.length*k:=by
  cases new with
  |nil=>have:=hrr.len;simpa using this
  |cons r rs=>have h1:=hrr.row r siT;have h2:=hk r siT;have:=hrr.len;rw[this];congr 1;omega
 have hmk:m*k<=cells.length:=by rw[ax];exact BO _ hm
 refine⟨cells.take (m*k),λ_=>rfl, ?_,⟨?_,λr hr=>hk r (FA hr),λi j row c y h1 h2 h3=>?_⟩,AO.2 λr hr=>bd r (FA hr)⟩
 .have:=OY (P:=P) w ⟨b,off,N2⟩ (cells.take (m*k)) (λj v hv=>by
   rw[CF]at hv;split at hv
   .rw[fZ];exact bc j v hv
   cases hv)
  simp only[DY];rw[HB,Gy hmk]at this;exact this
 .simp[Gy hm,Gy hmk]
 rw[CF]at h1;split at h1
 .have pt:k'=k:=by rw[<- hrr.row row (AN h1)];exact hk row (AN h1)
  rw[CF]at h3;split at h3
  .exact hrr.rel i j row c y h1 h2 (by rw[pt];exact h3)
  cases h3
 cases h1
def bA0{t u e ty:BP}{k:Nat}{X Y:CA}{x y:aa}(ht:P.underlying t=N1 (.slice e))(gd:size? P e=N1 k)(hX:fA ab X=N1 x)(hY:fA ab Y=N1 y){call:Nat->LA->LO->Out}{site:Option Nat}{av:AV}{H':LO}{wr:LN}(h:evW call H ρ site (.cpy k x y)=N1 (av,H',wr))(hw:WF g H w)(hg:bM P ab g)(hs:aX g ρ a.tmps):aA8 P ⟨dst,.call { callee:=.builtin .copy,args := #[X,Y],argTypes := #[t,u] },ty,pos,after,guard⟩ a w λv w'=>∃g',Step g H w g' H' w' wr/\ai g' av v:=by
 have hrx:=bIw hX hg hs;have hry:=bIw hY hg hs;have fin:∀v w',(KJ #[t,u] ty #[a.eval X,a.eval Y]).run P w=.ok v w'->(∃g',Step g H w g' H' w' wr/\ai g' av v) ->
   aA8 P ⟨dst,.call { callee:=.builtin .copy,args := #[X,Y],argTypes := #[t,u] },ty,pos,after,guard⟩ a w λv w'=>∃g',Step g H w g' H' w' wr/\ai g' av v:=λv w' hr hR=>.inl ⟨v,w',uWM,hR⟩
 simp only[evW]at h;split at h
 .rename_i o v n k' lo O5;rw[O5]at hrx;split at h
  .rename_i v' k2 rows hH;split at h
   .rename_i new wx;generalize th:a.eval X=sval at hrx;cases hrx with
    |srv o v n k' lo l b cap hl hv hn gr hh=>
     by_cases ja:new.isEmpty=Pa
     .rw[Vx ja]at h;cases h;have gq:new=[]:=by simpa using ja
      subst gq;obtain⟨news,hN,hrr,dq⟩:=gN (P:=P) (k:=k) hw wx rfl hry;have lh:news=[]:=DP (by have:=hN.size;simpa using this);subst lh;refine fin (.int .i64 0) w ?_ ⟨g,.refl hw,.int _ _⟩;have hc:=hN.cells w rfl;have hm:Ao 0 (n - lo)=0:=Bh _;rw[th];simp only[AZ]at hN hc;simp[KJ,BH ht,hN.len,fV gd,hm,hc,IB,goInt]
     rw[Vw ja]at h;split at h
     .rename_i hc;cases h;obtain⟨rfl,ax,rfl,rfl,nq,pc⟩:=hc;obtain⟨news,hN,hrr,dq⟩:=gN (P:=P) hw wx nq hry;have kj:0<new.length:=by
       cases new with
       |nil=>simp at ja
       |cons _ _=>simp
      have bd:l.st=v':=by have:=hw.st o _ l hH hl;simp only[ah.ver]at this;omega
      have hb:au g H o l (.vec v' k' rows):=⟨hH,rfl,hl,bd⟩;obtain⟨h0,ow,cm,dr,hk,eh,bc⟩:=hw.obj o l _ hb;obtain⟨off,rfl,zd,_⟩:=hh bd omT;obtain rfl:=zd omT;have O4:=hrr.len;have hmul:lo*k'+new.length*k'<=rows.length*k':=by rw[<- CS];exact BO _ omT
      have u6:rows.length*k'<=l.cap*k':=BO _ cm;have iv:∀j,j<news.length->(w.cell? ⟨l.b,lo*k'+j,N2⟩).isSome=true:=λj hj=>eh _ omT;have ud:∀y∈news,y.oneCell'=true:=hrr.js dq;have Pt:=GH (P:=P) l.b (lo*k') news 0 w (by simpa using iv) (by intro j hj;exact dr _ (by simpa using iv j hj)) ud;refine fin (.int .i64 new.length) (w.setCells l.b (lo*k') news) ?_ ⟨g,Step.write hw hb rfl rfl ⟨?_,ow, ?_,λj hj=>?_,λr hr=>?_,λj hj=>?_,λi' j r c h1 h2=>?_⟩,.int _ _⟩
      .have hm:Ao new.length (n - lo)=new.length:=Gy omT;have hc:=hN.cells w rfl;rw[th];simp only[DU]at Pt;simp[KJ,BH ht,hN.len,fV gd,hm,hc,goInt,Pt]
      .simp;omega
      .simp;omega
      .rw[EI];refine dr j ?_;by_cases hr:lo*k'<=j/\j<lo*k'+news.length
       .have:=iv (j - lo*k') omT
        rwa [show lo*k'+(j - lo*k')=j by omega]at this
       rwa [BV l.b news (lo*k') w ⟨l.b,j,N2⟩ (λ_ _=>soT)]at hj
      .rcases AY.1 hr with hr|hr
       .rcases AY.1 hr with hr|hr
        .exact hk r (FA hr)
        exact hrr.row r hr
       exact hk r (FX hr)
      .by_cases hr:lo*k'<=j/\j<lo*k'+news.length
       .have:=CQ l.b news (lo*k') w iv (j - lo*k') omT;rw[show lo*k'+(j - lo*k')=j by omega]at this;rw[this];rfl
       rw[BV l.b news (lo*k') w ⟨l.b,j,N2⟩ (λ_ _=>soT)];exact eh j hj
      rw[aTv omT]at h1;split at h1
      .rename_i hi;have nh:j<k':=by rw[<- hrr.row r (AN h1)];exact (AH.1 h2).1
       have hs:=AO.1 (AO.1 dq r (AN h1)) c (AN h2);have hlt:=eV (show i' - lo<new.length by omega) nh;have Kb:(i' - lo)*k'=i'*k' - lo*k':=IW _ _ _;have nj:lo*k'<=i'*k':=BO _ hi.1;have:=CQ l.b news (lo*k') w iv ((i' - lo)*k'+j) omT;rw[show lo*k'+((i' - lo)*k'+j)=i'*k'+j by omega]at this;exact⟨hs,_,this,hrr.rel (i' - lo) j r c _ h1 h2 siT⟩
      rename_i hi;obtain⟨hs,y,hy,hr⟩:=bc i' j r c h1 h2;have nh:j<k':=by rw[<- hk r (AN h1)];exact (AH.1 h2).1
      refine⟨hs,y, ?_,hr⟩;rw[BV l.b news (lo*k') w ⟨l.b,i'*k'+j,N2⟩ (λ_ _=>?_)]
      .exact hy
      by_cases hlt:i'<lo
      .have:=eV hlt nh;left;simp;omega
      have:(lo+new.length)*k'<=i'*k':=BO _ omT;rw[CS]at this;right;simp;omega
     cases h
   cases h
  cases h
 .rename_i o v n O5;rw[O5]at hrx;split at h
  .rename_i v' k2 rows hH;split at h
   .rename_i new wx;generalize th:a.eval X=sval at hrx;cases hrx with
    |sr _ _ _ l b cap hl hv hn jg hh=>
     by_cases ja:new.isEmpty=Pa
     .rw[Vx ja]at h;cases h;have gq:new=[]:=by simpa using ja
      subst gq;obtain⟨news,hL,hC,hrr,dq⟩:=bMe (P:=P) (k:=k) hw wx rfl hry (m:=0) (FF _);have lh:news=[]:=DP (by have:=hrr.len;simpa using this);subst lh;refine fin (.int .i64 0) w ?_ ⟨g,.refl hw,.int _ _⟩;have hm:Ao 0 n=0:=Bh _;rw[th];simp only[AZ]at hL;simp[KJ,BH ht,hL,fV gd,hm,hC,IB,goInt]
     rw[Vw ja]at h;split at h
     .rename_i hc;cases h;obtain⟨rfl,ax,rfl,nq,gq⟩:=hc;obtain⟨news,hL,hC,hrr,dq⟩:=bMe (P:=P) hw wx nq hry (m:=Ao new.length n) (Nat.min_le_left _ _);have etk:new.take (Ao new.length n)=new.take n:=by show new.take (min new.length n)=_;rw[List.take_eq_take_iff];simp;omega
      rw[etk]at hrr dq;have kj:0<new.length:=by
       cases new with
       |nil=>simp at ja
       |cons _ _=>simp
      have bd:l.st=v':=by have:=hw.st o _ l hH hl;simp only[ah.ver]at this;omega
      have hb:au g H o l (.vec v' k2 rows):=⟨hH,rfl,hl,bd⟩;obtain⟨h0,ow,cm,dr,hk,eh,bc⟩:=hw.obj o l _ hb;obtain⟨rfl,rfl⟩:=hh bd omT;have hle0:new.length=(new.take n).length∨n=(new.take n).length:=soT;have pc:0+(new.take n).length<=n:=soT;have hmin:Ao new.length n=(new.take n).length:=by show min _ _=_;simp;omega
      generalize gr:(0:Nat)=lo at pc fin ⊢;rw[hmin]at hC;generalize new.take n=newt at *;have O4:=hrr.len;have hmul:lo*k2+newt.length*k2<=rows.length*k2:=by rw[<- CS];exact BO _ omT
      have u6:rows.length*k2<=l.cap*k2:=BO _ cm;have iv:∀j,j<news.length->(w.cell? ⟨l.b,lo*k2+j,N2⟩).isSome=true:=λj hj=>eh _ omT;have ud:∀y∈news,y.oneCell'=true:=hrr.js dq;have Pt:=GH (P:=P) l.b (lo*k2) news 0 w (by simpa using iv) (by intro j hj;exact dr _ (by simpa using iv j hj)) ud;refine fin (.int .i64 newt.length) (w.setCells l.b (lo*k2) news) ?_ ⟨g,Step.write hw hb rfl rfl ⟨?_,ow, ?_,λj hj=>?_,λr hr=>?_,λj hj=>?_,λi' j r c h1 h2=>?_⟩,.int _ _⟩
      .subst gr;rw[th];simp only[DU,Nat.zero_mul]at Pt ⊢;simp[KJ,BH ht,hL,fV gd,hmin,hC,goInt,Pt]
      .simp;omega
      .simp;omega
      .rw[EI];refine dr j ?_;by_cases hr:lo*k2<=j/\j<lo*k2+news.length
       .have:=iv (j - lo*k2) omT
        rwa [show lo*k2+(j - lo*k2)=j by omega]at this
       rwa [BV l.b news (lo*k2) w ⟨l.b,j,N2⟩ (λ_ _=>soT)]at hj
      .rcases AY.1 hr with hr|hr
       .rcases AY.1 hr with hr|hr
        .exact hk r (FA hr)
        exact hrr.row r hr
       exact hk r (FX hr)
      .by_cases hr:lo*k2<=j/\j<lo*k2+news.length
       .have:=CQ l.b news (lo*k2) w iv (j - lo*k2) omT;rw[show lo*k2+(j - lo*k2)=j by omega]at this;rw[this];rfl
       rw[BV l.b news (lo*k2) w ⟨l.b,j,N2⟩ (λ_ _=>soT)];exact eh j hj
      rw[aTv omT]at h1;split at h1
      .rename_i hi;have nh:j<k2:=by rw[<- hrr.row r (AN h1)];exact (AH.1 h2).1
       have hs:=AO.1 (AO.1 dq r (AN h1)) c (AN h2);have hlt:=eV (show i' - lo<newt.length by omega) nh;have Kb:(i' - lo)*k2=i'*k2 - lo*k2:=IW _ _ _;have nj:lo*k2<=i'*k2:=BO _ hi.1;have:=CQ l.b news (lo*k2) w iv ((i' - lo)*k2+j) omT;rw[show lo*k2+((i' - lo)*k2+j)=i'*k2+j by omega]at this;exact⟨hs,_,this,hrr.rel (i' - lo) j r c _ h1 h2 siT⟩
      rename_i hi;obtain⟨hs,y,hy,hr⟩:=bc i' j r c h1 h2;have nh:j<k2:=by rw[<- hk r (AN h1)];exact (AH.1 h2).1
      refine⟨hs,y, ?_,hr⟩;rw[BV l.b news (lo*k2) w ⟨l.b,i'*k2+j,N2⟩ (λ_ _=>?_)]
      .exact hy
      by_cases hlt:i'<lo
      .have:=eV hlt nh;left;simp;omega
      have:(lo+newt.length)*k2<=i'*k2:=BO _ omT;rw[CS]at this;right;simp;omega
     cases h
   cases h
  cases h
 cases h
end
section
variable {P:CU}{ab:cu}{g:G}{H:LO}{w w':BL}{ρ:LA}{a:Act}
variable {dst:Option Tmp}{type:BP}{pos:String}{after:Array OO}{guard:Option (Nat×Bool)}
def aCS{k:Nat}:∀(parts:List (Nat×CA))(aps:List (Nat×aa)),parts.length=aps.length->∀(g:G)(H:LO),WF g H w->(∀(j:Nat) i X i' x,parts[j]? = N1 (i,X)->aps[j]? = N1 (i',x)->i'=i/\ai g (x.ev ρ) (a.eval X)) ->∀(rows:List LA)(cells:Array BE),bz g k rows cells.toList->rows.all (λr=>r.all AV.still)=Pa->∀out H' l,nW ρ k H rows aps=N1 (out,H',l) ->∃g' dh,Step g H w g' H' w l/\FZ (λi=>N1 (i*k,k)) cells (parts.map λp=>(p.1,a.eval p.2))=N1 dh/\bz g' k out dh.toList/\out.length=rows.length/\out.all (λr=>r.all AV.still)=Pa
 | [],aps,hl,g,H,hw,_,rows,cells,hr,bd,out,H',l,h=>by
  cases aps with
  |nil=>obtain⟨rfl,rfl,rfl⟩:=h;exact⟨g,cells,.refl hw,rfl,hr,rfl,bd⟩
  |cons _ _=>simp at hl
 | (i,X)::parts,aps,hl,g,H,hw,hp,rows,cells,hr,bd,out,H',l,h=>by
  cases aps with
  |nil=>simp at hl
  |cons p aps=>
   obtain⟨i',x⟩:=p;simp only[nW]at h;split at h
   .rename_i v H1 l1 hfix;split at h
    .rename_i hc;split at h
     .rename_i bt H'' l' mz;obtain⟨rfl,rfl,rfl⟩:=h;obtain⟨h1,h2⟩:=hp 0 i X i' x rfl rfl;obtain⟨g1,bn,hv0⟩:=qO hw hfix h2;have hv:=hv0.cells (jM hc.2.2);have E4:=hv.1;simp only[DI]at E4;have gj:=hr.mono bn.le;have ax:=hr.len;simp only[DI]at ax;have hb:i'*k+k<=rows.length*k:=by
       have:(i'+1)*k<=rows.length*k:=BO _ hc.2.1
       grind
      obtain⟨rz,e1,e2⟩:=aCR (place:=λi=>N1 (i*k,k)) (cells:=cells) (i:=i') (off:=i'*k) (v:=a.eval X) (bML:=parts.map λp=>(p.1,a.eval p.2)) soT omT;have hr2:bz g1 k (rows.set i' v.cells) rz.toList:=by
       have:=gj.set hc.2.1 hv hc.1
       grind
      have q7:(rows.set i' v.cells).all (λr=>r.all AV.still)=true:=uWa
      obtain⟨g',dh,e3,e4,e5,e6,e7⟩:=aCS parts aps uWo g1 H1 bn.wf
       (λj i X o x h1 h2=>by obtain⟨a1,a2⟩:=hp (j+1) i X o x uWk uWj;exact⟨a1,a2.mono bn.le⟩) _ rz hr2 q7 _ _ _ mz
      exact⟨g',dh,bn.trans e3,uWa,e5,by rw[e6];simp,e7⟩
     cases h
    cases h
   cases h
def bA1{t e:BP}{k n:Nat}{parts:Array (Nat×CA)}{zs:LA}{aps:List (Nat×aa)}(ht:P.underlying t=N1 (.slice e))(hk:size? P e=N1 k)(hz:zeroCells? P ab e=N1 zs)(hp:aFK ab n parts.toList=N1 aps)(hzl:zs.length=k)(hn:n*k<=16777216)(bd:zs.all AV.still=Pa){call:Nat->LA->LO->Out}{site:Option Nat}{av:AV}{H':LO}{wr:LN}(h:evW call H ρ site (.bsl k (zs.map AV.aj) n aps)=N1 (av,H',wr))(hw:WF g H w)(hg:bM P ab g)(hs:aX g ρ a.tmps):aA8 P ⟨dst,.buildSlice t n parts,type,pos,after,guard⟩ a w λv w'=>∃g',Step g H w g' H' w' wr/\ai g' av v:=by
 simp only[evW]at h;obtain⟨it,z,hi,tq,ub⟩:=zeroCells?_spec hz;obtain⟨i',nr,gd⟩:=size?_info hk;rw[hi]at nr;cases nr;obtain⟨h1,h2⟩:=aC8 hp;have me:bz g k (AX n (zs.map AV.aj)) (((Ab (n*k)).map (z.cells[· % z.cells.size]!)).toList):=aFx (ub g).aj uWa;have Wg:(AX n (zs.map AV.aj)).all (λr=>r.all AV.still)=true:=by grind [AO,jN]
 have ej:∀cells,FZ (λi=>N1 (i*k,k)) ((Ab (n*k)).map (z.cells[· % z.cells.size]!)) (parts.toList.map λp=>(p.1,a.eval p.2))=N1 cells ->
   (execOp a.eval ⟨dst,.buildSlice t n parts,type,pos,after,guard⟩).run P w=.ok (.value (.slice (N1 ⟨w.heap.size,0,N2⟩) n n)) (w.alloc (.cells cells e)):=λcells e1=>by
  have hf:FZ (λi=>N1 (i*k,k)) ((Ab (n*k)).map (z.cells[· % z.cells.size]!)) (parts.map λp=>(p.1,a.eval p.2)).toList=N1 cells:=uWl
  grind [execOp,BS,aBF,BJ,CB]
 split at h
 .rename_i id;split at h
  .rename_i rows hb;split at h
   .rename_i hid;cases h;obtain⟨cells,e1,e2,e3,e4⟩:=aA6 (a:=a) (ρ:=ρ) parts.toList aps h1 (λj i X i' x e1 e2=>by
     grind [bIw]) _ _ me (vF Wg) _ hb
    have ax:rows.length=n:=by rw[e3];simp
    have kq:=e2.len;obtain⟨g',s1,s2⟩:=Step.Py (w':=w.alloc (.cells cells e)) hw hid rfl (k:=k) (cap:=n) uWa e4 omT uWa;rw[ax]at s2;exact .inl ⟨_,_,ej cells e1,g',s1,s2⟩
   cases h
  cases h
 split at h
 .rename_i rows H1 dc Pw;cases h;obtain⟨g1,cells,bn,e1,e2,e3,e4⟩:=aCS (a:=a) (ρ:=ρ) parts.toList aps h1 g H hw (λj i X i' x e1 e2=>by
   grind [bIw]) _ _ me Wg _ _ _ Pw
  have ax:rows.length=n:=by rw[e3];simp
  have kq:=e2.len;have gm:cells.toList.take (rows.length*k)=cells.toList:=CH omT;have Pv:=Step.ir (w':=w.alloc (.cells cells e)) bn.wf cells e (0,0) rfl;have hv:=ai.rp (f:=Pa) e4 omT (λ_=>ax.symm) (by rw[gm];exact e2.mono Pv.le);rw[ax]at hv;refine .inl ⟨_,_,ej cells e1,_,(bn.trans Pv).weaken λo ho=>by simpa using ho,hv⟩
 cases h
structure xj(g:G)(H:LO)(n0:Nat)(w:BL)(k:Nat)(rows:List LA)(b cap:Nat):Prop where
 wx:n0<=b
 hlt:b<w.heap.size
 cm:rows.length<=cap
 dr:aQV w b
 cn:∀row∈rows,row.length=k
 dq:rows.all (λr=>r.all AV.still)=Pa
 eh:∀j,j<cap*k->(w.cell? ⟨b,j,N2⟩).isSome
 dj:∀(i j:Nat)(row:LA) c,rows[i]? = N1 row->row[j]? = N1 c->∃y,w.cell? ⟨b,i*k+j,N2⟩=N1 y/\ai g c y
 Qm:∀j,g.perm b j=N2
 pd:∀o l x,au g H o l x->l.b≠b
 u7:g.whole b=N2
def pN(g:G)(H:LO)(n0:Nat)(w:BL)(av:AV)(v:BE):Prop:=
 match av with
 |.own k rows=>∃b cap,v=.slice (N1 ⟨b,0,N2⟩) rows.length cap/\xj g H n0 w k rows b cap
 |av=>ai g av v
def gS(P:CU)(ab:cu)(call:Nat->LA->LO->Out):Prop:=
 ∀f args H av H' wr,call f args H=N1 (av,H',wr)->∀g w xs,WF g H w->bM P ab g->fU g args xs ->
  (∃F,P.funcs[f]? = N1 F/\(F.name == "runtime.NumGoroutine")=Po/\F.body.isNone=Po) /\
  Calls P f xs.toArray w λe w'=>match e with
   |.returned v=>∃g',Step g H w g' H' w' wr/\pN g' H' w.heap.size w' av v
   |_=>False
def aOS(P:CU)(ab:cu)(call:Nat->LA->LO->Out):Prop:=
 ∀o v aqq H av H' wr,call YF (.own 0 []::.yld o v::aqq) H=N1 (av,H',wr)->∀g w l xs,WF g H w->bM P ab g->ai g (.yld o v) (.func (.yield l) #[] #[])->fU g aqq xs ->
  ∃r,w.heap[l]? = N1 (.loop r)/\r.params.size=xs.length /\
   RoundIn FJ 0 P l r.fn ((r.params.zip xs.toArray).foldl (λtmps (t,a)=>tmps.setIfInBounds t a) r.tmps) r.assign r.body w λe w'=>match e with
    |.returned v=>∃g',Step g H w g' H' w' wr/\ai g' av v
    |_=>False
def oT(P:CU)(ab:cu)(call:Nat->LA->LO->Out):Prop:=gS P ab call/\aOS P ab call
def aC9:∀(rows:List LA){g:G}{H:LO},WF g H w->∀{bt:List LA}{H':LO}{l:LN},aLw H rows=N1 (bt,H',l) ->∀(xss:List (List BE)),(rows.length=xss.length/\∀(i:Nat) r xs,rows[i]? = N1 r->xss[i]? = N1 xs->fU g r xs) ->∃g',Step g H w g' H' w l/\bt.length=xss.length/\∀(i:Nat) r xs,bt[i]? = N1 r->xss[i]? = N1 xs->fU g' r xs
 | [],g,H,hw,bt,H',l,h,xss,hx=>by
  cases h;exact⟨g,.refl hw,hx.1,λi r xs h=>by simp at h⟩
 |r::rs,g,H,hw,bt,H',l,h,xss,hx=>by
  cases xss with
  |nil=>grind
  |cons xs xss=>
   unfold aLw at h;split at h
   .rename_i r' H1 l1 hf;split at h
    .rename_i rs' H2 l2 hr;cases h;have h0:=hx.2 0 r xs rfl rfl;obtain⟨g1,s1,v1⟩:=qO hw hf (fU.agg uWS);obtain⟨ys,e1,qe⟩:=v1.fu;cases e1;have hl1':fU g1 r' xs:=uWa
     obtain⟨g2,s2,ax,dj⟩:=aC9 rs s1.wf hr xss ⟨uWa,λi r xs e1 e2=>(hx.2 (i+1) r xs uWh uWp).mono s1.le⟩;refine⟨g2,s1.trans s2,uWa,λi r xs e1 e2=>?_⟩;cases i with
     |zero=>simp at e1 e2;subst e1;subst e2;exact hl1'.mono s2.le
     |succ i=>grind
    cases h
   cases h
def aCT(hw:WF g H w){v v':AV}{H':LO}{l:LN}(h:aA3 H v=N1 (v',H',l)){x:BE}(hx:ai g v x):∃g',Step g H w g' H' w l/\ai g' v' x:=by
 unfold aA3 at h;split at h
 .rename_i o ve n;split at h
  .rename_i v0 k rows ho;split at h
   .rename_i hc;obtain⟨rfl,ax⟩:=hc;split at h
    .rename_i bt H1 l1 hi;split at h
     .rename_i nc;split at h
      .rename_i v2 H2 l2 hf;cases h;have hb:∃lc,au g H o lc (.vec v0 k rows):=by
        cases hx with
        |sr _ _ _ lc b cap hl hv hn jg hh=>
         have bd:lc.st=v0:=by have:=hw.st o _ lc ho hl;simp only[ah.ver]at this;omega
         exact⟨lc,ho,rfl,hl,bd⟩
       obtain⟨lc,hb⟩:=hb;obtain⟨h0,ow,cm,dr,hk,eh,bc⟩:=hw.obj o lc _ hb;have cj:∀(i j:Nat),i<rows.length->j<k->∃y,w.cell? ⟨lc.b,i*k+j,N2⟩=N1 y:=λi j hi hj=>by
        have yg:=hk rows[i] (AS hi);obtain⟨_,y,hy,_⟩:=bc i j rows[i] (rows[i][j]'omT) uWU siT
        grind
       generalize re:((GZ rows.length).map λi=>(GZ k).map λj=>(w.cell? ⟨lc.b,i*k+j,N2⟩).getD EE)=xss;have dj:rows.length=xss.length/\∀(i:Nat) r xs,rows[i]? = N1 r->xss[i]? = N1 xs->fU g r xs:=by
        subst re;refine⟨siT,λi r xs e1 e2=>?_⟩;refine⟨uWa,λj c y e3 e4=>?_⟩
        grind
       obtain⟨g1,s1,qe,gj⟩:=aC9 rows hw hi xss dj;have tp:o∉l1:=uWa
       have hlt:=hw.lt o lc hb.loc;have fo:au g1 H1 o lc (.vec v0 k rows):=⟨by rw[s1.same o hlt tp];exact ho,rfl,by rw[s1.aq o hlt tp];exact hb.loc,hb.st⟩;have lz:=hx.mono s1.le;have U8:bt.length=rows.length:=uWa
       have s2:Step g1 H1 w g1 (H1.set o (.vec v0 k bt)) w [o]:=by
        refine Step.write (xs:=[]) (off:=0) s1.wf fo rfl rfl ⟨by rw[h0,U8],ow,uWa,dr,λr hr=>?_,eh,λi j r c e1 e2=>?_⟩
        .obtain⟨i,hi,he⟩:=MQ hr;have Ye:i<xss.length:=omT;have:=(gj i r xss[i] uWa (by simp[Ye])).1
         grind
        have hi:=(AH.1 e1).1;have Ye:i<xss.length:=omT;have hl:=gj i r xss[i] e1 (by simp[Ye]);have hj:=(AH.1 e2).1;have hjx:j<xss[i].length:=by rw[<- hl.1];exact hj
        refine⟨AO.1 (AO.1 nc.2 r (AN e1)) c (AN e2),xss[i][j], ?_,hl.2 j c _ e2 (by simp[hjx])⟩;subst re;have nh:j<k:=uWa
        obtain⟨y,hy⟩:=cj i j omT nh;show w.cell? _=_;simp[hy]
       obtain⟨g3,s3,v3⟩:=qO s2.wf hf lz;exact⟨g3,s1.trans (s2.trans s3),v3⟩
      cases h
     cases h
    cases h
   cases h
  cases h
 exact qO hw h hx
def Step.drop(h:WF g H w){o:Nat}{l:Loc}{x:ah}(hb:au g H o l x):Step g H w g (H.set o (.gone x.ver)) w [o]/\∀o' l' x',au g (H.set o (.gone x.ver)) o' l' x'->l'.b≠l.b:=by
 have ho:o<H.length:=h.lt o l hb.loc;have dx:∀o' l' x',au g (H.set o (.gone x.ver)) o' l' x'->o'≠o/\au g H o' l' x':=λo' l' x' du=>by
  have bl:o'≠o:=λe=>by
   subst e;have h1:=du.Pr;simp[ho]at h1;have h2:=du.alive;subst h1;simp[ah.alive]at h2
  exact⟨bl,⟨by rw[<- getElem?_set_ne' H (.gone x.ver) (Ne.symm bl)];exact du.Pr,du.alive,du.loc,du.st⟩⟩
 refine⟨⟨G.le.refl g,⟨h.perm,λo' l' hl=>by simpa using h.lt o' l' hl,h.blk,λo' x' l' hx hl=>?_,λo' l' x' du=>h.obj o' l' x' (dx _ _ _ du).2,λo' l' x' du=>h.jh o' l' x' (dx _ _ _ du).2,
  λo1 o2 l1 l2 x1 x2 fo dp e=>h.inj o1 o2 l1 l2 x1 x2 (dx _ _ _ fo).2 (dx _ _ _ dp).2 e,h.whole.aq rfl rfl ⟨rfl,rfl⟩ (λ_ _ _=>rfl) λo l y hl=>.inr ⟨o,l,y,(dx _ _ _ hl).2,rfl⟩⟩,
  aDS.refl _ _ _,λo' hl hm=>?_,siT,λo' l' hl=>.inr ⟨l',hl,rfl⟩,λ_ _ _=>rfl⟩,λo' l' x' du e=>?_⟩
 .by_cases e:o'=o
  .subst e;simp[ho]at hx;subst hx;exact h.st o' x l' hb.Pr hl
  rw[getElem?_set_ne' H (.gone x.ver) (Ne.symm e)]at hx;exact h.st o' x' l' hx hl
 .simp only[CG]at hm;exact getElem?_set_ne' H (.gone x.ver) (Ne.symm hm)
 obtain⟨bl,qw⟩:=dx _ _ _ du;exact bl (h.inj o' o l' l x' x qw hb e)
def bRK(hw:WF g H w){o v v1:Nat}{es:List (AV×AV)}(ho:H[o]? = N1 (.map v1 es))(hv:v1=v){x:BE}(hx:ai g (.mp o v) x):∃g',Step g H w g' (H.set o (.gone v)) w [o]/\ai g' (.fmp (es.map EM) (es.map GQ)) x:=by
 obtain⟨lc,entries,clock,hb,rfl,pe,dj,_⟩:=aFT hw ho hv hx;obtain⟨h1,h2⟩:=Step.drop hw hb;have hle:g.le { g with whole:=λb=>if b=lc.b then N1 (.map entries clock)else g.whole b }:=by
  refine⟨λ_ _ _ hx=>hx,λo l hl=>⟨l,hl,AQ _,λ_=>⟨AQ _,λ_=>rfl⟩⟩,λb x hx=>?_,rfl,rfl⟩;by_cases e:b=lc.b
  .subst e;exact Vv rfl ((hw.whole.blocks lc.b x hx).2 o lc _ hb)
  simp only[e,Vt];exact hx
 have dx:∀o' l' x',au { g with whole:=λb=>if b=lc.b then N1 (.map entries clock)else g.whole b } (H.set o (.gone v)) o' l' x'->au g (H.set o (.gone v)) o' l' x':=λo' l' x' du=>⟨du.Pr,du.alive,du.loc,du.st⟩;have pj:=h1.wf;refine⟨{ g with whole:=λb=>if b=lc.b then N1 (.map entries clock)else g.whole b },⟨hle,⟨pj.perm,pj.lt,pj.blk,pj.st,λo' l' x' du=>(pj.obj o' l' x' (dx _ _ _ du)).aq hle rfl,λo' l' x' du=>pj.jh o' l' x' (dx _ _ _ du),λo1 o2 l1 l2 x1 x2 fo dp=>pj.inj o1 o2 l1 l2 x1 x2 (dx _ _ _ fo) (dx _ _ _ dp),⟨λb x hx=>?_,hw.whole.io⟩⟩,h1.frame,h1.same,h1.len,λo' l' hl=>.inr ⟨l',hl,rfl⟩,λ_ _ _=>rfl⟩, ?_⟩
 .by_cases e:b=lc.b
  .subst e;simp only[Vu,AG]at hx;subst hx;exact⟨pe,λo' l' y du=>h2 o' l' y (dx _ _ _ du)⟩
  simp only[e,Vt]at hx;exact⟨(pj.whole.blocks b x hx).1,λo' l' y du=>(pj.whole.blocks b x hx).2 o' l' y (dx _ _ _ du)⟩
 refine ai.fmp _ _ lc.b entries clock entries.toList siT (.inl rfl) uWI uWI (λi a e h5 h6=>?_) λi a e h5 h6=>?_
 .rw[BN]at h5;cases hq:es[i]? with
  |none=>simp[hq]at h5
  |some kv=>simp[hq]at h5;subst h5;exact (dj.2 i kv.1 kv.2 e hq (by simpa using h6)).1.mono hle
 rw[BN]at h5;cases hq:es[i]? with
 |none=>simp[hq]at h5
 |some kv=>simp[hq]at h5;subst h5;exact (dj.2 i kv.1 kv.2 e hq (by simpa using h6)).2.mono hle
def bLn:∀(cs:LA){g:G}{H:LO},WF g H w->∀{cs':LA}{H':LO}{l:LN},bL5 H cs=N1 (cs',H',l) ->∀(xs:List BE),fU g cs xs->∃g',Step g H w g' H' w l/\fU g' cs' xs
 | [],g,H,hw,cs',H',l,h,xs,hx=>by
  cases h;exact⟨g,.refl hw,hx⟩
 |c::r,g,H,hw,cs',H',l,h,xs,hx=>by
  cases xs with
  |nil=>have:=hx.1;simp at this
  |cons x xs=>
   have h0:=hx.2 0 c x rfl rfl;have ht:fU g r xs:=⟨by have:=hx.1;simpa using this,λi a y e1 e2=>hx.2 (i+1) a y uWh uWp⟩;have fin:∀{g':G}{c':AV}{r':LA},ai g' c' x->fU g' r' xs->fU g' (c'::r') (x::xs):=λh1 h2=>⟨by have:=h2.1;simpa using this,λi a y e1 e2=>by
    cases i with
    |zero=>simp at e1 e2;subst e1;subst e2;exact h1
    |succ i=>exact h2.2 i a y uWh uWp⟩
   unfold bL5 at h;split at h
   .rename_i e;cases e
   .rename_i o v _ e;cases e;split at h
    .rename_i v1 es ho;split at h
     .rename_i hv;split at h
      .rename_i r' H1 l1 hr;cases h;obtain⟨g1,s1,qy⟩:=bRK hw ho hv h0;obtain⟨g2,s2,h2⟩:=bLn r s1.wf hr xs (ht.mono s1.le);exact⟨g2,s1.trans s2,fin (qy.mono s2.le) h2⟩
      cases h
     cases h
    cases h
   rename_i e;cases e;split at h
   .rename_i r' H1 l1 hr;cases h;obtain⟨g2,s2,h2⟩:=bLn r hw hr xs ht;exact⟨g2,s2,fin (h0.mono s2.le) h2⟩
   cases h
def aIY(hw:WF g H w){v:AV}{H':LO}{l:LN}(h:bKj H v=N1 (H',l)){x:BE}(hx:ai g v x):∃g',Step g H w g' H' w l:=by
 unfold bKj at h;split at h
 .cases h;exact⟨g,.refl hw⟩
 .rename_i o ve n;split at h
  .rename_i v0 k rows ho;split at h
   .rename_i hc;obtain⟨rfl,ax⟩:=hc;split at h
    .rename_i bt H1 l1 hi;split at h
     .rename_i nc;cases h;have hb:∃lc,au g H o lc (.vec v0 k rows):=by
       cases hx with
       |sr _ _ _ lc b cap hl hv hn jg hh=>
        have bd:lc.st=v0:=by have:=hw.st o _ lc ho hl;simp only[ah.ver]at this;omega
        exact⟨lc,ho,rfl,hl,bd⟩
      obtain⟨lc,hb⟩:=hb;obtain⟨h0,ow,cm,dr,hk,eh,bc⟩:=hw.obj o lc _ hb;have cj:∀(i j:Nat),i<rows.length->j<k->∃y,w.cell? ⟨lc.b,i*k+j,N2⟩=N1 y:=λi j hi hj=>by
       have yg:=hk rows[i] (AS hi);obtain⟨_,y,hy,_⟩:=bc i j rows[i] (rows[i][j]'omT) uWU siT;exact⟨y,hy⟩
      generalize re:((GZ rows.length).map λi=>(GZ k).map λj=>(w.cell? ⟨lc.b,i*k+j,N2⟩).getD EE)=xss;have dj:rows.length=xss.length/\∀(i:Nat) r xs,rows[i]? = N1 r->xss[i]? = N1 xs->fU g r xs:=by subst re;refine⟨siT,λi r xs e1 e2=>?_⟩;have hi:i<rows.length:=(AH.1 e1).1;simp[hi]at e2;subst e2;refine⟨by simpa using hk r (AN e1),λj c y e3 e4=>?_⟩;have hj:j<r.length:=(AH.1 e3).1;rw[hk r (AN e1)]at hj;simp[hj]at e4;obtain⟨_,z,hz,hr⟩:=bc i j r c e1 e3;rw[hz]at e4;simp at e4;subst e4;exact hr
      obtain⟨g1,s1,qe,gj⟩:=aC9 rows hw hi xss dj;have tp:o∉l1:=by have:=nc.1;simpa using this
      have hlt:o<H.length:=hw.lt o lc hb.loc;have fo:au g1 H1 o lc (.vec v0 k rows):=⟨by rw[s1.same o hlt tp];exact ho,rfl,by rw[s1.aq o hlt tp];exact hb.loc,hb.st⟩;have lz:=hx.mono s1.le;have U8:bt.length=rows.length:=by rw[qe,dj.1]
      have s2:Step g1 H1 w g1 (H1.set o (.vec v0 k bt)) w [o]:=by
       refine Step.write (xs:=[]) (off:=0) s1.wf fo rfl rfl ⟨by rw[h0,U8],ow,by rw[U8];exact cm,dr,λr hr=>?_,eh,λi j r c e1 e2=>?_⟩
       .obtain⟨i,hi,he⟩:=MQ hr;have Ye:i<xss.length:=omT;have:=(gj i r xss[i] (by rw[AP hi,he]) (by simp[Ye])).1;rw[this];subst re;simp
       have hi:i<bt.length:=(AH.1 e1).1;have Ye:i<xss.length:=omT;have hl:=gj i r xss[i] e1 (by simp[Ye]);have hj:j<r.length:=(AH.1 e2).1;have hjx:j<xss[i].length:=by rw[<- hl.1];exact hj
       refine⟨AO.1 (AO.1 nc.2 r (AN e1)) c (AN e2),xss[i][j], ?_,hl.2 j c _ e2 (by simp[hjx])⟩;subst re;have nh:j<k:=by simpa using hjx
       obtain⟨y,hy⟩:=cj i j omT nh;show w.cell? _=_;simp[hy]
      exact⟨g1,s1.trans s2⟩
     cases h
    cases h
   cases h
  cases h
 .rename_i o ve off;split at h
  .rename_i v0 cs ho;split at h
   .rename_i hc;obtain⟨rfl,_⟩:=hc;split at h
    .rename_i cs' H1 l1 hi;split at h
     .rename_i nc;cases h;have hb:∃lc,au g H o lc (.box v0 cs):=by
       cases hx with
       |ptr _ _ _ lc b hl hv hh=>
        have bd:lc.st=v0:=by have:=hw.st o _ lc ho hl;simp only[ah.ver]at this;omega
        exact⟨lc,ho,rfl,hl,bd⟩
      obtain⟨lc,hb⟩:=hb;obtain⟨h0,dr,bc⟩:=hw.obj o lc _ hb;generalize re:((GZ cs.length).map λj=>(w.cell? ⟨lc.b,j,N2⟩).getD EE)=xs;have dj:fU g cs xs:=by subst re;refine⟨siT,λj c y e1 e2=>?_⟩;have hj:j<cs.length:=(AH.1 e1).1;simp[hj]at e2;obtain⟨z,hz,hr⟩:=bc j c e1;rw[hz]at e2;simp at e2;subst e2;exact hr
      obtain⟨g1,s1,qe⟩:=bLn cs hw hi xs dj;have tp:o∉l1:=by simpa using nc
      have hlt:o<H.length:=hw.lt o lc hb.loc;have fo:au g1 H1 o lc (.box v0 cs):=⟨by rw[s1.same o hlt tp];exact ho,rfl,by rw[s1.aq o hlt tp];exact hb.loc,hb.st⟩;have s2:Step g1 H1 w g1 (H1.set o (.box v0 cs')) w [o]:=by
       refine Step.write (xs:=[]) (off:=0) s1.wf fo rfl rfl ⟨h0,dr,λj c e1=>?_⟩;have hj:j<cs'.length:=(AH.1 e1).1;have hjx:j<xs.length:=by rw[<- qe.1];exact hj
       refine⟨xs[j], ?_,qe.2 j c _ e1 (by simp[hjx])⟩;subst re;have hjc:j<cs.length:=by simpa using hjx
       obtain⟨z,hz,_⟩:=bc j cs[j] (by simp[hjc]);show w.cell? _=_;simp[hz]
      exact⟨g1,s1.trans s2⟩
     cases h
    cases h
   cases h
  cases h
 cases h
def bPF(hw:WF g H w){v:AV}{l:LN}{x:BE}(hx:ai g v x):∃g',Step g H w g' (bPE H v l).2.1 w ((bPE H v l).2.2)/\ai g' (bPE H v l).1 x:=by
 have no:∃g',Step g H w g' H w l/\ai g' v x:=⟨g,(Step.refl hw).weaken λo h=>by simp at h,hx⟩;unfold bPE;split
 .rename_i o ve;split
  .rename_i v0 cs hH;split
   .rename_i hc;obtain⟨rfl,dq⟩:=hc;cases hx with
    |ptr _ _ _ lc b hl hv hh=>
     have bd:lc.st=v0:=by have:=hw.st o _ lc hH hl;simp only[ah.ver]at this;omega
     have hb:au g H o lc (.box v0 cs):=⟨hH,rfl,hl,bd⟩;obtain⟨h0,dr,bc⟩:=hw.obj o lc _ hb;have h1:=Step.gone hw hb;refine⟨_,h1.weaken λo h=>AY.2 (.inr h), ?_⟩;rw[hh bd h0];have:=ai.ep (g:=g.bh lc.b λi=>w.cell? ⟨lc.b,i,N2⟩) cs 0 lc.b 0 dq (λj hj=>by
      obtain⟨y,hy,_⟩:=bc j cs[j] (by simp[hj]);simp only[G.bh,Vu,BC,hy];rfl) λj a y e1 e2=>by
      obtain⟨z,hz,hr⟩:=bc j a e1;simp only[G.bh,Vu,BC,hz,AG]at e2;subst e2;exact hr.mono h1.le
     exact this
   exact no
  exact no
 exact no
def bRc{H:LO}{v:AV}{l:LN}:∀o∈l,o∈(bPE H v l).2.2:=by
 intro o ho;unfold bPE;split
 .split
  .split
   .exact AY.2 (.inl ho)
   exact ho
  exact ho
 exact ho
def aI1(hw:WF g H w){v v':AV}{H':LO}{l:LN}(h:aMD H v=N1 (v',H',l)){x:BE}(hx:ai g v x):∃g',Step g H w g' H' w l/\ai g' v' x:=by
 unfold aMD at h;split at h
 .rename_i v2 H2 l2 hf;obtain⟨g1,s1,h1⟩:=qO hw hf hx;obtain⟨g2,s2,h2⟩:=bPF s1.wf h1;simp only[AG]at h;rw[h]at s2 h2;refine⟨g2,(s1.trans s2).weaken λo ho=>?_,h2⟩;rcases AY.1 ho with ho|ho
  .have:=bRc (H:=H2) (v:=v2) o ho;rw[h]at this;exact this
  exact ho
 split at h
 .split at h
  .rename_i hf;cases h;obtain⟨ys,rfl,hl⟩:=hx.fu;obtain⟨y,hy⟩:∃y,ys.toList=[y]:=by
    have:=hl.1;exact List.length_eq_one_iff.1 this.symm
   obtain⟨g',h1,h2⟩:=aCT hw hf (hl.2 0 _ y rfl (by rw[hy];rfl));refine⟨g',h1, ?_⟩;have:ys = #[y]:=by cases ys;simpa using hy
   subst this;refine ai.agg _ _ rfl λi a z e1 e2=>?_
   match i with
   |0=>simp at e1 e2;subst e1;subst e2;exact h2
   |i+1=>simp at e1
  cases h
 exact aCT hw h hx
def aJY{n0:Nat}(hw:WF g H w){k:Nat}{rows:List LA}{b cap:Nat}(h:xj g H n0 w k rows b cap):∃g',Step g H w g' H w []/\ai g' (.sl Po rows) (.slice (N1 ⟨b,0,N2⟩) rows.length cap):=by
 have hle:g.le (g.bh b λi=>w.cell? ⟨b,i,N2⟩):=by
  refine⟨λb' i y hy=>?_,λo l hl=>⟨l,hl,AQ _,λ_=>⟨AQ _,λ_=>rfl⟩⟩,λ_ _ hx=>hx,rfl,rfl⟩;by_cases e:b'=b
  .subst e;rw[h.Qm i]at hy;cases hy
  simp only[G.bh,e,Vt];exact hy
 have dx:∀o l x,au (g.bh b λi=>w.cell? ⟨b,i,N2⟩) H o l x->au g H o l x:=λo l x hb=>⟨hb.Pr,hb.alive,hb.loc,hb.st⟩;refine⟨g.bh b λi=>w.cell? ⟨b,i,N2⟩,⟨hle,⟨λb' i y hy=>?_,hw.lt,hw.blk,hw.st,λo l x hb=>(hw.obj o l x (dx _ _ _ hb)).aq hle rfl,λo l x hb j=>?_,λo o' l l' x x' hb du=>hw.inj o o' l l' x x' (dx _ _ _ hb) (dx _ _ _ du),
   hw.whole.aq rfl rfl ⟨rfl,rfl⟩ (λ_ _ _=>rfl) λo l y hl=>.inr ⟨o,l,y,dx _ _ _ hl,rfl⟩⟩,
  aDS.refl _ _ _,λ_ _ _=>rfl,AQ _,λ_ l' hl=>.inr ⟨l',hl,rfl⟩,λ_ _ _=>rfl⟩, ?_⟩
 .by_cases e:b'=b
  .subst e;simpa only[G.bh,Vu]using hy
  simp only[G.bh,e,Vt]at hy;exact hw.perm b' i y hy
 .have bl:=h.pd o l x (dx _ _ _ hb);simp only[G.bh,bl,Vt];exact hw.jh o l x (dx _ _ _ hb) j
 refine .sl Po rows b 0 cap k h.cm siT h.cn (AO.1 h.dq) (λi j hi hj=>?_) λi j row c x h1 h2 h3=>?_
 .have yg:=h.cn rows[i] (AS hi);obtain⟨y,hy,_⟩:=h.dj i j rows[i] (rows[i][j]'omT) uWU siT;simp only[G.bh,Vu,BC,hy];rfl
 obtain⟨y,hy,hr⟩:=h.dj i j row c h1 h2;simp only[G.bh,Vu,BC,hy,AG]at h3;subst h3;exact hr.mono hle
def aI2{n0:Nat}(hw:WF g H w){k:Nat}{rows:List LA}{b cap:Nat}(h:xj g H n0 w k rows b cap){id:Nat}(hid:id<H.length):∃g',g'.perm=g.perm/\g.le g'/\WF g' (make H id (.vec · k rows)) w/\(∀o,o≠id->g'.obj o=g.obj o)/\(∀l',g'.obj id=N1 l'->l'.b=b) /\ ai g' (.sr id (bH H id) rows.length) (.slice (N1 ⟨b,0,N2⟩) rows.length cap):=by
 have hx:H[id]? = N1 H[id]:=by simp[hid]
 have hv:bH H id=H[id].ver+1:=uXl
 generalize kg:(⟨b,bH H id,rows.length,k,cap⟩:Loc)=l';have hle:g.le (g.setObj id l'):=by
  refine⟨λ_ _ _ hx=>hx,λo' l hl=>?_,λ_ _ hx=>hx,rfl,rfl⟩;by_cases e:o'=id
  .subst e;have:=hw.st o' _ l hx hl;exact⟨l',uWT,by rw[<- kg];show l.st<=bH H o';omega,λe=>by exfalso;rw[<- kg]at e;have:bH H o'=l.st:=e;omega⟩
  exact⟨l,by simp only[G.setObj,e,Vt];exact hl,AQ _,λ_=>⟨AQ _,λ_=>rfl⟩⟩
 have dx:∀o' l x,o'≠id->au (g.setObj id l') (make H id (.vec · k rows)) o' l x->au g H o' l x:=λo' l x bl hb=>⟨by rw[<- getElem?_set_ne' H _ (Ne.symm bl)];exact hb.Pr,hb.alive,by have:=hb.loc;simpa only[G.setObj,bl,Vt]using this,hb.st⟩;have gy:∀l x,au (g.setObj id l') (make H id (.vec · k rows)) id l x->l=l'/\x=.vec (bH H id) k rows:=λl x hb=>by
  have h1:=hb.Pr;have h2:=hb.loc;simp[make,hid]at h1;simp[G.setObj]at h2;refine⟨h2.symm, ?_⟩;rw[<- h1,hv]
 refine⟨g.setObj id l',rfl,hle,⟨hw.perm,λo' l hl=>?_,λo' l hl=>?_,λo' x l Qy hl=>?_,λo' l x hb=>?_,λo' l x hb j=>?_,λo1 o2 l1 l2 x1 x2 fo dp e=>?_,⟨λb' x hx=>⟨(hw.whole.blocks b' x hx).1,λo' l y hl=>by
    by_cases e:o'=id
    .subst e;obtain⟨rfl,rfl⟩:=gy l y hl;rw[<- kg];intro e2;have e3:b=b':=e2;have h0:=h.u7;have jr:g.whole b'=N1 x:=hx;rw[e3,jr]at h0;cases h0
    exact (hw.whole.blocks b' x hx).2 o' l y (dx o' l y e hl)⟩,hw.whole.io⟩⟩,λo bl=>by simp[G.setObj,bl],λl2 iq=>?_, ?_⟩
 .by_cases e:o'=id
  .subst e;simpa [make]using hid
  simp only[G.setObj,e,Vt]at hl;simpa [make]using hw.lt o' l hl
 .by_cases e:o'=id
  .subst e;simp[G.setObj]at hl;subst hl;rw[<- kg];exact h.hlt
  simp only[G.setObj,e,Vt]at hl;exact hw.blk o' l hl
 .by_cases e:o'=id
  .subst e;simp[G.setObj]at hl;simp[make,hid]at Qy;subst hl;subst Qy;rw[<- kg];show bH H o'<=H[o'].ver+1;omega
  simp only[G.setObj,e,Vt]at hl;rw[make,getElem?_set_ne' H _ (Ne.symm e)]at Qy;exact hw.st o' x l Qy hl
 .by_cases e:o'=id
  .subst e;obtain⟨rfl,rfl⟩:=gy l x hb;rw[<- kg];refine⟨rfl,rfl,h.cm,h.dr,h.cn,h.eh,λi j row c h1 h2=>⟨aEG (AO.1 (AO.1 h.dq row (AN h1)) c (AN h2)), ?_⟩⟩;obtain⟨y,hy,hr⟩:=h.dj i j row c h1 h2;refine⟨y,hy, ?_⟩;rw[kg];exact hr.mono hle
  exact (hw.obj o' l x (dx o' l x e hb)).aq hle rfl
 .by_cases e:o'=id
  .subst e;obtain⟨rfl,rfl⟩:=gy l x hb;rw[<- kg];exact h.Qm j
  exact hw.jh o' l x (dx o' l x e hb) j
 .by_cases e1:o1=id
  .by_cases e2:o2=id
   .rw[e1,e2]
   subst e1;obtain⟨rfl,rfl⟩:=gy l1 x1 fo;exact Vv (by rw[<- kg]at e;exact e.symm) (h.pd o2 l2 x2 (dx _ _ _ e2 dp))
  by_cases e2:o2=id
  .subst e2;obtain⟨rfl,rfl⟩:=gy l2 x2 dp;exact Vv (by rw[<- kg]at e;exact e) (h.pd o1 l1 x1 (dx _ _ _ e1 fo))
  exact hw.inj o1 o2 l1 l2 x1 x2 (dx _ _ _ e1 fo) (dx _ _ _ e2 dp) e
 .simp[G.setObj]at iq;rw[<- iq,<- kg]
 subst kg;exact .sr id _ _ _ _ _ (by simp[G.setObj];rfl) (AQ _) (λ_=>AQ _) h.cm λ_ _=>⟨rfl,rfl⟩
end
section
variable {P:CU}{ab:cu}{g:G}{H:LO}{w w':BL}{ρ:LA}{a:Act}
variable {dst:Option Tmp}{type:BP}{pos:String}{after:Array OO}{guard:Option (Nat×Bool)}
def aTw{t:BP}{call:Nat->LA->LO->Out}{site:Option Nat}{av:AV}{H':LO}{wr:LN}(h:evW call H ρ site .jn=N1 (av,H',wr))(hw:WF g H w):aA8 P ⟨dst,.makeMap t N2,type,pos,after,guard⟩ a w λv w'=>∃g',Step g H w g' H' w' wr/\ai g' av v:=by
 simp only[evW]at h;split at h
 .rename_i id;split at h
  .rename_i hid;cases h;have e:(w.alloc (.map #[] 0)).heap=w.heap.push (.map #[] 0):=rfl;have bd:=Step.update hw id (.map (bH H id) []) ⟨w.heap.size,bH H id,0,0,0⟩ hid (by rw[e];simp) (λb hb _=>cK e hb) (by rw[e];simp) (.inl (AQ _)) rfl rfl (λl hl=>by
    have hx:H[id]? = N1 H[id]:=by simp[hid]
    have:=hw.st id _ l hx hl;have hv:bH H id=H[id].ver+1:=uXl
    exact⟨by show l.st<=bH H id;omega,λe=>by have e':bH H id=l.st:=e;omega⟩)
    λhle=>⟨rfl,#[],0,by rw[e];simp,rfl,λi k v e h=>by simp at h⟩
   refine .inl ⟨.map (N1 w.heap.size),w.alloc (.map #[] 0),by simp[execOp,Instr.makeMap,DL],_,bd, ?_⟩;exact .mp id _ _ _ (by simp[G.setObj];rfl) (AQ _) λ_ _=>rfl
  cases h
 cases h
def bA2{t kt et:BP}{K:DK}{M X V:CA}{m k v:aa}(ht:P.underlying t=N1 (.map kt et))(hk:P.underlying kt=N1 (.int K))(hM:fA ab M=N1 m)(hX:fA ab X=N1 k)(hV:fA ab V=N1 v){call:Nat->LA->LO->Out}{site:Option Nat}{av:AV}{H':LO}{wr:LN}(h:evW call H ρ site (.ins m k v)=N1 (av,H',wr))(hw:WF g H w)(hg:bM P ab g)(hs:aX g ρ a.tmps):aA8 P ⟨dst,.insert t M X V,type,pos,after,guard⟩ a w λv w'=>∃g',Step g H w g' H' w' wr/\ai g' av v:=by
 have hm:=bIw hM hg hs;have hx:=bIw hX hg hs;have hv:=(bIw hV hg hs).strip;simp only[evW]at h;split at h
 .rename_i kk o ver e1;rw[e1]at hm;split at h
  .rename_i v' es ho;split at h
   .rename_i hc;obtain⟨X5,Y2,dq⟩:=hc;obtain⟨l,entries,clock,hb,J8,pe,dj,ax⟩:=aFT hw ho X5 hm;have E8:∀b,(IT b 10000 kt (a.eval X)).run P w=.ok () w:=λb=>pG hk b 9999 (a.eval X);have step:∀(es':List (AV×AV))(xs':Array FO) clock',aTs g es' xs'.toList ->
      ∃g',Step g H w g' (H.set o (.map ver es')) { w with heap:=w.heap.setIfInBounds l.b (.map xs' clock') } [o]:=λes' xs' clock' hr=>by
     have hlt:=hw.blk o l hb.loc;have uj:∀b,b≠l.b->(w.heap.setIfInBounds l.b (.map xs' clock'))[b]? = w.heap[b]? := λb bl=>by simp[Ne.symm bl]
     refine⟨_,Step.update hw o (.map ver es') l (hw.lt o l hb.loc) siT (λb _ bl=>uj b λe=>bl l _ hb e.symm) uWv (.inr ⟨l,_,hb,rfl⟩) hb.st rfl (λl2 iq=>?_)
      λhle=>⟨ax,xs',clock',uXk,by simpa using hr.1,λi k v e h1 h2=>?_⟩⟩
     .have:l2=l:=by have:=hb.loc;rw[iq]at this;exact DZ this
      subst this;exact⟨AQ _,λ_=>⟨AQ _,λ_=>rfl⟩⟩
     have:=hr.2 i k v e h1 uWj;exact⟨this.1.mono hle,this.2.mono hle⟩
    split at h
    .rename_i j x hf;obtain⟨j',e',k',n,h1,h2,h3,h4,h5⟩:=iQ hx es entries.toList 0 _ dj hf;have hj:entries[j']? = N1 e':=uWj
     simp only[BC]at h1;subst h1;obtain⟨rfl,rfl,rfl⟩:=h;have O5:a.eval X=.int k' n:=by rw[h4]at hx;cases hh:a.eval X<;>rw[hh]at hx<;>cases hx;rfl
     have hke:e'.key=.int k' n:=by have:=(dj.2 j _ _ e' h3 h2).1;cases hh:e'.key<;>rw[hh]at this<;>cases this;rfl
     have qo:=LY (w:=w) hk h5;have bd:(MR (.int k' n) (.int k' n)).run P w=.ok (.int k' n) w:=by simp[MR,Instr.sameBits]
     have ej:(IH t (a.eval M) (a.eval X) (a.eval V)).run P w=.ok () { w with heap:=w.heap.setIfInBounds l.b (.map (entries.modify j λe=>{ e with key:=.int k' n,val:=a.eval V }) clock) }:=by rw[O5]at qo E8;simp[IH,BH ht,J8,O5,FH pe,E8,qo,hj,hke,bd,LD _ pe,DL]
     obtain⟨g',ml⟩:=step (es.set j (k.ev ρ,(v.ev ρ).strip)) (entries.modify j λe=>{ e with key:=.int k' n,val:=a.eval V }) clock ⟨uWI,λi k2 v2 e2 h6 h7=>by
      have zf:(entries.modify j λe=>{ e with key:=.int k' n,val:=a.eval V })[i]? = N1 e2:=by rw[<- Av];exact h7
      rw[DJ]at zf;by_cases e:j=i
      .subst e;have hlt:=(AH.1 h3).1;simp only[FB,Vu,hlt]at h6;rw[Vx rfl,hj]at zf;simp only[DE,AG]at zf;subst zf;obtain⟨rfl,rfl⟩:=h6;exact⟨by rw[<- O5];exact hx,hv⟩
      rw[Vw e]at zf;rw[getElem?_set_ne' _ _ e]at h6;exact dj.2 i k2 v2 e2 h6 (by simpa using zf)⟩
     exact .inr (.inl ⟨_,uWq,g',ml,.undef _⟩)
    .rename_i hf;have h5:=iQ (K:=K) hx es entries.toList 0 _ dj hf;obtain⟨rfl,rfl,rfl⟩:=h;have qo:=LY (w:=w) hk h5;have ej:(IH t (a.eval M) (a.eval X) (a.eval V)).run P w=.ok () { w with heap:=w.heap.setIfInBounds l.b (.map (entries.push { key:=a.eval X,val:=a.eval V,born:=clock }) (clock+1)) }:=by
      simp[IH,BH ht,J8,FH pe,E8,qo,LD _ pe,DL]
     obtain⟨g',ml⟩:=step (es++[(k.ev ρ,(v.ev ρ).strip)]) (entries.push { key:=a.eval X,val:=a.eval V,born:=clock }) (clock+1) ⟨uWI,λi k2 v2 e2 h6 h7=>by
      have zf:(entries.toList++[{ key:=a.eval X,val:=a.eval V,born:=clock }])[i]? = N1 e2:=by simpa using h7
      by_cases e:i<es.length
      .rw[BM e]at h6;rw[BM (by rw[<- dj.1];exact e)]at zf;exact dj.2 i k2 v2 e2 h6 zf
      rw[BU omT]at h6;rw[BU (by rw[<- dj.1];omega),<- dj.1]at zf;cases hd:i - es.length with
      |zero=>rw[hd]at h6 zf;simp at h6 zf;obtain⟨rfl,rfl⟩:=h6;subst zf;exact⟨hx,hv⟩
      |succ d=>rw[hd]at h6;simp at h6⟩
     exact .inr (.inl ⟨_,uWq,g',ml,.undef _⟩)
    cases h
   cases h
  cases h
 cases h
end
end Go.AM
end
