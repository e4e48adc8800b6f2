/- Part 8. -/
import Derived.Test.YtkhdngmjkokcgaaGreatDoorK03
import Derived.Test.YtkhdngmjkokcgaaGreatDoorK06
import Derived.Test.YtkhdngmjkokcgaaGreatDoorK07
set_option linter.all false
set_option maxHeartbeats 6400000
set_option maxRecDepth 100000
open Bool renaming true_beq->CE,false_beq->Aa,and_self->Hg,false_eq_true->BX,false_and->BQ,and_eq_true->AI,eq_iff_iff->DS,true->Pa,false->Po
open Go.IntKind renaming u8->KD,i64->AR
open Int renaming eq_ofNat_of_zero_le->DN,toNat_natCast->AT,toNat->Aw
open List renaming any_eq_false->KH,length_pos_iff->MY,getElem?_eq_getElem->AP,take_succ_eq_append_getElem->EW,all_append->IL,all_eq_true->AO,getElem_mem->AS,take_length->DM,mem_cons->BD,take_append_drop->IQ,map_append->DQ,drop_eq_getElem_cons->FD,map_cons->BI,mem_map->DB,map_congr_left->C5,length_cons->AW,mem_append->AY,append_assoc->CJ,mem_of_mem_take->FA,length_take->HB,append_nil->AJ,take_left->GU,length_drop->NS,getElem?_take_of_lt->Af,getElem?_map->BN,length_nil->AZ,isEmpty_nil->Bm,length_append->BA,flatten_append->Aj,length_map->AF,map_nil->BY,mem_singleton->CG,drop->KW,getElem?_append_left->BM,map_set->ME,range'->FM,getElem?_append_right->BU,replicate->AX,map_replicate->Ay,length_replicate->MI,take_of_length_le->CH,mem_range'_1->FC,set_cons_succ->GL,set_cons_zero->GM,nil_append->CW,length_set->CP,getElem?_set_ne->CL,getElem?_set_self->BW,set_set->EO,set_append_left->DX,mem_cons_of_mem->BZ,mem_cons_self->HD,take_append_of_le_length->An,getLast?_eq_none_iff->Ar,mem_of_getLast?->Al,foldl_append->Ex,headD_cons->ON,drop_eq_nil_of_le->DH,map_map->PA,map_take->Pu,map_drop->Ak,all_eq_false->AL,map->DR,reduceReplicate->Ag,mem_of_getElem?->AN,isEmpty_eq_false_iff->Ad,eq_nil_of_length_eq_zero->DP,getElem?_replicate->IN,getElem?_eq_some_iff->AH,getElem?_cons_succ->CT,getElem?_cons_zero->BG,take->FW,mem_append_left->CZ,mem_append_right->CX
open Nat renaming min_eq_left->Gy,add_sub_cancel_left->FL,add_zero->DU,le_refl->AQ,mul_one->FK,sub_self->GD,zero_add->BC,zero_le->FF,le_trans->HX,le_of_lt->Bk,zero_mul->Ap,add_assoc->EU
open Option renaming some->N1,none->N2
open Prod renaming fst->EM,snd->GQ
open UInt8 renaming ofNat->CN
open Bool renaming not_true->BT
noncomputable section
namespace Go.AM
open Go
variable {v xc vp:AV}{agg:Bool}{C:Ctx}{f:Fact}{gg xl sl:Int}{wr c c2:LN}{I:LN->Nat->LO->Prop}{H L H0 Z X:LO}{R:List (List Int)}{B:List Bool}{ks:List Int}{new P:List LA}{k q m z a o n i:Nat}{site:Option Nat}{s text:Str}{α:Type}{A:af}{x4 b x:ah}{ρ:bN}{r:fy}{t:my}{enc:α->LA}
def bNw:=(.mk _:bb 51 bTx).x
def bMP:=(.mk _:bb 85 bTx).x
def bLM:=(.mk _:bb 52 bTx).x
abbrev bO9:=bTw 87 (bIF 37 [])
def bNV:=(.mk _:bb 87 (bIC [(37,bO9)])).x
def bNx:=(.mk _:bb 55 bTx).x
def bLN:=(.mk _:bb 137 (bIF 5 [])).x
def bNe:=(.mk _:bb 137 (bIC [(5,bLN)])).x
def bNf:=(.mk _:bb 89 bTx).x
def bNy:=(.mk _:bb 90 bTx).x
def bMQ:=(.mk _:bb 88 bTx).x
def bMR:=(.mk _:bb 54 bTx).x
@[go_sem] def bRm{base t u v:Nat}:iE base [.tmp t,.tmp u,.tmp v] ρ H wr=match aBv H [ρ t,ρ u,ρ v]with
  |some (vs',H',l)=>N1 (.tup vs',H',bE base wr l)
  |none=>none:=(rfl)
structure kl(A:af):Prop where
 cells:Has A 51 bNw
 rz:Has A 85 bMP
 ind:Has A 52 bLM
 word:Has A 87 bNV
 right:Has A 55 bNx
 letter:Has A 89 bNf
 Zh:Has A 137 bNe
 digit:Has A 90 bNy
 written:Has A 88 bMQ
 Ws:Has A 54 bMR
 cB:aAA A 43 1 Po
 cR:aAA A 53 3 Pa
section
variable {A:af}
def bSJ{f:Nat}(h:aAA A f k agg)(he:mv k agg enc){ay:LA}(hc:jc ay){l:List α}(hl:l.length<=100000){f1:Nat}{q:α->Bool}(hs:aUw A f1 ay (λa=>asV agg (enc a)) q l H):aG A f [.sl Po (l.map enc),.fn f1 [] ay] H=N1 (.bool (l.any q),H,[]):=by obtain⟨fi,⟨a1,a2⟩,b1,b2⟩:=h;exact aGr a1 a2 hc (aDa b1 b2 he hc (by show l.length<_;omega) hs)
def bPh:mv 1 Po bNc:=⟨λ_=>rfl,λ_=>rfl,λ_=>rfl⟩
def bRn:mv 3 Pa bIx:=⟨λ_=>rfl,bOk,λh=>by cases h⟩
def bQj(F:kl A)(c:Nat)(H:LO):aG A 85 [.int .u8 c] H=N1 (.bool (decide ((c:Int)<1) || decide ((c:Int)>63)),H,[]):=by
 refine F.rz.call ?_;simp only[bMP];cases e1:decide ((c:Int)<1)with
 |true=>simp only[go_sem,↓aB,seval,e1,CE]
 |false=>simp only[go_sem,↓aB,seval,e1]
def bPi(F:kl A){l:LN}(hl:l.length<=100000)(hc:∀c∈l,bLF c)(H:LO):aG A 51 [.sl Po (gZ l)] H=N1 (.bool Pa,H,[]):=by
 have h1:=bSJ F.cB bPh bIJ hl (H:=H) (f1:=85) (λc _=>bQj F c H);have h2:(l.any λc=>decide ((c:Int)<1) || decide ((c:Int)>63))=false:=by rw[KH];intro c kq;have:=hc c kq;simp;omega
 rw[h2]at h1;refine F.cells.call ?_;simp only[bNw];simp only[go_sem,↓aB,seval,h1]
def bOq(F:kl A){l:LN}(h:Wt l)(H:LO):aG A 52 [.sl Po (gZ l)] H=N1 (.bool Pa,H,[]):=by have h4:=h.len;have h1:=MY.2 h.pos;have hc:=bPi F omT h.cell H;refine F.ind.call ?_;simp only[bLM];have e1:(l.length:Int) ≥ 1:=omT;have e2:(l.length:Int)<=4:=omT;simp only[go_sem,↓aB,seval,hc,e1,e2]
def bN8(F:kl A)(c:Nat)(H:LO):aG A 88 [.int .u8 c] H=N1 (.bool (decide ((c:Int) ≥ 32)&&decide ((c:Int)<=126)),H,[]):=by
 refine F.written.call ?_;simp only[bMQ];cases e1:decide ((c:Int) ≥ 32)with
 |true=>simp only[go_sem,↓aB,seval,e1]
 |false=>simp only[go_sem,↓aB,seval,e1,Aa]
def bPj(F:kl A)(c:Nat)(H:LO):aG A 90 [.int .u8 c] H=N1 (.bool (decide ((c:Int) ≥ 48)&&decide ((c:Int)<=57)),H,[]):=by
 refine F.digit.call ?_;simp only[bNy];cases e1:decide ((c:Int) ≥ 48)with
 |true=>simp only[go_sem,↓aB,seval,e1]
 |false=>simp only[go_sem,↓aB,seval,e1,Aa]
def bRN(c:Nat):Nat:=if 65<=c/\c<=90 then c+32 else c
def isL(c:Nat):Bool:=decide (97<=c/\c<=122) || decide (65<=c/\c<=90)
def bNz(c:Nat):Bool:=decide (65<=c/\c<=90)
def bNA(F:kl A){c:Nat}(hc:c<256)(H:LO):aG A 137 [.int .u8 c] H=N1 (.tup [.int .u8 (bRN c),.bool (isL c),.bool (bNz c)],H,[]):=by
 refine F.Zh.call ?_;simp only[bNe,bLN];by_cases h1:97<=c/\c<=122
 .have e1:decide ((c:Int) ≥ 97)=true:=soT;have e2:decide ((c:Int)<=122)=true:=soT;have f1:bRN c=c:=by unfold bRN;rw[Vw omT]
  have f2:isL c=true:=by unfold isL;simp[h1]
  have f3:bNz c=false:=by unfold bNz;simp;omega
  rw[f1,f2,f3];simp only[go_sem,↓aB,seval,e1,e2]
 have e12:decide ((c:Int) ≥ 97)=Po∨decide ((c:Int) ≥ 97)=Pa/\decide ((c:Int)<=122)=false:=soT;by_cases h2:65<=c/\c<=90
 .have e3:decide ((c:Int) ≥ 65)=true:=soT;have e4:decide ((c:Int)<=90)=true:=soT;have f1:bRN c=c+32:=by unfold bRN;rw[Vx h2]
  have f2:isL c=true:=by unfold isL;simp[h2]
  have f3:bNz c=true:=by unfold bNz;simp[h2]
  have w1:KD.wrap (c - 65)=((c - 65:Nat):Int):=by rw[aQh omT omT];omega
  have w2:KD.wrap (((c - 65:Nat):Int)+97)=((c+32:Nat):Int):=by rw[aQh omT omT];omega
  rw[f1,f2,f3];rcases e12 with e1 | ⟨e1,e2⟩
  .simp only[go_sem,↓aB,seval,e1,e3,e4,w1,w2,Aa]
  simp only[go_sem,↓aB,seval,e1,e2,e3,e4,w1,w2]
 have e34:decide ((c:Int) ≥ 65)=Po∨decide ((c:Int) ≥ 65)=Pa/\decide ((c:Int)<=90)=false:=soT;have f1:bRN c=c:=by unfold bRN;rw[Vw h2]
 have f2:isL c=false:=by unfold isL;simp[h1,h2]
 have f3:bNz c=false:=by unfold bNz;simp[h2]
 rw[f1,f2,f3];rcases e12 with e1 | ⟨e1,e2⟩<;>rcases e34 with e3 | ⟨e3,e4⟩
 .simp only[go_sem,↓aB,seval,e1,e3,Aa]
 .simp only[go_sem,↓aB,seval,e1,e3,e4,Aa]
 .simp only[go_sem,↓aB,seval,e1,e2,e3,Aa]
 simp only[go_sem,↓aB,seval,e1,e2,e3,e4]
def bNW(F:kl A){c:Nat}(hc:c<256)(H:LO):aG A 89 [.int .u8 c] H=N1 (.bool (isL c),H,[]):=by refine F.letter.call ?_;simp only[bNf];simp only[go_sem,↓aB,seval,bNA F hc]
def bLO(s:Str):Bool:=s.all λc=>decide (97<=c.toNat/\c.toNat<=122)
def bQk(F:kl A)(hs:s.length<=1000000)(H:LO):aG A 87 [.str s] H=N1 (.bool (bLO s),H,[]):=by
 refine F.word.call ?_;simp only[bNV];simp only[go_sem,↓aB,seval];refine bJ (id:=0) (λk ρ1 H1 wr=>wr=[]/\H1=H/\ρ1 6=vi k/\bLO (s.take k)=Pa) s.length
  (λρ1 H1 wr=>wr=[]/\H1=H/\bLO s=Pa) bIv rfl ⟨rfl,siT,rfl,by simp[bLO]⟩ ?_ ?_
 .rintro k ρ1 H1 dc zp ⟨rfl,rfl,e6,hw⟩ hf;have f0:=hf 0 rfl;have f5:=hf 5 rfl;simp only[go_sem,↓aB,seval,e6,f5];refine aD (λe3=>?_) (λe3=>?_)
  .have hlt:k<s.length:=by simp at e3;omega
   have dy:=wS (i:=k) omT;have cj:=AP hlt;have pk:bLO (s.take (k+1))=(bLO (s.take k)&&decide (97<=s[k].toNat/\s[k].toNat<=122)):=by unfold bLO;rw[EW hlt,IL];simp only[List.all_cons,List.all_nil,Bool.and_true]
   have j8:bLO s=Pa->decide (97<=s[k].toNat/\s[k].toNat<=122)=true:=λh=>AO.1 h _ (AS hlt);generalize s[k]=c at *;by_cases h1:97<=c.toNat
   .by_cases h2:c.toNat<=122
    .have e1:decide ((c.toNat:Int)<97)=false:=soT;have e2:decide ((c.toNat:Int)>122)=false:=soT;simp only[go_sem,↓aB,seval,e6,f0,cj,e1,e2,dy];exact⟨hlt,by rw[pk,hw];simp[h1,h2]⟩
    have e1:decide ((c.toNat:Int)<97)=false:=soT;have e2:decide ((c.toNat:Int)>122)=true:=soT;have zh:bLO s=false:=by
     cases h:bLO s with
     |false=>rfl
     |true=>have:=j8 h;simp at this;omega
    simp only[go_sem,↓aB,seval,e6,f0,cj,e1,e2,zh]
   have e1:decide ((c.toNat:Int)<97)=true:=soT;have zh:bLO s=false:=by
    cases h:bLO s with
    |false=>rfl
    |true=>have:=j8 h;simp at this;omega
   simp only[go_sem,↓aB,seval,e6,f0,cj,e1,CE,zh]
  have:k=s.length:=by simp at e3;omega
  subst this;rw[DM]at hw;simp only[go_sem,seval];exact hw
 rintro ρ' H' ba ⟨rfl,rfl,hw⟩ hf;simp only[go_sem,↓aB,seval,hw]
def bRo(F:kl A)(h:M0 r)(H:LO):aG A 55 [.agg (bIx r)] H=N1 (.bool Pa,H,[]):=by
 obtain⟨text,wh,cells⟩:=r;obtain⟨⟨hp,hl,hok⟩,h0,h3,hi⟩:=h;simp only at hp hl hok h0 h3 hi;have h1:=MY.2 hp;have e1:decide ((text.length:Int)<1)=false:=soT;have e2:decide ((text.length:Int)>8)=false:=soT;have e3:decide (wh<0)=false:=soT;have e4:decide (wh>3)=false:=soT;have hind:=bOq F hi;have F3:=bQk F (s:=text) omT;have cj:=AP h1;refine F.right.call ?_;simp only[bNx];rcases hok with hok | ⟨c,rfl,rfl,c1,c2,c3⟩
 .have hw:bLO text=true:=by
   unfold bLO;rw[AO];intro c hc;simpa using hok c hc
  simp only[go_sem,↓aB,seval,e1,e2,e3,e4,hind,F3,hw,cj,CE]
 have hw:bLO [c]=false:=by unfold bLO;simp;omega
 have hc:=bN8 F c.toNat;have e5:decide ((c.toNat:Int) ≥ 32)=true:=soT;have e6:decide ((c.toNat:Int)<=126)=true:=soT;have hlt:=bNW F (UInt8.toNat_lt c);have mg:isL c.toNat=false:=by unfold isL;simp;omega
 have Yf:=bPj F c.toNat;have e7:(decide ((c.toNat:Int) ≥ 48)&&decide ((c.toNat:Int)<=57))=false:=soT;simp only[go_sem,↓aB,seval,hind,F3,hw,hc,e5,e6,hlt,mg,Yf,e7,Hg]
def bQl(F:kl A)(h:M0 r)(H:LO):aG A 54 [.agg (bIx r)] H=N1 (.bool Po,H,[]):=by have hr:=bRo F h;refine F.Ws.call ?_;simp only[bMR];simp only[go_sem,↓aB,seval,hr]
def bPk(F:kl A){l:List fy}(hl:l.length<=1000)(h:∀r∈l,M0 r)(H:LO):aG A 53 [.sl Po (l.map bIx),.fn 54 [] []] H=N1 (.bool Po,H,[]):=by
 have h1:=bSJ F.cR bRn bIJ omT (λr hr=>bQl F (h r hr) H)
 rwa [show (l.any λ_=>Po)=Po by simp]at h1
end
abbrev bNN:=bTw 30 (bIF 37 [])
abbrev bNO:=bTw 30 (bIF 151 [])
abbrev bNP:=bTw 30 (bIF 303 [])
abbrev bMf:=bTw 30 (bJ6 187931007)
abbrev bMg:LN:=[]
abbrev bMh:=bTw 30 (bJ6 523475327)
abbrev bMi:LN:=[]
abbrev bMj:=bTw 30 (bIF 1284479 [(179,.region Pa bMf),(499,.region Pa bMh)])
abbrev bNQ:LN:=[85,86,87,14,88,89,90,91,92,15,93,94,95,96,97,2,98,99,100,101,102,84]
abbrev bNR:=bTw 30 (bIF 2431 [(627,bMj)])
abbrev bNS:=bTw 30 (bIF 4863 [])
def bMz:=(.mk _:bb 30 (bIC [(37,bNN),(151,bNO),(303,bNP),(2431,bNR),(4863,bNS)])).x
@[go_sem] def bSt{call:Nat->LA->LO->Out}{m k v:aa}{s:Option Nat}:oB call s ρ H (.Fs m k v)=oD H (aD0 call H ρ s (.Fs m k v)):=(rfl)
abbrev bLo(k:Str×Int):AV:=.agg [.str k.1,vi k.2]
abbrev bMS(L:List (Str×Int)):List (AV×AV):=L.map λk=>(bLo k,.bool Pa)
def bMT(a b:Str×Int):bJi (bLo a) (bLo b)=N1 (a==b):=rfl
def bQm{k:Str×Int}:∀{L:List (Str×Int)} i,k∉L->bIO (bLo k) (bMS L) i=N1 N2
 | [],_,_=>rfl
 |a::L,i,h=>by
  have h1:(k==a)=false:=by simpa using λe:k=a=>h (by simp[e])
  show (match bJi (bLo k) (bLo a)with | some Pa=>_ | some Po=>bIO (bLo k) (bMS L) (i+1) | none=>N2)=_;rw[bMT,h1];exact bQm (i+1) λhm=>h (by simp[hm])
def bPl{k:Str×Int}:∀{L:List (Str×Int)} i,k∈L->∃j,bIO (bLo k) (bMS L) i=N1 (N1 (j,.bool Pa))
 | [],_,h=>by cases h
 |a::L,i,h=>by
  show ∃j,(match bJi (bLo k) (bLo a)with | some Pa=>N1 (N1 (i,AV.bool Pa)) | some Po=>bIO (bLo k) (bMS L) (i+1) | none=>N2)=_;rw[bMT];cases h1:k==a with
  |true=>exact⟨i,rfl⟩
  |false=>
   have:k∈L:=by
    rcases BD.1 h with e|h
    .simp[e]at h1
    exact h
   exact bPl (i+1) this
def bPm{k:Str×Int}{L:List (Str×Int)}{z:AV}(h:k∈L):bJB z Po (bIO (bLo k) (bMS L) 0)=N1 (.bool Pa):=by obtain⟨j,e⟩:=bPl 0 h;rw[e];rfl
section
variable {A:af}{H:LO}
abbrev bTv(H:LO):Ctx:=⟨H.length,[1,4,9,10,12,79,14,15,17]⟩
def bPn{x0 x1 x2 x6 x7 x8:ah}{i vm:Nat}{c:AV×AV}{l:List fy}(hL:X8 l)(hi:i<2)(r82:ρ 82=.sl Po (l.map bIx))(r83:ρ 83=vi (l.length:Nat))(r84:ρ 84=vi 0)(r11:ρ 11=vi (i:Nat))(r10:ρ 10=.ptr (H.length+3) 1 0)(hc:[c.1,c.2][i]? = N1 (.mp (H.length+5) vm)){Q t}(hQ:∀ρ' y6 y7,aLP bNQ ρ ρ'->Q (.exit 8) ρ' (H++[x0,x1,x2,.box 1 [c.1,c.2],x4,.map vm (bMS (l.map bIM)),y6,y7,x8]) []):wl A 123 (bTv H) bMj ρ (H++[x0,x1,x2,.box 1 [c.1,c.2],x4,.map vm [],x6,x7,x8]) [] Q t:=by
 refine bJ (id:=8) (λj ρ1 H1 wr=>wr=[]/\ρ1 84=vi (j:Nat)/\∃y6 y7,H1=H++[x0,x1,x2,.box 1 [c.1,c.2],x4,.map vm (bMS ((l.take j).map bIM)),y6,y7,x8]) l.length
  (λρ1 H1 wr=>wr=[]/\∃y6 y7,H1=H++[x0,x1,x2,.box 1 [c.1,c.2],x4,.map vm (bMS (l.map bIM)),y6,y7,x8]) bIv rfl ⟨rfl,r84,x6,x7,rfl⟩ ?_ ?_
 .rintro j ρ1 H1 dc mo ⟨rfl,e84,y6,y7,rfl⟩ hf;have f82:ρ1 82=.sl Po (l.map bIx):=(hf 82 rfl).trans r82;have f83:ρ1 83=vi (l.length:Nat):=(hf 83 rfl).trans r83;have f11:ρ1 11=vi (i:Nat):=(hf 11 rfl).trans r11;have f10:ρ1 10=.ptr (H.length+3) 1 0:=(hf 10 rfl).trans r10;have hl90:=hL.len;simp only[go_sem,↓aB,seval,e84,f83];refine aD (λe3=>?_) (λe3=>?_)
  .have jlt:j<l.length:=by simp at e3;omega
   have dy:=wS (i:=j) omT;have cj:=mgE bIx jlt;have Qr:bIM l[j]∉(l.take j).map bIM:=by have hn:=hL.nodup;rw[<- IQ j l,DQ,List.nodup_append]at hn;intro hm;refine hn.2.2 _ hm _ ?_ rfl;rw[FD jlt,BI];simp
   have tp:=bQm 0 Qr;have pk:bMS ((l.take (j+1)).map bIM)=bMS ((l.take j).map bIM)++[(bLo (bIM l[j]),.bool Pa)]:=by rw[EW jlt,DQ];exact DQ
   have gy:bJi (bLo (bIM l[j])) (bLo (bIM l[j]))=N1 true:=by rw[bMT];simp
   generalize bMS ((l.take j).map bIM)=E at *;generalize l[j]=r at *;simp only[bLo]at tp gy pk;have Xc:(i:Int)<2:=omT;have nc:(i=0/\c.1=.mp (H.length+5) vm)∨(i=1/\c.2=.mp (H.length+5) vm):=by
    rcases (by omega:i=0∨i=1)with rfl|rfl
    .exact .inl ⟨rfl,uWu⟩
    exact .inr ⟨rfl,uWu⟩
   obtain⟨c1,c2⟩:=c;simp only at nc;simp only[go_sem,↓aB,seval,e84,f82,cj,jlt];refine aY (aq:=bMg) rfT rfT ?_;rcases nc with⟨rfl,rfl⟩ | ⟨rfl,rfl⟩
   all_goals
    simp only[go_sem,↓aB,seval,bMg,bMf,f11,f10,tp,gy,bJB];refine aY (aq:=bMi) rfT rfT ?_;simp only[go_sem,↓aB,seval,bMi,bMh,f11,f10,e84,tp,gy,pk,dy];exact⟨jlt,_,_,rfl⟩
  have:j=l.length:=by simp at e3;omega
  subst this;simp only[go_sem,seval];exact⟨y6,y7,rfl⟩
 rintro ρ' H' ba ⟨rfl,y6,y7,rfl⟩ hf;exact hQ ρ' y6 y7 hf
abbrev bMU(A:af):Prop:=∀(t:my),yr t->∀H:LO,aG A 30 [bJF t] H=N1 (vi 0,H,[])
def bRp(L:List (Str×Int)):((bMS L).map EM).zip ((bMS L).map GQ)=bMS L:=by rw[List.zip_map',List.map_id'' (λx=>rfl)]
def bQn(h:Has A 30 bMz)(F:kl A):bMU A:=by
 intro t ht H;obtain⟨l0,l1,dig,cap,num,fin,sw⟩:=t;obtain⟨h0,h1,Ik,hd,cm,Gm,zk,Xb⟩:=ht;simp only at h0 h1 Ik hd cm Gm zk Xb;have hL0:=h0.len;have hL1:=h1.len;have w1:AR.wrap 1=1:=wrap_i64 deT deT;have w2:AR.wrap 2=2:=wrap_i64 deT deT;have w3:AR.wrap 3=3:=wrap_i64 deT deT;have w4:AR.wrap 4=4:=wrap_i64 deT deT;refine h.call ?_;simp only[bMz];generalize hT:(ah.box 1 [.sl Po (l0.map bIx),.sl Po (l1.map bIx),.sl Po (gZ dig),.sl Po (gZ cap),.sl Po (gZ num),.sl Po (gZ fin),.sl Po (gZ sw)])=T;simp only[go_sem,↓aB,seval];rw[hT];have hT':=hT.symm;refine bJ (id:=0) (λk ρ1 H1 wr=>wr=[]/\ρ1 20=vi (k:Nat)/\∃x1,H1=H++[T,x1,.gone 0,.gone 0,.gone 0,.gone 0,.gone 0,.gone 0,.gone 0]) 2
  (λρ1 H1 wr=>wr=[]/\∃x1,H1=H++[T,x1,.gone 0,.gone 0,.gone 0,.gone 0,.gone 0,.gone 0,.gone 0]) bIv rfl ⟨rfl,rfl,_,rfl⟩ ?_ ?_
 .rintro k ρ1 H1 dc zp ⟨rfl,e20,x1,rfl⟩ hf;have f19:ρ1 19=.agg [.sl Po (l0.map bIx),.sl Po (l1.map bIx)]:=hf 19 rfl;rcases (by omega:k=0∨k=1∨k=2)with rfl|rfl|rfl
  .have e1:decide ((l0.length:Int)>96)=false:=soT;simp only[go_sem,↓aB,seval,e20,f19,e1,w1];exact⟨_,rfl⟩
  .have e1:decide ((l1.length:Int)>96)=false:=soT;simp only[go_sem,↓aB,seval,e20,f19,e1,w2];exact⟨_,rfl⟩
  simp only[go_sem,↓aB,seval,e20];exact⟨x1,rfl⟩
 rintro ρ1 H1 dc ⟨rfl,x1,rfl⟩ Jh;have f1:ρ1 1=.ptr H.length 1 0:=Jh 1 rfl;have Zg:=bPi F (l:=dig) omT hd;have hd10:((dig.length:Int)==10)=true:=by rw[Ik];rfl
 simp only[go_sem,↓aB,seval,f1,hT',Zg,hd10];rw[<- hT'];refine bJ (id:=2) (λk ρ2 H2 wr=>wr=[]/\ρ2 47=vi (k:Nat)/\ρ2 5=.bool Pa/\H2=H++[T,x1,.gone 0,.gone 0,.gone 0,.gone 0,.gone 0,.gone 0,.gone 0]) 4
  (λρ2 H2 wr=>wr=[]/\ρ2 5=.bool Pa/\H2=H++[T,x1,.gone 0,.gone 0,.gone 0,.gone 0,.gone 0,.gone 0,.gone 0]) bIv rfl ⟨rfl,rfl,rfl,rfl⟩ ?_ ?_
 .rintro k ρ2 H2 en zp ⟨rfl,e47,e5,rfl⟩ cq;have i45:ρ2 45=.sl Pa [[.sl Po (gZ cap)],[.sl Po (gZ num)],[.sl Po (gZ fin)],[.sl Po (gZ sw)]]:=cq 45 rfl;have i46:ρ2 46=vi 4:=cq 46 rfl;have q1:=bOq F cm;have q2:=bOq F Gm;have q3:=bOq F zk;have q4:=bOq F Xb;rcases (by omega:k=0∨k=1∨k=2∨k=3∨k=4)with rfl|rfl|rfl|rfl|rfl
  .simp only[go_sem,↓aB,seval,e47,e5,i45,i46,w1,q1]
  .simp only[go_sem,↓aB,seval,e47,e5,i45,i46,w2,q2]
  .simp only[go_sem,↓aB,seval,e47,e5,i45,i46,w3,q3]
  .simp only[go_sem,↓aB,seval,e47,e5,i45,i46,w4,q4]
  simp only[go_sem,↓aB,seval,e47,e5,i46]
 rintro ρ2 H2 en ⟨rfl,e5,rfl⟩ cq;have f1:ρ2 1=.ptr H.length 1 0:=(cq 1 rfl).trans f1;simp only[go_sem,↓aB,seval,f1,hT'];rw[<- hT'];refine bJ (id:=4) (λk ρ3 H3 wr=>wr=[]/\ρ3 59=vi (k:Nat)/\ρ3 5=.bool Pa/\∃x2,H3=H++[T,x1,x2,.gone 0,.gone 0,.gone 0,.gone 0,.gone 0,.gone 0]) 2
  (λρ3 H3 wr=>wr=[]/\ρ3 5=.bool Pa/\∃x2,H3=H++[T,x1,x2,.gone 0,.gone 0,.gone 0,.gone 0,.gone 0,.gone 0]) bIv rfl ⟨rfl,rfl,e5,_,rfl⟩ ?_ ?_
 .rintro k ρ3 H3 wr3 zp ⟨rfl,e59,e5,x2,rfl⟩ im;have i58:ρ3 58=.agg [.sl Po (l0.map bIx),.sl Po (l1.map bIx)]:=im 58 rfl;have q1:=bPk F (l:=l0) omT h0.X6;have q2:=bPk F (l:=l1) omT h1.X6;rcases (by omega:k=0∨k=1∨k=2)with rfl|rfl|rfl
  .simp only[go_sem,↓aB,seval,e59,e5,i58,w1,q1];exact⟨_,rfl⟩
  .simp only[go_sem,↓aB,seval,e59,e5,i58,w2,q2];exact⟨_,rfl⟩
  simp only[go_sem,↓aB,seval,e59,e5];exact⟨_,rfl⟩
 rintro ρ3 H3 wr3 ⟨rfl,e5,x2,rfl⟩ im;have f1:ρ3 1=.ptr H.length 1 0:=(im 1 rfl).trans f1;simp only[go_sem,↓aB,seval,e5,f1,hT'];rw[<- hT'];refine bJ (id:=6) (λk ρ4 H4 wr=>wr=[]/\ρ4 74=vi (k:Nat)/\ρ4 10=.ptr (H.length+3) 1 0/\∃x4 x6 x7,(k=0/\H4=H++[T,x1,x2,.box 1 [.undef,.undef],x4,.gone 0,x6,x7,.gone 0])∨(k=1/\H4=H++[T,x1,x2,.box 1 [.mp (H.length+5) 1,.undef],x4,.map 1 (bMS (l0.map bIM)),x6,x7,.gone 0]) ∨
    (k=2/\H4=H++[T,x1,x2,.box 1 [.fmp ((bMS (l0.map bIM)).map EM) ((bMS (l0.map bIM)).map GQ),.mp (H.length+5) 2],x4,.map 2 (bMS (l1.map bIM)),x6,x7,.gone 0])) 2
  (λρ4 H4 wr=>wr=[]/\ρ4 10=.ptr (H.length+3) 1 0/\∃x4 x6 x7,H4=H++[T,x1,x2,.box 1 [.fmp ((bMS (l0.map bIM)).map EM) ((bMS (l0.map bIM)).map GQ),.mp (H.length+5) 2],x4,.map 2 (bMS (l1.map bIM)),x6,x7,.gone 0]) bIv rfl ⟨rfl,rfl,rfl,_,_,_,.inl ⟨rfl,rfl⟩⟩ ?_ ?_
 .rintro k ρ4 H4 wr4 zp ⟨rfl,e74,i10,x4,x6,x7,hk⟩ I3;have i73:ρ4 73=.agg [.sl Po (l0.map bIx),.sl Po (l1.map bIx)]:=I3 73 rfl;rcases hk with⟨rfl,rfl⟩ | ⟨rfl,rfl⟩ | ⟨rfl,rfl⟩
  .simp only[go_sem,↓aB,seval,e74,i73,i10,bL5];refine bPn (H:=H) (i:=0) (vm:=1) (c:=(.mp (H.length+5) 1,.undef)) (l:=l0) h0 deT ?a82 ?a83 ?a84 ?a11 ?a10 rfl ?aQ
   case a82=>rfl
   case a83=>rfl
   case a84=>rfl
   case a11=>rfl
   case a10=>exact i10
   intro ρ5 y6 y7 Cv;have g74:ρ5 74=vi 0:=(Cv 74 rfl).trans e74;have g10:ρ5 10=.ptr (H.length+3) 1 0:=(Cv 10 rfl).trans i10;simp only[go_sem,↓aB,seval,g74,g10,w1];exact⟨_,_,_,.inr (.inl rfl)⟩
  .simp only[go_sem,↓aB,seval,e74,i73,i10,bL5];refine bPn (H:=H) (i:=1) (vm:=2) (c:=(.fmp ((bMS (l0.map bIM)).map EM) ((bMS (l0.map bIM)).map GQ),.mp (H.length+5) 2)) (l:=l1) h1 deT ?b82 ?b83 ?b84 ?b11 ?b10 rfl ?bQ
   case b82=>rfl
   case b83=>rfl
   case b84=>rfl
   case b11=>rfl
   case b10=>exact i10
   intro ρ5 y6 y7 Cv;have g74:ρ5 74=vi 1:=(Cv 74 rfl).trans e74;have g10:ρ5 10=.ptr (H.length+3) 1 0:=(Cv 10 rfl).trans i10;simp only[go_sem,↓aB,seval,g74,g10,w2];exact⟨_,_,_,.inr (.inr rfl)⟩
  simp only[go_sem,↓aB,seval,e74,i10];exact⟨_,_,_,rfl⟩
 rintro ρ4 H4 wr4 ⟨rfl,i10,x4,x6,x7,rfl⟩ I3;simp only[go_sem,↓aB,seval];refine bJ (id:=10) (λk ρ5 H5 wr=>wr=[]/\ρ5 16=.int .u8 ((97+k:Nat):Int)/\∃x8,H5=H++[T,x1,x2,.box 1 [.fmp ((bMS (l0.map bIM)).map EM) ((bMS (l0.map bIM)).map GQ),.mp (H.length+5) 2],x4,.map 2 (bMS (l1.map bIM)),x6,x7,x8]) 26
  (λρ5 H5 wr=>wr=[]/\∃x8,H5=H++[T,x1,x2,.box 1 [.fmp ((bMS (l0.map bIM)).map EM) ((bMS (l0.map bIM)).map GQ),.mp (H.length+5) 2],x4,.map 2 (bMS (l1.map bIM)),x6,x7,x8]) bIv rfl ⟨rfl,rfl,_,rfl⟩ ?_ ?_
 .rintro k ρ5 H5 wr5 zp ⟨rfl,e16,x8,rfl⟩ Cv;have g10:ρ5 10=.ptr (H.length+3) 1 0:=(Cv 10 rfl).trans i10;by_cases hk:k<26
  .have e1:decide (((97+k:Nat):Int)<=122)=true:=soT;have hwa:KD.wrap (((97+k:Nat):Int)+1)=((97+(k+1):Nat):Int):=by rw[aQh omT omT];omega
   have hch:=bSI hk;have m0:=bPm (z:=.bool Po) (h0.has (CN (97+k)) omT omT);have m1:=bPm (z:=.bool Po) (h1.has (CN (97+k)) omT omT);have gy:bJi (bLo ([CN (97+k)],0)) (bLo ([CN (97+k)],0))=N1 true:=by rw[bMT];simp
   simp only[bLo]at m0 m1 gy;have Kw:∀X,pT X .i2s (.int .u8 ((97+k:Nat):Int))=N1 (.str [CN (97+k)]):=λX=>by
    unfold pT;dsimp only;rw[Vx omT];rfl
   rw[<- bRp (l0.map bIM)]at m0;simp only[go_sem,↓aB,seval,e16,e1,g10,hwa,Kw,m0,m1,gy];exact⟨hk,_,rfl⟩
  have:k=26:=omT;subst this;simp only[go_sem,↓aB,seval,e16];exact⟨_,rfl⟩
 rintro ρ5 H5 wr5 ⟨rfl,x8,rfl⟩ Cv;simp only[go_sem,↓aB,seval]
end
abbrev bLx:=bTw 101 (bIF 77003 [])
abbrev bNm:LN:=[30,31,7,32,33,34,35,36,37,2,3,38,29]
abbrev bNn:=bTw 101 (bIF 75 [(1203,bLx)])
abbrev bLy:=bTw 101 (bJ6 6710879)
abbrev bLz:LN:=[]
abbrev bLA:=bTw 101 (bIF 157279 [(51,.region Pa bLy)])
abbrev bNo:LN:=[57,58,11,59,60,61,62,63,64,65,66,67,68,8,69,56]
abbrev bNp:=bTw 101 (bIF 607 [(307,bLA)])
def bLp:=(.mk _:bb 101 (bIC [(75,bNn),(607,bNp)])).x
structure ox where
 gg:Int
 c:Nat
variable {l:List ox}
abbrev bIA(s:ox):LA:=[vi s.gg,.int .u8 s.c]
structure SymM(s:ox):Prop where
 gg:s.gg=0∨s.gg=1
 c0:32<=s.c
 c1:s.c<=126
def bPo(s:ox):iX (bIA s)=true:=by simp only[bLb,bMN,bMM,aVS,vi,Hg]
def bNB(l:List ox):gG (l.map bIA)=true:=aGl λv hv=>by
 obtain⟨c,_,rfl⟩:=DB.1 hv;exact bPo c
abbrev bRO(l:List mr):Prop:=l.length<=1000/\∀r∈l,r.text.length<=1000000
def bKn(r:mr):List ox:=r.text.map λb=>⟨r.gg,b.toNat⟩
def bLB(l:List mr):List ox:=l.flatMap bKn
def bLe(l:List mr):Nat:=(l.map λr=>r.text.length).sum
def bNX(l:List mr):(bLB l).length=bLe l:=by unfold bLB bLe;rw[List.length_flatMap];congr 1;exact C5 λr _=>by simp[bKn]
def bOr(l:List mr)(r:mr):bLe (l++[r])=bLe l+r.text.length:=by simp[bLe]
def bOa{l:List mr}(h:∀r∈l,r.text.length<=1000000):bLe l<=l.length*1000000:=by
 induction l with
 |nil=>simp[bLe]
 |cons a l ih=>have h1:=ih λr hr=>h r (by simp[hr]);have h2:=h a siT;unfold bLe at h1 ⊢;simp only[BI,List.sum_cons,AW];omega
abbrev bTr(r:mr):Prop:=(r.gg=0∨r.gg=1)/\∀c∈r.text,32<=c.toNat/\c.toNat<=126
abbrev bOb(A:af):Prop:=∀(l:List mr),bRO l->∀H:LO,∃(e:Int)(s:List ox),aG A 101 [.sl Po (l.map cZ)] H=N1 (.tup [.sl Po (s.map bIA),vi e],H,[])/\(e=0->s.length<=2048/\∀x∈s,SymM x)
section
variable {A:af}{H:LO}
def bPp(F:kl A){v:Nat}{a:ah}(ht:text.length<=1000000)(r6:ρ 6=.ptr H.length v 0)(r28:ρ 28=vi (text.length:Nat))(r29:ρ 29=vi 0){Q t}(hE:(∀c∈text,32<=c.toNat/\c.toNat<=126)->∀ρ',aLP bNm ρ ρ'->Q (.exit 2) ρ' (H++[.box v [vi gg,.str text],a,b]) [])(hR:∀ρ',ρ' 2=.sl Pa []->ρ' 3=vi 1->Q .ret ρ' (H++[.box v [vi gg,.str text],a,b]) []):wl A 72 ⟨H.length,[6,10,68]⟩ bLx ρ (H++[.box v [vi gg,.str text],a,b]) [] Q t:=by
 refine bJ (id:=2) (λk ρ1 H1 wr=>wr=[]/\H1=H++[.box v [vi gg,.str text],a,b]/\ρ1 29=vi k/\∀c∈text.take k,32<=c.toNat/\c.toNat<=126) text.length
  (λρ1 H1 wr=>wr=[]/\H1=H++[.box v [vi gg,.str text],a,b]/\∀c∈text,32<=c.toNat/\c.toNat<=126) bIv rfl ⟨rfl,rfl,r29,siT⟩ ?_ ?_
 .rintro k ρ1 H1 dc zp ⟨rfl,rfl,e29,hc⟩ hf;have f6:=(hf 6 rfl).trans r6;have f28:=(hf 28 rfl).trans r28;simp only[go_sem,↓aB,seval,e29,f28];refine aD (λe3=>?_) (λe3=>?_)
  .have hlt:k<text.length:=by simp at e3;omega
   have dy:=wS (i:=k) omT;have cj:=AP hlt;have pk:=EW hlt;generalize text[k]=c at *;have ma:=bN8 F c.toNat;by_cases h1:32<=c.toNat/\c.toNat<=126
   .have e1:(decide ((c.toNat:Int) ≥ 32)&&decide ((c.toNat:Int)<=126))=true:=soT;simp only[go_sem,↓aB,seval,e29,f6,cj,ma,e1,dy];refine⟨hlt, ?_⟩;rw[pk];intro x hx;rcases AY.1 hx with hx|hx
    .exact hc x hx
    simp at hx;subst hx;exact h1
   have e1:(decide ((c.toNat:Int) ≥ 32)&&decide ((c.toNat:Int)<=126))=false:=soT;simp only[go_sem,↓aB,seval,e29,f6,cj,ma,e1];exact hR _ rfl rfl
  have:k=text.length:=by simp at e3;omega
  subst this;rw[DM]at hc;simp only[go_sem,seval];exact hc
 rintro ρ' H' ba ⟨rfl,rfl,hc⟩ hf;exact hE hc ρ' hf
def bQo{v:Nat}{a:ah}{S:List ox}(ht:text.length<=1000000)(hS:S.length<=1000000000)(r10:ρ 10=.ptr (H.length+1) v 0)(r55:ρ 55=vi (text.length:Nat))(r56:ρ 56=vi 0)(hG:ew (H.length+2) 2 (S.map bIA) (ρ 8) b){Q t}(hQ:∀ρ' b',aLP bNo ρ ρ'->ew (H.length+2) 2 ((S++bKn ⟨gg,text⟩).map bIA) (ρ' 8) b'->Q (.exit 6) ρ' (H++[a,.box v [vi gg,.str text],b']) []):wl A 72 ⟨H.length,[6,10,68]⟩ bLA ρ (H++[a,.box v [vi gg,.str text],b]) [] Q t:=by
 refine bJ (id:=6) (λk ρ1 H1 wr=>wr=[]/\ρ1 56=vi (k:Nat)/\∃b',H1=H++[a,.box v [vi gg,.str text],b']/\ew (H.length+2) 2 ((S++bKn ⟨gg,text.take k⟩).map bIA) (ρ1 8) b') text.length
  (λρ1 H1 wr=>wr=[]/\∃b',H1=H++[a,.box v [vi gg,.str text],b']/\ew (H.length+2) 2 ((S++bKn ⟨gg,text⟩).map bIA) (ρ1 8) b') bIv rfl ⟨rfl,r56,_,rfl,by simpa [bKn]using hG⟩ ?_ ?_
 .rintro k ρ1 H1 dc zp ⟨rfl,e56,b',rfl,hG⟩ hf;have f10:ρ1 10=.ptr (H.length+1) v 0:=(hf 10 rfl).trans r10;have f55:ρ1 55=vi (text.length:Nat):=(hf 55 rfl).trans r55;simp only[go_sem,↓aB,seval,e56,f55];refine aD (λe3=>?_) (λe3=>?_)
  .have hlt:k<text.length:=by simp at e3;omega
   have dy:=wS (i:=k) omT;have cj:text[k]? = N1 text[k]:=AP hlt;have pk:bKn ⟨gg,text.take (k+1)⟩=bKn ⟨gg,text.take k⟩++[⟨gg,(text[k]).toNat⟩]:=by unfold bKn;simp only;rw[EW hlt,DQ];rfl
   generalize text[k]=c at *;have qe:(bKn ⟨gg,text.take k⟩).length=k:=by simp[bKn];omega
   obtain⟨v',o',Sw,Gx⟩:=hG.app (new:=[[.int .i64 gg,.int .u8 c.toNat]]) (bytes:=16) siT rfT (by simp[qe];omega);have ny:=Gx (H++[a,.box v [vi gg,.str text],b']) Pa (by rw[bX];rfl);rw[eS]at ny;simp only[go_sem,↓aB,seval,e56];refine aY (aq:=bLz) rfT rfT ?_;simp only[go_sem,↓aB,seval,bLz,bLy,e56,f10,cj,ny,dy];exact⟨hlt,o',rfl,by rw[pk,<- CJ,DQ];exact Sw⟩
  have:k=text.length:=by simp at e3;omega
  subst this;rw[DM]at hG;simp only[go_sem,seval];exact⟨b',rfl,hG⟩
 rintro ρ' H' ba ⟨rfl,b',rfl,hG⟩ hf;exact hQ ρ' b' hf hG
def bQp(h:Has A 101 bLp)(F:kl A):bOb A:=by
 intro l hl H;obtain⟨r,H',ba,e1,rfl,rfl,e,s,rfl,hs⟩:=h.bp (args:=[.sl Po (l.map cZ)]) (H:=H) (K:=λr H' wr=>wr=[]/\H'=H/\∃(e:Int)(s:List ox),r=.tup [.sl Po (s.map bIA),vi e]/\(e=0->s.length<=2048/\∀x∈s,SymM x)) (by
  simp only[bLp];have hN:=bOa hl.2;have ym:=hl.1;simp only[go_sem,↓aB,seval];refine bJ (id:=0) (λk ρ1 H1 wr=>wr=[]/\ρ1 14=vi (k:Nat)/\ρ1 4=vi (bLe (l.take k):Nat)/\(∀r∈l.take k,bTr r)/\∃x0,H1=H++[x0,.gone 0,.gone 0]) l.length
   (λρ1 H1 wr=>wr=[]/\ρ1 4=vi (bLe l:Nat)/\(∀r∈l,bTr r)/\∃x0,H1=H++[x0,.gone 0,.gone 0]) bIv rfl ⟨rfl,rfl,rfl,siT,_,rfl⟩ ?_ ?_
  .rintro k ρ1 H1 dc zp ⟨rfl,e14,e4,hR,x0,rfl⟩ hf;have f12:ρ1 12=.sl Po (l.map cZ):=hf 12 rfl;have f13:ρ1 13=vi (l.length:Nat):=hf 13 rfl;simp only[go_sem,↓aB,seval,e14,f13];refine aD (λe3=>?_) (λe3=>?_)
   .have hlt:k<l.length:=by simp at e3;omega
    have dy:=wS (i:=k) omT;have cj:=mgE cZ hlt;have pk:l.take (k+1)=l.take k++[l[k]]:=EW hlt;have Mm:=hl.2 _ (AS hlt);have htn:bLe (l.take k)<=k*1000000:=by have:=bOa (l:=l.take k) λr hr=>hl.2 r (FA hr);rw[HB,Gy zp]at this;exact this
    generalize l[k]=r at *;obtain⟨gg,text⟩:=r;simp only at Mm;have fail:∃(e:Int)(s:List ox),AV.tup [.sl Po [],vi 1]=.tup [.sl Po (s.map bIA),vi e]/\(e=0->s.length<=2048/\∀x∈s,SymM x):=⟨1,[],rfl,λh=>by cases h⟩;have hu:(AV.tup [.sl Po [],.int .i64 1]).under H.length=true:=rfl;simp only[cZ]at cj;by_cases hg:gg=0∨gg=1
    .have hpass:(gg != 0)=Po∨(gg != 0)=Pa/\(gg != 1)=false:=by rcases hg with rfl|rfl<;>simp
     rcases hpass with e5 | ⟨e5,e6⟩
     .simp only[go_sem,↓aB,seval,e14,f12,cj,e5,hlt,Aa];refine bPp F (H:=H) Mm ?p6 ?p28 ?p29 ?pE ?pR
      case p6=>rfl
      case p28=>rfl
      case p29=>rfl
      case pR=>intro ρ2 q2 q3;simp only[go_sem,↓aB,seval,q2,q3];exact fail
      intro hpr ρ2 cq;have g4:ρ2 4=vi (bLe (l.take k):Nat):=(cq 4 rfl).trans e4;have g6:ρ2 6=.ptr H.length (x0.ver+1) 0:=cq 6 rfl;have g14:ρ2 14=vi (k:Nat):=(cq 14 rfl).trans e14;have K5:AR.wrap (((bLe (l.take k):Nat):Int)+(text.length:Nat))=((bLe (l.take k)+text.length:Nat):Int):=by rw[wrap_i64 omT omT];omega
      simp only[go_sem,↓aB,seval,g4,g6,g14,K5,dy];exact⟨hlt,by rw[pk,bOr],by
       rw[pk];intro r hr;rcases AY.1 hr with hr|hr
       .exact hR r hr
       simp at hr;subst hr;exact⟨hg,hpr⟩,_,rfl⟩
     simp only[go_sem,↓aB,seval,e14,f12,cj,e5,e6,hlt];refine bPp F (H:=H) Mm ?q6 ?q28 ?q29 ?qE ?qR
     case q6=>rfl
     case q28=>rfl
     case q29=>rfl
     case qR=>intro ρ2 q2 q3;simp only[go_sem,↓aB,seval,q2,q3];exact fail
     intro hpr ρ2 cq;have g4:ρ2 4=vi (bLe (l.take k):Nat):=(cq 4 rfl).trans e4;have g6:ρ2 6=.ptr H.length (x0.ver+1) 0:=cq 6 rfl;have g14:ρ2 14=vi (k:Nat):=(cq 14 rfl).trans e14;have K5:AR.wrap (((bLe (l.take k):Nat):Int)+(text.length:Nat))=((bLe (l.take k)+text.length:Nat):Int):=by rw[wrap_i64 omT omT];omega
     simp only[go_sem,↓aB,seval,g4,g6,g14,K5,dy];exact⟨hlt,by rw[pk,bOr],by
      rw[pk];intro r hr;rcases AY.1 hr with hr|hr
      .exact hR r hr
      simp at hr;subst hr;exact⟨hg,hpr⟩,_,rfl⟩
    have e5:(gg != 0)=true:=soT;have e6:(gg != 1)=true:=soT;simp only[go_sem,↓aB,seval,e14,f12,cj,e5,e6,hlt];exact fail
   have:k=l.length:=by simp at e3;omega
   subst this;rw[DM]at hR e4;simp only[go_sem,seval];exact⟨e4,hR,x0,rfl⟩
  rintro ρ' H' ba ⟨rfl,e4,hR,x0,rfl⟩ hf;have f0:ρ' 0=.sl Po (l.map cZ):=hf 0 rfl;by_cases Rk:bLe l<=2048
  .have e1:decide ((bLe l:Int)>2048)=false:=soT;simp only[go_sem,↓aB,seval,e4,e1,f0];refine bJ (id:=4) (λk ρ1 H1 wr=>wr=[]/\ρ1 49=vi (k:Nat)/\∃x1 x2,H1=H++[x0,x1,x2]/\ew (H.length+2) 2 ((bLB (l.take k)).map bIA) (ρ1 8) x2) l.length
    (λρ1 H1 wr=>wr=[]/\∃x1 x2,H1=H++[x0,x1,x2]/\ew (H.length+2) 2 ((bLB l).map bIA) (ρ1 8) x2) bIv rfl ⟨rfl,rfl,_,_,rfl,.nil _⟩ ?_ ?_
   .rintro k ρ1 H1 dc zp ⟨rfl,e49,x1,x2,rfl,hG⟩ hf;have f47:ρ1 47=.sl Po (l.map cZ):=hf 47 rfl;have f48:ρ1 48=vi (l.length:Nat):=hf 48 rfl;simp only[go_sem,↓aB,seval,e49,f48];refine aD (λe3=>?_) (λe3=>?_)
    .have hlt:k<l.length:=by simp at e3;omega
     have dy:=wS (i:=k) omT;have cj:=mgE cZ hlt;have pk:bLB (l.take (k+1))=bLB (l.take k)++bKn l[k]:=by unfold bLB;rw[EW hlt,List.flatMap_append,List.flatMap_cons,List.flatMap_nil,AJ]
     have Mm:=hl.2 _ (AS hlt);have G6:(bLB (l.take k)).length<=1000000000:=by rw[bNX];have:=bOa (l:=l.take k) λr hr=>hl.2 r (FA hr);rw[HB,Gy zp]at this;omega
     generalize bLB (l.take k)=S at *;generalize l[k]=r at *;obtain⟨gg,text⟩:=r;simp only[cZ]at cj;simp only[go_sem,↓aB,seval,e49,f47,cj,hlt];refine bQo (H:=H) Mm G6 ?c10 ?c55 ?c56 ?cG ?cQ
     case c10=>rfl
     case c55=>rfl
     case c56=>rfl
     case cG=>exact hG
     intro ρ2 b' cq Wh;have g49:ρ2 49=vi (k:Nat):=(cq 49 rfl).trans e49;simp only[go_sem,↓aB,seval,g49,dy];exact⟨hlt,_,_,rfl,by rw[pk];exact Wh⟩
    have:k=l.length:=by simp at e3;omega
    subst this;rw[DM]at hG;simp only[go_sem,seval];exact⟨x1,x2,rfl,hG⟩
   rintro ρ2 H2 en ⟨rfl,x1,x2,rfl,hG⟩ cq;have G6:(bLB l).length<=2048:=by rw[bNX];exact Rk
   have hgood:∀x∈bLB l,SymM x:=by intro x hx;obtain⟨r,hr,hx⟩:=List.mem_flatMap.1 hx;obtain⟨b,hb,rfl⟩:=DB.1 hx;exact⟨(hR r hr).1,((hR r hr).2 b hb).1,((hR r hr).2 b hb).2⟩
   generalize bLB l=S at *;obtain⟨fl,lst,o',D1⟩:=aNo hG (bNB S);obtain⟨S7,C3,yd⟩:=D1 (H++[x0,x1,x2]) (by rw[bX];rfl);rw[eS]at C3;have yd:=λwr=>yd H.length wr omT;simp only[go_sem,↓aB,seval,S7,C3,yd];have hu:(AV.tup [.sl Po (S.map bIA),.int .i64 0]).under H.length=true:=by simp only[AV.under,dJ,aA (bNB _),Hg]
   rw[qQ hu,GU];exact⟨rfl,rfl,0,S,rfl,λ_=>⟨G6,hgood⟩⟩
  have e1:decide ((bLe l:Int)>2048)=true:=soT;simp only[go_sem,↓aB,seval,e4,e1];exact⟨4,[],rfl,λh=>by cases h⟩)
 exact⟨e,s,e1,hs⟩
end
abbrev bLP:=bTw 337 (bJ6 5)
abbrev bLQ:LN:=[]
abbrev bNC:=bTw 337 (bIF 71 [])
abbrev bND:=bTw 337 (bIF 143 [])
def bLR:=(.mk _:bb 337 (bIC [(5,.region Pa bLP),(71,bNC),(143,bND)])).x
abbrev bJ9:=bTw 365 (bJ6 5)
abbrev bIP:LN:=[]
def bJ1:=(.mk _:bb 365 (bIC [(5,.region Pa bJ9)])).x
abbrev bJp:=bTw 301 (bJ6 22935)
abbrev bIT:LN:=[]
abbrev bOc:=bTw 301 (bIF 151 [(179,.region Pa bJp)])
def bMV:=(.mk _:bb 301 (bIF 447 [])).x
def bN9:=(.mk _:bb 301 (bIC [(151,bOc),(447,bMV)])).x
section
variable {A:af}
def bSa(h:Has A 365 bJ1)(F:kl A)(hs:∀x∈l,SymM x){a:Nat}(ha:a<l.length)(i:Int){v o' v':Nat}(ho:H[o]? = N1 (.box v [.sl Po (l.map bIA)]))(z7:H[o']? = N1 (.box v' [vi (a:Nat)])):∃r:Bool,aG A 365 [vi i,.ptr o v 0,.ptr o' v' 0] H=N1 (.bool r,H,[])/\(r=Pa->0<=i/\i<l.length):=by
 by_cases h0:0<=i
 .by_cases h1:i<l.length
  .obtain⟨n,rfl⟩:=DN h0;have hn:n<l.length:=omT;have hx:=hs _ (AS hn);have cj:=mgE bIA hn;have Wu:=mgE bIA ha;generalize l[n]=x at *;generalize l[a]=y at *;have mj:=hx.c1;have hle:=bNW F (c:=x.c) omT;have e0:decide ((n:Int) ≥ 0)=true:=siT;have e1:decide ((n:Int)<(l.length:Nat))=true:=by simpa using hn
   obtain⟨xl,xc⟩:=x;obtain⟨yl,yc⟩:=y;simp only[bIA]at cj Wu hle;cases e2:xl==yl with
   |true=>refine⟨isL xc,h.call ?_,λ_=>⟨h0,h1⟩⟩;simp only[bJ1];simp only[go_sem,↓aB,seval];refine aY (aq:=bIP) rfT rfT ?_;simp only[go_sem,↓aB,seval,bIP,bJ9,ho,z7,cj,Wu,hle,e2,hn]
   |false=>refine⟨Po,h.call ?_,λe=>by cases e⟩;simp only[bJ1];simp only[go_sem,↓aB,seval];refine aY (aq:=bIP) rfT rfT ?_;simp only[go_sem,↓aB,seval,bIP,bJ9,ho,z7,cj,Wu,e2,hn,Aa]
  have e0:decide (i ≥ 0)=true:=uWS
  have e1:decide (i<(l.length:Nat))=false:=uWk
  refine⟨Po,h.call ?_,λe=>by cases e⟩;simp only[bJ1];simp only[go_sem,↓aB,seval];refine aY (aq:=bIP) rfT rfT ?_;simp only[go_sem,↓aB,seval,bIP,bJ9,ho,e0,e1,Aa]
 have e0:decide (i ≥ 0)=false:=uWS
 refine⟨Po,h.call ?_,λe=>by cases e⟩;simp only[bJ1];simp only[go_sem,↓aB,seval];refine aY (aq:=bIP) rfT rfT ?_;simp only[go_sem,↓aB,seval,bIP,bJ9,e0,Aa]
abbrev bQq(A:af):Prop:=∀(l:List ox),l.length<=2048->(∀x∈l,SymM x)->∀a<l.length,∀H:LO,∃i j:Int,aG A 337 [.sl Po (l.map bIA),vi (a:Nat)] H=N1 (.tup [vi i,vi j],H,[])
def bRq(h:Has A 337 bLR)(h1:Has A 365 bJ1)(F:kl A):bQq A:=by
 intro l hl hs a ha H;obtain⟨r,H',ba,e1,rfl,rfl,i,j,rfl⟩:=h.bp (args:=[.sl Po (l.map bIA),vi a]) (K:=λr H' wr=>wr=[]/\H'=H/\∃i j:Int,r=.tup [vi i,vi j]) (by
  simp only[bLR];simp only[go_sem,↓aB,seval];refine aY (aq:=bLQ) rfT rfT ?_;have g0:(H++[ah.box 1 [.sl Po (l.map bIA)],.box 1 [vi a]])[H.length]? = N1 (.box 1 [.sl Po (l.map bIA)]):=siT;have g1:(H++[ah.box 1 [.sl Po (l.map bIA)],.box 1 [vi a]])[H.length+1]? = N1 (.box 1 [vi a]):=siT;simp only[go_sem,↓aB,seval,bLQ,bLP];generalize hHH:(H++[ah.box 1 [.sl Po (l.map bIA)],.box 1 [vi a]])=HH at *;have cl:=λi=>bSa h1 F hs ha i g0 g1;refine bJ (id:=0) (λk ρ1 H1 wr=>wr=[]/\H1=HH/\ρ1 6=vi ((a - k:Nat):Int)) a
   (λρ1 H1 wr=>wr=[]/\H1=HH/\∃i:Int,ρ1 6=vi i) bIv rfl ⟨rfl,rfl,rfl⟩ ?_ ?_
  .rintro k ρ1 H1 dc zp ⟨rfl,rfl,e6⟩ hf;have f8:=hf 8 rfl;have hw:AR.wrap (((a - k:Nat):Int) - 1)=a - (k+1:Nat):=by rw[wrap_i64 omT omT];omega
   obtain⟨r,hc,hr⟩:=cl (a - (k+1:Nat));have hlt:=λe=>(hr e).1;have gn:r=Pa->(a - (k+1:Nat))=((a - (k+1):Nat):Int):=λe=>by have:=hlt e;omega
   cases r with
   |true=>have:=hlt rfl;rw[gn rfl]at hc hw;simp only[go_sem,↓aB,seval,e6,f8,hw,hc];exact (by omega:k<a)
   |false=>simp only[go_sem,↓aB,seval,e6,f8,hw,hc];exact⟨_,rfl⟩
  rintro ρ1 H1 dc ⟨rfl,rfl,i,e6⟩ hf;have f7:ρ1 7=vi a:=hf 7 rfl;simp only[go_sem,seval];refine bJ (id:=2) (λk ρ2 H2 wr=>wr=[]/\H2=H1/\ρ2 7=vi ((a+k:Nat):Int)) (l.length - a)
   (λρ2 H2 wr=>wr=[]/\H2=H1/\∃j:Int,ρ2 7=vi j) bIv rfl ⟨rfl,rfl,by simpa using f7⟩ ?_ ?_
  .rintro k ρ2 H2 en zp ⟨rfl,rfl,e7⟩ cq;have f8:ρ2 8=.fn 365 [] [.ptr H.length 1 0,.ptr (H.length+1) 1 0]:=by rw[cq 8 rfT,hf 8 rfT];rfl
   have hw:AR.wrap (((a+k:Nat):Int)+1)=((a+(k+1):Nat):Int):=by rw[wrap_i64 omT omT];omega
   obtain⟨r,hc,hr⟩:=cl ((a+k:Nat):Int);cases r with
   |true=>have:=hr rfl;simp only[go_sem,↓aB,seval,e7,f8,hw,hc];exact (by omega:k<l.length - a)
   |false=>simp only[go_sem,↓aB,seval,e7,f8,hc];exact⟨_,rfl⟩
  rintro ρ2 H2 en ⟨rfl,rfl,j,e7⟩ cq;have f6:=(cq 6 rfl).trans e6;rw[<- hHH];simp only[go_sem,↓aB,seval,f6,e7];exact⟨i,j,rfl⟩)
 exact⟨i,j,e1⟩
def bOS(l:List ox):dF 2 (l.map bIA)=true:=by cases l<;>rfl
abbrev bNr(A:af):Prop:=∀(r:fy),M0 r->∀(l:List ox),l.length<=2048->(∀x∈l,SymM x)->∀a<l.length,∀H:LO,∃b:Bool,aG A 301 [.agg (bIx r),.sl Po (l.map bIA),vi (a:Nat)] H=N1 (.bool b,H,[])/\(b=Pa->a+r.text.length<=l.length)
def bQr(h:Has A 301 bN9)(F:kl A)(hb:bQq A):bNr A:=by
 intro r hr l hl hs a ha H;obtain⟨v,H',ba,e1,rfl,rfl,b,rfl,hb⟩:=h.bp (args:=[.agg (bIx r),.sl Po (l.map bIA),vi (a:Nat)]) (H:=H) (K:=λv H' wr=>wr=[]/\H'=H/\∃b:Bool,v=.bool b/\(b=Pa->a+r.text.length<=l.length)) (by
  obtain⟨text,wh,cs⟩:=r;have hT:=hr.text;have tl:=hT.len;simp only at tl;simp only[bN9];have w1:AR.wrap ((a:Int)+(text.length:Nat))=((a+text.length:Nat):Int):=by rw[wrap_i64 omT omT];omega
  have fail:∃b:Bool,AV.bool Po=.bool b/\(b=Pa->a+text.length<=l.length):=⟨Po,rfl,λe=>by cases e⟩;by_cases ax:a+text.length<=l.length
  .have e1:decide (l.length<a+text.length)=false:=soT;have any:∀c:Bool,∃b:Bool,AV.bool c=.bool b/\(b=Pa->a+text.length<=l.length):=λc=>⟨c,rfl,λ_=>ax⟩;have fo:=aH0 (n:=l.length) (l:=a) (k:=a+text.length) omT ax;generalize hX:ah.box 1 (bIx ⟨text,wh,cs⟩)=X;have Zu:=hX.symm;simp only[bIx]at hX;simp only[go_sem,↓aB,seval,w1,e1,fo,bOS,NS,HB,Gy ax,FL];rw[hX];refine bJ (id:=0) (λk ρ1 H1 wr=>wr=[]/\ρ1 31=vi (k:Nat)/\∃x,H1=H++[X,x]) text.length
    (λρ1 H1 wr=>wr=[]/\∃x,H1=H++[X,x]) bIv rfl ⟨rfl,rfl,_,rfl⟩ ?_ ?_
   .rintro k ρ1 H1 dc zp ⟨rfl,e31,x,rfl⟩ hf;have f1:ρ1 1=.sl Po (l.map bIA):=hf 1 rfl;have f2:ρ1 2=vi (a:Nat):=hf 2 rfl;have f3:ρ1 3=.ptr H.length 1 0:=hf 3 rfl;have f29:ρ1 29=.sl Po (((l.map bIA).take (a+text.length)).drop a):=hf 29 rfl;have f30:ρ1 30=vi (text.length:Nat):=hf 30 rfl;simp only[go_sem,↓aB,seval,e31,f30];refine aD (λe3=>?_) (λe3=>?_)
    .have hlt:k<text.length:=by simp at e3;omega
     have dy:=wS (i:=k) omT;have hak:a+k<l.length:=omT;have cj:(((l.map bIA).take (a+text.length)).drop a)[k]? = N1 (bIA l[a+k]):=by rw[List.getElem?_drop,Af omT,BN,AP hak];rfl
     have Wu:=mgE bIA ha;have V8:text[k]? = N1 text[k]:=AP hlt;have hx:=hs _ (AS hak);generalize l[a+k]=x1 at *;generalize l[a]=y1 at *;generalize text[k]=c at *;have mj:=hx.c1;have hle:=bNA F (c:=x1.c) omT;obtain⟨xl,xc⟩:=x1;obtain⟨yl,yc⟩:=y1;simp only[bIA]at cj Wu hle;have hln:(((l.map bIA).take (a+text.length)).drop a).length=text.length:=soT;generalize (((l.map bIA).take (a+text.length)).drop a)=L2 at *;cases e4:((bRN xc:Int) != (c.toNat:Int))with
     |true=>simp only[go_sem,↓aB,seval,e31,f29,cj,hle,hlt];refine aY (aq:=bIT) rfT rfT ?_;simp only[go_sem,↓aB,seval,bIT,bJp,f3,Zu,V8,e4,CE];exact fail
     |false=>
      cases e5:xl != yl with
      |true=>simp only[go_sem,↓aB,seval,e31,f29,cj,hle,hlt];refine aY (aq:=bIT) rfT rfT ?_;simp only[go_sem,↓aB,seval,bIT,bJp,f1,f2,f3,Zu,V8,Wu,e4,e5,CE];exact fail
      |false=>
       cases e6:bNz xc with
       |false=>simp only[go_sem,↓aB,seval,e31,f29,cj,hle,hlt,e6];refine aY (aq:=bIT) rfT rfT ?_;simp only[go_sem,↓aB,seval,bIT,bJp,e31,f1,f2,f3,Zu,V8,Wu,e4,e5,Aa,dy];exact⟨hlt,_,rfl⟩
       |true=>
        by_cases h0:0<k
        .have e7:decide ((k:Int)>0)=true:=soT;simp only[go_sem,↓aB,seval,e31,f29,cj,hle,hlt,e6];refine aY (aq:=bIT) rfT rfT ?_;simp only[go_sem,↓aB,seval,bIT,bJp,f1,f2,f3,Zu,V8,Wu,e4,e5,e7];exact fail
        have e7:decide ((k:Int)>0)=false:=soT;simp only[go_sem,↓aB,seval,e31,f29,cj,hle,hlt,e6];refine aY (aq:=bIT) rfT rfT ?_;simp only[go_sem,↓aB,seval,bIT,bJp,e31,f1,f2,f3,Zu,V8,Wu,e4,e5,e7,dy];exact⟨hlt,_,rfl⟩
    have:k=text.length:=by simp at e3;omega
    subst this;simp only[go_sem,seval];exact⟨x,rfl⟩
   rintro ρ1 H1 dc ⟨rfl,x,rfl⟩ hf;have f1:ρ1 1=.sl Po (l.map bIA):=hf 1 rfl;have f2:ρ1 2=vi (a:Nat):=hf 2 rfl;have f3:ρ1 3=.ptr H.length 1 0:=hf 3 rfl;have f7:ρ1 7=vi (text.length:Nat):=hf 7 rfl;have F3:=bQk F (s:=text) omT;cases e2:bLO text with
   |false=>simp only[go_sem,↓aB,seval,f3,Zu,F3,e2];exact any _
   |true=>
    obtain⟨i,j,hbc⟩:=hb l hl hs a ha (H++[X,x]);rw[Zu]at hbc;simp only[go_sem,↓aB,seval,f1,f2,f3,Zu,F3,e2,hbc,bMV];cases e3:wh==1 with
    |true=>
     cases e4:i==(a:Int)with
     |true=>simp only[go_sem,↓aB,seval,f2,f7,e4,w1];exact any _
     |false=>simp only[go_sem,↓aB,seval,f2,e4];exact any _
    |false=>
     cases e5:wh==2 with
     |true=>
      cases e4:i==(a:Int)with
      |true=>simp only[go_sem,↓aB,seval,f2,f7,e4,e5,w1];exact any _
      |false=>simp only[go_sem,↓aB,seval,f2,e4,e5];exact any _
     |false=>
      cases e6:wh==3 with
      |true=>simp only[go_sem,↓aB,seval,f2,e5,e6];exact any _
      |false=>simp only[go_sem,↓aB,seval,e5,e6];exact any _
  have e1:decide (l.length<a+text.length)=true:=soT;simp only[go_sem,↓aB,seval,w1,e1];exact fail)
 exact⟨b,e1,hb⟩
end
abbrev bKE:=bTw 148 (bIF 75 [])
abbrev bKF:=bTw 148 (bIF 303 [])
def bIQ:=(.mk _:bb 148 (bIC [(75,bKE),(303,bKF)])).x
def bSb{v bytes:Nat}{rows:List LA}(ho:H[o]? = N1 (.vec v k rows))(hk:dF k new=Pa)(hr:(rows.length+new.length)*(bytes+1)<=1099511627776)(site:Option Nat)(f:Bool):∃wr,eX H site k bytes (.sr o v rows.length) (.sl f new)=N1 (.sr o v (rows++new).length,H.set o (.vec v k (rows++new)),wr)/\∀b w,b<=o->bE b w wr=w:=by
 have ed:bP (rows.length+new.length) bytes=true:=by unfold bP;simpa using hr
 cases new with
 |nil=>refine⟨[], ?_,λ_ _ _=>rfl⟩;unfold eX;simp only[bIz,dO,hk];simp only[BT,BX,Vt,ho,AZ,DU]at ed ⊢;rw[Vx ⟨trivial,trivial,trivial,ed⟩];simp only[Bm,Vu,AJ];rw[aJo ho]
 |cons a l=>refine⟨[o], ?_,λb w hb=>by unfold bE;rw[Vw omT];rfl⟩;unfold eX;simp only[bIz,dO,hk];simp only[BT,BX,Vt,ho,ed,and_self,Vu,List.isEmpty_cons,BA]
def bRr(H:List α)(x y:α)(L:List α):(H++x::L).set H.length y=H++y::L:=by simp[]
abbrev bPq(l:LN):LA:=[.sl Po (gZ l)]
def bIK(l:LN):dF 1 (gZ l)=true:=by cases l<;>rfl
abbrev bPr(A:af):Prop:=∀(n:Nat),0<n->n<=100000000->∀(H:LO),aG A 238 [.ar,vi n] H=N1 (.own 1 [],H,[])
abbrev bOs(A:af):Prop:=∀(H:LO),aG A 238 [.ar,vi 0] H=N1 (.ar,H,[])
abbrev bNE(A:af):Prop:=∀(f:Bool)(ls:List LN),ls.length<=1000000->ls.flatten.length<=100000000->ls.flatten≠[]->∀H:LO,aG A 148 [.sl f (ls.map bPq)] H=N1 (.own 1 (gZ ls.flatten),H,[])
def bOt(ls:List (List α)) k:(ls.take k).flatten.length<=ls.flatten.length:=by
 conv=>rhs;rw[<- IQ k ls,Aj,BA]
 omega
def bRs(h:Has A 148 bIQ)(hg:bPr A):bNE A:=by
 intro f ls hl hf bl H;refine h.call ?_;simp only[bIQ];simp only[go_sem,↓aB,seval];refine bJ (id:=0) (λk ρ1 H1 wr=>wr=[]/\H1=H++[.gone 0,.gone 0]/\ρ1 11=vi (k:Nat)/\ρ1 3=vi ((ls.take k).flatten.length:Nat)) ls.length
  (λρ1 H1 wr=>wr=[]/\H1=H++[.gone 0,.gone 0]/\ρ1 3=vi (ls.flatten.length:Nat)) bIv rfl ⟨rfl,rfl,rfl,rfl⟩ ?_ ?_
 .rintro k ρ1 H1 dc zp ⟨rfl,rfl,e11,e3'⟩ Jh;have f9:ρ1 9=.sl f (ls.map bPq):=Jh 9 rfl;have f10:ρ1 10=vi (ls.length:Nat):=Jh 10 rfl;simp only[go_sem,↓aB,seval,e11,f10];refine aD (λe3=>?_) (λe3=>?_)
  .have hlt:k<ls.length:=by simp at e3;omega
   have dy:=wS (i:=k) omT;have cj:=mgE bPq hlt;have pk:(ls.take (k+1)).flatten.length=(ls.take k).flatten.length+ls[k].length:=by rw[EW hlt,Aj,BA];simp
   have hb:=bOt ls (k+1);generalize (ls.take k).flatten.length=n at *;generalize ls[k]=c at *;have gn:AR.wrap ((n:Int)+(c.length:Nat))=((n+c.length:Nat):Int):=by rw[wrap_i64 omT omT];omega
   have e4:decide (((n+c.length:Nat):Int)<0)=false:=soT;simp only[bPq]at cj;simp only[go_sem,↓aB,seval,e11,e3',f9,cj,hlt,dy,gn,e4];rw[pk]
  have:k=ls.length:=by simp at e3;omega
  subst this;simp only[go_sem,seval];rw[DM]at e3';exact e3'
 rintro ρ1 H1 dc ⟨rfl,rfl,e3⟩ Jh;have hg:=λX=>hg _ (MY.2 bl) hf X;have f0:ρ1 0=.sl f (ls.map bPq):=Jh 0 rfl;simp only[go_sem,↓aB,seval,e3,hg,f0];refine bJ (id:=2) (λk ρ2 H2 wr=>wr=[]/\H2=H++[.vec 1 1 (gZ (ls.take k).flatten),.gone 0]/\ρ2 27=vi (k:Nat)/\ρ2 6=.sr H.length 1 (gZ (ls.take k).flatten).length) ls.length
  (λρ2 H2 wr=>wr=[]/\H2=H++[.vec 1 1 (gZ ls.flatten),.gone 0]/\ρ2 6=.sr H.length 1 (gZ ls.flatten).length) bIv rfl ⟨rfl,rfl,rfl,rfl⟩ ?_ ?_
 .rintro k ρ2 H2 en zp ⟨rfl,rfl,e27,e6⟩ cq;have f25:ρ2 25=.sl f (ls.map bPq):=cq 25 rfl;have f26:ρ2 26=vi (ls.length:Nat):=cq 26 rfl;simp only[go_sem,↓aB,seval,e27,f26];refine aD (λe3=>?_) (λe3=>?_)
  .have hlt:k<ls.length:=by simp at e3;omega
   have dy:=wS (i:=k) omT;have cj:=mgE bPq hlt;have pk:gZ (ls.take (k+1)).flatten=gZ (ls.take k).flatten++gZ ls[k]:=by rw[EW hlt,Aj,gZ,DQ];simp
   have hb:=bOt ls (k+1);have dp:(gZ (ls.take k).flatten).length+(gZ ls[k]).length<=100000000:=by rw[<- BA,<- pk,AF];omega
   generalize gZ (ls.take k).flatten=R at *;generalize hc:gZ ls[k]=C at *;have hC:dF 1 C=true:=by rw[<- hc];exact bIK _
   obtain⟨wr,Gx,Ym⟩:=bSb (H:=H++[.vec 1 1 R,.gone 0]) (o:=H.length) (v:=1) (k:=1) (bytes:=1) (rows:=R) (new:=C) siT hC omT (N1 (H.length+1)) Po;have haw':=Ym H.length [] omT;rw[bRr]at Gx;simp only[bPq,hc]at cj;simp only[go_sem,↓aB,seval,e27,e6,f25,cj,Gx,haw',hlt,dy,pk]
  have:k=ls.length:=by simp at e3;omega
  subst this;rw[DM]at e6;simp only[go_sem,seval];rw[<- AF (f:=bNc)];exact e6
 rintro ρ2 H2 en ⟨rfl,rfl,e6⟩ cq;have bd:=aT (bIy ls.flatten);have Rz:=aA (n:=H.length) (bIy ls.flatten);generalize gZ ls.flatten=R at *;simp only[go_sem,↓aB,seval,e6,bd];have hu:(AV.own 1 R).under H.length=true:=uWN
 rw[qQ hu,GU];exact⟨rfl,rfl,rfl⟩
def bSc(h:Has A 148 bIQ)(hg:bOs A)(hv:v=.ar∨v=.sl Po [])(H:LO):aG A 148 [v] H=N1 (.ar,H,[]):=by
 have E4:aW6 v=N1 (vi (0:Nat)):=by rcases hv with rfl|rfl<;>rfl
 refine h.call ?_;have Q6:∀H,aG A 238 [.ar,.int .i64 0] H=N1 (.ar,H,[]):=λH=>hg H;simp only[bIQ];simp only[go_sem,↓aB,seval,E4];refine bJ (id:=0) (λk ρ1 H1 wr=>wr=[]/\H1=H++[.gone 0,.gone 0]/\ρ1 11=vi 0/\ρ1 3=vi 0) 0
  (λρ1 H1 wr=>wr=[]/\H1=H++[.gone 0,.gone 0]/\ρ1 3=vi 0) bIv rfl ⟨rfl,rfl,rfl,rfl⟩ ?_ ?_
 .rintro k ρ1 H1 dc zp ⟨rfl,rfl,e11,e3⟩ hf;have f10:ρ1 10=vi 0:=hf 10 rfl;simp only[go_sem,↓aB,seval,e11,f10];exact e3
 rintro ρ1 H1 dc ⟨rfl,rfl,e3⟩ Jh;have f0:ρ1 0=v:=Jh 0 rfl;simp only[go_sem,↓aB,seval,e3,Q6,f0,E4];refine bJ (id:=2) (λk ρ2 H2 wr=>wr=[]/\H2=H++[.gone 0,.gone 0]/\ρ2 27=vi 0/\ρ2 6=.ar) 0
  (λρ2 H2 wr=>wr=[]/\H2=H++[.gone 0,.gone 0]/\ρ2 6=.ar) bIv rfl ⟨rfl,rfl,rfl,rfl⟩ ?_ ?_
 .rintro k ρ2 H2 en zp ⟨rfl,rfl,e27,e6⟩ cq;have f26:ρ2 26=vi 0:=cq 26 rfl;simp only[go_sem,↓aB,seval,e27,f26];exact e6
 rintro ρ2 H2 en ⟨rfl,rfl,e6⟩ cq;have fz:∀b HH,aDR b HH .ar=N1 (.ar,HH,[]):=λ_ _=>rfl;have hu:AV.ar.under H.length=true:=rfl;simp only[go_sem,↓aB,seval,e6,fz,hu]
def bOu:=(.mk _:bb 299 bTx).x
def bMW:=(.mk _:bb 298 bTx).x
def bJe:=(.mk _:bb 300 bTx).x
abbrev bMk:=bTw 249 (bJ6 151)
abbrev bMl:LN:=[1,5]
abbrev bL6:=bTw 249 (bJ6 1455)
abbrev bJV:LN:=[1,12]
abbrev bMm:=bTw 249 (bJ6 2935807)
abbrev bMn:LN:=[2,6,12]
abbrev bMo:=bTw 249 (bIF 19455 [(179,.region Pa bMm)])
def bMX:=(.mk _:bb 249 (bIF 2047 [(18,bMo)])).x
def bMA:=(.mk _:bb 249 (bIC [(151,.region Pa bMk),(1455,.region Pa bL6),(2047,bMX)])).x
structure vl where
 gg:Int
 num:Bool
 inn:Bool
 len:Nat
 cells:LN
 X6:Int
abbrev bIG(s:vl):LA:=[vi s.gg,.bool s.num,.bool s.inn,vi (s.len:Nat),.sl Po (gZ s.cells),vi s.X6]
structure Wl(l:List ox)(sl:Int)(a:Nat)(s:vl):Prop where
 gg:s.gg=0∨s.gg=1
 to:a+s.len<=l.length
 zero:s.len=0->∃x,l[a]? = N1 x/\x.gg≠sl/\s.gg=x.gg
 cell:∀c∈s.cells,c<=63
 few:s.cells.length<=12
def bQs(s:vl):iX (bIG s)=true:=by simp only[bLb,bMN,bMM,bOL,bIy,aVS,aXv,vi,Hg,bQ7,aUa]
def bNa(l:List vl):gG (l.map bIG)=true:=aGl λv hv=>by
 obtain⟨c,_,rfl⟩:=DB.1 hv;exact bQs c
def bQt:mv 2 Pa bIA:=⟨λ_=>rfl,bPo,λh=>by cases h⟩
abbrev bPG(A:af):Prop:=∀(l:LN),l≠[]->l.length<=1000->∀H:LO,aG A 300 [.sl Po (gZ l)] H=N1 (.own 1 (gZ l),H,[])
abbrev bKG(A:af):Prop:=∀(t:my),yr t->∀(sl:Int)(num inn:Bool),sl=0∨sl=1->∀(l:List ox),l.length<=2048->(∀x∈l,SymM x)->∀a<l.length,∀H:LO,∃(r:AV)(rows:List vl),aG A 249 [bJF t,.agg [vi sl,.bool num,.bool inn],.sl Po (l.map bIA),vi (a:Nat)] H=N1 (r,H,[])/\(r=.own 6 (rows.map bIG)∨r=.sl Po (rows.map bIG))/\rows.length<=96/\∀s∈rows,Wl l sl a s
structure X4(A:af):Prop where
 sym:Has A 299 bOu
 one:Has A 298 bMW
 con:aAA A 245 2 Pa
 clone:Has A 300 bJe
section
variable {A:af}
def bOT(h:Has A 300 bJe):bPG A:=by
 intro l bl hl H;refine h.call ?_;obtain⟨c,r,rfl⟩:=List.exists_cons_of_ne_nil bl;have bd:=aT (bIy (c::r));have Rz:=aA (n:=H.length) (bIy (c::r));have hr:bP (gZ (c::r)).length 1=true:=by unfold bP;simp at hl ⊢;omega
 simp only[bJe];have pw:bP (r.length+1) 1=true:=by simpa using hr
 simp only[BI]at bd Rz;simp only[go_sem,↓aB,seval,bd,pw];have hu:(AV.own 1 (bNc c::r.map bNc)).under H.length=true:=uWN
 rw[qQ hu,GU];exact⟨rfl,rfl,rfl⟩
def bQu(F:X4 A)(T:kl A){x:ox}(hx:SymM x)(H:LO):aG A 298 [.agg (bIA x)] H=N1 (.bool Po,H,[]):=by
 have hs:∀H,aG A 299 [.agg (bIA x)] H=N1 (.bool Pa,H,[]):=by
  intro H;refine F.sym.call ?_;have h0:=hx.c0;have h1:=hx.c1;have hw:=bN8 T x.c;have e1:(decide ((x.c:Int) ≥ 32)&&decide ((x.c:Int)<=126))=true:=soT;rw[e1]at hw;simp only[bOu];cases e0:x.gg==0 with
  |true=>simp only[go_sem,↓aB,seval,e0,hw]
  |false=>
   have e2:(x.gg==1)=true:=by rcases hx.gg with e|e<;>simp[e]at e0 ⊢
   simp only[go_sem,↓aB,seval,e0,e2,hw]
 refine F.one.call ?_;simp only[bMW];simp only[go_sem,↓aB,seval,hs]
def bSd(F:X4 A)(T:kl A)(hl:l.length<=2048)(hs:∀x∈l,SymM x)(H:LO):aG A 245 [.sl Po (l.map bIA),.fn 298 [] []] H=N1 (.bool Po,H,[]):=by
 have h1:=bSJ F.con bQt bIJ omT (λx hx=>bQu F T (hs x hx) H);have h2:(l.any λ_=>Po)=false:=siT
 rwa [h2]at h1
abbrev bQv(H:LO):Ctx:=⟨H.length,[4,5,9,71,84,86,102,107,17,140]⟩
def bPH(T:kl A)(hf:bNr A)(hc:bNE A){x0 x1 x3 x5 x6 x7 x8 x9:ah}{v:Nat}{B:LN}{fb is:Bool}{L:List fy}(hL:X8 L)(hB:B.length<=8)(hB2:∀c∈B,bLF c)(hl:l.length<=2048)(hs:∀x∈l,SymM x){a:Nat}(ha:a<l.length)(n9:xl=0∨xl=1)(r14:ρ 14=.sl fb (gZ B))(r12:ρ 12=.bool is)(r2:ρ 2=.sl Po (l.map bIA))(r3:ρ 3=vi (a:Nat))(r9:ρ 9=.ptr (H.length+2) v 0)(r113:ρ 113=.sl Po (L.map bIx))(r114:ρ 114=vi (L.length:Nat))(r115:ρ 115=vi 0)(r15:ρ 15=.sl Pa []){Q t}(hQ:∀ρ' (rows:List vl) y8 y9,ew (H.length+9) 6 (rows.map bIG) (ρ' 15) y9->rows.length<=96->(∀s∈rows,Wl l sl a s)->Q (.exit 0) ρ' (H++[x0,x1,.box v [vi xl,xc],x3,x4,x5,x6,x7,y8,y9]) []):wl A 143 (bQv H) bMo ρ (H++[x0,x1,.box v [vi xl,xc],x3,x4,x5,x6,x7,x8,x9]) [] Q t:=by
 refine bJ (id:=0) (λk ρ1 H1 wr=>wr=[]/\ρ1 115=vi (k:Nat)/\∃(rows:List vl)(y8 y9:ah),H1=H++[x0,x1,.box v [vi xl,xc],x3,x4,x5,x6,x7,y8,y9]/\ew (H.length+9) 6 (rows.map bIG) (ρ1 15) y9/\rows.length<=k/\∀s∈rows,Wl l sl a s) L.length
  (λρ1 H1 wr=>wr=[]/\∃(rows:List vl)(y8 y9:ah),H1=H++[x0,x1,.box v [vi xl,xc],x3,x4,x5,x6,x7,y8,y9]/\ew (H.length+9) 6 (rows.map bIG) (ρ1 15) y9/\rows.length<=96/\∀s∈rows,Wl l sl a s) bIv rfl ⟨rfl,r115,[],x8,x9,rfl,by rw[r15];exact .nil _,AQ _,siT⟩ ?_ ?_
 .rintro k ρ1 H1 dc zp ⟨rfl,e115,rows,y8,y9,rfl,hG,gu,lv⟩ Jh;have f113:ρ1 113=.sl Po (L.map bIx):=(Jh 113 rfl).trans r113;have f114:ρ1 114=vi (L.length:Nat):=(Jh 114 rfl).trans r114;have f14:ρ1 14=.sl fb (gZ B):=(Jh 14 rfl).trans r14;have f12:ρ1 12=.bool is:=(Jh 12 rfl).trans r12;have f2:ρ1 2=.sl Po (l.map bIA):=(Jh 2 rfl).trans r2;have f3:ρ1 3=vi (a:Nat):=(Jh 3 rfl).trans r3;have f9:ρ1 9=.ptr (H.length+2) v 0:=(Jh 9 rfl).trans r9;have ym:=hL.len;simp only[go_sem,↓aB,seval,e115,f114];refine aD (λe3=>?_) (λe3=>?_)
  .have hlt:k<L.length:=by simp at e3;omega
   have dy:=wS (i:=k) omT;have cj:=mgE bIx hlt;have hr:=hL.X6 _ (AS hlt);generalize L[k]=r at *;have tl:=hr.text.len;have htp:=hr.text.pos;have mg:=hr.ind.len;have hic:=hr.ind.cell;have pc:=hf r hr l hl hs a ha;have Wn:=hc Po [B,r.cells] siT soT (by have:=hr.ind.pos;simp[this]);have I9:([B,r.cells]:List LN).flatten=B++r.cells:=siT;rw[I9]at Wn;obtain⟨text,wh,cs⟩:=r;simp only[bIx]at cj pc tl htp mg hic;simp only[BI,BY]at Wn;obtain⟨b,hb,hbt⟩:=pc (H++[x0,x1,.box v [vi xl,xc],x3,x4,x5,x6,x7,.box (y8.ver+1) [.str text,vi wh,.sl Po (gZ cs)],y9]);cases b with
   |true=>
    obtain⟨v',o',Sw,Gx⟩:=hG.app (new:=[bIG ⟨xl,Po,is,text.length,B++cs,(k:Int)⟩]) (bytes:=56) siT rfT soT;have ny:=Gx (H++[x0,x1,.box v [vi xl,xc],x3,x4,x5,x6,x7,.box (y8.ver+1) [.str text,vi wh,.sl Po (gZ cs)],y9]) Pa (by rw[bX];rfl);rw[eS]at ny;simp only[bIG]at ny;simp only[go_sem,↓aB,seval,e115,f113,f2,f3,cj,hlt,hb];refine aY (aq:=bMn) rfT rfT ?_;simp only[go_sem,↓aB,seval,bMn,bMm,f9,f12,f14,Wn,ny];rw[aL (by simp[eH,dG])];simp only[go_sem,↓aB,seval,e115,dy];refine⟨hlt,rows++[⟨xl,Po,is,text.length,B++cs,(k:Int)⟩],_,o',rfl, ?_,soT, ?_⟩
    .rw[DQ,BI,BY];simpa only[bIG,gZ,DQ]using Sw
    intro s hs;rcases AY.1 hs with hs|hs
    .exact lv s hs
    simp only[CG]at hs;subst hs;refine⟨n9,hbt rfl,λe=>Vv (List.length_eq_zero_iff.1 e) htp,λc hc=>?_,by show (B++cs).length<=12;simp;omega⟩;rcases AY.1 hc with hc|hc
    .exact (hB2 c hc).2
    exact (hic c hc).2
   |false=>simp only[go_sem,↓aB,seval,e115,f113,f2,f3,cj,hlt,hb,dy];exact⟨rows,_,y9,rfl,hG,omT,lv⟩
  have:k=L.length:=by simp at e3;omega
  subst this;simp only[go_sem,seval];exact⟨rows,y8,y9,rfl,hG,omT,lv⟩
 rintro ρ' H' ba ⟨rfl,rows,y8,y9,rfl,hG,gu,lv⟩ cq;exact hQ ρ' rows y8 y9 hG gu lv
abbrev bRP(H:LO)(l:List ox)(sl:Int)(a:Nat):AV->LO->LN->Prop:=λr H' wr=>wr=[]/\H'=H/\∃rows:List vl,(r=.own 6 (rows.map bIG)∨r=.sl Po (rows.map bIG))/\rows.length<=96/\∀s∈rows,Wl l sl a s
def bKz(T:kl A)(hf:bNr A)(hc:bNE A)(ht:yr t){x1 x3 x5 x6 x7 x8 x9:ah}{B:LN}{fb is:Bool}(hB:B.length<=8)(hB2:∀c∈B,bLF c)(hl:l.length<=2048)(hs:∀x∈l,SymM x)(ha:a<l.length)(n9:xl=0∨xl=1)(r14:ρ 14=.sl fb (gZ B))(r12:ρ 12=.bool is)(r2:ρ 2=.sl Po (l.map bIA))(r3:ρ 3=vi a)(r4:ρ 4=.ptr H.length 1 0)(r9:ρ 9=.ptr (H.length+2) 1 0)(r15:ρ 15=.sl Pa []){T'}:wc A 143 (bQv H) bMX ρ (H++[.box 1 (bIB t),x1,.box 1 [vi xl,xc],x3,x4,x5,x6,x7,x8,x9]) [] (aRz H.length [.tmp 8] (bRP H l sl a) ⟨⟩) T':=by
 obtain⟨L,hL,hg⟩:∃L,X8 L/\∃i:Nat,xl=i/\i<2/\(bIB t)[i]? = N1 (.sl Po (L.map bIx)):=by
  rcases n9 with rfl|rfl
  .exact⟨t.l0,ht.l0,0,rfl,deT,rfl⟩
  exact⟨t.l1,ht.l1,1,rfl,deT,rfl⟩
 obtain⟨i,rfl,hi,hgi⟩:=hg;have Xc:(i:Int)<2:=omT;have ax:(bIB t).length=7:=rfl;have gm:(KW i (bIB t)).take 1=[.sl Po (L.map bIx)]:=by rcases (by omega:i=0∨i=1)with rfl|rfl<;>simpa using hgi
 have hle7:i+1<=(bIB t).length:=by rw[ax];omega
 generalize bIB t=TC at *
 suffices h:∀c,c=bMX->∀T,wc A 143 (bQv H) c ρ (H++[.box 1 TC,x1,.box 1 [vi i,xc],x3,x4,x5,x6,x7,x8,x9]) [] (aRz H.length [.tmp 8] (bRP H l sl a) ⟨⟩) T from h _ rfl _
 intro c jg T0;simp only[bMX]at jg;subst jg;simp only[go_sem,↓aB,seval,r4,r9,Xc,gm,FK,hle7];refine bPH (sl:=sl) (fb:=fb) (is:=is) T hf hc hL hB hB2 hl hs ha n9 ?a14 ?a12 ?a2 ?a3 ?a9 ?a113 ?a114 ?a115 ?a15 ?aQ
 case a14=>exact r14
 case a12=>exact r12
 case a2=>exact r2
 case a3=>exact r3
 case a9=>exact r9
 case a113=>rfl
 case a114=>rfl
 case a115=>rfl
 case a15=>exact r15
 intro ρ' rows y8 y9 hG gu lv;have hd:=bNa rows;have bd:=aT hd;have Rz:=aA (n:=H.length) hd;have bl:rows=[]∨rows.map bIG≠[]:=by cases rows<;>simp
 rcases bl with rfl|bl
 .generalize hv:ρ' 15=v15 at hG;cases hG with
  |nil=>simp only[go_sem,↓aB,seval,hv];exact⟨rfl,rfl,[],.inr rfl,gu,lv⟩
  |obj ver=>simp only[go_sem,↓aB,seval,hv];exact⟨rfl,rfl,[],.inl rfl,gu,lv⟩
 obtain⟨ver,h15,h9⟩:=hG.inv bl;subst h9;generalize hR:rows.map bIG=R at *;simp only[go_sem,↓aB,seval,h15,bd];have hu:(AV.own 6 R).under H.length=true:=uWN
 rw[qQ hu,GU];exact⟨rfl,rfl,rows,.inl (by rw[hR]),gu,lv⟩
def bPI(h:Has A 249 bMA)(F:X4 A)(T:kl A)(hv:bMU A)(hf:bNr A)(hc:bNE A):bKG A:=by
 intro t ht sl num inn G6 l hl hs a ha H;obtain⟨r,H',ba,e1,rfl,rfl,rows,h1,h2,h3⟩:=h.bp (args:=[bJF t,.agg [vi sl,.bool num,.bool inn],.sl Po (l.map bIA),vi (a:Nat)]) (H:=H) (K:=λr H' wr=>wr=[]/\H'=H/\∃rows:List vl,(r=.own 6 (rows.map bIG)∨r=.sl Po (rows.map bIG))/\rows.length<=96/\∀s∈rows,Wl l sl a s) (by
  have kq:=bOT F.clone t.sw ht.sw.pos (by have:=ht.sw.len;omega);have hT0:=hv t ht;have hsy:=bSd F T hl hs;have cj:=mgE bIA ha;have hx:=hs _ (AS ha);have G3:l[a]? = N1 l[a]:=AP ha;generalize l[a]=x at *;obtain⟨xl,xc⟩:=x;simp only[bIA]at cj;obtain⟨l0,l1,dig,cap,num',fin,sw⟩:=t;simp only[bJF,bIB]at hT0 kq;have e1:decide (sl<0)=false:=by rcases G6 with rfl|rfl<;>rfl
  have e2:decide (sl>1)=false:=by rcases G6 with rfl|rfl<;>rfl
  have e3:decide ((a:Int)<0)=false:=siT;have e4:decide (l.length<=a)=false:=soT;simp only[bMA];generalize hT:(ah.box 1 [.sl Po (l0.map bIx),.sl Po (l1.map bIx),.sl Po (gZ dig),.sl Po (gZ cap),.sl Po (gZ num'),.sl Po (gZ fin),.sl Po (gZ sw)])=TT;have hT':=hT.symm;simp only[go_sem,↓aB,seval,hT0,hsy,e1,e2,e3,e4,cj];cases e5:xl != sl with
  |true=>
   simp only[go_sem,seval,];refine aY (aq:=bMl) rfT rfT ?_;simp only[go_sem,↓aB,seval,bMl,bMk,kq,eH,dG,aL];have hu:(AV.sl Po [[.int .i64 xl,.bool Po,.bool Po,.int .i64 0,.sl Po (gZ sw),.int .i64 (-1)]]).under H.length=true:=
    aA (bNa [(⟨xl,Po,Po,0,sw,-1⟩:vl)])
   rw[qQ hu,GU];refine⟨rfl,rfl,[(⟨xl,Po,Po,0,sw,-1⟩:vl)],.inr rfl,siT, ?_⟩;intro s hs;simp only[CG]at hs;subst hs;exact⟨hx.gg,by show a+0<=_;omega,λ_=>⟨_,G3,uWt,rfl⟩,λc hc=>(ht.sw.cell c hc).2,by have:=ht.sw.len;show sw.length<=12;simp only at this;omega⟩
  |false=>
   have Yf:=bPj T xc;cases e6:(decide ((xc:Int) ≥ 48)&&decide ((xc:Int)<=57))with
   |true=>
    have hxc:48<=xc/\xc<=57:=by simp at e6;omega
    have pr:KD.wrap ((xc:Int) - 48)=((xc - 48:Nat):Int):=by rw[aQh omT omT];omega
    have Ik:xc - 48<dig.length:=by have:=ht.digL;simp only at this;omega
    have xg:(gZ dig)[xc - 48]? = N1 (bNc dig[xc - 48]):=by rw[BN,AP Ik];rfl
    have hd63:=(ht.dig _ (AS Ik)).2;generalize dig[xc - 48]=d at *;simp only[bNc]at xg;have g1:bP 1 1=true:=rfl;rw[e6]at Yf;cases num with
    |true=>simp only[go_sem,↓aB,seval,Yf];refine aY (aq:=bJV) rfT rfT ?_;simp only[go_sem,↓aB,seval,bJV,bL6,pr,xg,g1];rw[aL (by simp[eH,dG])];simp only[go_sem,↓aB,seval,aA3,aLw];refine⟨[⟨xl,Pa,Po,1,[d],-1⟩],.inr rfl,siT, ?_⟩;intro s hs;simp only[CG]at hs;subst hs;exact⟨hx.gg,by show a+1<=_;omega,λe=>uWZ,λc hc=>by simp at hc;subst hc;exact hd63,siT⟩
    |false=>
     have O4:=ht.num.len;have hnp:=ht.num.pos;simp only at O4 hnp;have g2:=bIK num';have g3:(gZ num').isEmpty=false:=by cases num' with | nil=>exact Vv rfl hnp | cons a b=>rfl
     have g4:bP num'.length 1=true:=by unfold bP;simp;omega
     have g5:bP (num'.length+1) 1=true:=by unfold bP;simp;omega
     simp only[go_sem,↓aB,seval,Yf,g2,g3,g4];refine aY (aq:=bJV) rfT rfT ?_;simp only[go_sem,↓aB,seval,bJV,bL6,pr,xg,g5];rw[aL (by simp[eH,dG])];have bd:((gZ num'++[[AV.int KD d]]).all λr=>r.all AV.still)=true:=by
      have:=aT (bIy (num'++[d]))
      rwa [gZ,DQ]at this
     simp only[go_sem,↓aB,seval,aA3,aLw,bd];have O9:gG [[.int .i64 xl,.bool Pa,.bool Po,.int .i64 1,.sl Po (gZ num'++[[AV.int KD d]]),.int .i64 (-1)]]=true:=by have:=bNa [⟨xl,Pa,Po,1,num'++[d],-1⟩];simp only[BI,BY,bIG,gZ,DQ]at this;exact this
     have hu:(AV.sl Po [[.int .i64 xl,.bool Pa,.bool Po,.int .i64 1,.sl Po (gZ num'++[[AV.int KD d]]),.int .i64 (-1)]]).under H.length=true:=aA O9;rw[qQ hu,GU];refine⟨rfl,rfl,[⟨xl,Pa,Po,1,num'++[d],-1⟩],.inr (by simp only[BI,BY,bIG,gZ,DQ];rfl),siT, ?_⟩;intro s hs;simp only[CG]at hs;subst hs;refine⟨hx.gg,by show a+1<=_;omega,λe=>uWZ,λc hc=>?_,by show (num'++[d]).length<=12;simp;omega⟩;rcases AY.1 hc with hc|hc
     .exact (ht.num.cell c hc).2
     simp at hc;subst hc;exact hd63
   |false=>
    rw[e6]at Yf;have hle:=bNA T (c:=xc) (by have:=hx.c1;simp only at this;omega);have hcl1:=ht.cap.len;have hfl1:=ht.fin.len;have hcp:=ht.cap.pos;have hfp:=ht.fin.pos;simp only at hcl1 hfl1 hcp hfp;have g1:=bIK cap;have g2:(gZ cap).isEmpty=false:=by cases cap with | nil=>exact Vv rfl hcp | cons a b=>rfl
    have g3:bP cap.length 1=true:=by unfold bP;simp;omega
    have g4:=bIK fin;have g5:(gZ fin).isEmpty=false:=by cases fin with | nil=>exact Vv rfl hfp | cons a b=>rfl
    have g6:bP fin.length 1=true:=by unfold bP;simp;omega
    have g7:bP (fin.length+cap.length) 1=true:=by unfold bP;simp;omega
    have s1:=aT (bIy cap);have s2:=aT (bIy fin);have s3:=aT (bIy (fin++cap));simp only[gZ,DQ]at s3;have c1:=ht.cap.cell;have c2:=ht.fin.cell;have c3:∀c∈fin++cap,bLF c:=λc hc=>(AY.1 hc).elim (c2 c) (c1 c);have m3:gZ fin++gZ cap=gZ (fin++cap):=DQ.symm;have no:∀c∈([]:LN),bLF c:=λc h=>by cases h
    cases num with
    |false=>
     cases hq:bNz xc with
     |false=>simp only[go_sem,↓aB,seval,Yf,hle,hq];exact bKz T hf hc ht (B:=[]) siT no hl hs ha hx.gg rfl rfl rfl rfl rfl rfl rfl
     |true=>simp only[go_sem,↓aB,seval,Yf,hle,hq,g1,g2,g3,s1];exact bKz T hf hc ht (B:=cap) omT c1 hl hs ha hx.gg rfl rfl rfl rfl rfl rfl rfl
    |true=>
     cases e7:isL xc with
     |false=>
      cases hq:bNz xc with
      |false=>simp only[go_sem,↓aB,seval,Yf,hle,hq,e7];exact bKz T hf hc ht (B:=[]) siT no hl hs ha hx.gg rfl rfl rfl rfl rfl rfl rfl
      |true=>simp only[go_sem,↓aB,seval,Yf,hle,hq,e7,g1,g2,g3,s1];exact bKz T hf hc ht (B:=cap) omT c1 hl hs ha hx.gg rfl rfl rfl rfl rfl rfl rfl
     |true=>
      cases hq:bNz xc with
      |false=>simp only[go_sem,↓aB,seval,Yf,hle,hq,e7,g4,g5,g6,s2];exact bKz T hf hc ht (B:=fin) omT c2 hl hs ha hx.gg rfl rfl rfl rfl rfl rfl rfl
      |true=>
       simp only[go_sem,↓aB,seval,Yf,hle,hq,e7,g1,g2,g4,g5,g6,g7,s3];exact bKz T hf hc ht (B:=fin++cap) soT c3 hl hs ha hx.gg (by rw[<- m3];rfl) rfl rfl rfl rfl rfl rfl)
 exact⟨r,rows,e1,h1,h2,h3⟩
end
def bMY:=(.mk _:bb 153 bTx).x
def bLS:=(.mk _:bb 246 bTx).x
def bMp:=(.mk _:bb 247 bTx).x
def bLT:=(.mk _:bb 303 bTx).x
def bMq:=(.mk _:bb 250 bTx).x
abbrev bJD:=bTw 302 (bJ6 5)
abbrev bJf:LN:=[0,1,3,7]
def bLC:=(.mk _:bb 302 (bIC [(5,.region Pa bJD)])).x
abbrev bKy:=bTw 248 (bIF 75 [])
def bJw:=(.mk _:bb 248 (bIC [(75,bKy)])).x
structure pz(A:af):Prop where
 fits:Has A 153 bMY
 fits1:Has A 246 bLS
 state:Has A 247 bMp
 number:Has A 303 bLT
 reach:Has A 250 bMq
 reach1:Has A 302 bLC
 least:Has A 248 bJw
section
variable {A:af}
def bRt(F:pz A){x:ox}(hx:SymM x)(H:LO):aG A 246 [.agg (bIA x)] H=N1 (.bool Po,H,[]):=by
 refine F.fits1.call ?_;have h0:=hx.c0;have h1:=hx.c1;have e1:decide (x.gg<0)=false:=by rcases hx.gg with e|e<;>simp[e]
 have e2:decide (x.gg>1)=false:=by rcases hx.gg with e|e<;>simp[e]
 have e3:decide ((x.c:Int)<32)=false:=soT;have e4:decide ((x.c:Int)>126)=false:=soT;simp only[bLS];simp only[go_sem,↓aB,seval,e1,e2,e3,e4]
def bRu(F:pz A)(S:X4 A)(hv:bMU A)(ht:yr t)(hl:l.length<=2048)(hs:∀x∈l,SymM x)(H:LO):aG A 153 [bJF t,.sl Po (l.map bIA)] H=N1 (vi 0,H,[]):=by refine F.fits.call ?_;have h1:=hv t ht;have h2:=λH=>bSJ S.con bQt bIJ omT (λx hx=>bRt F (hs x hx) H);have h3:(l.any λ_=>Po)=false:=siT;rw[h3]at h2;have e1:decide ((l.length:Int)>2048)=false:=soT;simp only[bMY];simp only[go_sem,↓aB,seval,h1,h2,e1]
def bRv(F:pz A)(n:Nat)(hn:n<8)(H:LO):∃num inn:Bool,aG A 247 [vi n] H=N1 (.agg [vi ((n / 4:Nat):Int),.bool num,.bool inn],H,[]):=by
 obtain⟨r,H',ba,e1,rfl,rfl,num,inn,rfl⟩:=F.state.bp (args:=[vi n]) (H:=H) (K:=λr H' wr=>wr=[]/\H'=H/\∃num inn:Bool,r=.agg [vi ((n / 4:Nat):Int),.bool num,.bool inn]) (by
  have h8:n=0∨n=1∨n=2∨n=3∨n=4∨n=5∨n=6∨n=7:=omT;have hq:kJ .quo .no (vi n) (vi 4)=N1 (vi ((n / 4:Nat):Int)):=by rcases h8 with rfl|rfl|rfl|rfl|rfl|rfl|rfl|rfl<;>rfl
  obtain⟨a,ha⟩:∃a:Int,kJ .and .no (vi n) (vi 2)=N1 (vi a):=by rcases h8 with rfl|rfl|rfl|rfl|rfl|rfl|rfl|rfl<;>exact⟨_,rfl⟩
  obtain⟨b,hb⟩:∃b:Int,kJ .and .no (vi n) (vi 1)=N1 (vi b):=by rcases h8 with rfl|rfl|rfl|rfl|rfl|rfl|rfl|rfl<;>exact⟨_,rfl⟩
  simp only[bMp];simp only[go_sem,↓aB,seval,hq,ha,hb];exact⟨_,_,rfl⟩)
 exact⟨num,inn,e1⟩
def bTe(n:Int)(num inn:Bool):Nat:=4*n.toNat+(if num then 2 else 0)+(if inn then 1 else 0)
def bSe{n:Int}(hn:n=0∨n=1)(num inn:Bool):bTe n num inn<8:=by rcases hn with rfl|rfl<;>cases num<;>cases inn<;>decide
def bQw(F:pz A){n:Int}(hn:n=0∨n=1)(num inn:Bool)(H:LO):aG A 303 [.agg [vi n,.bool num,.bool inn]] H=N1 (vi (bTe n num inn:Nat),H,[]):=by
 refine F.number.call ?_;simp only[bLT];rcases hn with rfl|rfl<;>cases num<;>cases inn
 all_goals
  simp only[go_sem,↓aB,seval];rfl
abbrev bIL(r:List Int):LA:=r.map vi
inductive AllV(H:LO)(R:List (List Int)):AV->Prop
 |sl (f:Bool):AllV H R (.sl f (R.map bIL))
 |sr (o v:Nat) (h:H[o]? = N1 (.vec v 8 (R.map bIL))):AllV H R (.sr o v (R.map bIL).length)
abbrev bPJ(A:af)(R:List (List Int))(Pr:Nat)(p q vp vq:Nat)(V:AV):Prop:=∀(x:vl),(x.gg=0∨x.gg=1)->Pr+x.len<R.length->∃(m:Int)(b:Bool),∀H:LO,AllV H R V->H[p]? = N1 (.box vp [V])->H[q]? = N1 (.box vq [vi (Pr:Nat)]) ->
  aG A 302 [.agg (bIG x),.ptr p vp 0,.ptr q vq 0] H=N1 (.tup [vi m,.bool b],H,[])
def bOv(F:pz A)(hR:∀r∈R,r.length=8)(J2:R.length<=3000)(a p q vp vq:Nat)(V:AV):bPJ A R a p q vp vq V:=by
 intro x hx hlt;obtain⟨gg,num,inn,len,cs,X6⟩:=x;simp only at hx hlt;have yh:=λH=>bQw F hx num inn H;have hn8:=bSe hx num inn;have hr8:=hR _ (AS hlt);have cj:(R.map bIL)[a+len]? = N1 (bIL R[a+len]):=by rw[BN,AP hlt];rfl
 have w1:AR.wrap (a+len)=((a+len:Nat):Int):=by rw[wrap_i64 omT omT];omega
 generalize R[a+len]=r at *;generalize bTe gg num inn=k at *;have U8:(bIL r).length=8:=uXj
 have Ow:a+len<(R.map bIL).length:=uWv
 have pk:(KW k (bIL r)).take 1=[vi r[k]]:=by rw[FD (by omega:k<(bIL r).length),List.take_succ_cons,List.take_zero];simp
 refine⟨AR.wrap (r[k]+(cs.length:Nat)),decide (r[k] ≥ 0),λH hV hp hq=>?_⟩;have hk8:(k:Int)<8:=omT;have Vz:k<=7:=omT;have old:∀{i:Nat}{o:ah}(x:ah),H[i]? = N1 o->(H++[x])[i]? = N1 o:=λx h=>by rw[BM (getElem?_lt h)];exact h
 have hp':=λx=>old x hp;have Qq:=λx=>old x hq;refine F.reach1.call ?_;generalize Wb:R.map bIL=RR at *;simp only[bLC];cases hV with
 |sl f=>rw[Wb]at *;simp only[go_sem,↓aB,seval];refine aY (aq:=bJf) rfT rfT ?_;simp only[go_sem,↓aB,seval,bJf,bJD,hp',Qq,w1,cj,U8,yh,pk,Vz,hk8,FK,eH,dG,aL]
 |sr o v ho=>have z7:=λx=>old x ho;rw[Wb]at *;simp only[go_sem,↓aB,seval];refine aY (aq:=bJf) rfT rfT ?_;simp only[go_sem,↓aB,seval,bJf,bJD,hp',Qq,z7,w1,cj,U8,Ow,yh,pk,Vz,hk8,FK,eH,dG,aL]
def bPs(F:pz A){V:AV}(a:Nat)(H:LO)(hV:V.ak=Pa)(hc:V.cells=[V]):aG A 250 [V,vi (a:Nat)] H=N1 (.fn 302 [] [.ptr H.length 1 0,.ptr (H.length+1) 1 0],H++[.box 1 [V],.box 1 [vi (a:Nat)]],[]):=by
 refine F.reach.call ?_;simp only[bMq];simp only[go_sem,↓aB,seval,hV,hc];have hu:(AV.fn 302 [] [.ptr H.length 1 0,.ptr (H.length+1) 1 0]).under H.length=false:=by show (Pa&&(decide (H.length<H.length)&&_))=Po;simp
 unfold cJ;simp only[hu,BQ,BX,Vt];exact⟨trivial,trivial,trivial⟩
def bPt(F:pz A){rows:List vl}(hl:rows.length<=96){p vp vq f1:Nat}(hs:∀s∈rows,∃(m:Int)(c:Bool),∀x,aG A f1 [.agg (bIG s),.ptr p vp 0,.ptr q vq 0] (H++[x])=N1 (.tup [vi m,.bool c],H++[x],[])):∃i b:Int,aG A 248 [.sl Po (rows.map bIG),.fn f1 [] [.ptr p vp 0,.ptr q vq 0]] H=N1 (.tup [vi i,vi b],H,[])/\(i = -1∨∃n:Nat,n<rows.length/\i=n):=by
 obtain⟨r,H',ba,e1,rfl,rfl,i,b,rfl,hi⟩:=F.least.bp (args:=[.sl Po (rows.map bIG),.fn f1 [] [.ptr p vp 0,.ptr q vq 0]]) (K:=λr H' wr=>wr=[]/\H'=H/\∃i b:Int,r=.tup [vi i,vi b]/\(i = -1∨∃n:Nat,n<rows.length/\i=n)) (by
  simp only[bJw];simp only[go_sem,↓aB,seval];refine bJ (id:=0) (λk ρ1 H1 wr=>wr=[]/\ρ1 14=vi k/\(∃x,H1=H++[x])/\∃i b:Int,ρ1 6=vi i/\ρ1 7=vi b/\(i = -1∨∃n:Nat,n<rows.length/\i=n)) rows.length
   (λρ1 H1 wr=>wr=[]/\(∃x,H1=H++[x])/\∃i b:Int,ρ1 6=vi i/\ρ1 7=vi b/\(i = -1∨∃n:Nat,n<rows.length/\i=n)) bIv rfl ⟨rfl,rfl,⟨_,rfl⟩,-1,-1,rfl,rfl,.inl rfl⟩ ?_ ?_
  .rintro k ρ1 H1 dc zp ⟨rfl,e14,⟨x,rfl⟩,i,b,e6,e7,hi⟩ hf;have f12:=hf 12 rfl;have f13:=hf 13 rfl;have f1':=hf 1 rfl;simp only[go_sem,↓aB,seval,e14,f13];refine aD (λe3=>?_) (λe3=>?_)
   .have hlt:k<rows.length:=by simp at e3;omega
    have dy:=wS (i:=k) omT;have cj:=mgE bIG hlt;obtain⟨m,c,hc⟩:=hs _ (AS hlt);cases c with
    |false=>simp only[go_sem,↓aB,seval,e14,f12,f1',cj,hc,hlt,dy];exact⟨⟨_,rfl⟩,i,b,e6,e7,hi⟩
    |true=>
     cases e8:decide (i<0)with
     |true=>simp only[go_sem,↓aB,seval,e14,e6,e8,f12,f1',cj,hc,hlt,dy];exact⟨⟨_,rfl⟩,k,m,rfl,rfl,.inr ⟨k,hlt,rfl⟩⟩
     |false=>
      cases e9:decide (m<b)with
      |true=>simp only[go_sem,↓aB,seval,e14,e6,e7,e8,e9,f12,f1',cj,hc,hlt,dy];exact⟨⟨_,rfl⟩,k,m,rfl,rfl,.inr ⟨k,hlt,rfl⟩⟩
      |false=>simp only[go_sem,↓aB,seval,e14,e6,e7,e8,e9,f12,f1',cj,hc,hlt,dy];exact⟨⟨_,rfl⟩,i,b,rfl,rfl,hi⟩
   have:k=rows.length:=by simp at e3;omega
   simp only[go_sem,seval];exact⟨⟨x,rfl⟩,i,b,e6,e7,hi⟩
  rintro ρ' H' ba ⟨rfl,⟨x,rfl⟩,i,b,e6,e7,hi⟩ hf;simp only[go_sem,↓aB,seval,e6,e7];exact⟨i,b,rfl,hi⟩)
 exact⟨i,b,e1,hi⟩
end
abbrev bKH:=bTw 154 (bIF 9291 [])
abbrev bMB:LN:=[23,24,7,25,26,27,28,29,30,22]
abbrev bKI:=bTw 154 (bJ6 375809611)
abbrev bKJ:LN:=[]
abbrev bKK:=bTw 154 (bJ6 778462795)
abbrev bKL:LN:=[]
abbrev bKM:=bTw 154 (bIF 2516555 [(179,.region Pa bKI),(371,.region Pa bKK)])
abbrev bMC:LN:=[35,36,9,37,38,10,39,40,41,42,43,44,45,46,47,48,49,51,52,53,54,55,56,57,58,59,60,61,62,50,63,64,65,66,67,34]
abbrev bKN:=bTw 154 (bIF 9803 [(307,bKM)])
abbrev bMD:LN:=[32,33,8,34,35,36,9,37,38,10,39,40,41,42,43,44,45,46,47,48,49,51,52,53,54,55,56,57,58,59,60,61,62,50,63,64,65,66,67,34,68,31]
abbrev bME:=bTw 154 (bIF 75 [(145,bKH),(153,bKN)])
def bKo:=(.mk _:bb 154 (bIC [(75,bME)])).x
abbrev bPu(H:LO)(x0:ah)(N:Nat)(H1:LO):Prop:=∃(R:List (List Int))(x2:ah)(G:LO),H1=H++(x0::.vec 1 8 (R.map bIL)::x2::G)/\R.length=N/\∀r∈R,r.length=8
def bPv(r:List Int) k (hk:k<r.length) m:(bIL r).take k++[vi m]++(bIL r).drop (k+1)=bIL (r.set k m):=by rw[bIL,bIL,ME,List.set_eq_take_append_cons_drop,Vx uWs];simp
def bQx(R:List (List Int)) a (r:List Int):(R.map bIL).set a (bIL r)=(R.set a r).map bIL:=by rw[ME]
def bRQ{N:Nat}{r:List Int}(h1:R.length=N)(h2:∀r∈R,r.length=8)(h3:r.length=8):(R.set a r).length=N/\∀r'∈R.set a r,r'.length=8:=⟨uWk,λr' h=>(List.mem_or_eq_of_mem_set h).elim (h2 r') (λe=>e ▸ h3)⟩
section
variable {A:af}
abbrev bTf(H:LO):Ctx:=⟨H.length,[2,14,10]⟩
def bSK{x0:ah}{N:Nat}(r5:ρ 5=.sr (H.length+1) 1 N)(r6:ρ 6=vi a)(ha:a<N)(r22:ρ 22=vi 0)(hH:bPu H x0 N H0){Q t}(hQ:∀ρ' H',aLP bMB ρ ρ'->bPu H x0 N H'->Q (.exit 2) ρ' H' []):wl A 70 (bTf H) bKH ρ H0 [] Q t:=by
 refine bJ (id:=2) (λk ρ1 H1 wr=>wr=[]/\ρ1 22=vi k/\bPu H x0 N H1) 8
  (λρ1 H1 wr=>wr=[]/\bPu H x0 N H1) bIv rfl ⟨rfl,r22,hH⟩ ?_ ?_
 .rintro k ρ1 H1 dc zp ⟨rfl,e22,R,x2,G,rfl,hN,h8⟩ hf;have f5:=(hf 5 rfl).trans r5;have f6:=(hf 6 rfl).trans r6;simp only[go_sem,↓aB,seval,e22];refine aD (λe3=>?_) (λe3=>?_)
  .have hlt:k<8:=by simp at e3;omega
   have dy:=wS (i:=k) omT;have hk8:(k:Int)<8:=omT;have Vz:k<=7:=omT;have haR:a<R.length:=omT;have cj:=mgE bIL haR;have hr8:=h8 _ (AS haR);have Yr:=bPv R[a] k omT (-1);have lg:=bQx R a (R[a].set k (-1));obtain⟨Dv,h8'⟩:=bRQ hN h8 (r:=R[a].set k (-1)) uXj;have U8:(bIL R[a]).length=8:=uXj
   have Ow:(R.map bIL).length=N:=by simp[hN]
   simp only[go_sem,↓aB,seval,e22,f5,f6,cj,U8,Ow,ha,Vz,hk8,Yr,lg,FK,dy];exact⟨hlt,_,x2,G,rfl,Dv,h8'⟩
  have:k=8:=by simp at e3;omega
  simp only[go_sem,seval];exact⟨R,x2,G,rfl,hN,h8⟩
 rintro ρ' H' ba ⟨rfl,hH⟩ hf;exact hQ ρ' H' hf hH
def bMZ(H:LO)(a b c:ah)(G L:LO):(H++a::b::c::G)++L=H++a::b::c::(G++L):=siT
def bOU(b n m:Nat):bE b [] (FM (b+n) m)=[]:=by
 induction m generalizing n with
 |zero=>rfl
 |succ m ih=>rw[List.range'_succ];unfold bE;rw[Vw omT];exact ih (n+1)
def bSL(F:pz A)(bd:bKG A)(ht:yr t)(hl:l.length<=2048)(hs:∀x∈l,SymM x){a oe:Nat}(r1:ρ 1=.sl Po (l.map bIA))(r2:ρ 2=.ptr H.length 1 0)(r5:ρ 5=.sr (H.length+1) 1 (l.length+1))(r6:ρ 6=vi (a:Nat))(ha:a<l.length)(r8:ρ 8=vi (oe:Nat))(r34:ρ 34=vi 0)(hH:bPu H (.box 1 (bIB t)) (l.length+1) H0){Q T}(hQ:∀ρ' H',aLP bMC ρ ρ'->bPu H (.box 1 (bIB t)) (l.length+1) H'->Q (.exit 6) ρ' H' []):wl A 70 (bTf H) bKM ρ H0 [] Q T:=by
 refine bJ (id:=6) (λk ρ1 H1 wr=>wr=[]/\ρ1 34=vi (k:Nat)/\bPu H (.box 1 (bIB t)) (l.length+1) H1) 8
  (λρ1 H1 wr=>wr=[]/\bPu H (.box 1 (bIB t)) (l.length+1) H1) bIv rfl ⟨rfl,r34,hH⟩ ?_ ?_
 .rintro k ρ1 H1 dc zp ⟨rfl,e34,R,x2,G,rfl,hN,h8⟩ hf;have f1:ρ1 1=.sl Po (l.map bIA):=(hf 1 rfl).trans r1;have f2:ρ1 2=.ptr H.length 1 0:=(hf 2 rfl).trans r2;have f5:ρ1 5=.sr (H.length+1) 1 (l.length+1):=(hf 5 rfl).trans r5;have f6:ρ1 6=vi (a:Nat):=(hf 6 rfl).trans r6;have f8:ρ1 8=vi (oe:Nat):=(hf 8 rfl).trans r8;simp only[go_sem,↓aB,seval,e34];refine aD (λe3=>?_) (λe3=>?_)
  .have hlt:k<8:=by simp at e3;omega
   have dy:=wS (i:=k) omT;have hk8:(k:Int)<8:=omT;have Vz:k<=7:=omT;obtain⟨num,inn,hstate⟩:=bRv F k hlt (H++(.box 1 (bIB t)::.vec 1 8 (R.map bIL)::x2::G));have cj:=mgE bIA ha;generalize l[a]=x at *;obtain⟨xl,xc⟩:=x;simp only[bIA]at cj;have hk4:((k / 4:Nat):Int)=0∨((k / 4:Nat):Int)=1:=omT;have g2:2<G.length+1+1+1:=omT;generalize G6:((k / 4:Nat):Int)=sl at *;simp only[go_sem,↓aB,seval,e34,hstate,g2];refine aY (aq:=bKJ) rfT rfT ?_;simp only[go_sem,↓aB,seval,bKJ,bKI,f1,f6,f8,cj];refine aD (λe5=>?_) (λe5=>?_)
   .obtain⟨rv,rows,Wv,hrv,gu,lv⟩:=bd t ht sl num inn hk4 l hl hs a ha (H++(.box 1 (bIB t)::.vec 1 8 (R.map bIL)::.box (x2.ver+1) [vi sl,.bool num,.bool inn]::G));have ku:=bPs F (V:=.sr (H.length+1) 1 (l.length+1)) a (H++(.box 1 (bIB t)::.vec 1 8 (R.map bIL)::.box (x2.ver+1) [vi sl,.bool num,.bool inn]::G)) rfl rfl;rw[bMZ]at ku;generalize hp:(H++(ah.box 1 (bIB t)::.vec 1 8 (R.map bIL)::.box (x2.ver+1) [vi sl,.bool num,.bool inn]::G)).length=p at *;obtain⟨i,b,Ww,_⟩:=bPt F gu (p:=p) (q:=p+1) (vp:=1) (vq:=1) (f1:=302) (H:=H++(.box 1 (bIB t)::.vec 1 8 (R.map bIL)::.box (x2.ver+1) [vi sl,.bool num,.bool inn]::(G++[.box 1 [.sr (H.length+1) 1 (l.length+1)],.box 1 [vi (a:Nat)]]))) (λs hs=>by
     obtain⟨m,c,h⟩:=bOv F h8 omT a p (p+1) 1 1 (.sr (H.length+1) 1 (l.length+1)) s (lv s hs).gg (by have:=(lv s hs).to;omega);refine⟨m,c,λx=>h _ ?_ ?_ ?_⟩
     .have e:l.length+1=(R.map bIL).length:=by simp[hN]
      rw[e];exact .sr _ _ (by rw[bMZ,bX];rfl)
     .rw[<- bMZ,CJ,<- hp,BU (AQ _),GD];rfl
     rw[<- bMZ,CJ,<- hp,BU omT,FL];rfl)
    have gA:(H.length+(G.length+2+1+1+1)=H.length+(G.length+1+1+1))=False:=siT;have gB:G.length+1+1+1<G.length+2+1+1+1:=omT;have haR:a<R.length:=omT;have haN:a<l.length+1:=omT;have hgR:=mgE bIL haR;have hr8:=h8 _ (AS haR);have Yr:=bPv R[a] k omT b;have lg:=bQx R a (R[a].set k b);obtain⟨Dv,h8'⟩:=bRQ (a:=a) hN h8 (r:=R[a].set k b) uXj;have U8:(bIL R[a]).length=8:=uXj
    have Ow:(R.map bIL).length=l.length+1:=by simp[hN]
    generalize R[a].set k b=r' at *;generalize bIL R[a]=er at *;rcases hrv with rfl|rfl
    all_goals
     refine aY (aq:=bKL) rfT rfT ?_;simp only[go_sem,↓aB,seval,bKL,bKK,e34,f1,f2,f5,f6,Wv,ku,Ww,gA,gB,hgR,U8,Ow,haN,Vz,hk8,Yr,lg,dy,FK];exact⟨hlt,bOU ..,_,_,_,rfl,Dv,h8'⟩
   simp only[go_sem,↓aB,seval,e34,dy];exact⟨hlt,R,_,G,rfl,hN,h8⟩
  have:k=8:=by simp at e3;omega
  subst this;simp only[go_sem,seval];exact⟨R,x2,G,rfl,hN,h8⟩
 rintro ρ' H' ba ⟨rfl,hH⟩ hf;exact hQ ρ' H' hf hH
def bSM(F:pz A)(bd:bKG A)(ht:yr t)(hl:l.length<=2048)(hs:∀x∈l,SymM x)(r1:ρ 1=.sl Po (l.map bIA))(r2:ρ 2=.ptr H.length 1 0)(r5:ρ 5=.sr (H.length+1) 1 (l.length+1))(r6:ρ 6=vi a)(ha:a<l.length)(r31:ρ 31=vi 0)(hH:bPu H (.box 1 (bIB t)) (l.length+1) H0){Q T}(hQ:∀ρ' H',aLP bMD ρ ρ'->bPu H (.box 1 (bIB t)) (l.length+1) H'->Q (.exit 4) ρ' H' []):wl A 70 (bTf H) bKN ρ H0 [] Q T:=by
 refine bJ (id:=4) (λk ρ1 H1 wr=>wr=[]/\ρ1 31=vi k/\bPu H (.box 1 (bIB t)) (l.length+1) H1) 2
  (λρ1 H1 wr=>wr=[]/\bPu H (.box 1 (bIB t)) (l.length+1) H1) bIv rfl ⟨rfl,r31,hH⟩ ?_ ?_
 .rintro k ρ1 H1 dc zp ⟨rfl,e31,hH⟩ hf;have f1:=(hf 1 rfl).trans r1;have f2:=(hf 2 rfl).trans r2;have f5:=(hf 5 rfl).trans r5;have f6:=(hf 6 rfl).trans r6;simp only[go_sem,↓aB,seval,e31];refine aD (λe3=>?_) (λe3=>?_)
  .have hlt:k<2:=by simp at e3;omega
   have dy:=wS (i:=k) omT;simp only[go_sem,↓aB,seval,e31];refine bSL F bd ht hl hs (oe:=k) ?_ ?_ ?_ ?_ ha ?_ ?_ hH ?_
   .exact f1
   .exact f2
   .exact f5
   .exact f6
   .rfl
   .rfl
   intro ρ2 H2 cq hH2;have g31:=(cq 31 rfl).trans e31;simp only[go_sem,↓aB,seval,g31,dy];exact⟨hlt,hH2⟩
  have:k=2:=by simp at e3;omega
  simp only[go_sem,seval];exact hH
 rintro ρ' H' ba ⟨rfl,hH⟩ hf;exact hQ ρ' H' hf hH
abbrev bPw(A:af):Prop:=∀(t:my),yr t->∀(l:List ox),l.length<=2048->(∀x∈l,SymM x)->∀H:LO,∃R:List (List Int),aG A 154 [bJF t,.sl Po (l.map bIA)] H=N1 (.own 8 (R.map bIL),H,[])/\R.length=l.length+1/\∀r∈R,r.length=8
def bPx:∀r:List Int,iX (r.map vi)=Pa
 | []=>rfl
 |n::r=>by simp only[BI,bLb,bMM,aVS,vi,bPx r,Hg]
def bSf(R:List (List Int)):gG (R.map bIL)=true:=aGl λv hv=>by
 obtain⟨r,_,rfl⟩:=DB.1 hv;exact bPx r
def bQy(h:Has A 154 bKo)(F:pz A)(bd:bKG A):bPw A:=by
 intro t ht l hl hs H;obtain⟨r,H',ba,e1,rfl,rfl,R,rfl,h1,h2⟩:=h.bp (args:=[bJF t,.sl Po (l.map bIA)]) (K:=λr H' wr=>wr=[]/\H'=H/\∃R:List (List Int),r=.own 8 (R.map bIL)/\R.length=l.length+1/\∀r∈R,r.length=8) (by
  have w1:AR.wrap ((l.length:Int)+1)=((l.length+1:Nat):Int):=by rw[wrap_i64 omT omT];omega
  have w2:AR.wrap ((l.length:Int) - 1)=(l.length:Int) - 1:=wrap_i64 omT omT;have ed:bP (l.length+1) 64=true:=by unfold bP;simp;omega
  have hrep:AX (l.length+1) [AV.int .i64 0,.int .i64 0,.int .i64 0,.int .i64 0,.int .i64 0,.int .i64 0,.int .i64 0,.int .i64 0]=(AX (l.length+1) [0,0,0,0,0,0,0,0]).map bIL:=by rw[Ay];rfl
  have hN0:(AX (l.length+1) ([0,0,0,0,0,0,0,0]:List Int)).length=l.length+1:=MI;have h80:∀r∈AX (l.length+1) ([0,0,0,0,0,0,0,0]:List Int),r.length=8:=λr hr=>by rw[List.eq_of_mem_replicate hr];rfl
  generalize AX (l.length+1) ([0,0,0,0,0,0,0,0]:List Int)=R0 at *;simp only[bKo];simp only[go_sem,↓aB,seval,w1,w2,ed];refine bJ (id:=0) (λk ρ1 H1 wr=>wr=[]/\ρ1 6=vi ((l.length:Int) - 1 - k)/\bPu H (.box 1 (bIB t)) (l.length+1) H1) l.length
   (λρ1 H1 wr=>wr=[]/\bPu H (.box 1 (bIB t)) (l.length+1) H1) bIv rfl ⟨rfl,by show vi ((l.length:Int) - 1)=_;simp,R0,.gone 0,[],by rw[<- hrep];rfl,hN0,h80⟩ ?_ ?_
  .rintro k ρ1 H1 dc zp ⟨rfl,e6,hH⟩ hf;have f1:=hf 1 rfl;have f2:=hf 2 rfl;have f5:=hf 5 rfl;by_cases hlt:k<l.length
   .obtain⟨a,ha⟩:∃a:Nat,(l.length:Int) - 1 - k=a:=⟨l.length - 1 - k,omT⟩;have j8:a<l.length:=omT;rw[ha]at e6;have dy:AR.wrap (a - 1)=(l.length:Int) - 1 - ((k+1:Nat):Int):=by rw[wrap_i64 omT omT];omega
    simp only[go_sem,↓aB,seval,e6];refine bSK (a:=a) ?_ ?_ omT ?_ hH ?_
    .exact f5
    .exact e6
    .rfl
    intro ρ2 H2 cq hH2;simp only[go_sem,↓aB,seval];refine bSM F bd ht hl hs ?_ ?_ ?_ ?_ j8 ?_ hH2 ?_
    .show ρ2 1=_;rw[cq 1 rfT];exact f1
    .show ρ2 2=_;rw[cq 2 rfT];exact f2
    .show ρ2 5=_;rw[cq 5 rfT];exact f5
    .show ρ2 6=_;rw[cq 6 rfT];exact e6
    .rfl
    intro ρ3 H3 im hH3;have g6:ρ3 6=vi a:=by rw[im 6 rfT];show ρ2 6=_;rw[cq 6 rfT];exact e6
    simp only[go_sem,↓aB,seval,g6,dy];exact⟨hlt,hH3⟩
   have:k=l.length:=omT;subst this;have e3:decide ((l.length:Int) - 1 - (l.length:Nat) ≥ 0)=false:=soT;simp only[go_sem,↓aB,seval,e6,e3];exact hH
  rintro ρ' H' ba ⟨rfl,R,x2,G,rfl,hN,h8⟩ hf;have f5:=hf 5 rfl;have hd:=bSf R;have bd:=aT hd;have Rz:=aA (n:=H.length) hd;have Ow:(R.map bIL).length=l.length+1:=by simp[hN]
  generalize Wb:R.map bIL=RR at *;simp only[go_sem,↓aB,seval,f5,bd,Ow];have hu:(AV.own 8 RR).under H.length=true:=uWN
  rw[qQ hu,GU];exact⟨rfl,rfl,R,uWF,hN,h8⟩)
 exact⟨R,e1,h1,h2⟩
end
def bLq:=(.mk _:bb 155 bTx).x
abbrev bL0:=bTw 251 (bJ6 979)
abbrev bL1:LN:=[]
abbrev bL2:=bTw 251 (bIF 19 [(61,.region Pa bL0)])
def bKO:=(.mk _:bb 251 (bIC [(19,bL2)])).x
structure Xo(A:af)(o v base n:Nat)(I:LN->Nat->LO->Prop):Prop where
 inv:∀{c k X},I c k X->X.length=n
 run:∀{c k X}(s:vl)(i1 i2:Int)(L:LO),I c k X->(∀x∈s.cells,x<=63)->s.cells.length<=12->c.length<=100000->k<=100000 ->
  ∃X' wr,aG A YF [.own 0 [],.yld o v,.agg (vi i1::vi i2::bIG s)] (X++L)=N1 (.bool Pa,X'++L,wr)/\I (c++s.cells) (k+1) X'/\∀x∈wr,base<=x
section
variable {A:af}
def bQz(h:Has A 155 bLq)(t:my)(l:List ox)(R:List (List Int))(H:LO):aG A 155 [bJF t,.sl Po (l.map bIA),.sl Po (R.map bIL)] H = N1 (.fn 251 [] [.ptr (H.length+1) 1 0,.ptr H.length 1 0,.ptr (H.length+2) 1 0],H++[.box 1 (bIB t),.box 1 [.sl Po (l.map bIA)],.box 1 [.sl Po (R.map bIL)]],[]):=by
 refine h.call ?_;simp only[bLq];simp only[go_sem,↓aB,seval];have hu:(AV.fn 251 [] [.ptr (H.length+1) 1 0,.ptr H.length 1 0,.ptr (H.length+2) 1 0]).under H.length=false:=by show (Pa&&(decide (H.length+1<H.length)&&_))=Po;rw[decide_eq_false omT];rfl
 unfold cJ;simp only[hu,BQ,BX,Vt];exact⟨trivial,trivial,trivial⟩
abbrev bTg(n:Nat):Ctx:=⟨n,[5]⟩
def bQA(l:List ox)(a:Nat)(sl:Int):Nat:=2*(l.length - a)+(match l[a]? with | some x=>if x.gg=sl then 0 else 1 | none=>0)
def bSg{s:vl}(h:Wl l sl a s)(ha:a<l.length):bQA l (a+s.len) s.gg<bQA l a sl:=by
 unfold bQA;rcases Nat.eq_zero_or_pos s.len with e|e
 .obtain⟨x,hx,bl,he⟩:=h.zero e;rw[e,DU,hx];simp[he,bl]
 have:(match l[a+s.len]? with | some x=>if x.gg=s.gg then 0 else 1 | none=>0)<=1:=by
  split
  .split<;>omega
  omega
 omega
def bNF(H:LO)(a b c d:ah)(G L:LO):(H++a::b::c::d::G)++L=H++a::b::c::d::(G++L):=siT
def bQB{Z':LO}{v:Nat}{s:vl}{i1 i2:Int}(h:aG A YF [.own 0 [],.yld o v,.agg (vi i1::vi i2::bIG s)] Z=N1 (.bool Pa,Z',wr)):cX (aG A) Z site (.yld o v) [.agg (vi i1::vi i2::bIG s)]=N1 (.bool Pa,Z',wr):=by rw[aGL];have:kA Z [.agg (vi i1::vi i2::bIG s)]=N1 ([.agg (vi i1::vi i2::bIG s)],[]):=rfl;rw[this];dsimp only;have e2:([AV.agg (vi i1::vi i2::bIG s)]).map AV.strip=[.agg (vi i1::vi i2::bIG s)]:=rfl;rw[e2,show dL Z []=Z from rfl,h];rfl
def bQC(F:pz A)(bd:bKG A)(hY:sn A)(ht:yr t)(hl:l.length<=2048)(hs:∀x∈l,SymM x)(hRN:R.length=l.length+1)(Zi:∀r∈R,r.length=8){v base nb:Nat}(yh:nb=n+3)(hbn:base<=n)(hT:Xo A o v base n I)(hI:I [] 0 X)(r0:ρ 0=.yld o v)(r1:ρ 1=.ptr (n+1) 1 0)(r2:ρ 2=.ptr n 1 0)(r3:ρ 3=.ptr (n+2) 1 0)(r5:ρ 5=.ptr (n+3) 1 0)(r6:ρ 6=vi 0){Q T}(hQ:∀e ρ' c k X' v5 w5 G wr,e=.ret∨e=.exit 0->c.length<=100000->I c k X'->k<=5000->(∀x∈wr,base<=x)->Q e ρ' (X'++(.box 1 (bIB t)::.box 1 [.sl Po (l.map bIA)]::.box 1 [.sl Po (R.map bIL)]::.box v5 w5::G)) wr):wl A 53 (bTg nb) bL2 ρ (X++(.box 1 (bIB t)::.box 1 [.sl Po (l.map bIA)]::.box 1 [.sl Po (R.map bIL)]::.box 1 [vi 0,.bool Po,.bool Po]::[])) [] Q T:=by
 subst yh;refine bJ (id:=0) (λk ρ1 H1 wr=>∃(a:Nat)(sl:Int)(num inn:Bool)(c:LN)(X1:LO)(v5:Nat)(G:LO),(sl=0∨sl=1)/\ρ1 6=vi (a:Nat)/\a<=l.length/\bQA l a sl+k<=2*l.length+1/\c.length<=12*k/\I c k X1/\(∀x∈wr,base<=x) /\
   H1=X1++(.box 1 (bIB t)::.box 1 [.sl Po (l.map bIA)]::.box 1 [.sl Po (R.map bIL)]::.box 1 [vi sl,.bool num,.bool inn]::G)) (2*l.length+1)
  (λρ1 H1 wr=>∃c k X' w5 G,c.length<=100000/\I c k X'/\k<=5000/\(∀x∈wr,base<=x)/\H1=X'++(.box 1 (bIB t)::.box 1 [.sl Po (l.map bIA)]::.box 1 [.sl Po (R.map bIL)]::.box 1 w5::G)) bIv rfT ⟨0,0,Po,Po,[],X,1,[],.inl rfl,r6,omT,by unfold bQA;split<;>(try split)<;>omega,siT,hI,(λx hx=>by cases hx),rfl⟩ ?_ ?_
 .rintro k ρ1 H1 dc zp ⟨a,sl,num,inn,c,X1,v5,G,G6,e6,j8,hleft,kq,yy,ma,rfl⟩ hf;have hn:=hT.inv yy;have f0:ρ1 0=.yld o v:=(hf 0 rfl).trans r0;have f1:ρ1 1=.ptr (n+1) 1 0:=(hf 1 rfl).trans r1;have f2:ρ1 2=.ptr n 1 0:=(hf 2 rfl).trans r2;have f3:ρ1 3=.ptr (n+2) 1 0:=(hf 3 rfl).trans r3;have f5:ρ1 5=.ptr (n+3) 1 0:=(hf 5 rfl).trans r5;subst hn;simp only[go_sem,↓aB,seval,e6,f1];refine aD (λe3=>?_) (λe3=>?_)
  .have hlt:a<l.length:=uWf
   obtain⟨rv,rows,Wv,hrv,gu,lv⟩:=bd t ht sl num inn G6 l hl hs a hlt (X1++(.box 1 (bIB t)::.box 1 [.sl Po (l.map bIA)]::.box 1 [.sl Po (R.map bIL)]::.box 1 [vi sl,.bool num,.bool inn]::G));have ku:=bPs F (V:=.sl Po (R.map bIL)) a (X1++(.box 1 (bIB t)::.box 1 [.sl Po (l.map bIA)]::.box 1 [.sl Po (R.map bIL)]::.box 1 [vi sl,.bool num,.bool inn]::G)) rfl rfl;rw[bNF]at ku;generalize hp:(X1++(ah.box 1 (bIB t)::.box 1 [.sl Po (l.map bIA)]::.box 1 [.sl Po (R.map bIL)]::.box 1 [vi sl,.bool num,.bool inn]::G)).length=p at *;obtain⟨i,b,Ww,hi⟩:=bPt F gu (p:=p) (q:=p+1) (vp:=1) (vq:=1) (f1:=302) (H:=X1++(.box 1 (bIB t)::.box 1 [.sl Po (l.map bIA)]::.box 1 [.sl Po (R.map bIL)]::.box 1 [vi sl,.bool num,.bool inn]::(G++[.box 1 [.sl Po (R.map bIL)],.box 1 [vi (a:Nat)]]))) (λs hs=>by
    obtain⟨m,c,h⟩:=bOv F Zi omT a p (p+1) 1 1 (.sl Po (R.map bIL)) s (lv s hs).gg (by have:=(lv s hs).to;omega);refine⟨m,c,λx=>h _ (.sl _) ?_ ?_⟩
    .rw[<- bNF,CJ,<- hp,BU (AQ _),GD];rfl
    rw[<- bNF,CJ,<- hp,BU omT,FL];rfl)
   rcases hi with rfl | ⟨m,hm,rfl⟩
   .rcases hrv with rfl|rfl
    all_goals
     simp only[go_sem,↓aB,seval,e6,f1,f2,f3,f5,Wv,ku,Ww];exact hQ .ret _ c k X1 _ _ _ _ (.inl rfl) omT yy omT ma
   have cj:=mgE bIG hm;have hS:=lv _ (AS hm);have hlft:=bSg hS hlt;have kx:=hS.to;have hSl:=hS.gg;obtain⟨X2,w2,ej,I6,gn⟩:=hT.run rows[m] (a:Nat) (m:Nat) (.box 1 (bIB t)::.box 1 [.sl Po (l.map bIA)]::.box 1 [.sl Po (R.map bIL)]::.box 1 [vi sl,.bool num,.bool inn]::(G++[.box 1 [.sl Po (R.map bIL)],.box 1 [vi (a:Nat)]])) yy hS.cell hS.few omT omT;have hpc:=λsite=>bQB (site:=site) ej;have C9:=hT.inv I6;have hfew:=hS.few;generalize rows[m]=s at *;obtain⟨gg,num',inn',len,cs,X6⟩:=s;simp only at kx hlft hSl I6 hfew;simp only[bIG]at cj hpc;have pr:AR.wrap ((a:Int)+(len:Nat))=((a+len:Nat):Int):=by rw[wrap_i64 omT omT];omega
   have U6:decide ((m:Int)<0)=false:=siT;have gx:∀(i:Nat)(L:LO),(X2++L)[X1.length+i]? = L[i]? := λi L=>by rw[<- C9];exact bX
   have sx:∀(i:Nat)(L:LO)(y:ah),(X2++L).set (X1.length+i) y=X2++L.set i y:=λi L y=>by rw[<- C9];exact eS
   rcases hrv with rfl|rfl
   all_goals
    simp only[go_sem,↓aB,seval,e6,f0,f1,f2,f3,f5,Wv,ku,Ww,cj,hpc,U6];refine aY (aq:=bL1) rfT rfT ?_;simp only[go_sem,↓aB,seval,bL1,bL0,e6,f5,gx,sx,cj,pr];exact⟨omT,a+len,gg,num',inn',c++cs,X2,1,_,hSl,rfl,kx,omT,by rw[BA];omega,I6,rB ma gn,rfl⟩
  simp only[go_sem,seval];exact⟨c,k,X1,_,G,omT,yy,omT,ma,rfl⟩
 rintro ρ' H' ba ⟨c,k,X',w5,G,hc,W0,hk,ma,rfl⟩ hf;exact hQ _ _ c k X' 1 w5 G ba (.inr rfl) hc W0 hk ma
def bPK(h:Has A 251 bKO)(F:pz A)(bd:bKG A)(hY:sn A)(ht:yr t)(hl:l.length<=2048)(hs:∀x∈l,SymM x)(hRN:R.length=l.length+1)(Zi:∀r∈R,r.length=8){v base:Nat}(hbn:base<=n)(hT:Xo A o v base n I)(hI:I [] 0 X):∃c k X' G wr,aG A 251 [.yld o v,.ptr (n+1) 1 0,.ptr n 1 0,.ptr (n+2) 1 0] (X++[.box 1 (bIB t),.box 1 [.sl Po (l.map bIA)],.box 1 [.sl Po (R.map bIL)]])=N1 (.tup [],X'++G,wr)/\c.length<=100000/\I c k X'/\k<=5000/\∀x∈wr,base<=x:=by
 have hn:=hT.inv hI;subst hn;obtain⟨r,H',ba,e1,rfl,c,k,X',G,rfl,h1,h2,h3,h4⟩:=h.bp (args:=[.yld o v,.ptr (X.length+1) 1 0,.ptr X.length 1 0,.ptr (X.length+2) 1 0]) (H:=X++[.box 1 (bIB t),.box 1 [.sl Po (l.map bIA)],.box 1 [.sl Po (R.map bIL)]]) (K:=λr H' wr=>r=.tup []/\∃c k X' G,H'=X'++G/\c.length<=100000/\I c k X'/\k<=5000/\∀x∈wr,base<=x) (by
  have zl:∀{c k X' G wr},c.length<=100000->I c k X'->k<=5000->(∀x∈wr,base<=x)->∀r,cJ (X.length+3) (.tup [],X'++G,wr)=r->r.1=.tup []/\∃c k X' G,r.2.1=X'++G/\c.length<=100000/\I c k X'/\k<=5000/\∀x∈r.2.2,base<=x:=by
   rintro c k X' G wr h1 h2 h3 h4 r rfl;unfold cJ;dsimp only;have:=hT.inv h2;split
   .refine⟨rfl,c,k,X',G.take 3, ?_,h1,h2,h3,h4⟩;rw[List.take_append,CH omT,this,FL]
   exact⟨rfl,c,k,X',G,rfl,h1,h2,h3,h4⟩
  simp only[bKO];simp only[go_sem,↓aB,seval,CJ];have ax:(X++[ah.box 1 (bIB t),.box 1 [.sl Po (l.map bIA)],.box 1 [.sl Po (R.map bIL)]]).length=X.length+3:=siT;refine bQC F bd hY ht hl hs hRN Zi ax hbn hT hI ?_ ?_ ?_ ?_ ?_ ?_ ?_
  .rfl
  .rfl
  .rfl
  .rfl
  .rfl
  .rfl
  intro e ρ' c k X' v5 w5 G wr he hc W0 hk ma;rcases he with rfl|rfl
  all_goals
   simp only[go_sem,↓aB,seval,ax];exact zl hc W0 hk ma _ rfl)
 exact⟨c,k,X',G,ba,e1,h1,h2,h3,h4⟩
end
def bK6:=(.mk _:bb 102 (bIF 223 [])).x
abbrev bK7:=bTw 102 (bJ6 117951)
abbrev bK8:LN:=[]
abbrev bK9:=bTw 102 (bIF 1215 [(115,.region Pa bK7)])
abbrev bLU:LN:=[50,51,52,11,11,53,54,55,56,57,58,59,49]
def bL3:=(.mk _:bb 102 (bIC [(223,bK6),(1215,bK9)])).x
def ew.appE{id:Nat}{rows:List LA}{o:ah}(h:ew id k rows v o){bytes:Nat}(hk:dF k new=Pa)(hr:(rows.length+new.length)*(bytes+1)<=1099511627776):∃v' o' wr,ew id k (rows++new) v' o'/\(∀H f,H[id]? = N1 o->eX H (N1 id) k bytes v (.sl f new)=N1 (v',H.set id o',wr))/\∀b w,b<=id->bE b w wr=w:=by
 cases new with
 |nil=>
  have ed:bP rows.length bytes=true:=by unfold bP;simpa using hr
  refine⟨v,o,[],by rw[AJ];exact h,λH f ho=>?_,λ_ _ _=>rfl⟩;rw[aJo ho];cases h with
  |nil=>rfl
  |obj ver=>unfold eX;simp only[bIz,dO,dF,BT,BX,Vt,ho,AZ,DU];rw[Vx ⟨trivial,trivial,trivial,ed⟩];rfl
 |cons a l=>obtain⟨v',o',h1,h2⟩:=h.app (bytes:=bytes) (List.cons_ne_nil a l) hk hr;exact⟨v',o',[id],h1,h2,λb w hb=>by unfold bE;rw[Vw omT];rfl⟩
section
variable {A:af}
abbrev bRR:ag:=.region Po [qq 9 (.alloc [z0,z0,z0,(.bool Po),(.bool Po),z0,(.sl Pa []),z0]),qs 8 9 32]
abbrev bRS:ag:=.block 1 (qS [qf 33 0 8,ql 34 1 33,qf 35 2 9,qf 36 4 35,ql 37 1 36,qa 38 1 1 34 37,qf 39 0 8,qs 1 39 38]<|.region Po [qf 40 1 8,ql 41 1 40,qf 42 1 9,ql 43 1 42,qq 44 (.bsl 1 [z0] 1 [(0,(.tmp 43))]),qa 45 1 8 41 44,qf 46 1 8,qs 1 46 45])
abbrev trS:LN:=[2,4,8,32,9,38,45,11,57]
abbrev bSu(n:Int):LA:=[vi n]
def TrI(H:LO)(x0 x1 x7 x8:ah)(ls:LA)(c:LN)(k:Nat)(X:LO):Prop:=∃vc vt y4 y5 y6 T,X=H++[x0,x1,.box 1 [vc,vt,.sl Pa []],.rnd 1 H.length trS [32] (.seq bRR bRS) ls Po N2,y4,y5,y6,x7,x8]/\ew (H.length+5) 1 (gZ c) vc y5/\ew (H.length+6) 1 ((T:List Int).map bSu) vt y6/\T.length=k
def bRw(hY:sn A)(H:LO)(x0 x1 x7 x8:ah)(ls:LA)(ym:ls.length=61)(h8:ck ls 8=.ptr (H.length+2) 1 0):Xo A (H.length+3) 1 H.length (H.length+9) (λc k X=>TrI H x0 x1 x7 x8 ls c k X/\∀x∈c,x<=63) where
 inv:=by rintro c k X ⟨⟨vc,vt,y4,y5,y6,T,rfl,_⟩,_⟩;simp
 run:=by
  rintro c k X s i1 i2 L ⟨⟨vc,vt,y4,y5,y6,T,rfl,hG,Wh,hTk⟩,Zj⟩ hs63 hs12 kq zp;have key:∃(e:bf)(H':LO)(ba:LN),aG A YF [.own 0 [],.yld (H.length+3) 1,.agg (vi i1::vi i2::bIG s)] (H++(x0::x1::.box 1 [vc,vt,.sl Pa []]::.rnd 1 H.length trS [32] (.seq bRR bRS) ls Po N2::y4::y5::y6::x7::x8::L))=N1 (.bool (decide (e=.normal)),H',ba)/\(e=.normal/\(∃X',H'=X'++L/\TrI H x0 x1 x7 x8 ls (c++s.cells) (k+1) X')/\∀x∈ba,H.length<=x):=by
   refine mT hY (K:=λe H' wr=>e=.normal/\(∃X',H'=X'++L/\TrI H x0 x1 x7 x8 ls (c++s.cells) (k+1) X')/\∀x∈wr,H.length<=x) (N:=61) (l:=ls) (by rw[bX];rfl) rfl bIv bIv ym ?_;have nu:ck (dH ls [32] [.agg (vi i1::vi i2::bIG s)])=upd (ck ls) 32 (.agg (vi i1::vi i2::bIG s)):=nG omT;rw[nu];generalize hρ:ck ls=ρ at *;have fq:∀{w2:LN}{n:Nat},(∀x∈w2,H.length<=x)->∀x∈FM H.length n++(H.length+3)::w2,H.length<=x:=λ{w2 n} h x hx=>by
    rcases AY.1 hx with hx|hx
    .rw[FC]at hx;exact hx.1
    rcases BD.1 hx with rfl|hx
    .omega
    exact h x hx
   obtain⟨vc',o5,wr5,Sw,Gx,Ym⟩:=hG.appE (new:=gZ s.cells) (bytes:=1) (bIK _) (by simp only[AF];omega);obtain⟨vt',o6,hG2',ny⟩:=Wh.app (new:=[bSu i2]) (bytes:=8) siT rfT (by simp only[AF,AW,AZ];omega);have mj:vc'.cells=[vc']:=Sw.aj;have nc:vc'.ak=true:=Sw.ak;have Z4:vt'.cells=[vt']:=hG2'.aj;have hc4:vt'.ak=true:=hG2'.ak;have haw':=λw=>Ym H.length w omT;obtain⟨gg,num,inn,len,cs,X6⟩:=s;simp only[bIG]at *;have hapA:=Gx (H++(x0::x1::.box 1 [vc,vt,.sl Pa []]::.rnd 1 H.length trS [32] (.seq bRR bRS) ls Pa N2::.box (y4.ver+1) [vi i1,vi i2,vi gg,.bool num,.bool inn,vi (len:Nat),.sl Po (gZ cs),vi X6]::y5::y6::x7::x8::L)) Po (by rw[bX];rfl);rw[eS]at hapA;have hapB:=ny (H++(x0::x1::.box 1 [vc',vt,.sl Pa []]::.rnd 1 H.length trS [32] (.seq bRR bRS) ls Pa N2::.box (y4.ver+1) [vi i1,vi i2,vi gg,.bool num,.bool inn,vi (len:Nat),.sl Po (gZ cs),vi X6]::o5::y6::x7::x8::L)) Pa (by rw[bX];rfl);rw[eS]at hapB;simp only[bSu,GL,GM]at hapA hapB;have g4:4<L.length+1+1+1+1+1+1+1+1+1:=omT;have s44:(⟨H.length,[2,4,8,32,9,38,45,11,57,YF+(H.length+3),YF+1]⟩:Ctx).site (N1 44)=none:=aIE (l:=[2,4,8,32,9,38,45,11,57]) (ys:=[YF+(H.length+3),YF+1]) rfT deT (λy hy=>by simp at hy;omega);simp only[go_sem,↓aB,seval,g4];refine⟨_,_,_,_,_,rfl, ?_⟩;simp only[go_sem,↓aB,seval,h8,s44,hapA,hapB,haw',mj,nc,Z4,hc4];exact⟨_,_,_,_,_,rfl,⟨H++[x0,x1,.box 1 [vc',vt',.sl Pa []],.rnd 1 H.length trS [32] (.seq bRR bRS) ls Po N2,.box (y4.ver+1) [vi i1,vi i2,vi gg,.bool num,.bool inn,vi (len:Nat),.sl Po (gZ cs),vi X6],o5,o6,x7,x8],siT,vc',vt',_,o5,o6,T++[i2],rfl,by rw[gZ,DQ];exact Sw,by rw[DQ];exact hG2',by simp[hTk]⟩,fq siT⟩
  obtain⟨e,H',ba,h1,rfl,⟨X',rfl,h2⟩,h3⟩:=key;refine⟨X',ba,uWk,⟨h2,λx hx=>?_⟩,h3⟩;rcases AY.1 hx with hx|hx
  .exact Zj x hx
  exact hs63 x hx
end
@[go_sem] def bRx{base t u:Nat}:iE base [.cell t k agg,.tmp u] ρ H wr=match bC H k (ρ t)with
  |some cs=>match eD agg cs with
   |some v=>match aBv H [v,ρ u]with
    |some (vs',H',l)=>N1 (.tup vs',H',bE base wr l)
    |none=>N2
   |none=>N2
  |none=>none:=by
 simp only[iE,aEP,aNP];cases bC H k (ρ t)with
 |none=>rfl
 |some cs=>dsimp only;cases eD agg cs<;>rfl
section
variable {A:af}
abbrev bQD(A:af):Prop:=∀(t:my),yr t->∀(l:List ox),l.length<=2048->(∀x∈l,SymM x)->∀H:LO,∃(c:LN)(T Ls:List LA)(e:Int),aG A 102 [bJF t,.sl Po (l.map bIA)] H=N1 (.tup [.agg [.sl Po (gZ c),.sl Po T,.sl Po Ls],vi e],H,[])/\c.length<=100000/\∀x∈c,x<=63
structure Ys(A:af):Prop where
 tr:Has A 102 bL3
 best:Has A 155 bLq
 best1:Has A 251 bKO
 con:pz A
 st:X4 A
def bTh{G:LO}{x0 x1 x3 x5 x6 x7 x8:ah}{vc vt:AV}(hvc:vc.cells=[vc])(hvt:vt.cells=[vt])(J2:R.length<=3000)(Zi:∀r∈R,r.length=8)(r8:ρ 8=.ptr (H.length+2) 1 0)(r47:ρ 47=.sl Po (R.map bIL))(r48:ρ 48=vi (R.length:Nat))(r49:ρ 49=vi 0){Q T}(hQ:∀ρ' vL y7 y8 Ls,aLP bLU ρ ρ'->gG Ls=Pa->ew (H.length+8) 1 Ls vL y8->Q (.exit 2) ρ' (H++(x0::x1::.box 1 [vc,vt,vL]::x3::x4::x5::x6::y7::y8::G)) []):wl A 61 ⟨H.length,trS⟩ bK9 ρ (H++(x0::x1::.box 1 [vc,vt,.sl Pa []]::x3::x4::x5::x6::x7::x8::G)) [] Q T:=by
 refine bJ (id:=2) (λk ρ1 H1 wr=>wr=[]/\ρ1 49=vi k/\∃vL y7 y8 Ls,gG Ls=Pa/\Ls.length=k/\ew (H.length+8) 1 Ls vL y8/\H1=H++(x0::x1::.box 1 [vc,vt,vL]::x3::x4::x5::x6::y7::y8::G)) R.length
  (λρ1 H1 wr=>wr=[]/\∃vL y7 y8 Ls,gG Ls=Pa/\ew (H.length+8) 1 Ls vL y8/\H1=H++(x0::x1::.box 1 [vc,vt,vL]::x3::x4::x5::x6::y7::y8::G)) bIv rfl ⟨rfl,r49,.sl Pa [],x7,x8,[],rfl,rfl,.nil _,rfl⟩ ?_ ?_
 .rintro k ρ1 H1 dc zp ⟨rfl,e49,vL,y7,y8,Ls,hd,A2,hG,rfl⟩ hf;have f47:=(hf 47 rfl).trans r47;have f48:=(hf 48 rfl).trans r48;have f8:=(hf 8 rfl).trans r8;simp only[go_sem,↓aB,seval,e49,f48];refine aD (λe3=>?_) (λe3=>?_)
  .have hlt:k<R.length:=by simp at e3;omega
   have dy:=wS (i:=k) omT;have cj:=mgE bIL hlt;obtain⟨a0,a1,a2,a3,a4,a5,a6,a7,he⟩:∃a0 a1 a2 a3 a4 a5 a6 a7:Int,R[k]=[a0,a1,a2,a3,a4,a5,a6,a7]:=by
    have:=Zi _ (AS hlt)
    match hr:R[k],this with
    | [a0,a1,a2,a3,a4,a5,a6,a7],_=>exact⟨a0,a1,a2,a3,a4,a5,a6,a7,rfl⟩
   rw[he]at cj;have g7:7<G.length+1+1+1+1+1+1+1+1+1:=omT;obtain⟨v',o',Sw,Gx⟩:=hG.app (new:=[[.sl Po [[vi a0],[vi a1],[vi a2],[vi a3],[vi a4],[vi a5],[vi a6],[vi a7]]]]) (bytes:=24) siT rfT soT;have mj:=Sw.aj;have nc:=Sw.ak;simp only[go_sem,↓aB,seval,e49,f47,cj,hlt,g7];have ny:=Gx (H++(x0::x1::.box 1 [vc,vt,vL]::x3::x4::x5::x6::.gone (y7.ver+1)::y8::G)) Pa (by rw[bX];rfl);have hb8:dU 8 N2 N2 N2=N1 (0,8,8):=rfl;have hch:aFH 1 8 [vi a0,vi a1,vi a2,vi a3,vi a4,vi a5,vi a6,vi a7]=[[vi a0],[vi a1],[vi a2],[vi a3],[vi a4],[vi a5],[vi a6],[vi a7]]:=rfl;refine aY (aq:=bK8) rfT rfT ?_;simp only[go_sem,↓aB,seval,bK8,bK7,e49,f8,ny,hb8,hch,mj,nc,dy];exact⟨hlt,v',_,o',_,aGl λv hv=>(AY.1 hv).elim (aBf hd v) (aBf rfl v),by simp[A2],Sw,rfl⟩
  have:k=R.length:=by simp at e3;omega
  simp only[go_sem,seval];exact⟨vL,y7,y8,Ls,hd,hG,rfl⟩
 rintro ρ' H' ba ⟨rfl,vL,y7,y8,Ls,hd,hG,rfl⟩ hf;exact hQ ρ' vL y7 y8 Ls hf hd hG
def bSh(F:Ys A)(hv:bMU A)(bd:bKG A)(hn:bPw A)(hY:sn A):bQD A:=by
 intro t ht l hl hs H;obtain⟨r,H',ba,e1,rfl,rfl,c,T,Ls,e,rfl,h1,h2⟩:=F.tr.bp (args:=[bJF t,.sl Po (l.map bIA)]) (H:=H) (K:=λr H' wr=>wr=[]/\H'=H/\∃(c:LN)(T Ls:List LA)(e:Int),r=.tup [.agg [.sl Po (gZ c),.sl Po T,.sl Po Ls],vi e]/\c.length<=100000/\∀x∈c,x<=63) (by
  have pc:=λH=>bRu F.con F.st hv ht hl hs H;simp only[bL3];simp only[go_sem,↓aB,seval,pc];obtain⟨R,Gm,hRN,Zi⟩:=hn t ht l hl hs (H++[.box 1 (bIB t),.box 1 [.sl Pa [],.sl Pa [],.sl Pa []],.gone 0,.gone 0,.gone 0,.gone 0,.gone 0,.gone 0,.gone 0]);have h0R:0<R.length:=omT;have cj:=mgE bIL h0R;have h08:=Zi _ (AS h0R);obtain⟨m,hm,hl8⟩:∃m,(bIL R[0]).take 1=[vi m]/\(bIL R[0]).length=8:=by
   match hr:R[0],h08 with
   |a::r,h=>exact⟨a,rfl,by simpa [hr]using h⟩
  generalize bIL R[0]=er at *;have hbest:=λH=>bQz F.best t l R H;have h0l:0<(R.map bIL).length:=by simpa using h0R
  simp only[go_sem,↓aB,seval,Gm,cj,hl8,hm];have hbest1:=λls ym h8=>bPK F.best1 F.con bd hY ht hl hs hRN Zi (o:=H.length+3) (v:=1) (base:=H.length) (n:=H.length+9) omT (bRw hY H (.box 1 (bIB t)) (.box 1 [.sl Pa [],.sl Pa [],.sl Pa []]) (.gone 0) (.gone 0) ls ym h8) (X:=H++[.box 1 (bIB t),.box 1 [.sl Pa [],.sl Pa [],.sl Pa []],.box 1 [.sl Pa [],.sl Pa [],.sl Pa []],.rnd 1 H.length trS [32] (.seq bRR bRS) ls Po N2,.gone 0,.gone 0,.gone 0,.gone 0,.gone 0]) ⟨⟨_,_,_,_,_,[],rfl,.nil _,.nil _,rfl⟩,siT⟩;refine aD (λe3=>?_) (λe3=>?_)
  .simp only[go_sem,↓aB,seval];exact⟨[],[],[],6,rfl,siT,siT⟩
  simp only[go_sem,↓aB,seval,hbest,CJ];simp only[bK6];simp only[go_sem,seval];refine wC (id:=H.length+3) (v:=1) (X:=λls=>H++[.box 1 (bIB t),.box 1 [.sl Pa [],.sl Pa [],.sl Pa []],.box 1 [.sl Pa [],.sl Pa [],.sl Pa []],.rnd 1 H.length trS [32] (.seq bRR bRS) ls Po N2,.gone 0,.gone 0,.gone 0,.gone 0,.gone 0,.box 1 (bIB t),.box 1 [.sl Po (l.map bIA)],.box 1 [.sl Po (R.map bIL)]]) rfT rfT siT (λ_=>rfT) (by unfold bH;rw[bX];rfl) (λl=>by rw[sV];rfl) ?_;intro ls ym he;obtain⟨c,k,X',G,wr,fo,mj,⟨⟨vc,vt,y4,y5,y6,T,rfl,hG,Wh,hT⟩,Zj⟩,hk,ma⟩:=hbest1 ls ym (by rw[he];rfl);rw[CJ H]at fo;refine⟨_,_,_,H.length,trS,[32],.seq bRR bRS,ls,N2,fo, ?_, ?_⟩
  .rw[CJ,bX];rfl
  rw[kH (l:=(H.length+3)::wr) (λx hx=>(BD.1 hx).elim (λe=>omT) (ma x))];rw[CJ,eS];simp only[List.cons_append,CW,GL,GM,Option.getD_none];have hvc:vc.cells=[vc]:=hG.aj;have hvt:vt.cells=[vt]:=Wh.aj;simp only[go_sem,↓aB,seval];refine bTh (R:=R) hvc hvt omT Zi ?_ ?_ ?_ ?_ ?_
  .rfl
  .rfl
  .rfl
  .rfl
  intro ρ' vL y7 y8 Ls hf hdL Lt;have f8:ρ' 8=.ptr (H.length+2) 1 0:=hf 8 rfl;have f4:ρ' 4=.ptr (H.length+1) 1 0:=hf 4 rfl;have d1:=bIy c;have d2:gG (T.map bSu)=true:=aGl λv hv=>by
   obtain⟨n,_,rfl⟩:=DB.1 hv;rfl
  have s1:=aT d1;have s2:=aT d2;have s3:=aT hdL;have u1:=aA (n:=H.length) d1;have u2:=aA (n:=H.length) d2;have u3:=aA (n:=H.length) hdL;have hu:(AV.tup [.agg [.sl Po (gZ c),.sl Po (T.map bSu),.sl Po Ls],.int .i64 0]).under H.length=true:=by simp only[AV.under,dJ,u1,u2,u3,Hg]
  have hK:=λHH=>qQ (H:=H++HH) hu;generalize hC:gZ c=C at *;generalize T.map bSu=TT at *;cases hG<;>cases Wh<;>cases Lt
  all_goals
   simp only[go_sem,↓aB,seval,f8,f4,s1,s2,s3]
   first
    |rw[hK,GU];exact⟨rfl,rfl,c,_,_,0,by rw[hC],mj,Zj⟩
    |exact⟨c,_,_,0,by rw[hC],mj,Zj⟩)
 exact⟨c,T,Ls,e,e1,h1,h2⟩
end
def bLD:=(.mk _:bb 237 bTx).x
def bLV:=(.mk _:bb 242 (bIF 5 [])).x
def bNg:=(.mk _:bb 242 (bIC [(5,bLV)])).x
abbrev bLf:=bTw 288 (bIF 17 [])
def bKa:=(.mk _:bb 288 (bIC [(17,bLf)])).x
structure Wc(A:af):Prop where
 Zk:Has A 237 bLD
 code:Has A 242 bNg
 trimB:Has A 288 bKa
section
variable {A:af}
def bPL(F:Wc A)(c:Nat)(H:LO):aG A 237 [.int .u8 c] H=N1 (.bool (decide ((c:Int)<32) || decide ((c:Int)>126)),H,[]):=by
 refine F.Zk.call ?_;simp only[bLD];cases e1:decide ((c:Int)<32)with
 |true=>simp only[go_sem,↓aB,seval,e1,CE]
 |false=>simp only[go_sem,↓aB,seval,e1]
def bSi(F:Wc A){c:Nat}(h0:32<=c)(h1:c<=126)(last:Bool)(H:LO):∃l:LN,aG A 242 [.int .u8 c,.bool last] H=N1 (.sl Po (gZ l),H,[])/\(l≠[]/\l.length<=2)/\∀x∈l,x<=63:=by
 obtain⟨r,H',ba,e1,rfl,rfl,l,rfl,h2,h3⟩:=F.code.bp (args:=[.int .u8 c,.bool last]) (H:=H) (K:=λr H' wr=>wr=[]/\H'=H/\∃l:LN,r=.sl Po (gZ l)/\(l≠[]/\l.length<=2)/\∀x∈l,x<=63) (by
  have w1:KD.wrap ((c:Int) - 32)=((c - 32:Nat):Int):=by rw[aQh omT omT];omega
  simp only[bNg,bLV];cases last with
  |true=>simp only[go_sem,↓aB,seval];exact⟨[32,2],rfl,siT,siT⟩
  |false=>
   by_cases c1:97<=c/\c<=122
   .have e1:decide ((c:Int) ≥ 97)=true:=soT;have e2:decide ((c:Int)<=122)=true:=soT;have w2:KD.wrap ((c:Int) - 64)=((c - 64:Nat):Int):=by rw[aQh omT omT];omega
    simp only[go_sem,↓aB,seval,e1,e2,w2];exact⟨[c - 64],rfl,siT,soT⟩
   have e12:decide ((c:Int) ≥ 97)=Po∨decide ((c:Int) ≥ 97)=Pa/\decide ((c:Int)<=122)=false:=soT;by_cases c2:c=95
   .have e3:((c:Int)==95)=true:=soT;rcases e12 with e1 | ⟨e1,e2⟩
    all_goals
     simp only[go_sem,↓aB,seval, *];exact⟨[32,1],rfl,siT,siT⟩
   have e3:((c:Int)==95)=false:=soT;by_cases c3:c=96
   .have e4:((c:Int)==96)=true:=soT;rcases e12 with e1 | ⟨e1,e2⟩
    all_goals
     simp only[go_sem,↓aB,seval, *];exact⟨[32,3],rfl,siT,siT⟩
   have e4:((c:Int)==96)=false:=soT;by_cases c4:123<=c
   .have e5:decide ((c:Int) ≥ 123)=true:=soT;have e1:decide ((c:Int) ≥ 97)=true:=soT;have e2:decide ((c:Int)<=122)=false:=soT;have w2:KD.wrap ((c:Int) - 64)=((c - 64:Nat):Int):=by rw[aQh omT omT];omega
    simp only[go_sem,↓aB,seval,e1,e2,e3,e4,e5,w2];exact⟨[32,c - 64],rfl,siT,soT⟩
   have e5:decide ((c:Int) ≥ 123)=false:=soT;have e1:decide ((c:Int) ≥ 97)=false:=soT;by_cases c5:64<=c/\c<=90
   .have e6:decide ((c:Int) ≥ 64)=true:=soT;have e7:decide ((c:Int)<=90)=true:=soT;simp only[go_sem,↓aB,seval,e1,e3,e4,e5,e6,e7,w1];exact⟨[32,c - 32],rfl,siT,soT⟩
   have e67:decide ((c:Int) ≥ 64)=Po∨decide ((c:Int) ≥ 64)=Pa/\decide ((c:Int)<=90)=false:=soT;rcases e67 with e6 | ⟨e6,e7⟩
   .simp only[go_sem,↓aB,seval,e1,e3,e4,e5,e6,w1];exact⟨[c - 32],rfl,siT,soT⟩
   simp only[go_sem,↓aB,seval,e1,e3,e4,e5,e6,e7,w1];exact⟨[c - 32],rfl,siT,soT⟩)
 exact⟨l,e1,h2,h3⟩
end
def bMr:=(.mk _:bb 147 bTx).x
def bLg:=(.mk _:bb 241 bTx).x
def bQE(h2:k<=n):dU n N2 (N1 (vi k)) N2=N1 (0,k,n):=by unfold dU iL vi;dsimp only;rw[Vx ⟨omT,omT⟩];rfl
section
variable {A:af}
def bRy(F:Wc A)(hs:s.length<=1000000)(b:Nat)(H:LO):∃r:Str,aG A 288 [.str s,.int .u8 b] H=N1 (.str r,H,[])/\r.length<=s.length:=by
 obtain⟨v,H',ba,e1,rfl,rfl,r,rfl,h2⟩:=F.trimB.bp (args:=[.str s,.int .u8 b]) (H:=H) (K:=λv H' wr=>wr=[]/\H'=H/\∃r:Str,v=.str r/\r.length<=s.length) (by
  simp only[bKa];simp only[go_sem,↓aB,seval];refine bJ (id:=0) (λk ρ1 H1 wr=>wr=[]/\H1=H/\∃r:Str,ρ1 0=.str r/\r.length+k=s.length) s.length
   (λρ1 H1 wr=>wr=[]/\H1=H/\∃r:Str,ρ1 0=.str r/\r.length<=s.length) bIv rfl ⟨rfl,siT,s,rfl,rfl⟩ ?_ ?_
  .rintro k ρ1 H1 dc zp ⟨rfl,rfl,r,e0,hr⟩ hf;have f1:ρ1 1=.int .u8 b:=hf 1 rfl;by_cases h0:0<r.length
   .have e1:decide ((r.length:Int)>0)=true:=soT;have hw:AR.wrap ((r.length:Int) - 1)=((r.length - 1:Nat):Int):=by rw[wrap_i64 omT omT];omega
    have hlt:r.length - 1<r.length:=omT;have cj:r[r.length - 1]? = N1 r[r.length - 1]:=AP hlt;have ax:(r.take (r.length - 1)).length=r.length - 1:=siT;have hbd:=bQE (n:=r.length) (k:=r.length - 1) omT;generalize r[r.length - 1]=c at *;cases e2:((c.toNat:Int)==(b:Int))with
    |true=>simp only[go_sem,↓aB,seval,e0,f1,e1,hw,cj,e2,hbd];exact⟨omT,r.take (r.length - 1),rfl,omT⟩
    |false=>simp only[go_sem,↓aB,seval,e0,f1,e1,hw,cj,e2];exact⟨r,rfl,omT⟩
   have e1:decide ((r.length:Int)>0)=false:=by rw[decide_eq_false_iff_not];omega
   simp only[go_sem,↓aB,seval,e0,e1];exact⟨r,rfl,omT⟩
  rintro ρ' H' ba ⟨rfl,rfl,r,e0,hr⟩ hf;simp only[go_sem,↓aB,seval,e0];exact⟨r,rfl,hr⟩)
 exact⟨r,e1,h2⟩
structure Wd(A:af):Prop where
 f0:Wc A
 isText:Has A 147 bMr
 trim:Has A 241 bLg
 cB:aAA A 43 1 Po
def bSj(F:Wd A)(hs:s.length<=1000000)(H:LO):∃r:Str,aG A 241 [.str s,.str [32]] H=N1 (.str r,H,[])/\r.length<=s.length:=by
 obtain⟨v,H',ba,e1,rfl,rfl,r,rfl,h2⟩:=F.trim.bp (args:=[.str s,.str [32]]) (H:=H) (K:=λv H' wr=>wr=[]/\H'=H/\∃r:Str,v=.str r/\r.length<=s.length) (by
  obtain⟨r,hr,hl⟩:=bRy F.f0 hs 32 (H++[.gone 0]);simp only[bLg];cases e0:s==([]:Str)with
  |true=>simp only[go_sem,↓aB,seval,e0];exact⟨s,rfl,AQ _⟩
  |false=>
   have e2:(([32]:Str)==[])=false:=rfl;have e3:([32]:Str)[0]? = N1 32:=rfl;have e4:(32:UInt8).toNat=32:=rfl;have pw:aG A 288 [.str s,.int .u8 32] (H++[.gone 0])=N1 (.str r,H++[.gone 0],[]):=hr;simp only[go_sem,↓aB,seval,e0,e2,e3,e4,pw];exact⟨r,rfl,hl⟩)
 exact⟨r,e1,h2⟩
abbrev bRz(c:UInt8):Bool:=decide ((c.toNat:Int)<32) || decide ((c.toNat:Int)>126)
def bOw(F:Wd A)(hs:s.length<=100000)(H:LO):aG A 147 [.str s] H=N1 (.bool (!s.any bRz),H,[]):=by have h1:=bSJ F.cB aMY bIJ (l:=s) hs (H:=H) (f1:=237) (q:=bRz) (λc _=>bPL F.f0 c.toNat H);have cn:aJ s=s.map aRV:=rfl;refine F.isText.call ?_;simp only[bMr];have hl:s.length<=1099511627776:=omT;simp only[go_sem,↓aB,seval,hl,cn,h1]
def bTi(h:s.any bRz=Po):∀c∈s,32<=c.toNat/\c.toNat<=126:=λc hc=>by
 have:=KH.1 h c hc;simp at this;omega
end
def bJ2:=(.mk _:bb 239 (bIF 13 [])).x
def bJj:=(.mk _:bb 239 (bIC [(13,bJ2)])).x
def bJ4:=(.mk _:bb 149 bTx).x
def bN0:=(.mk _:bb 150 bTx).x
abbrev bN1:=bTw 240 (bIF 19 [])
def bKP:=(.mk _:bb 240 (bIC [(19,bN1)])).x
def bL4:=(.mk _:bb 98 bTx).x
section
variable {A:af}{o v base n:Nat}{I:List LN->LO->Prop}
structure Xs(A:af)(o v base n:Nat)(I:List LN->LO->Prop):Prop where
 len:∀{cs X},I cs X->X.length=n
 run:∀{cs X}(c:LN),I cs X->cs.length<=10000000000 ->
  ∃X' wr,aG A YF [.own 0 [],.yld o v,.sl Po (gZ c)] X=N1 (.bool Pa,X',wr)/\I (cs++[c]) X'/\∀x∈wr,base<=x
abbrev bNs:ag:=qS [qm 5 7]<|.block 1 (qR [ql 8 1 2,qm 9 5,qq 10 (.bsl 1 [.ar] 1 [(0,(.tmp 9))]),qa 11 1 24 8 10,qs 1 2 11])
def bT4(H:LO)(cs:List LN)(X:LO):Prop:=∃w x3 l,X=H++[.box 1 [w],.rnd 1 H.length [2,7,11] [7] bNs l Po N2,x3]/\l.length=13/\ck l 2=.ptr H.length 1 0 /\
 ((cs=[]/\w=.ar)∨(cs≠[]/\∃ver,w=.sr (H.length+2) ver cs.length/\x3=.vec ver 1 (cs.map bPq)))
def bQF(hY:sn A)(H:LO):Xs A (H.length+1) 1 H.length (H.length+3) (bT4 H) where
 len:=by rintro cs X ⟨w,x3,l,rfl,_⟩;simp
 run:=by
  rintro cs X c ⟨w,x3,l,rfl,hl,h2,hw⟩ kq;have key:∃(e:bf)(H':LO)(ba:LN),aG A YF [.own 0 [],.yld (H.length+1) 1,.sl Po (gZ c)] (H++[.box 1 [w],.rnd 1 H.length [2,7,11] [7] bNs l Po N2,x3])=N1 (.bool (decide (e=.normal)),H',ba)/\(e=.normal/\bT4 H (cs++[c]) H'/\∀x∈ba,H.length<=x):=by
   refine mT hY (by rw[bX];rfl) rfl bIv bIv hl ?_;have hs:ck (dH l [7] [.sl Po (gZ c)])=upd (ck l) 7 (.sl Po (gZ c)):=nG omT;rw[hs];generalize hρ:ck l=ρ at *;simp only[go_sem,↓aB,seval];have B8:(⟨H.length,[2,7,11,YF+(H.length+1),YF+1]⟩:Ctx).site (N1 10)=none:=aIE (l:=[2,7,11]) rfT deT (λy hy=>by simp at hy;omega);have fq:∀{w2:LN}{n:Nat},(∀x∈w2,H.length<=x)->∀x∈FM H.length n++(H.length+1)::w2,H.length<=x:=λ{w2 n} h x hx=>by
    rcases AY.1 hx with hx|hx
    .rw[FC]at hx;exact hx.1
    rcases BD.1 hx with rfl|hx
    .omega
    exact h x hx
   refine⟨_,_,_,_,_,rfl, ?_⟩;rcases hw with⟨rfl,rfl⟩ | ⟨bl,ver,rfl,rfl⟩
   .have hr:bP 1 24=true:=deT;simp only[go_sem,↓aB,seval,h2,B8,eX,hr];exact⟨_,_,_,_,_,rfl,⟨_,_,l,rfl,hl,by rw[hρ];exact h2,.inr ⟨siT,_,rfl,rfl⟩⟩,fq siT⟩
   have hr:bP (cs.length+1) 24=true:=by unfold bP;simp;omega
   simp only[go_sem,↓aB,seval,h2,B8,eX,hr];exact⟨_,_,_,_,_,rfl,⟨_,_,l,rfl,hl,by rw[hρ];exact h2,.inr ⟨siT,ver,by rw[BA];rfl,by rw[DQ];rfl⟩⟩,fq siT⟩
  obtain⟨e,H',ba,h1,rfl,h3,h4⟩:=key;exact⟨H',ba,uWk,h3,h4⟩
abbrev CsM(cs:List LN):Prop:=∀c∈cs,(c≠[]/\c.length<=2)/\∀x∈c,x<=63
def bQG{Z':LO}{o v:Nat}(h:aG A YF [.own 0 [],.yld o v,.sl Po (gZ c)] Z=N1 (.bool Pa,Z',wr)):cX (aG A) Z site (.yld o v) [.sl Po (gZ c)]=N1 (.bool Pa,Z',wr):=by rw[aGL];have:kA Z [.sl Po (gZ c)]=N1 ([.sl Po (gZ c)],[]):=rfl;rw[this];dsimp only;have e2:([AV.sl Po (gZ c)]).map AV.strip=[.sl Po (gZ c)]:=rfl;rw[e2,show dL Z []=Z from rfl,h];rfl
def bOV(h:Has A 240 bKP)(F:Wd A)(hR:Xs A o v base n I)(hs:s.length<=100000)(h32:∀c∈s,32<=c.toNat/\c.toNat<=126){p vp:Nat}(Y6:∀{cs X},I cs X->X[p]? = N1 (.box vp [.str s]))(X:LO)(hI:I [] X):∃cs X' wr,aG A 240 [.yld o v,.ptr p vp 0] X=N1 (.tup [],X',wr)/\I cs X'/\(cs.length=s.length/\CsM cs)/\∀y∈wr,base<=y:=by
 obtain⟨r,H',ba,e1,rfl,cs,h2,h3,h4⟩:=h.bp (args:=[.yld o v,.ptr p vp 0]) (H:=X) (K:=λr H' wr=>r=.tup []/\∃cs,I cs H'/\(cs.length=s.length/\CsM cs)/\∀y∈wr,base<=y) (by
  obtain⟨r,hr,gu⟩:=bSj F (s:=s) omT X;have qw:=Y6 hI;have ax:=hR.len hI;simp only[bKP];simp only[go_sem,↓aB,seval,qw,hr];refine bJ (id:=0) (λk ρ1 H1 wr=>(∀y∈wr,base<=y)/\ρ1 10=vi k/\∃cs,I cs H1/\cs.length=k/\CsM cs) s.length
   (λρ1 H1 wr=>(∀y∈wr,base<=y)/\∃cs,I cs H1/\cs.length=s.length/\CsM cs) bIv rfl ⟨λy hy=>(by cases hy),rfl,[],hI,rfl,by simp[CsM]⟩ ?_ ?_
  .rintro k ρ1 H1 dc zp ⟨hw,e10,cs,yy,E8,hcm⟩ hf;have f0:=hf 0 rfl;have f1:=hf 1 rfl;have f3:=hf 3 rfl;have f9:=hf 9 rfl;have fo:=Y6 yy;simp only[go_sem,↓aB,seval,e10,f9];refine aD (λe3=>?_) (λe3=>?_)
   .have hlt:k<s.length:=by simp at e3;omega
    have dy:=wS (i:=k) omT;have cj:=AP hlt;have hc:=h32 _ (AS hlt);obtain⟨l,jz,iq,hl63⟩:=bSi F.f0 hc.1 hc.2 (decide (r.length<=k)) H1;obtain⟨X',w2,ej,I6,gn⟩:=hR.run l yy omT;have hyc:=λsite=>bQG (site:=site) ej;simp only[go_sem,↓aB,seval,e10,f0,f1,f3,fo,cj,jz,hyc,dy];exact⟨hlt,rB hw gn,cs++[l],I6,by simp[E8],λc hc=>by
     rcases AY.1 hc with hc|hc
     .exact hcm c hc
     rw[CG.1 hc];exact⟨iq,hl63⟩⟩
   have:k=s.length:=by simp at e3;omega
   exact⟨hw,cs,yy,omT,hcm⟩
  rintro ρ' H' ba ⟨hw,cs,yy,E8,hcm⟩ hf;have qe:=hR.len yy;simp only[go_sem,↓aB,seval];rw[jG omT];exact⟨rfl,cs,yy,⟨E8,hcm⟩,hw⟩)
 exact⟨cs,H',ba,e1,h2,h3,h4⟩
structure Wf(A:af):Prop where
 f1:Wd A
 yf:sn A
 codes:Has A 150 bN0
 codes1:Has A 240 bKP
 app:Has A 239 bJj
 Gb:Has A 149 bJ4
 code:Has A 98 bL4
def bOx(cs:List LN):gG (cs.map bPq)=true:=aGl λv hv=>by
 obtain⟨c,_,rfl⟩:=DB.1 hv;simp only[bLb,bMN,bOL,bIy,aXv,Hg]
def bOy(F:Wf A)(hs:s.length<=100000)(h32:∀c∈s,32<=c.toNat/\c.toNat<=126){p vp:Nat}(hb:H[p]? = N1 (.box vp [.str s])):∃r cs,aG A 239 [.ar,.fn 240 [] [.ptr p vp 0]] H=N1 (r,H,[])/\((cs=[]/\r=.ar)∨r=.own 1 (cs.map bPq))/\cs.length=s.length/\CsM cs:=by
 obtain⟨r,H',ba,e1,rfl,rfl,cs,h1,h2,h3⟩:=F.app.bp (args:=[.ar,.fn 240 [] [.ptr p vp 0]]) (H:=H) (K:=λr H' wr=>wr=[]/\H'=H/\∃cs,((cs=[]/\r=.ar)∨r=.own 1 (cs.map bPq))/\cs.length=s.length/\CsM cs) (by
  simp only[bJj];simp only[bJ2];simp only[go_sem,seval];refine wC (v:=1) (X:=λl=>H++[.box 1 [.ar],.rnd 1 H.length [2,7,11] [7] bNs l Po N2,.gone 0]) rfT rfT siT (λ_=>rfT) (by unfold bH;rw[bX];rfl) (λl=>by rw[sV];rfl) ?_;intro l2 iq he;have hI0:bT4 H [] (H++[.box 1 [.ar],.rnd 1 H.length [2,7,11] [7] bNs l2 Po N2,.gone 0]):=⟨_,_,l2,rfl,iq,by rw[he];rfl,.inl ⟨rfl,rfl⟩⟩;obtain⟨cs,H2,en,k1,k2,⟨k4,k5⟩,k3⟩:=bOV F.codes1 F.f1 (bQF F.yf H) hs h32 (by
   rintro cs X ⟨w,x3,l,rfl,_⟩;rw[BM (getElem?_lt hb)];exact hb) _ hI0
  obtain⟨w,x3,l3,rfl,yz,_,hw⟩:=k2;refine⟨_,_,_,_,_,_,_,_,N2,k1,by rw[bX];rfl, ?_⟩;rw[kH (λx hx=>by rcases BD.1 hx with rfl|hx;exact Nat.le_add_right _ _;exact k3 x hx),eS];rcases hw with⟨rfl,rfl⟩ | ⟨_,ver,rfl,rfl⟩
  .have fz:∀b HH,aDR b HH .ar=N1 (.ar,HH,[]):=λ_ _=>rfl;have hu:AV.ar.under H.length=true:=rfl;simp only[go_sem,↓aB,seval,fz,hu];exact⟨[],.inl rfl,k4,k5⟩
  have hd:=bOx cs;simp only[go_sem,↓aB,seval,aT hd,aA hd];exact⟨cs,.inr rfl,k4,k5⟩)
 exact⟨r,cs,e1,h1,h2,h3⟩
abbrev bPy(A:af):Prop:=∀s:Str,s≠[]->s.length<=100000->∀H:LO,∃(l:LN)(e:Int),aG A 98 [.str s] H=N1 (.tup [.sl Po (gZ l),vi e],H,[])/\l.length<=2*s.length/\∀x∈l,x<=63
def bNY(F:Wf A)(s:Str)(H:LO):aG A 150 [.str s] H=N1 (.fn 240 [] [.ptr H.length 1 0],H++[.box 1 [.str s]],[]):=by
 refine F.codes.call ?_;simp only[bN0];simp only[go_sem,↓aB,seval];have hu:(AV.fn 240 [] [.ptr H.length 1 0]).under H.length=false:=by show (Pa&&(decide (H.length<H.length)&&_))=Po;simp
 unfold cJ;simp only[hu,BQ,BX,Vt];exact⟨trivial,trivial,trivial⟩
def bSk{cs:List LN}(h:CsM cs):cs.flatten.length<=2*cs.length/\∀x∈cs.flatten,x<=63:=by
 refine⟨?_,λx hx=>?_⟩
 .induction cs with
  |nil=>simp
  |cons a l ih=>have h1:=(h a siT).1.2;have h2:=ih λc hc=>h c (by simp[hc]);simp only[List.flatten_cons,BA,AW];omega
 obtain⟨c,hc,hx⟩:=List.mem_flatten.1 hx;exact (h c hc).2 x hx
def bQH(F:Wf A)(hc:bNE A):bPy A:=by
 intro s xu hs H;have M5:=bOw F.f1 hs H;cases mw:s.any bRz with
 |true=>rw[mw]at M5;refine⟨[],1,F.code.call ?_,siT,siT⟩;simp only[bL4];simp only[go_sem,↓aB,seval,M5]
 |false=>
 rw[mw]at M5;have h32:=bTi mw;have ru:=bNY F s H;obtain⟨r,cs,db,hr,hl,hm⟩:=bOy F hs h32 (p:=H.length) (vp:=1) (H:=H++[.box 1 [.str s]]) siT;have kj:=MY.2 xu;rcases hr with⟨rfl,rfl⟩ | rfl
 .simp at hl;omega
 have I9:cs.flatten≠[]:=by
  cases cs with
  |nil=>simp at hl;omega
  |cons a l=>have:=(hm a siT).1.1;simp[this]
 obtain⟨f1,f2⟩:=bSk hm;have Wx:aG A 149 [.fn 240 [] [.ptr H.length 1 0]] (H++[.box 1 [.str s]])=N1 (.sl Po (cs.map bPq),H++[.box 1 [.str s]],[]):=by refine F.Gb.call ?_;simp only[bJ4];simp only[go_sem,↓aB,seval,db];rw[jG siT];exact⟨rfl,rfl,rfl⟩
 have Wn:=hc Po cs omT omT I9 (H++[.box 1 [.str s]]);refine⟨cs.flatten,0,F.code.call ?_,omT,f2⟩;simp only[bL4];have hu:(AV.tup [.sl Po (gZ cs.flatten),.int .i64 0]).under H.length=true:=by simp only[AV.under,dJ,aA (bIy _),Hg]
 simp only[go_sem,↓aB,seval,M5,ru,Wx,Wn];rw[qQ hu,GU];exact⟨rfl,rfl,rfl⟩
def bRA(F:Wf A)(h0:∀(v:AV),v=.ar∨v=.sl Po []->∀H:LO,aG A 148 [v] H=N1 (.ar,H,[]))(H:LO):aG A 98 [.str []] H=N1 (.tup [.ar,vi 0],H,[]):=by
 have M5:=bOw F.f1 (s:=[]) siT H;have ru:=bNY F [] H;obtain⟨r,cs,db,hr,hl,hm⟩:=bOy F (s:=[]) siT siT (p:=H.length) (vp:=1) (H:=H++[.box 1 [.str []]]) siT;have hcs0:cs=[]:=uWo
 subst hcs0;have Wx:∃v,(v=.ar∨v=.sl Po [])/\cX (aG A) (H++[.box 1 [.str []]]) N2 (.fn 149 [] []) [.fn 240 [] [.ptr H.length 1 0]]=N1 (v,H++[.box 1 [.str []]],[]):=by
  rcases hr with⟨_,rfl⟩ | rfl
  .have Wx:aG A 149 [.fn 240 [] [.ptr H.length 1 0]] (H++[.box 1 [.str []]])=N1 (.ar,H++[.box 1 [.str []]],[]):=by
    refine F.Gb.call ?_;simp only[bJ4];have fz:∀b HH,aDR b HH .ar=N1 (.ar,HH,[]):=λ_ _=>rfl;simp only[go_sem,↓aB,seval,db,fz];exact CH siT
   exact⟨_,.inl rfl,by simp only[go_sem,seval,Wx]⟩
  have Wx:aG A 149 [.fn 240 [] [.ptr H.length 1 0]] (H++[.box 1 [.str []]])=N1 (.sl Po [],H++[.box 1 [.str []]],[]):=by refine F.Gb.call ?_;simp only[bJ4];simp only[go_sem,↓aB,seval,db];exact CH siT
  exact⟨_,.inr rfl,by simp only[go_sem,seval,Wx]⟩
 obtain⟨v,hv,Wx⟩:=Wx;have Wn:=h0 v hv (H++[.box 1 [.str []]]);refine F.code.call ?_;simp only[bL4];rcases hv with rfl|rfl
 all_goals
  simp only[go_sem,↓aB,seval,M5,ru,Wx,Wn,List.any_nil]
end
def bLW:=(.mk _:bb 58 bTx).x
def bNG:=(.mk _:bb 97 bTx).x
abbrev bLX(A:af):Prop:=∀s:Str,s≠[]->s.length<=100000->∀H:LO,∃l:LN,aG A 58 [.str s] H=N1 (.sl Po (gZ l),H,[])/\l.length<=2*s.length/\∀x∈l,x<=63
def bPM(h:Has A 58 bLW)(hc:bPy A):bLX A:=by intro s xu hs H;obtain⟨l,e,h1,h2,h3⟩:=hc s xu hs H;refine⟨l,h.call ?_,h2,h3⟩;simp only[bLW];simp only[go_sem,↓aB,seval,h1];have hu:(AV.sl Po (gZ l)).under H.length=true:=aA (bIy l);rw[jG (AQ _)];exact⟨rfl,rfl,rfl⟩
def bQI(h:Has A 58 bLW)(hc:∀H,aG A 98 [.str []] H=N1 (.tup [.ar,vi 0],H,[]))(H:LO):aG A 58 [.str []] H=N1 (.ar,H,[]):=by refine h.call ?_;simp only[bLW];have fz:∀b HH,aDR b HH .ar=N1 (.ar,HH,[]):=λ_ _=>rfl;have hu:AV.ar.under H.length=true:=rfl;simp only[go_sem,↓aB,seval,hc,fz,hu]
abbrev bN2(A:af):Prop:=∀(k n:Nat),k<=63->n<1000000->∀H:LO,∃l:LN,aG A 97 [vi k,vi n] H=N1 (.own 1 (gZ l),H,[])/\l≠[]/\l.length<=30/\∀x∈l,x<=63
def bQJ(h:Has A 97 bNG)(hc:bLX A)(hi:aJc A):bN2 A:=by
 intro k n hk hn H;have d1:(dec n).length<=7:=aGn 6 n omT;obtain⟨l,h1,h2,h3⟩:=hc (dec n) (bRM n) omT (H++[.gone 0,.gone 0]);have M5:=hi n (H++[.gone 0,.gone 0]) hn;refine⟨63::k::(l++[0]),h.call ?_,siT,soT,λx hx=>?_⟩;rotate_left
 .rcases BD.1 hx with rfl|hx
  .omega
  rcases BD.1 hx with rfl|hx
  .exact hk
  rcases AY.1 hx with hx|hx
  .exact h3 x hx
  simp at hx;omega
 have hw:KD.wrap (k:Int)=k:=aQh omT omT;have Kw:∀HH,pT HH (.toInt .u8) (vi (k:Nat))=N1 (.int .u8 k):=λHH=>by
  show N1 (AV.int .u8 (KD.wrap k))=_;rw[hw]
 have hh:=bIK l;have gj:bP (2+l.length) 1=true:=by unfold bP;simp;omega
 have hr2:bP (2+l.length+1) 1=true:=by unfold bP;simp;omega
 have bd:=aT (bIy (63::k::(l++[0])));have hun:=aA (n:=H.length) (bIy (63::k::(l++[0])));have hie:(gZ l).isEmpty=l.isEmpty:=by cases l<;>rfl
 simp only[bNG];cases l with
 |nil=>have hr3:bP 3 1=true:=rfl;simp only[go_sem,↓aB,seval,M5,h1,Kw,hr3];rfl
 |cons x l=>
  have Gx:([[.int .u8 63],[.int .u8 k]]:List LA)++gZ (x::l)++[[.int .u8 0]]=gZ (63::k::(x::l++[0])):=siT;generalize hL:x::l=L at *;have hie2:L.isEmpty=false:=by rw[<- hL];rfl
  have Wy:=aT (bIy (L++[0]));have Ep:gZ (L++[0])=gZ L++[[.int .u8 0]]:=siT;rw[Ep]at Wy;have hq1:(L.length+1+1=2+L.length)=True:=eq_true omT;have hq2:(L.length+1+1+1=2+L.length+1)=True:=eq_true omT;simp only[go_sem,↓aB,seval,M5,h1,Kw,hh,hie,hie2,gj,hr2,Wy,hq1,hq2];have Dc:gZ (63::k::(L++[0]))=[.int .u8 63]::[.int .u8 k]::(gZ L++[[.int .u8 0]]):=by rw[<- Ep];rfl
  rw[Dc]at hun;have hu:(AV.own 1 ([.int .u8 63]::[.int .u8 k]::(gZ L++[[AV.int .u8 0]]))).under H.length=true:=hun;rw[qQ hu,GU];exact⟨congrArg (AV.own 1) Dc.symm,rfl,rfl⟩
abbrev bKb:=bTw 57 (bJ6 5)
abbrev bKc:LN:=[4,8]
def bIU:=(.mk _:bb 57 (bIC [(5,.region Pa bKb)])).x
def hp(H:LO)(o q:Nat)(x y:ah):LO:=(H.set o x).set q y
section
variable {H:LO}{o q:Nat}{x y:ah}
def bNh:(hp H o q x y).length=H.length:=by unfold hp;rw[CP,CP]
def bTj(bl:o≠q)(ho:o<H.length):(hp H o q x y)[o]? = N1 x:=by unfold hp;rw[CL (Ne.symm bl),BW ho]
def bSN(hq:q<H.length):(hp H o q x y)[q]? = N1 y:=by unfold hp;rw[BW (by rw[CP];exact hq)]
def bTk(bl:o≠q)(z:ah):(hp H o q x y).set o z=hp H o q z y:=by unfold hp;rw[List.set_comm _ _ (Ne.symm bl),EO]
def bSl(z:ah):(hp H o q x y).set q z=hp H o q x z:=by unfold hp;rw[EO]
def bQK(ho:H[o]? = N1 x)(hq:H[q]? = N1 y):hp H o q x y=H:=by unfold hp;rw[aJo ho,aJo hq]
def bRT(ho:o<H.length)(hq:q<H.length)(L:LO):hp (H++L) o q x y=hp H o q x y++L:=by unfold hp;rw[DX _ _ ho,DX _ _ (by rw[CP];exact hq)]
end
abbrev bKi(t:my)(vc vp:AV):ah:=.box 1 [.sl Po (t.l0.map bIx),.sl Po (t.l1.map bIx),.sl Po (gZ t.dig),.sl Po (gZ t.cap),.sl Po (gZ t.num),.sl Po (gZ t.fin),.sl Po (gZ t.sw),vc,vp]
abbrev bJb(c:LN):ah:=.vec 1 1 (gZ c)
structure WH(H:LO)(o q:Nat)(t:my)(vp:AV)(c:LN):Prop where
 o:H[o]? = N1 (bKi t (.sr q 1 c.length) vp)
 q:H[q]? = N1 (bJb c)
 small:c.length<=100000000000
def WH.ne(h:WH H o q t vp c):o≠q:=λe=>by
 have h1:=h.o;rw[e,h.q]at h1;cases h1
abbrev bNZ(H:LO)(o q:Nat)(t:my)(vp:AV)(c:LN):LO:=hp H o q (bKi t (.sr q 1 c.length) vp) (bJb c)
def bOz(t:my){vc:AV}(h1:vc.under n=Pa)(h2:vp.under n=Pa):(bKi t vc vp).under n=true:=by simp only[aBg,aLO,aNX,aZt,aA (bLd _),aA (bIy _),h1,h2,Hg]
def bOA{v:Nat}{rows:List LA}(h:gG rows=Pa):(ah.vec v k rows).under n=true:=aA h
def bIZ{b:Nat}:∀{l wr:LN}{x:Nat},x∈bE b wr l->x∈wr∨x∈l
 | [],wr,x,h=>.inl h
 |y::l,wr,x,h=>by
  unfold bE at h;split at h
  .rcases bIZ h with h|h
   .rcases BD.1 h with h|h
    .exact .inr uXi
    exact .inl h
   exact .inr (BZ _ h)
  rcases bIZ h with h|h
  .exact .inl h
  exact .inr (BZ _ h)
inductive CV:LN->AV->Prop
 |sl (l:LN):CV l (.sl Po (gZ l))
 |nil:CV [] .ar
def CV.rows{l:LN}(h:CV l v)(X:LO):bIz X v=N1 (gZ l):=by cases h<;>rfl
def CV.len{l:LN}(h:CV l v):aW6 v=N1 (vi (l.length:Nat)):=by
 cases h with
 |sl=>show N1 (vi ((gZ l).length:Nat))=_;rw[AF]
 |nil=>rfl
def bRU{a l:LN}(hv:CV l v)(hn:a.length=n)(hq:q<H.length)(site:Option Nat)(hr:n+l.length<=400000000000):∃wr,eX (hp H o q x (bJb a)) site 1 1 (.sr q 1 n) v=N1 (.sr q 1 (n+l.length),hp H o q x (bJb (a++l)),wr)/\∀x∈wr,x=q:=by
 subst hn;have hg:(hp H o q x (bJb a))[q]? = N1 (bJb a):=bSN hq;have ed:bP (a.length+(gZ l).length) 1=true:=by unfold bP;simp;omega
 unfold eX;rw[hv.rows];simp only[bIK,BT,BX,Vt,hg,AF];rw[AF]at ed;rw[Vx ⟨trivial,trivial,trivial,ed⟩,bSl];cases l with
 |nil=>exact⟨[],siT,siT⟩
 |cons b l=>exact⟨[q],by
   have:gZ (a++b::l)=gZ a++gZ (b::l):=DQ;unfold bJb;rw[this];rfl,siT⟩
def bQL{l:LN}(bl:o≠q)(hq:q<Z.length)(hl:l≠[])(hr:l.length<=400000000000):eX (hp Z o q x (.gone 0)) (N1 q) 1 1 (.sl Pa []) (.sl Po (gZ l))=N1 (.sr q 1 (0+l.length),hp Z o q x (bJb ([]++l)),[q]):=by
 have hg:(hp Z o q x (.gone 0))[q]? = N1 (.gone 0):=bSN hq;have ed:bP (0+(gZ l).length) 1=true:=by unfold bP;simp;omega
 have hie:(gZ l).isEmpty=false:=by cases l with
  |nil=>exact Vv rfl hl
  |cons=>rfl
 unfold eX;simp only[bIz,dO,BX,Vt,hie,AZ,ed,Hg,Vu,bNh,hq,dF];have hk:=bIK l;unfold make bH;unfold dF at hk;rw[hg,bSl];simp only[hk,Option.elim_some];rw[BC,BC,AF,Vw siT];rfl
section
variable {A:af}
def bPz(h:Has A 57 bIU)(hh:bN2 A){v0:AV}{y0:ah}(hZ:H++[.gone 0,.gone 0,.gone 0]=Z)(bl:o≠q)(ho:o<H.length)(hoZ:o<Z.length)(Zl:q<Z.length)(e0:Z=hp Z o q (bKi t v0 vp) y0)(hc:c.length<=100000000000)(k:Nat)(l:LN)(hv:CV l v)(hk:k<=63)(hl:l.length<1000000)(Za:∀x∈l,x<=63)(hA:∀d:LN,d≠[]->d.length<=30->∃w,eX (hp Z o q (bKi t v0 vp) y0) (N1 H.length) 1 1 v0 (.sl Po (gZ d))=N1 (.sr q 1 (c.length+d.length),hp Z o q (bKi t v0 vp) (bJb (c++d)),w)/\∀x∈w,x=q):∃(i:Nat)(d:LN)(wr:LN),aG A 57 [.ptr o 1 0,vi k,v] H=N1 (cJ H.length (.tup [vi i,vi (l.length:Nat)],bNZ Z o q t vp (c++d),wr))/\d.length<=l.length+31/\(∀x∈d,x<=63)/\(∀x∈wr,x=o∨x=q)/\o∈wr/\d≠[]:=by
 obtain⟨d,tz,hd0,hd1,O9⟩:=hh k l.length hk hl Z;obtain⟨cc,X7⟩:∃cc,cc=c++(d++(l++[0])):=⟨_,rfl⟩;obtain⟨r,H',ba,e1,ww,h2,h3,h4⟩:=h.bp (args:=[.ptr o 1 0,vi k,v]) (K:=λr H' wr=>∃ww,(r,H',wr)=cJ H.length (.tup [vi ((c.length+d.length:Nat)),vi (l.length:Nat)],bNZ Z o q t vp cc,ww)/\(∀x∈ww,x=o∨x=q)/\o∈ww) (by
  simp only[bIU];show wc A _ _ _ _ (H++[.gone 0,.gone 0,.gone 0]) _ _ _;rw[hZ];rw[e0]at tz ⊢;have g1:=λx y=>bTj (x:=x) (y:=y) bl hoZ;have g3:=λx y z=>bTk (H:=Z) (x:=x) (y:=y) bl z;have g4:=λx y z=>bSl (H:=Z) (o:=o) (q:=q) (x:=x) (y:=y) z;have g2:=λx y=>bSN (o:=o) (x:=x) (y:=y) Zl;obtain⟨w1,a1,b1⟩:=hA d hd0 hd1;obtain⟨w2,a2,b2⟩:=bRU (o:=o) (x:=bKi t (.sr q 1 (c.length+d.length)) vp) (a:=c++d) (n:=c.length+d.length) hv siT Zl (N1 (H.length+1)) omT;have hr3:bP (c.length+d.length+l.length+1) 1=true:=by unfold bP;simp;omega
  have E4:=hv.len;simp only[go_sem,↓aB,seval,];refine aY (aq:=bKc) rfT rfT ?_;simp only[go_sem,↓aB,seval,bKc,bKb,tz,g1,g2,g3,g4,a1,a2,hr3,E4,bNh,eH,dG,aL];have hvec:ah.vec 1 1 (gZ (c++d++l)++[[AV.int KD 0]])=bJb cc:=by simp[X7]
  have ax:c.length+d.length+l.length+1=cc.length:=by simp[X7];omega
  rw[hvec,ax];refine⟨bE H.length (bE H.length (bE H.length (bE H.length (bE H.length [] w1) [o]) w2) [q]) [o], ?_,λx hx=>?_,by
   unfold bE;split
   .exact HD
   rename_i hn;simpa [ho,bE]using hn⟩
  .rw[show bNZ (hp Z o q (bKi t v0 vp) y0) o q t vp cc=bNZ Z o q t vp cc by
    show ((hp Z o q _ _).set o _).set q _=_;rw[g3,g4]]
  rcases bIZ hx with hx|hx
  .rcases bIZ hx with hx|hx
   .rcases bIZ hx with hx|hx
    .rcases bIZ hx with hx|hx
     .rcases bIZ hx with hx|hx
      .cases hx
      exact .inr (b1 x hx)
     exact .inl (CG.1 hx)
    exact .inr (b2 x hx)
   exact .inr (CG.1 hx)
  exact .inl (CG.1 hx))
 subst X7;exact⟨_,_,ww,e1.trans (congrArg N1 h2),soT,λx hx=>by
  simp only[AY,CG]at hx;rcases hx with hx|hx|rfl
  .exact O9 x hx
  .exact Za x hx
  omega,h3,h4,by simp[hd0]⟩
abbrev bOW(A:af):Prop:=∀{H:LO}{o q:Nat}{t:my}{vp:AV}{c:LN},WH H o q t vp c->vp.under H.length=Pa->∀(k:Nat)(l:LN){v:AV},CV l v->k<=63->l.length<1000000->(∀x∈l,x<=63) ->
 ∃(i:Nat)(d:LN)(wr:LN),aG A 57 [.ptr o 1 0,vi k,v] H=N1 (.tup [vi i,vi (l.length:Nat)],bNZ H o q t vp (c++d),wr)/\d.length<=l.length+31/\(∀x∈d,x<=63)/\(∀x∈wr,x=o∨x=q)
def bOd(h:Has A 57 bIU)(hh:bN2 A):bOW A:=by
 intro H o q t vp c hw Rl k l v hv hk hl Za;have bl:=hw.ne;have ho:=getElem?_lt hw.o;have hq:=getElem?_lt hw.q;have hc:=hw.small;have hoZ:o<(H++[.gone 0,.gone 0,.gone 0]:LO).length:=soT;have Zl:q<(H++[.gone 0,.gone 0,.gone 0]:LO).length:=soT;obtain⟨i,d,wr,e1,h1,h2,h3,_⟩:=bPz h hh rfl bl ho hoZ Zl
  (bQK (by rw[BM ho];exact hw.o) (by rw[BM hq];exact hw.q)).symm hc k l hv hk hl Za λd _ hd=>bRU (.sl d) rfl Zl _ omT
 refine⟨i,d,wr,e1.trans ?_,h1,h2,h3⟩;have hZ:bNZ (H++[.gone 0,.gone 0,.gone 0]) o q t vp (c++d)=_:=bRT ho hq _;rw[aEb rfl (AO.2 λx hx=>by
  rcases h3 x hx with rfl|rfl
  .rw[bTj bl hoZ];exact bOz t (by simp[AV.under];exact hq) Rl
  rw[bSN Zl];exact bOA (bIy _)),hZ,An (by rw[bNh];exact AQ _),CH (by rw[bNh];exact AQ _)]
def bQM(h:Has A 57 bIU)(hh:bN2 A)(hb:H[o]? = N1 (bKi t (.sl Pa []) vp))(k:Nat)(l:LN)(hk:k<=63)(hl:l.length<1000000)(Za:∀x∈l,x<=63):∃(i:Nat)(d:LN)(wr:LN),aG A 57 [.ptr o 1 0,vi k,.sl Po (gZ l)] H=N1 (.tup [vi i,vi (l.length:Nat)],H.set o (bKi t (.sr H.length 1 d.length) vp)++[bJb d,.gone 0,.gone 0],wr)/\d.length<=l.length+31/\(∀x∈d,x<=63)/\(∀x∈wr,x=o∨x=H.length)/\o∈wr:=by
 have ho:=getElem?_lt hb;have bl:o≠H.length:=omT;have hoZ:o<(H++[.gone 0,.gone 0,.gone 0]:LO).length:=soT;have Zl:H.length<(H++[.gone 0,.gone 0,.gone 0]:LO).length:=siT;obtain⟨i,d,wr,e1,h1,h2,h3,h4,h5⟩:=bPz (c:=[]) h hh rfl bl ho hoZ Zl
  (bQK (by rw[BM ho];exact hb) (by rw[BU (AQ _),GD];rfl)).symm siT k l (.sl l) hk hl Za λd hd O9=>⟨_,bQL bl Zl hd omT,siT⟩
 refine⟨i,d,wr,e1.trans ?_,h1,h2,h3,h4⟩;have hZ:bNZ (H++[.gone 0,.gone 0,.gone 0]) o H.length t vp ([]++d)=H.set o (bKi t (.sr H.length 1 d.length) vp)++[bJb d,.gone 0,.gone 0]:=by unfold bNZ hp;rw[DX _ _ ho,List.set_append_right _ _ siT,CP,GD];rfl
 rw[hZ];refine congrArg N1 ?_;unfold cJ;dsimp only;rw[Vw];intro hc;rw[AI,AO]at hc;have:=hc.2 o h4;rw[BM (by rw[CP];exact ho),BW ho]at this;simp[ah.under,dJ,AV.under]at this
end
abbrev bLE:=bTw 59 (bIF 37 [])
def bJg:=(.mk _:bb 59 (bIC [(37,bLE)])).x
def bJz:=(.mk _:bb 60 bTx).x
abbrev bL7(n:Nat):LA:=[vi n]
def bOB(l:LN):gG (l.map bL7)=true:=aGl λv hv=>by
 obtain⟨c,_,rfl⟩:=DB.1 hv;rfl
def bTl{l:LN}(h:l≠[]):sb [32] (l.map dec)≠[]:=by
 match l,h with
 | [n],_=>exact bRM n
 |n::m::l,_=>show dec n++[32]++sb [32] ((m::l).map dec)≠[];simp
def WH.app(h:WH H o q t vp c)(L:LO):WH (H++L) o q t vp c:=⟨by rw[BM (getElem?_lt h.o)];exact h.o,by rw[BM (getElem?_lt h.q)];exact h.q,h.small⟩
def WH.ry(h:WH H o q t vp c)(L:LO)(d:LN):bNZ (H++L) o q t vp d=bNZ H o q t vp d++L:=bRT (getElem?_lt h.o) (getElem?_lt h.q) L
theorem WH.cut(h:WH H o q t vp c)(Rl:vp.under H.length=Pa)(hv:v.under H.length=Pa)(L:LO)(d:LN)(ma:∀x∈wr,x=o∨x=q):cJ H.length (v,bNZ H o q t vp d++L,wr)=(v,bNZ H o q t vp d,wr):=by
 have ho:=getElem?_lt h.o;have hq:=getElem?_lt h.q;rw[aEb hv (AO.2 λx hx=>by
  rcases ma x hx with rfl|rfl
  .rw[BM (by rw[bNh];exact ho),bTj h.ne ho];exact bOz t (by simp[AV.under];exact hq) Rl
  rw[BM (by rw[bNh];exact hq),bSN hq];exact bOA (bIy _)),An (by rw[bNh];exact AQ _),CH (by rw[bNh];exact AQ _)]
abbrev bQN(n:Nat)(vp:AV):Prop:=vp=.sl Pa []∨∃r v m,vp=.sr r v m/\r<n
theorem bQN.under(h:bQN n vp)(hm:n<=m):vp.under m=true:=by
 rcases h with rfl | ⟨r,v,k,rfl,h⟩
 .rfl
 simp[AV.under];omega
inductive We(H:LO)(o q:Nat)(l:LN):AV->Prop
 |sl (f:Bool):We H o q l (.sl f (l.map bL7))
 |sr (p v:Nat) (h1:p≠o) (h2:p≠q) (h3:H[p]? = N1 (.vec v 1 (l.map bL7))):We H o q l (.sr p v (l.map bL7).length)
section
variable {A:af}
def bSO(h:Has A 59 bJg)(hr:bOW A)(hlc:bLX A)(hi:aJc A)(hj:A.bq 100=N1 aKm)(hw:WH H o q t vp c)(Rl:bQN H.length vp)(k:Nat)(hk:k<=63)(l:LN)(sz:l≠[])(hl:l.length<=40)(h6:∀n∈l,n<1000000)(hv:We H o q l v):∃(d wr:LN),aG A 59 [.ptr o 1 0,vi k,v] H=N1 (.tup [],bNZ H o q t vp (c++d),wr)/\d.length<=1000/\(∀x∈d,x<=63)/\(∀x∈wr,x=o∨x=q):=by
 obtain⟨r,H',ba,e1,d,rfl,rfl,h2,h3,h4⟩:=h.bp (args:=[.ptr o 1 0,vi k,v]) (K:=λr H' wr=>∃d,r=.tup []/\H'=bNZ H o q t vp (c++d)/\d.length<=1000/\(∀x∈d,x<=63)/\(∀x∈wr,x=o∨x=q)) (by
  simp only[bJg];have ax:aW6 v=N1 (vi (l.length:Nat)):=by
   cases hv with
   |sl f=>show N1 (vi ((l.map bL7).length:Nat))=_;rw[AF]
   |sr p v h1 h2 h3=>show N1 (vi ((l.map bL7).length:Nat))=_;rw[AF]
  simp only[go_sem,↓aB,seval,ax];refine bJ (id:=0) (λk ρ1 H1 wr=>wr=[]/\ρ1 11=vi k/\∃x,H1=H++[x]/\ew H.length 1 (((l.take k).map dec).map aN) (ρ1 6) x) l.length
   (λρ1 H1 wr=>wr=[]/\∃x,H1=H++[x]/\ew H.length 1 ((l.map dec).map aN) (ρ1 6) x) bIv rfl ⟨rfl,rfl,_,rfl,.nil _⟩ ?_ ?_
  .rintro k ρ1 H1 dc zp ⟨rfl,e11,x,rfl,hG⟩ hf;have f9:=hf 9 rfl;have f10:=hf 10 rfl;simp only[go_sem,↓aB,seval,e11,f10];refine aD (λe3=>?_) (λe3=>?_)
   .have hlt:k<l.length:=by simp at e3;omega
    have dy:=wS (i:=k) omT;have cj:=mgE bL7 hlt;have hn6:=h6 _ (AS hlt);have hta:=lH dec hlt;have M5:=hi l[k] (H++[x]) hn6;obtain⟨w',o',Sw,db⟩:=aEy hG soT (dec l[k]);have ha:=λf=>db (H++[x]) f (bX (i:=0) ▸ rfl);rw[<- hta]at Sw;have hp2:∀p v':Nat,H[p]? = N1 (.vec v' 1 (l.map bL7))->(H++[x])[p]? = N1 (.vec v' 1 (l.map bL7)):=λp v' h=>by
     rw[BM (getElem?_lt h)];exact h
    have ym:k<(l.map bL7).length:=uWv
    cases hv with
    |sl f=>simp only[go_sem,↓aB,seval,e11,f9,cj,hlt,M5,ha,dy];exact⟨o',rfl,Sw⟩
    |sr p vv h1 h2 h3=>have h3:=hp2 _ _ h3;simp only[go_sem,↓aB,seval,e11,f9,cj,ym,hlt,M5,ha,h3,dy];exact⟨o',rfl,Sw⟩
   have:k=l.length:=by simp at e3;omega
   subst this;simp only[go_sem,seval];rw[DM]at hG;exact⟨x,rfl,hG⟩
  rintro ρ' H' ba ⟨rfl,x,rfl,hG⟩ hf;have f0:=hf 0 rfl;have f1:=hf 1 rfl;have G6:=aF7 (sep:=[32]) λs hs=>by
   obtain⟨n,hn,rfl⟩:=DB.1 hs;exact aGn 5 n (h6 n hn)
  rw[AF]at G6;have e1:([32]:Str).length=1:=rfl;rw[e1]at G6;have K2:=λsite=>qI hj hG [32] soT omT (H++[x]) site (by rw[BU (AQ _),GD];rfl);obtain⟨cs,ru,nc,Z4⟩:=hlc (sb [32] (l.map dec)) (bTl sz) omT (H++[x]);obtain⟨i,d,wr,xp,h1,h2,h3⟩:=hr (hw.app [x]) (Rl.under siT) k cs (.sl cs) hk omT Z4;simp only[go_sem,↓aB,seval,f0,f1,K2,ru,xp];have ma:∀x∈bE H.length [] wr,x=o∨x=q:=λx hx=>(bIZ hx).elim (λh=>by cases h) (h3 x);rw[hw.ry,hw.cut (Rl.under (AQ _)) rfl _ _ ma];exact⟨d,rfl,rfl,omT,h2,ma⟩)
 exact⟨d,ba,e1,h2,h3,h4⟩
abbrev bOX(A:af)(T:List mr->Prop):Prop:=∀l,T l->bRO l/\∀H,∃(s:Str)(e:Int),aG A 94 [.agg (aE { cV 0 with runs:=l })] H=N1 (.tup [.str s,vi e],H,[])/\s≠[]/\s.length<=100000
def bSP{T:List mr->Prop}(h:Has A 60 bJz)(hr:bOW A)(hlc:bLX A)(hsy:bOb A)(htr:bQD A)(Mm:bOX A T)(ht:yr t)(hw:WH H o q t vp c)(Rl:bQN H.length vp)(l:List mr)(hl:T l):∃(i n:Nat)(d wr:LN),aG A 60 [.ptr o 1 0,.sl Po (l.map cZ)] H=N1 (.tup [vi i,vi n],bNZ H o q t vp (c++d),wr)/\d.length<=210000/\(∀x∈d,x<=63)/\(∀x∈wr,x=o∨x=q):=by
 obtain⟨r,H',ba,e1,i,n,d,rfl,rfl,h2,h3,h4⟩:=h.bp (args:=[.ptr o 1 0,.sl Po (l.map cZ)]) (H:=H) (K:=λr H' wr=>∃(i n:Nat)(d:LN),r=.tup [vi i,vi n]/\H'=bNZ H o q t vp (c++d)/\d.length<=210000/\(∀x∈d,x<=63)/\(∀x∈wr,x=o∨x=q)) (by
  obtain⟨hok,Mm⟩:=Mm l hl;obtain⟨es,S,lq,nu⟩:=hsy l hok (H++[.gone 0]);have zw:=(hw.app [.gone 0]).o;have zk:∀(x:ah)(k:Nat)(cs:LN),k<=63->cs.length<=200000->(∀y∈cs,y<=63)->∃(i:Nat)(d wr:LN),aG A 57 [.ptr o 1 0,vi k,.sl Po (gZ cs)] (H++[x])=N1 (.tup [vi i,vi (cs.length:Nat)],bNZ (H++[x]) o q t vp (c++d),wr) /\
    (∃en d2,cJ H.length (.tup [vi i,vi (cs.length:Nat)],bNZ (H++[x]) o q t vp (c++d),bE H.length [] wr)=(.tup [vi i,vi (cs.length:Nat)],bNZ H o q t vp (c++d2),en)/\d2.length<=210000/\(∀x∈d2,x<=63)/\(∀x∈en,x=o∨x=q)):=λx k cs hk nc Z4=>by
   obtain⟨i,d,wr,xp,h1,h2,h3⟩:=hr (hw.app [x]) (Rl.under siT) k cs (.sl cs) hk omT Z4;have ma:∀x∈bE H.length [] wr,x=o∨x=q:=λx hx=>(bIZ hx).elim (λh=>by cases h) (h3 x);exact⟨i,d,wr,xp,_,d,by rw[hw.ry,hw.cut (Rl.under (AQ _)) rfl _ _ ma],omT,h2,ma⟩
  have Zv:∀x:ah,∃s cs,(∃e:Int,aG A 94 [.agg [vi 0,.sl Po (l.map cZ),vi 0,vi 0,.sl Po [],vi 0,.sl Po [],.sl Po [],vi 0,vi 0,.sl Po [],.sl Po [],.sl Po []]] (H++[x])=N1 (.tup [.str s,vi e],H++[x],[]))/\aG A 58 [.str s] (H++[x])=N1 (.sl Po (gZ cs),H++[x],[])/\cs.length<=200000/\∀y∈cs,y<=63:=λx=>by
   obtain⟨s,e,h1,h0,h2⟩:=Mm (H++[x]);obtain⟨cs,h3,h4,h5⟩:=hlc s h0 h2 (H++[x]);exact⟨s,cs,⟨e,h1⟩,h3,omT,h5⟩
  simp only[bJz];have gr:(l.map cZ).all (λr=>r.all AV.still)=true:=aT (aC cA l);simp only[go_sem,↓aB,seval,lq];refine aD (λe3=>?_) (λe3=>?_)
  .have:es=0:=uWf
   subst this;obtain⟨hS1,hS2⟩:=nu rfl;obtain⟨cs,T,Ls,et,ht1,Iu,ht3⟩:=htr t ht S hS1 hS2 (H++[.gone 0]);simp only[go_sem,↓aB,seval,ht1,zw];refine aD (λe4=>?_) (λe4=>?_)
   .obtain⟨i,d,wr,xp,w2,d2,zl,h2,h3,h4⟩:=zk (.box 1 [.sl Po (gZ cs),.sl Po T,.sl Po Ls]) 5 cs omT omT ht3;have xp:aG A 57 [.ptr o 1 0,vi 5,.sl Po (gZ cs)] _=_:=xp;simp only[go_sem,↓aB,seval,xp];rw[zl];exact⟨_,_,d2,rfl,rfl,h2,h3,h4⟩
   obtain⟨s,cc,⟨e,hte⟩,Ht,nc,Z4⟩:=Zv (.box 1 [.sl Po (gZ cs),.sl Po T,.sl Po Ls]);obtain⟨i,d,wr,xp,w2,d2,zl,h2,h3,h4⟩:=zk (.box 1 [.sl Po (gZ cs),.sl Po T,.sl Po Ls]) 6 cc omT nc Z4;have xp:aG A 57 [.ptr o 1 0,vi 6,.sl Po (gZ cc)] _=_:=xp;simp only[go_sem,↓aB,seval,hte,Ht,xp];rw[zl];exact⟨_,_,d2,rfl,rfl,h2,h3,h4⟩
  obtain⟨s,cc,⟨e,hte⟩,Ht,nc,Z4⟩:=Zv (.gone 0);obtain⟨i,d,wr,xp,w2,d2,zl,h2,h3,h4⟩:=zk (.gone 0) 6 cc omT nc Z4;have xp:aG A 57 [.ptr o 1 0,vi 6,.sl Po (gZ cc)] _=_:=xp;simp only[go_sem,↓aB,seval,hte,Ht,xp];rw[zl];exact⟨_,_,d2,rfl,rfl,h2,h3,h4⟩)
 exact⟨i,n,d,ba,e1,h2,h3,h4⟩
end
abbrev bLr:=bTw 16 (bIF 9035 [])
abbrev bOe:LN:=[18,19,20,21,22,23,24,25,26,27,28,29,30,31,32,33,34,35,36,5]
abbrev bOf:=bTw 16 (bIF 75 [(141,bLr)])
def bM3:=(.mk _:bb 16 (bIC [(75,bOf)])).x
abbrev bJn:=bTw 64 (bIF 9031 [])
abbrev bLY:LN:=[18,19,20,21,22,23,24,25,26,27,28,29,30,31,32,33,34,35,36,37,38,39,40,5]
abbrev bLZ:=bTw 64 (bIF 71 [(141,bJn)])
def bJm:=(.mk _:bb 64 (bIC [(71,bLZ)])).x
abbrev bKr:=bTw 46 (bJ6 11415)
abbrev bKs:LN:=[]
abbrev bM8:=bTw 46 (bIF 151 [(89,.region Pa bKr)])
def bJT:=(.mk _:bb 46 (bIC [(151,bM8)])).x
section
variable {A:af}{H:LO}{c:LN}
abbrev bSm(c:LN)(i k:Nat):Prop:=∀j,i<=j->j<i+k->∃x,c[j]? = N1 x/\x≠0
def bSm.next{x:Nat}(h:bSm c i k)(hx:c[i+k]? = N1 x)(h0:x≠0):bSm c i (k+1):=λj h1 h2=>by
 by_cases e:j=i+k
 .subst e;exact⟨x,hx,h0⟩
 exact h j h1 omT
def bSm.fin(h:bSm c i k)(hk:k<=40)(hx:k=40∨c.length<=i+k∨c[i+k]? = N1 0):bNu c i=i+k:=
 bS7 omT omT h (hx.imp (λh=>omT) id)
def bJx(h:i<c.length):(gZ c)[i]? = N1 [.int .u8 (c[i]:Nat)]:=by rw[BN,AP h];rfl
def bPN(hc:c.length<=10000000000){i:Nat}(r0:ρ 0=.sl Po (gZ c))(r4:ρ 4=vi i)(r5:ρ 5=vi i)(hi:i<c.length){Q tg}(hok:dK 57 C bLr=Pa)(hQ:∀ρ',aLP bOe ρ ρ'->ρ' 5=vi (bNu c i:Nat)->Q (.exit 2) ρ' X []):wl A 57 C bLr ρ X [] Q tg:=by
 refine bJ (id:=2) (λk ρ1 H1 wr=>wr=[]/\H1=X/\ρ1 5=vi (i+k:Nat)/\bSm c i k) 40
  (λρ1 H1 wr=>wr=[]/\H1=X/\ρ1 5=vi (bNu c i:Nat)) hok rfT ⟨rfl,rfl,r5,λj h1 h2=>omT⟩ ?_ ?_
 .rintro k ρ1 H1 dc zp ⟨rfl,rfl,e5,Ni⟩ hf;have f0:=(hf 0 rfl).trans r0;have f4:=(hf 4 rfl).trans r4;have w1:AR.wrap (((i+k:Nat):Int) - i)=k:=by rw[wrap_i64 omT omT];omega
  have w2:AR.wrap (((i+k:Nat):Int)+1)=(i+(k+1):Nat):=by rw[wrap_i64 omT omT];omega
  by_cases h1:i+k<c.length
  .have d1:=decide_eq_true h1;by_cases h2:k<40
   .have d2:decide ((k:Int)<40)=true:=soT;have hg:=bJx h1;have Xp:=AP h1;generalize c[i+k]=x at *;simp only[go_sem,↓aB,seval,e5,f0,f4,w1,hg,d1,d2];refine aD (λe3=>?_) (λe3=>?_)
    .have hx:x≠0:=uWf
     simp only[go_sem,↓aB,seval,e5,w2];exact⟨omT,Ni.next Xp hx⟩
    have hx:x=0:=uWf
    simp only[go_sem,seval];rw[Ni.fin zp (.inr (.inr (by rw[Xp,hx])))];exact e5
   have d2:decide ((k:Int)<40)=false:=soT;simp only[go_sem,↓aB,seval,e5,f0,f4,w1,d1,d2];rw[Ni.fin zp (.inl omT)]
  have d1:=decide_eq_false h1;simp only[go_sem,↓aB,seval,e5,f0,d1];rw[Ni.fin zp (.inr (.inl omT))]
 rintro ρ' H' ba ⟨rfl,rfl,e⟩ hf;exact hQ ρ' hf e
abbrev bOC(A:af)(n:Nat):Prop:=∀c:LN,c.length<=10000000000->∀H,∃r,aG A n [.sl Po (gZ c)] H=N1 (r,H,[])/\(r=.own 1 ((bIE c).map bL7)∨r=.sl Po ((bIE c).map bL7))
def bPA{l:LN}(h:l.getLast? = N1 z):(l.map bL7)[l.length - 1]? = N1 [vi z]:=by rw[List.getLast?_eq_getElem?]at h;rw[BN,h];rfl
def bOD{l:LN}(h:l.getLast? = N1 z)(p:Nat×Nat):bII l p=if p.2>z+40 then l++[p.1] else l:=by unfold bII;rw[h]
def bQO{id:Nat}{l:LN}{w:AV}(hG:ew id 1 (l.map bL7) w x)(hl:l.length<=100000000000)(n:Nat):∃w' x',ew id 1 ((l++[n]).map bL7) w' x'/\∀X f,X[id]? = N1 x->eX X (N1 id) 1 8 w (.sl f [[vi n]])=N1 (w',X.set id x',[id]):=by obtain⟨w',x',h1,h2⟩:=hG.app (new:=[bL7 n]) (bytes:=8) siT rfl soT;exact⟨w',x',by rw[DQ];exact h1,h2⟩
def bNH(h:Has A 16 bM3):bOC A 16:=by
 intro c hc H;obtain⟨r,H',ba,e1,rfl,rfl,h2⟩:=h.bp (args:=[.sl Po (gZ c)]) (K:=λr H' wr=>wr=[]/\H'=H/\(r=.own 1 ((bIE c).map bL7)∨r=.sl Po ((bIE c).map bL7))) (by
  simp only[bM3];simp only[go_sem,↓aB,seval];refine bJ (id:=0) (λk ρ1 H1 wr=>wr=[]/\∃(i:Nat)(l:LN)(x:ah),ρ1 4=vi i/\k<=i/\i<=c.length/\H1=H++[x]/\ew H.length 1 (l.map bL7) (ρ1 3) x/\l.length<=i/\(∀s∈l,s<=i)/\(bML c i).foldl bII l=bIE c) c.length
   (λρ1 H1 wr=>wr=[]/\∃x,H1=H++[x]/\ew H.length 1 ((bIE c).map bL7) (ρ1 3) x) bIv rfl ⟨rfl,0,[],_,rfl,AQ _,FF _,rfl,.nil _,AQ _,siT,rfl⟩ ?_ ?_
  .rintro k ρ1 H1 dc zp ⟨rfl,i,l,x,e4,hki,mg,rfl,hG,ym,Hr,mz⟩ hf;have f0:=hf 0 rfl;simp only[go_sem,↓aB,seval,e4,f0];refine aD (λe3=>?_) (λe3=>?_)
   .have hlt:i<c.length:=uWf
    have dy:=wS (i:=i) omT;have hg:=bJx hlt;have Xp:=AP hlt;generalize c[i]=y at *;simp only[go_sem,↓aB,seval,e4,f0,hg];refine aD (λe5=>?_) (λe5=>?_)
    .have hy:y=0:=uWt
     subst hy;simp only[go_sem,↓aB,seval,e4,dy];exact⟨omT,i+1,l,x,rfl,omT,omT,rfl,hG,omT,λs hs=>by have:=Hr s hs;omega,by rw[<- bOn Xp];exact mz⟩
    have hy:y≠0:=uWt
    obtain⟨b1,b2,b3⟩:=bMu Xp hy;rw[bPg Xp hy,List.foldl_cons]at mz;simp only[go_sem,↓aB,seval,e4];refine bPN hc ?_ ?_ ?_ hlt bIv ?_
    .exact f0
    .exact e4
    .rfl
    intro ρ2 cq g5;have g3:ρ2 3=ρ1 3:=cq 3 rfl;have g4:=(cq 4 rfl).trans e4;generalize bNu c i=e at *;generalize ρ1 3=v at *;obtain⟨w',x',Wh,db⟩:=bQO hG omT i;have hle:=hG.len;have Z0:∀l2:LN,l2=bII l (i,e)->l2.length<=e/\(∀s∈l2,s<=e)/\(bML c e).foldl bII l2=bIE c:=λl2 h2=>by
     subst h2;refine⟨HX (bNd _ _) omT,λs hs=>?_,mz⟩;rcases bLG hs with h|h
     .have:=Hr s h;omega
     subst h;exact Bk b1
    by_cases hl:l=[]
    .subst hl;simp only[go_sem,↓aB,seval,g3,g4,g5,hle,db];exact⟨omT,e,[i],x',rfl,omT,omT,rfl,Wh,Z0 _ rfl⟩
    obtain⟨z,hz⟩:∃z,l.getLast? = N1 z:=by
     cases h:l.getLast? with
     |none=>exact Vv (Ar.1 h) hl
     |some z=>exact⟨z,rfl⟩
    have hzi:=Hr z (Al hz);have hzg:=bPA hz;have bd:=bOD hz (i,e);have qe:=MY.2 hl;obtain⟨ver,rfl,rfl⟩:=hG.inv uWo;have d1:((l.length:Int)==0)=false:=soT;have w1:AR.wrap ((l.length:Int) - 1)=((l.length - 1:Nat):Int):=by rw[wrap_i64 omT omT];omega
    have w2:AR.wrap (z+40)=((z+40:Nat):Int):=by rw[wrap_i64 omT omT];omega
    have h1:l.length - 1<l.length:=omT;generalize hrr:l.map bL7=rr at *;have gu:rr.length=l.length:=by rw[<- hrr,AF]
    simp only[go_sem,↓aB,seval,g3,g5,gu,hzg,d1,w1,w2,h1];refine aD (λe6=>?_) (λe6=>?_)
    .have h6:e>z+40:=uWD
     rw[Vx h6]at bd;have ed:bP (rr.length+1) 8=true:=by unfold bP;simp;omega
     have h7:rr++[[AV.int .i64 i]]=(l++[i]).map bL7:=by rw[<- hrr,DQ];rfl
     have h8:rr.length+1=((l++[i]).map bL7).length:=by rw[<- h7,BA];rfl
     simp only[go_sem,↓aB,seval,g3,g4,g5,ed];rw[h7,h8];exact⟨omT,e,l++[i],_,rfl,omT,omT,rfl,.obj _ _,Z0 _ bd.symm⟩
    have h6:¬e>z+40:=uWD
    rw[Vw h6]at bd;simp only[go_sem,↓aB,seval,g3,g5];rw[<- hrr];exact⟨omT,e,l,_,rfl,omT,omT,rfl,.obj _ _,Z0 _ bd.symm⟩
   have:i=c.length:=by simp at e3;omega
   subst this;rw[bPf (AQ _)]at mz;simp only[go_sem,seval];exact⟨x,rfl,mz ▸ hG⟩
  rintro ρ' H' ba ⟨rfl,x,rfl,hG⟩ hf;generalize h3:ρ' 3=v at *;have hd:=bOB (bIE c);generalize (bIE c).map bL7=rows at *;cases hG with
  |nil=>simp only[go_sem,↓aB,seval,h3];exact .inr trivial
  |obj ver=>simp only[go_sem,↓aB,seval,h3,aT hd,aA hd];exact .inl trivial)
 exact⟨r,e1,h2⟩
def bOY(hc:c.length<=10000000000){i:Nat}(r0:ρ 0=.sl Po (gZ c))(r4:ρ 4=vi i)(r5:ρ 5=vi i)(hi:i<c.length){Q tg}(hok:dK 49 C bJn=Pa)(hQ:∀ρ',aLP bLY ρ ρ'->ρ' 5=vi (bNu c i:Nat)->Q (.exit 2) ρ' X []):wl A 49 C bJn ρ X [] Q tg:=by
 refine bJ (id:=2) (λk ρ1 H1 wr=>wr=[]/\H1=X/\ρ1 5=vi (i+k:Nat)/\bSm c i k) 40
  (λρ1 H1 wr=>wr=[]/\H1=X/\ρ1 5=vi (bNu c i:Nat)) hok rfT ⟨rfl,rfl,r5,λj h1 h2=>omT⟩ ?_ ?_
 .rintro k ρ1 H1 dc zp ⟨rfl,rfl,e5,Ni⟩ hf;have f0:=(hf 0 rfl).trans r0;have f4:=(hf 4 rfl).trans r4;have w1:AR.wrap (i+40)=(i+40:Nat):=by rw[wrap_i64 omT omT];omega
  have w2:AR.wrap (((i+k:Nat):Int)+1)=(i+(k+1):Nat):=by rw[wrap_i64 omT omT];omega
  by_cases h1:i+k<c.length
  .have d1:=decide_eq_true h1;by_cases h2:k<40
   .have d2:=decide_eq_true h2;have w3:AR.wrap ((c.length:Int) - 1)=((c.length - 1:Nat):Int):=by rw[wrap_i64 omT omT];omega
    have w4:(if c.length - 1<i+k then ((c.length - 1:Nat):Int)else (i+k:Nat))=(i+k:Nat):=by split<;>omega
    have hg:=bJx h1;have Xp:=AP h1;generalize c[i+k]=x at *;simp only[go_sem,↓aB,seval,e5,f0,f4,w1,w3,w4,hg,d1,d2];refine aD (λe3=>?_) (λe3=>?_)
    .have hx:x≠0:=uWf
     simp only[go_sem,↓aB,seval,e5,w2];exact⟨omT,Ni.next Xp hx⟩
    have hx:x=0:=uWf
    simp only[go_sem,seval];rw[Ni.fin zp (.inr (.inr (by rw[Xp,hx])))];exact e5
   have d2:=decide_eq_false h2;simp only[go_sem,↓aB,seval,e5,f0,f4,w1,d1,d2];rw[Ni.fin zp (.inl omT)]
  have d1:=decide_eq_false h1;simp only[go_sem,↓aB,seval,e5,f0,d1];rw[Ni.fin zp (.inr (.inl omT))]
 rintro ρ' H' ba ⟨rfl,rfl,e⟩ hf;exact hQ ρ' hf e
abbrev bC0(p:Nat×Nat):LA:=[vi p.1,vi p.2]
def bQP(l:List (Nat×Nat)):gG (l.map bC0)=true:=aGl λv hv=>by
 obtain⟨c,_,rfl⟩:=DB.1 hv;rfl
def bOZ(h:Has A 64 bJm)(hc:c.length<=10000000000):∃r,aG A 64 [.sl Po (gZ c)] H=N1 (r,H,[])/\(r=.own 2 ((bJ3 c).map bC0)∨r=.sl Po ((bJ3 c).map bC0)):=by
 obtain⟨r,H',ba,e1,rfl,rfl,h2⟩:=h.bp (args:=[.sl Po (gZ c)]) (K:=λr H' wr=>wr=[]/\H'=H/\(r=.own 2 ((bJ3 c).map bC0)∨r=.sl Po ((bJ3 c).map bC0))) (by
  simp only[bJm];simp only[go_sem,↓aB,seval];refine bJ (id:=0) (λk ρ1 H1 wr=>wr=[]/\∃(i:Nat)(l:List (Nat×Nat))(x:ah),ρ1 4=vi i/\k<=i/\i<=c.length/\H1=H++[x]/\ew H.length 2 (l.map bC0) (ρ1 3) x/\l.length<=i/\l++bML c i=bJ3 c) c.length
   (λρ1 H1 wr=>wr=[]/\∃x,H1=H++[x]/\ew H.length 2 ((bJ3 c).map bC0) (ρ1 3) x) bIv rfl ⟨rfl,0,[],_,rfl,AQ _,FF _,rfl,.nil _,AQ _,rfl⟩ ?_ ?_
  .rintro k ρ1 H1 dc zp ⟨rfl,i,l,x,e4,hki,mg,rfl,hG,ym,mz⟩ hf;have f0:=hf 0 rfl;simp only[go_sem,↓aB,seval,e4,f0];refine aD (λe3=>?_) (λe3=>?_)
   .have hlt:i<c.length:=uWf
    have dy:=wS (i:=i) omT;have hg:=bJx hlt;have Xp:=AP hlt;generalize c[i]=y at *;simp only[go_sem,↓aB,seval,e4,f0,hg];refine aD (λe5=>?_) (λe5=>?_)
    .have hy:y=0:=uWt
     subst hy;simp only[go_sem,↓aB,seval,e4,dy];exact⟨omT,i+1,l,x,rfl,omT,omT,rfl,hG,omT,by rw[<- bOn Xp];exact mz⟩
    have hy:y≠0:=uWt
    obtain⟨b1,b2,b3⟩:=bMu Xp hy;rw[bPg Xp hy]at mz;simp only[go_sem,↓aB,seval,e4];refine bOY hc ?_ ?_ ?_ hlt bIv ?_
    .exact f0
    .exact e4
    .rfl
    intro ρ2 cq g5;have g3:=cq 3 rfl;have g4:=(cq 4 rfl).trans e4;generalize bNu c i=e at *;obtain⟨w',x',Wh,db⟩:=hG.app (new:=[bC0 (i,e)]) (bytes:=16) siT rfl soT;simp only[go_sem,↓aB,seval,g3,g4,g5,db];exact⟨omT,e,l++[(i,e)],x',rfl,omT,omT,rfl,by rw[DQ];exact Wh,soT,by rw[CJ];exact mz⟩
   have:i=c.length:=by simp at e3;omega
   subst this;rw[bPf (AQ _),AJ]at mz;simp only[go_sem,seval];exact⟨x,rfl,mz ▸ hG⟩
  rintro ρ' H' ba ⟨rfl,x,rfl,hG⟩ hf;generalize h3:ρ' 3=v at *;have hd:=bQP (bJ3 c);generalize (bJ3 c).map bC0=rows at *;cases hG with
  |nil=>simp only[go_sem,↓aB,seval,h3];exact .inr trivial
  |obj ver=>simp only[go_sem,↓aB,seval,h3,aT hd,aA hd];exact .inl trivial)
 exact⟨r,e1,h2⟩
end
section
variable {A:af}{H:LO}{c:LN}
def bQQ{P:List (Nat×Nat)}(hP:∀p∈P,p.1<=n)(h:(P.foldl bII []).getLast? = N1 z):z<=n:=by
 rcases bO7 P [] z (Al h)with h | ⟨p,hp,rfl⟩
 .cases h
 exact hP p hp
def bM4{f:Nat}{R rows:List LA}(h:∃r,aG A f [.sl Po R] H=N1 (r,H,[])/\(r=.own k rows∨r=.sl Po rows)):cX (aG A) H N2 (.fn f [] []) [.sl Po R]=N1 (.sl Po rows,H,[]):=by obtain⟨r,h1,rfl|rfl⟩:=h<;>simp only[go_sem,seval,h1]
def bP0(h:Has A 46 bJT)(hp:Has A 64 bJm):bOC A 46:=by
 intro c hc H;obtain⟨r,H',ba,e1,rfl,rfl,h2⟩:=h.bp (args:=[.sl Po (gZ c)]) (H:=H) (K:=λr H' wr=>wr=[]/\H'=H/\(r=.own 1 ((bIE c).map bL7)∨r=.sl Po ((bIE c).map bL7))) (by
  simp only[bJT];have hpc2:=bM4 (bOZ hp (H:=H++[.gone 0,.gone 0]) hc);have hPl:(bJ3 c).length<=c.length:=by have:=bO4 c (c.length - 0) 0;unfold bJ3 bML;omega
  have hPm:∀p∈bJ3 c,p.1<c.length/\p.2<=c.length:=bO5 c _ _;have bd:(bJ3 c).foldl bII []=bIE c:=rfl;generalize bJ3 c=P at *;simp only[go_sem,↓aB,seval,hpc2];refine bJ (id:=0) (λk ρ1 H1 wr=>wr=[]/\ρ1 5=vi (k:Nat)/\∃x,H1=H++[x,.gone 0]/\ew H.length 1 (((P.take k).foldl bII []).map bL7) (ρ1 3) x) P.length
   (λρ1 H1 wr=>wr=[]/\∃x,H1=H++[x,.gone 0]/\ew H.length 1 ((bIE c).map bL7) (ρ1 3) x) bIv rfl ⟨rfl,rfl,_,rfl,.nil _⟩ ?_ ?_
  .rintro k ρ1 H1 dc zp ⟨rfl,e5,x,rfl,hG⟩ hf;have f4:ρ1 4=.sl Po (P.map bC0):=hf 4 rfl;simp only[go_sem,↓aB,seval,e5,f4];refine aD (λe3=>?_) (λe3=>?_)
   .have hlt:k<P.length:=by simp at e3;omega
    have dy:=wS (i:=k) omT;have cj:=mgE bC0 hlt;have pk:(P.take (k+1)).foldl bII []=bII ((P.take k).foldl bII []) P[k]:=by rw[oG hlt,Ex];rfl
    obtain⟨m1,m2⟩:=hPm _ (AS hlt);have hlast:∀z,((P.take k).foldl bII []).getLast? = N1 z->z<=c.length:=λz hz=>bQQ (λp hp=>Bk (hPm p (FA hp)).1) hz;have ym:((P.take k).foldl bII []).length<=k:=by have:=bO6 (P.take k) [];simp at this;omega
    generalize P[k]=p at *;obtain⟨i,e⟩:=p;generalize (P.take k).foldl bII []=l at *;generalize h3:ρ1 3=v at *;obtain⟨w',x',Wh,db⟩:=bQO hG omT i;have db:=λf=>db (H++[x,.gone 0]) f (by rw[BU (AQ _),GD];rfl);have hle:=hG.len;by_cases hl:l=[]
    .subst hl;simp only[go_sem,↓aB,seval,e5,h3,f4,cj,hle,db,dy];exact⟨hlt,x',rfl,by rw[pk];exact Wh⟩
    obtain⟨z,hz⟩:∃z,l.getLast? = N1 z:=by
     cases h:l.getLast? with
     |none=>exact Vv (Ar.1 h) hl
     |some z=>exact⟨z,rfl⟩
    have hzi:=hlast z hz;have hzg:=bPA hz;rw[bOD hz (i,e)]at pk;have qe:0<l.length:=MY.2 hl;obtain⟨ver,rfl,rfl⟩:=hG.inv uWo;have d1:((l.length:Int)==0)=false:=soT;have w1:AR.wrap ((l.length:Int) - 1)=((l.length - 1:Nat):Int):=by rw[wrap_i64 omT omT];omega
    have w2:AR.wrap ((z:Int)+40)=((z+40:Nat):Int):=by rw[wrap_i64 omT omT];omega
    have h1:l.length - 1<l.length:=omT;generalize hrr:l.map bL7=rr at *;have gu:rr.length=l.length:=by rw[<- hrr,AF]
    simp only[go_sem,↓aB,seval,h3,gu,d1];refine aY (aq:=bKs) rfT rfT ?_;simp only[go_sem,↓aB,seval,bKs,bKr,e5,h3,f4,cj,gu,hzg,w1,w2,h1,FK];refine aD (λe6=>?_) (λe6=>?_)
    .have h6:e>z+40:=uWD
     rw[Vx h6]at pk;have ed:bP (rr.length+1) 8=true:=by unfold bP;simp;omega
     have h7:rr++[[AV.int .i64 i]]=(l++[i]).map bL7:=by rw[<- hrr,DQ];rfl
     have h8:rr.length+1=((l++[i]).map bL7).length:=by rw[<- h7,BA];rfl
     simp only[go_sem,↓aB,seval,e5,h3,f4,cj,ed,dy];rw[h7,h8,pk];exact⟨hlt,_,rfl,.obj _ _⟩
    have h6:¬e>z+40:=uWD
    rw[Vw h6]at pk;simp only[go_sem,↓aB,seval,e5,h3,dy];rw[<- hrr,pk];exact⟨hlt,_,rfl,.obj _ _⟩
   have:k=P.length:=by simp at e3;omega
   subst this;simp only[go_sem,seval];rw[DM,bd]at hG;exact⟨x,rfl,hG⟩
  rintro ρ' H' ba ⟨rfl,x,rfl,hG⟩ hf;generalize h3:ρ' 3=v at *;have hd:=bOB (bIE c);generalize (bIE c).map bL7=rows at *;cases hG with
  |nil=>simp only[go_sem,↓aB,seval,h3];exact .inr trivial
  |obj ver=>simp only[go_sem,↓aB,seval,h3,aT hd,aA hd];exact .inl trivial)
 exact⟨r,e1,h2⟩
end
abbrev bKQ:=bTw 13 (bJ6 1099)
abbrev bKR:LN:=[]
abbrev bMF:=bTw 13 (bIF 75 [(17,.region Pa bKQ)])
def bIY:=(.mk _:bb 13 (bIC [(75,bMF)])).x
abbrev bLs:=bTw 28 (bJ6 1099)
abbrev bLt:=bTw 28 (bIF 75 [(17,.region Pa bLs)])
def bJr:=(.mk _:bb 28 (bIC [(75,bLt)])).x
abbrev bLu:=bTw 25 (bJ6 89)
abbrev bLv:LN:=[1,4]
def bN3:=(.mk _:bb 25 (bIF 5 [(22,.region Pa bLu)])).x
def bO0:=(.mk _:bb 25 (bIC [(5,bN3)])).x
def bNi:=(.mk _:bb 44 bTx).x
abbrev bM9:=bTw 26 (bIF 37 [])
abbrev bJs:=bTw 26 (bJ6 19)
abbrev bJt:LN:=[1,4]
def bLh:=(.mk _:bb 26 (bIC [(37,bM9),(19,.region Pa bJs)])).x
def bOE:bJr=bIY:=rfl
def bPB{α:Type}[DecidableEq α]:∀x y:List α,eqL (λa b=>a==b) x y=decide (x=y)
 | [],[]=>rfl
 | [],_::_=>rfl
 |_::_,[]=>rfl
 |a::x,b::y=>by
  unfold eqL;rw[bPB x y];by_cases h:a=b<;>by_cases h2:x=y<;>simp[h,h2]
section
variable {A:af}
def bNI{f:Nat}{e:α->α->Bool}(hf:A.fn f=N1 bIY)(hp:A.bq f=N2)(hk:∀a,∃v,enc a=[v])(hbin:∀a b,kJ .neq .no ((enc a).headD .undef) ((enc b).headD .undef)=N1 (.bool !(e a b))):aPx A f enc e:=by
 intro x y H hx;obtain⟨v1,H1,dc,h1,rfl,rfl,rfl⟩:=kN (args:=[.sl Po (x.map enc),.sl Po (y.map enc)]) (H:=H) (K:=λv' H'' ba=>v'=.bool (eqL e x y)/\H''=H/\ba=[]) hf (by rw[hp];rfl) (by simp[bIY]) bIv (by
  simp only[bIY];simp only[go_sem,↓aB,seval];refine aD (λhb=>?_) (λhb=>?_)
  .have bl:x.length≠y.length:=by intro h;simp[h]at hb
   simp only[go_sem,↓aB,seval,aJd bl]
  have hxy:x.length=y.length:=by
   have:¬((x.length:Int)≠y.length):=uWe
   omega
  simp only[go_sem,↓aB,seval];refine bJ (id:=0) (λi ρ1 H1 wr=>wr=[]/\ρ1 5=vi i/\H1=H/\eqL e x y=eqL e (x.drop i) (y.drop i)) x.length
   (λρ1 H1 wr=>wr=[]/\H1=H/\eqL e x y=Pa) bIv rfl ⟨rfl,rfl,rfl,rfl⟩ ?_ ?_
  .rintro i ρ1 H1 dc mg ⟨rfl,h5,rfl,hi⟩ hf;have f0:ρ1 0=.sl Po (x.map enc):=hf 0 rfl;have f1:ρ1 1=.sl Po (y.map enc):=hf 1 rfl;simp only[go_sem,↓aB,seval,f0,h5];refine aD (λhb=>?_) (λhb=>?_)
   .have hlt:i<x.length:=uWe
    have sf:i<y.length:=omT;have dy:=wS (i:=i) omT;rw[aBh hlt sf]at hi;have hbn:=hbin x[i] y[i];have hgx:=getElem?_map_of (f:=enc) hlt;have hgy:=getElem?_map_of (f:=enc) sf;obtain⟨vx,hvx⟩:=hk x[i];obtain⟨vy,hvy⟩:=hk y[i];rw[hvx]at hgx hbn;rw[hvy]at hgy hbn;rw[ON,ON]at hbn;generalize e x[i] y[i]=b at *;simp only[go_sem,seval];refine aY (aq:=bKR) rfT rfT ?_;simp only[go_sem,↓aB,seval,bKR,bKQ,f0,f1,h5,hgx,hgy,hbn];refine aD (λe3=>?_) (λe3=>?_)
    .have:b=false:=uWf
     subst this;rw[BQ]at hi;simp only[go_sem,↓aB,seval,hi]
    have:b=true:=uWf
    subst this;rw[Bool.true_and]at hi;simp only[go_sem,↓aB,seval,h5,dy];exact⟨hlt,hi⟩
   have hlt:i=x.length:=by
    have:¬i<x.length:=uWe
    omega
   subst hlt;rw[DH (AQ _),DH omT]at hi;simp only[go_sem,seval];exact hi
  rintro ρ' H' ba ⟨rfl,rfl,hi⟩ hf;simp only[go_sem,↓aB,seval,hi])
 exact h1
def bPO(h:Has A 13 bIY)(x y:LN)(hx:x.length<=100000000000)(H:LO):aG A 13 [.sl Po (gZ x),.sl Po (gZ y)] H=N1 (.bool (decide (x=y)),H,[]):=by
 have:=bNI (enc:=bNc) (e:=λa b=>a==b) h.fn h.bq (λa=>⟨_,rfl⟩) (λa b=>by
  show N1 (AV.bool ((a:Int) != b))=_;exact congrArg (λb=>N1 (AV.bool b)) (by rw[DS];simp[bne];omega)) x y H omT
 rwa [bPB]at this
def bPP(h:Has A 28 bJr)(x y:List Int)(hx:x.length<=100000000000)(H:LO):aG A 28 [.sl Po (x.map bF),.sl Po (y.map bF)] H=N1 (.bool (decide (x=y)),H,[]):=by
 have:=bNI (enc:=bF) (e:=λa b=>a==b) (by rw[h.fn,bOE]) h.bq (λa=>⟨_,rfl⟩) (λa b=>by
  exact congrArg (λb=>N1 (AV.bool b)) (by rw[DS];simp[bne])) x y H omT
 rwa [bPB]at this
end
abbrev bIH(c:LN):List Int:=(bIE c).map λn:Nat=>(n:Int)
def bKS(c:LN):(bIE c).map bL7=(bIH c).map bF:=by rw[PA];rfl
abbrev bRb(c:LN):Bool:=c.any λx=>decide ((x:Int)>63)
def bKT(c:LN)(st:List Int):Int:=if bRb c then 1 else if decide (st=bIH c)then 0 else 19
abbrev bJP(c:LN)(st:List Int):LA:=[.sl Po (gZ c),.sl Po (st.map bF)]
section
variable {A:af}
structure u4(A:af):Prop where
 lcheck:Has A 25 bO0
 Zm:Has A 44 bNi
 rcheck:Has A 26 bLh
 same:Has A 13 bIY
 sameI:Has A 28 bJr
 equal:Has A 45 (oE 1 Po .no)
 con:aAA A 43 1 Po
 Yt:Has A 16 bM3
 rstops:Has A 46 bJT
 pieces:Has A 64 bJm
def bPQ(h:Has A 45 (oE 1 Po .no))(x y:List Int)(hx:x.length<=100000000000)(H:LO):aG A 45 [.sl Po (x.map bF),.sl Po (y.map bF)] H=N1 (.bool (decide (x=y)),H,[]):=by
 have:=vO (enc:=bF) (e:=λa b=>a==b) h.fn h.bq (λ_=>rfl) (λ_=>rfl) (λa b=>by
  exact congrArg (λb=>N1 (AV.bool b)) (by rw[DS];simp[bne])) x y H omT
 rwa [bPB]at this
def bP1(F:u4 A)(c:LN)(st:List Int)(hc:c.length<=10000000000)(hs:st.length<=100000000000)(H:LO):aG A 25 [.agg (bJP c st)] H=N1 (vi (bKT c st),H,[]):=by
 refine F.lcheck.call ?_;have h1:∀x H,aG A 44 [.int .u8 x] H=N1 (.bool (decide ((x:Int)>63)),H,[]):=λx H=>by
  refine F.Zm.call ?_;simp only[bNi];simp only[go_sem,↓aB,seval]
 have po:∀H,aG A 43 [.sl Po (gZ c),.fn 44 [] []] H=N1 (.bool (bRb c),H,[]):=λH=>by
  obtain⟨fi,⟨a1,a2⟩,b1,b2⟩:=F.con;exact aGr a1 a2 bIJ (aDa b1 b2 bPh bIJ (by show c.length<_;omega) λx _=>h1 x H)
 have bd:=λH=>bM4 (by have:=bNH F.Yt c hc H;rwa [bKS]at this);have D0:=λH=>bPQ F.equal st (bIH c) hs H;unfold bKT;generalize bRb c=b at *;generalize decide (st=bIH c)=b2 at *;simp only[bO0];simp only[bN3];cases b with
 |true=>simp only[go_sem,↓aB,seval,po]
 |false=>
  simp only[go_sem,↓aB,seval,po];refine aY (aq:=bLv) rfT rfT ?_;cases b2 with
  |true=>simp only[go_sem,↓aB,seval,bLv,bLu,bd,D0,eH,dG,aL]
  |false=>simp only[go_sem,↓aB,seval,bLv,bLu,bd,D0,eH,dG,aL]
def bP2(F:u4 A)(c:LN)(st:List Int)(hc:c.length<=10000000000)(hs:st.length<=100000000000)(H:LO):aG A 26 [.agg (bJP c st)] H=N1 (vi (bKT c st),H,[]):=by
 refine F.rcheck.call ?_;have bd:=λH=>bM4 (by have:=bP0 F.rstops F.pieces c hc H;rwa [bKS]at this);have D0:=λH=>bPP F.sameI st (bIH c) hs H;simp only[bLh];simp only[go_sem,↓aB,seval];refine bJ (id:=0) (λk ρ1 H1 wr=>wr=[]/\ρ1 3=vi k/\H1=H++[.box 1 (bJP c st)]/\∀x∈c.take k,¬(x:Int)>63) c.length
  (λρ1 H1 wr=>wr=[]/\H1=H++[.box 1 (bJP c st)]/\bRb c=Po) bIv rfl ⟨rfl,rfl,rfl,siT⟩ ?_ ?_
 .rintro k ρ1 H1 dc zp ⟨rfl,e3,rfl,tp⟩ hf;have f1:=hf 1 rfl;simp only[go_sem,↓aB,seval,e3,f1];refine aD (λhb=>?_) (λhb=>?_)
  .have hlt:k<c.length:=uWe
   have dy:=wS (i:=k) omT;have hg:=bJx hlt;have pk:=oG hlt;have tk:=AS hlt;generalize c[k]=x at *;simp only[go_sem,↓aB,seval,e3,f1,hg];refine aD (λe4=>?_) (λe4=>?_)
   .have Rk:bRb c=true:=List.any_eq_true.2 ⟨x,tk,uXf⟩;unfold bKT;rw[Rk];simp only[go_sem,↓aB,seval]
   simp only[go_sem,↓aB,seval,e3,dy];exact⟨hlt,λy hy=>by
    rw[pk]at hy;rcases AY.1 hy with hy|hy
    .exact tp y hy
    rw[CG.1 hy];simpa using e4⟩
  have:k=c.length:=by
   have:¬k<c.length:=uWe
   omega
  subst this;rw[DM]at tp;simp only[go_sem,seval];exact KH.2 λx hx=>by simpa using tp x hx
 rintro ρ' H' ba ⟨rfl,rfl,Rk⟩ hf;have f1:=hf 1 rfl;unfold bKT;rw[Rk];generalize decide (st=bIH c)=b2 at *;simp only[go_sem,seval];refine aY (aq:=bJt) rfT rfT ?_;cases b2 with
 |true=>simp only[go_sem,↓aB,seval,bJt,bJs,f1,bd,D0,eH,dG,aL]
 |false=>simp only[go_sem,↓aB,seval,bJt,bJs,f1,bd,D0,eH,dG,aL]
end
abbrev bOF:=bTw 10 (bIF 151 [])
abbrev bNj:=bTw 10 (bJ6 351)
abbrev bNk:LN:=[]
def bNJ:=(.mk _:bb 10 (bIC [(151,bOF),(351,.region Pa bNj)])).x
abbrev okK(k:Int):Bool := !((k != 1)&&(k != -1))
noncomputable def bJk(c:LN)(a:Int):LN:=match (bIE c)[a.toNat]? with
 |some s=>bJ8 c s
 |none=>AX 40 0
noncomputable def bLi(c:LN)(st ks:List Int):LN×Int×Int:=if bKT c st=0 then (if ks.all okK then (bJk c (bL8 st.length ks),bL8 st.length ks,0)else ([],0,1))else ([],0,bKT c st)
inductive Xt(H:LO)(ks:List Int):AV->Prop
 |sl (f:Bool):Xt H ks (.sl f (ks.map bF))
 |sr (p v:Nat) (h3:H[p]? = N1 (.vec v 1 (ks.map bF))):Xt H ks (.sr p v (ks.map bF).length)
def bOG n(ks:List Int) k:bL8 n (ks++[k])=bKm n (bL8 n ks) k:=by unfold bL8;rw[Ex];rfl
def bOH(c:LN) s:((gZ c).drop s).take 40++(gZ (AX 40 0)).drop (((gZ c).drop s).take 40).length=gZ (bJ8 c s):=by unfold bJ8 gZ;rw[DQ,Pu,Ak,Ay,Ay,List.drop_replicate];congr 2;simp;omega
def bRV(L:Nat)(a k:Int):(if (if L - 1<a+k then (L:Int) - 1 else a+k)>0 then (if L - 1<a+k then (L:Int) - 1 else a+k)else 0)=bKm L a k:=by
 unfold bKm;by_cases h:L - 1<a+k
 .rw[Vx h];split<;>omega
 rw[Vw h];split<;>omega
def bRW{k:Int}(h:okK k=Pa):k=1∨k = -1:=by simp only[okK,Bool.not_eq_true',Bool.and_eq_false_iff,bne_eq_false_iff_eq]at h;exact h
section
variable {A:af}
abbrev bPC(A:af):Prop:=∀(c:LN)(st ks:List Int)(v:AV)(H:LO),c.length<=10000000000->st.length<=10000000000->ks.length<=10000000000->Xt H ks v ->
 aG A 10 [.agg (bJP c st),v] H=N1 (.tup [.sl Po (gZ (bLi c st ks).1),vi (bLi c st ks).2.1,vi (bLi c st ks).2.2],H,[])
def bPR(F:u4 A)(h:Has A 10 bNJ):bPC A:=by
 intro c st ks v H hc hs E7 hv;refine h.call ?_;have E8:=λH=>bP1 F c st hc omT H;have hcd:gG (gZ c)=true:=bIy c;have hsd:gG (st.map bF)=true:=aC aU st;have Wz:bKT c st=0->st=bIH c:=λh=>by
  unfold bKT at h;split at h
  .cases h
  split at h
  .rename_i h2;simpa using h2
  cases h
 have ax:aW6 v=N1 (vi (ks.length:Nat)):=by
  cases hv with
  |sl f=>show N1 (vi ((ks.map bF).length:Nat))=_;rw[AF]
  |sr p v h3=>show N1 (vi ((ks.map bF).length:Nat))=_;rw[AF]
 unfold bLi;generalize hE:bKT c st=E at *;simp only[bNJ];simp only[go_sem,↓aB,seval,E8];refine aD (λe1=>?_) (λe1=>?_)
 .have hE0:E≠0:=uWh
  rw[Vw hE0];simp only[go_sem,↓aB,seval]
 have hE0:E=0:=uWh
 subst hE0;have bd:=Wz rfl;rw[Vx rfl];simp only[go_sem,↓aB,seval,ax];refine bJ (id:=0) (λi ρ1 H1 wr=>wr=[]/\ρ1 19=vi (i:Nat)/\H1=H++[.box 1 (bJP c st),.gone 0]/\ρ1 8=vi (bL8 st.length (ks.take i))/\(ks.take i).all okK=Pa) ks.length
  (λρ1 H1 wr=>wr=[]/\H1=H++[.box 1 (bJP c st),.gone 0]/\ρ1 8=vi (bL8 st.length ks)/\ks.all okK=Pa) bIv rfl ⟨rfl,rfl,rfl,rfl,rfl⟩ ?_ ?_
 .rintro i ρ1 H1 dc mg ⟨rfl,e19,rfl,e8,da⟩ hf;have f17:ρ1 17=v:=hf 17 rfl;have f18:ρ1 18=vi (ks.length:Nat):=hf 18 rfl;have f2:ρ1 2=.ptr H.length 1 0:=hf 2 rfl;simp only[go_sem,↓aB,seval,e19,f18];refine aD (λe3=>?_) (λe3=>?_)
  .have hlt:i<ks.length:=uWf
   have dy:=wS (i:=i) omT;have cj:(ks.map bF)[i]? = N1 [vi ks[i]]:=by rw[BN,AP hlt];rfl
   have pk:=oG hlt;have tk:=AS hlt;obtain⟨r1,r2,_⟩:=bMO st.length (ks.take i);have jk:bL8 st.length (ks.take (i+1))=bKm st.length (bL8 st.length (ks.take i)) ks[i]:=by rw[pk,bOG]
   have j8:(ks.take (i+1)).all okK=okK ks[i]:=by rw[pk,IL,da];simp
   have F2:okK ks[i]=Po->ks.all okK=false:=λh=>by
    rw[AL];exact⟨_,tk,uXi⟩
   have ym:i<(ks.map bF).length:=uWv
   have hp2:∀p v':Nat,H[p]? = N1 (.vec v' 1 (ks.map bF))->(H++[.box 1 (bJP c st),.gone 0])[p]? = N1 (.vec v' 1 (ks.map bF)):=λp v' h=>by
    rw[BM (getElem?_lt h)];exact h
   generalize ks[i]=k at *;generalize bL8 st.length (ks.take i)=a at *;have w2:AR.wrap ((st.length:Int) - 1)=(st.length:Int) - 1:=wrap_i64 omT omT;have zk:okK k=Pa->AV.int .i64 (if (if (st.length:Int) - 1<AR.wrap (a+k)then (st.length:Int) - 1 else AR.wrap (a+k))>0 then (if (st.length:Int) - 1<AR.wrap (a+k)then (st.length:Int) - 1 else AR.wrap (a+k))else 0)=vi (bL8 st.length (ks.take (i+1)))/\(ks.take (i+1)).all okK=true:=λhk=>by
    have w3:AR.wrap (a+k)=a+k:=by rcases bRW hk with rfl|rfl<;>exact wrap_i64 omT omT
    rw[w3,bRV,jk,j8];exact⟨rfl,hk⟩
   cases hv with
   |sl f=>
    generalize ks.map bF=KK at *;cases z1:(k != 1)with
    |true=>
     cases z2:(k != -1)with
     |true=>have hb:=F2 uWK;rw[hb];simp only[go_sem,↓aB,seval,e19,f17,cj,hlt,z1,z2]
     |false=>have cq:=zk uWK;simp only[go_sem,↓aB,seval,e19,e8,f2,f17,cj,hlt,z1,z2,dy,w2];exact cq
    |false=>have cq:=zk (by simp[okK,z1]);simp only[go_sem,↓aB,seval,e19,e8,f2,f17,cj,hlt,z1,dy,w2];exact cq
   |sr p vv h3=>
    have h3:=hp2 _ _ h3;generalize ks.map bF=KK at *;cases z1:(k != 1)with
    |true=>
     cases z2:(k != -1)with
     |true=>have hb:=F2 uWK;rw[hb];simp only[go_sem,↓aB,seval,e19,f17,cj,ym,hlt,z1,z2,h3]
     |false=>have cq:=zk uWK;simp only[go_sem,↓aB,seval,e19,e8,f2,f17,cj,ym,hlt,z1,z2,dy,w2,h3];exact cq
    |false=>have cq:=zk (by simp[okK,z1]);simp only[go_sem,↓aB,seval,e19,e8,f2,f17,cj,ym,hlt,z1,dy,w2,h3];exact cq
  have:i=ks.length:=by
   have:¬i<ks.length:=uWf
   omega
  subst this;rw[DM]at e8 da;simp only[go_sem,seval];exact⟨e8,da⟩
 rintro ρ' H' ba ⟨rfl,rfl,e8,da⟩ hf;have f2:ρ' 2=.ptr H.length 1 0:=hf 2 rfl;rw[da,Vx rfl];have hr:bP 40 1=true:=deT;have hz:(AX 40 [AV.int .u8 0])=gZ (AX 40 0):=siT;have lq:DR AV.aj [AV.int .u8 0]=[AV.int .u8 0]:=rfl;have h40:(AX 40 0).length=40:=MI;have lv:=bOH c;have sc:∀a,bIE c=[]->bJk c a=AX 40 0:=λa h=>by unfold bJk;rw[h];rfl
 generalize AX 40 0=z40 at *;simp only[go_sem,↓aB,seval,-Ag,f2,hr,hz,lq];refine aD (λe3=>?_) (λe3=>?_)
 .have hL:0<st.length:=uWf
  obtain⟨r1,_,r2⟩:=bMO st.length ks;have r2:=r2 hL;have G6:(bIE c).length=st.length:=by rw[bd];simp
  obtain⟨s,hs⟩:∃s,(bIE c)[(bL8 st.length ks).toNat]? = N1 s:=⟨_,AP omT⟩;have hsc:=bO8 (AN hs);have Kl:bJk c (bL8 st.length ks)=bJ8 c s:=by unfold bJk;rw[hs]
  have ot:(st.map bF)[(bL8 st.length ks).toNat]? = N1 [vi s]:=by
   have Ae:st.map bF=(bIE c).map bL7:=by rw[bKS,<- bd]
   rw[Ae,BN,hs];rfl
  rw[Kl];generalize bL8 st.length ks=a at *;have hb:dU c.length (N1 (vi s)) N2 N2=N1 (s,c.length,c.length):=by have h1:(0:Int)<=(s:Nat)/\((s:Nat):Int)<=(c.length:Nat):=omT;simp[dU,iL,h1]
  have lv:=lv s;have hz5:(gZ (bJ8 c s)).length=40:=by rw[AF,bIN]
  have hd:=bIy (bJ8 c s);generalize gZ (bJ8 c s)=z5 at *;have bl:((gZ c).drop s).isEmpty=false:=by rw[Ad];intro h;simp at h;omega
  have tz:dF 1 ((gZ c).drop s)=true:=by rw[<- Ak];exact bIK _
  have hz4:(gZ z40).length=40:=by rw[AF,h40]
  have pk:((gZ c).take c.length).drop s=(gZ c).drop s:=by rw[CH siT]
  refine aY (aq:=bNk) rfT rfT ?_;simp only[go_sem,↓aB,seval,-Ag,bNk,bNj,f2,e8,ot,hb,bIK c,bl,tz,hz4,hz5,lv,aT hd,aA hd,pk,r1]
 have hL:st=[]:=by
  have:¬(0:Int)<st.length:=uWf
  exact DP omT
 have Kl:bJk c (bL8 st.length ks)=z40:=by
  have:bIE c=[]:=by rw[bd]at hL;simpa using hL
  exact sc _ this
 rw[Kl];have hd:=bIy z40;have hz4:(gZ z40).length=40:=by rw[AF,h40]
 simp only[go_sem,↓aB,seval,e8,hz4,aT hd,aA hd]
end
abbrev bJE:=bTw 12 (bJ6 6447)
abbrev bJh:LN:=[]
abbrev bMG:=bTw 12 (bIF 303 [(25,.region Pa bJE)])
abbrev bKU:=bTw 12 (bJ6 17599)
abbrev bKV:LN:=[]
abbrev bKW:=bTw 12 (bJ6 42175)
abbrev bKX:LN:=[]
abbrev bMH:=bTw 12 (bIF 1215 [(17,.region Pa bKU),(41,.region Pa bKW)])
def bKp:=(.mk _:bb 12 (bIC [(303,bMG),(1215,bMH)])).x
section
variable {A:af}
def bM0(c:LN)(s i:Nat):LN:=(bJ8 c s).take i++AX (40 - i) 0
def bQR{s:Nat}(hi:i<=40):(bM0 c s i).length=40:=by unfold bM0;rw[BA,HB,bIN,MI];omega
def bQS{s x:Nat}(hi:i<40)(hx:c[s+i]? = N1 x):(bM0 c s i).set i x=bM0 c s (i+1):=by
 apply List.ext_getElem?;intro j;have hg:=bMv (c:=c) (s:=s) hi;unfold bM0;by_cases e:i=j
 .subst e;rw[BW (by rw[BA,HB,bIN,MI];omega),BM (by rw[HB,bIN];omega),Af omT,hg,hx];rfl
 rw[CL e];by_cases h:j<i
 .rw[BM (by rw[HB,bIN];omega),BM (by rw[HB,bIN];omega),Af h,Af omT]
 rw[BU (by rw[HB,bIN];omega),BU (by rw[HB,bIN];omega),HB,HB,bIN,IN,IN];by_cases hj:j<40
 .rw[Vx omT,Vx omT]
 rw[Vw omT,Vw omT]
def bPS{s:Nat}(hi:i<40)(hx:c.length<=s+i):bM0 c s (i+1)=bM0 c s i:=by have hg:=bMv (c:=c) (s:=s) hi;rw[List.getElem?_eq_none hx]at hg;unfold bM0;rw[oG (by rw[bIN];exact hi)];rw[AP (by rw[bIN];exact hi)]at hg;have:=Option.some.inj hg;rw[this,show 40 - i=(40 - (i+1))+1 by omega,List.replicate_succ];simp
def bPT(F:u4 A)(h:Has A 12 bKp)(c:LN)(st ks:List Int)(H:LO)(hc:c.length<=10000000000)(hs:st.length<=10000000000)(E7:ks.length<=10000000000):aG A 12 [.agg (bJP c st),.sl Po (ks.map bF)] H=N1 (.tup [.sl Po (gZ (bLi c st ks).1),vi (bLi c st ks).2.1,vi (bLi c st ks).2.2],H,[]):=by
 refine h.call ?_;have E8:=λH=>bP2 F c st hc omT H;have hcd:gG (gZ c)=true:=bIy c;have hsd:gG (st.map bF)=true:=aC aU st;have Wz:bKT c st=0->st=bIH c:=λh=>by
  unfold bKT at h;split at h
  .cases h
  split at h
  .rename_i h2;simpa using h2
  cases h
 unfold bLi;generalize hE:bKT c st=E at *;simp only[bKp];simp only[go_sem,↓aB,seval,E8];refine aD (λe1=>?_) (λe1=>?_)
 .have hE0:E≠0:=uWh
  rw[Vw hE0];simp only[go_sem,↓aB,seval]
 have hE0:E=0:=uWh
 subst hE0;have bd:=Wz rfl;rw[Vx rfl];simp only[go_sem,↓aB,seval];refine bJ (id:=0) (λi ρ1 H1 wr=>wr=[]/\ρ1 9=vi (i:Nat)/\H1=H++[.box 1 (bJP c st),.gone 0]/\ρ1 8=vi (bL8 st.length (ks.take i))/\(ks.take i).all okK=Pa) ks.length
  (λρ1 H1 wr=>wr=[]/\H1=H++[.box 1 (bJP c st),.gone 0]/\ρ1 8=vi (bL8 st.length ks)/\ks.all okK=Pa) bIv rfl ⟨rfl,rfl,rfl,rfl,rfl⟩ ?_ ?_
 .rintro i ρ1 H1 dc mg ⟨rfl,e9,rfl,e8,da⟩ hf;have f1:ρ1 1=.sl Po (ks.map bF):=hf 1 rfl;have f2:ρ1 2=.ptr H.length 1 0:=hf 2 rfl;simp only[go_sem,↓aB,seval,e9,f1];refine aD (λe3=>?_) (λe3=>?_)
  .have hlt:i<ks.length:=uWf
   have dy:=wS (i:=i) omT;have cj:(ks.map bF)[i]? = N1 [vi ks[i]]:=by rw[BN,AP hlt];rfl
   have pk:=oG hlt;have tk:=AS hlt;obtain⟨r1,r2,_⟩:=bMO st.length (ks.take i);have jk:bL8 st.length (ks.take (i+1))=bKm st.length (bL8 st.length (ks.take i)) ks[i]:=by rw[pk,bOG]
   have j8:(ks.take (i+1)).all okK=okK ks[i]:=by rw[pk,IL,da];simp
   have F2:okK ks[i]=Po->ks.all okK=false:=λh=>by
    rw[AL];exact⟨_,tk,uXi⟩
   generalize ks[i]=k at *;generalize bL8 st.length (ks.take i)=a at *;have w2:AR.wrap ((st.length:Int) - 1)=(st.length:Int) - 1:=wrap_i64 omT omT;have zk:okK k=Pa->AV.int .i64 (if (if (st.length:Int) - 1<AR.wrap (a+k)then (st.length:Int) - 1 else AR.wrap (a+k))>0 then (if (st.length:Int) - 1<AR.wrap (a+k)then (st.length:Int) - 1 else AR.wrap (a+k))else 0)=vi (bL8 st.length (ks.take (i+1)))/\(ks.take (i+1)).all okK=true:=λhk=>by
    have w3:AR.wrap (a+k)=a+k:=by rcases bRW hk with rfl|rfl<;>exact wrap_i64 omT omT
    rw[w3,bRV,jk,j8];exact⟨rfl,hk⟩
   generalize ks.map bF=KK at *;cases z1:(k != 1)with
   |true=>
    cases z2:(k != -1)with
    |true=>have hb:=F2 uWK;rw[hb];simp only[go_sem,↓aB,seval,e9,f1,cj,hlt,z1,z2]
    |false=>have cq:=zk uWK;simp only[go_sem,↓aB,seval,e9,f1,cj,hlt,z1,z2];refine aY (aq:=bJh) rfT rfT ?_;simp only[go_sem,↓aB,seval,bJh,bJE,e9,e8,f1,f2,cj,hlt,dy,w2];exact cq
   |false=>have cq:=zk (by simp[okK,z1]);simp only[go_sem,↓aB,seval,e9,f1,cj,hlt,z1];refine aY (aq:=bJh) rfT rfT ?_;simp only[go_sem,↓aB,seval,bJh,bJE,e9,e8,f1,f2,cj,hlt,dy,w2];exact cq
  have:i=ks.length:=by
   have:¬i<ks.length:=uWf
   omega
  subst this;rw[DM]at e8 da;simp only[go_sem,seval];exact⟨e8,da⟩
 rintro ρ' H' ba ⟨rfl,rfl,e8,da⟩ hf;have f2:ρ' 2=.ptr H.length 1 0:=hf 2 rfl;rw[da,Vx rfl];have hr:bP 40 1=true:=deT;have hz:(AX 40 [AV.int .u8 0])=gZ (AX 40 0):=siT;have lq:DR AV.aj [AV.int .u8 0]=[AV.int .u8 0]:=rfl;have hp0:∀s,bM0 c s 0=AX 40 0:=λs=>rfl;have hp40:∀s,bM0 c s 40=bJ8 c s:=λs=>by
  unfold bM0;rw[CH (by rw[bIN];exact AQ _)];exact AJ _
 have sc:∀a,bIE c=[]->bJk c a=AX 40 0:=λa h=>by unfold bJk;rw[h];rfl
 have hcl5:(gZ (bJk c (bL8 st.length ks))).length=40:=by
  rw[AF];unfold bJk;split
  .exact bIN _ _
  exact MI
 have h40:(AX 40 0).length=40:=MI;generalize AX 40 0=z40 at *;simp only[go_sem,↓aB,seval,-Ag,hr,hz,lq];refine bJ (id:=2) (λi ρ1 H1 wr=>wr=[]/\ρ1 11=vi (i:Nat)/\∃z,H1=H++[.box 1 (bJP c st),.vec 1 1 (gZ z)]/\((st=[]/\z=z40)∨∃s,(bIE c)[(bL8 st.length ks).toNat]? = N1 s/\z=bM0 c s i)) 40
  (λρ1 H1 wr=>wr=[]/\H1=H++[.box 1 (bJP c st),.vec 1 1 (gZ (bJk c (bL8 st.length ks)))]) bIv rfl ⟨rfl,rfl,z40,rfl, ?_⟩ ?_ ?_
 .by_cases h0:st=[]
  .exact .inl ⟨h0,rfl⟩
  have hL:0<st.length:=MY.2 h0;obtain⟨r1,_,r2⟩:=bMO st.length ks;have r2:=r2 hL;have G6:(bIE c).length=st.length:=by rw[bd];simp
  exact .inr ⟨_,AP omT,(hp0 _).symm⟩
 .rintro i ρ1 H1 dc mg ⟨rfl,e11,z,rfl,hz⟩ Jh;have g2:ρ1 2=.ptr H.length 1 0:=(Jh 2 rfl).trans f2;have g8:ρ1 8=vi (bL8 st.length ks):=(Jh 8 rfl).trans e8;have g10:ρ1 10=.sr (H.length+1) 1 40:=Jh 10 rfl;rcases hz with⟨h0,rfl⟩ | ⟨s,Yc,rfl⟩
  .have Kl:=sc (bL8 st.length ks) (by rw[bd]at h0;simpa using h0);rw[Kl];have sz:st.length=0:=by rw[h0];rfl
   have d0:decide ((0:Int)<0)=false:=deT;cases d1:decide ((i:Int)<40)with
   |true=>simp only[go_sem,↓aB,seval,e11,g2,sz,d1]
   |false=>simp only[go_sem,↓aB,seval,e11,d1]
  have Kl:bJk c (bL8 st.length ks)=bJ8 c s:=by unfold bJk;rw[Yc]
  rw[Kl];obtain⟨r1,_,r2⟩:=bMO st.length ks;have G6:(bIE c).length=st.length:=by rw[bd];simp
  have hlt0:=(AH.1 Yc).1;have hL:decide ((st.length:Int)>0)=true:=soT;have hsc:=bO8 (AN Yc);have ot:(st.map bF)[(bL8 st.length ks).toNat]? = N1 [vi s]:=by
   have Ae:st.map bF=(bIE c).map bL7:=by rw[bKS,<- bd]
   rw[Ae,BN,Yc];rfl
  generalize bL8 st.length ks=a at *;cases d1:decide ((i:Int)<40)with
  |false=>
   have:i=40:=by simp at d1;omega
   subst this;simp only[go_sem,↓aB,seval,e11,hp40]
  |true=>
   have hiI:(i:Int)<40:=by simpa using d1
   have hi:i<40:=omT;have w1:AR.wrap ((s:Int)+i)=((s+i:Nat):Int):=by rw[wrap_i64 omT omT];omega
   have dy:=wS (i:=i) omT;simp only[go_sem,↓aB,seval,e11,g2,hL,d1];refine aY (aq:=bKV) rfT rfT ?_;simp only[go_sem,↓aB,seval,bKV,bKU,e11,g2,g8,ot,r1,w1];refine aD (λe5=>?_) (λe5=>?_)
   .have hlt:s+i<c.length:=uWt
    have hg:=bJx hlt;have Xp:=AP hlt;generalize c[s+i]=x at *;have hps:=bQS hi Xp;have Qk:=bQR (c:=c) (s:=s) (i:=i) omT;have ru:(gZ (bM0 c s i)).set i [.int .u8 x]=gZ (bM0 c s (i+1)):=by rw[<- hps];exact (ME ..).symm
    obtain⟨y,hy⟩:∃y,(gZ (bM0 c s i))[i]? = N1 [.int .u8 y]:=⟨_,bJx omT⟩;have kq:(gZ (bM0 c s i)).length=40:=by rw[AF];exact Qk
    generalize gZ (bM0 c s i)=zz at *;refine aY (aq:=bKX) rfT rfT ?_;simp only[go_sem,↓aB,seval,bKX,bKW,e11,g2,g8,g10,ot,r1,w1,hg,hy,kq,ru,hi,hiI,dy];exact⟨_,rfl,.inr ⟨s,Yc,rfl⟩⟩
   have hlt:c.length<=s+i:=uWt
   simp only[go_sem,↓aB,seval,e11,dy];exact⟨hi,_,rfl,.inr ⟨s,Yc,(bPS hi hlt).symm⟩⟩
 rintro ρ2 H2 en ⟨rfl,rfl⟩ cq;have g8:ρ2 8=vi (bL8 st.length ks):=(cq 8 rfl).trans e8;have g10:ρ2 10=.sr (H.length+1) 1 40:=cq 10 rfl;have hd:=bIy (bJk c (bL8 st.length ks));generalize gZ (bJk c (bL8 st.length ks))=z5 at *;simp only[go_sem,↓aB,seval,g8,g10,hcl5,aT hd,aA hd]
end
abbrev bJG:=bTw 3 (bJ6 11)
abbrev bJH:LN:=[1,2]
abbrev bJI:=bTw 3 (bIF 303 [])
abbrev bLj:LN:=[55,56,60,61,62,63,64,65,66,59,67,68,69,18,19,20,71,72,73,74,75,76,70,77,78,79,21,22,23,80,81,82,83,84,85,86,87,88,89,90,91,92,93,12,57,58,17]
abbrev bJa:=bTw 3 (bJ6 168703)
abbrev bIV:LN:=[0,3,5]
abbrev bJJ:=bTw 3 (bJ6 139170559)
abbrev bJK:LN:=[]
abbrev bJL:=bTw 3 (bIF 4952831 [(33,.region Pa bJJ)])
abbrev bLk:LN:=[160,161,162,163,164,165,166,167,168,169,170,171,172,173,176,177,178,179,180,181,182,183,184,185,186,187,188,189,190,191,12,192,193,194,195,196,197,198,199,200,174,175,33]
abbrev bJM:=bTw 3 (bIF 4863 [(41,.region Pa bJa),(1209,bJL)])
abbrev bLl:LN:=[100,101,102,103,104,108,109,110,107,111,112,113,27,28,29,115,116,117,118,119,120,121,114,122,123,124,30,31,32,125,126,127,128,129,130,131,132,133,134,135,136,137,138,139,140,141,142,143,144,145,146,147,148,149,150,151,152,153,154,155,156,157,158,159,12,33,160,161,162,163,164,165,166,167,168,169,170,171,172,173,176,177,178,179,180,181,182,183,184,185,186,187,188,189,190,191,12,192,193,194,195,196,197,198,199,200,174,175,33,201,202,203,25,105,106,26]
abbrev bJN:=bTw 3 (bIF 9727 [])
abbrev bLm:LN:=[204,205,206,207,210,211,212,213,214,215,216,217,218,219,220,221,222,12,208,209,34]
def bJo:=(.mk _:bb 3 (bIC [(11,.region Pa bJG),(303,bJI),(4863,bJM),(9727,bJN)])).x
abbrev lwC(n:Nat):Ctx:=⟨n,[13,99,118,120,203]⟩
abbrev bJS(b:Bool):LA:=[.bool b]
abbrev bM1(B:List Bool)(s k:Nat):Prop:=∀x<k,s+x<B.length->B[s+x]? = N1 Pa
abbrev bM5(B B':List Bool):Prop:=B'.length=B.length/\∀j:Nat,B[j]? = N1 Pa->B'[j]? = N1 Pa
def bRB{B0:List Bool}{s:Nat}(h:bM5 B0 B)(h2:bM1 B s k)(hk:s+k<B.length):bM5 B0 (B.set (s+k) Pa)/\bM1 (B.set (s+k) Pa) s (k+1):=by
 refine⟨⟨by rw[CP];exact h.1,λj hj=>?_⟩,λx hx hl=>?_⟩
 .by_cases e:s+k=j
  .subst e;rw[BW hk]
  rw[CL e];exact h.2 j hj
 rw[CP]at hl;by_cases e:s+k=s+x
 .rw[<- e,BW hk]
 rw[CL e];exact h2 x omT hl
section
variable {A:af}{H:LO}{c:LN}
def bOI(hc:c.length<=9000000000){s:Nat}(hs:(bIE c)[i]? = N1 s)(hB:B.length=c.length){x2 x3:ah}(r13:ρ 13=.ptr H.length 1 0)(r24:ρ 24=.sr (H.length+1) 1 c.length)(r26:ρ 26=vi i)(r27:ρ 27=.sl Po (gZ (bJ8 c s)))(r33:ρ 33=vi 0){Q tg}(hQ:∀ρ' B',aLP bLk ρ ρ'->bM5 B B'->bM1 B' s 40->Q (.exit 4) ρ' (H++[.box 1 (bJP c (bIH c)),.vec 1 1 (B'.map bJS),x2,x3,x4]) []):wl A 224 (lwC H.length) bJL ρ (H++[.box 1 (bJP c (bIH c)),.vec 1 1 (B.map bJS),x2,x3,x4]) [] Q tg:=by
 have hsc:=bO8 (AN hs);have ot:((bIH c).map bF)[i]? = N1 [vi s]:=by rw[<- bKS,BN,hs];rfl
 refine bJ (id:=4) (λk ρ1 H1 wr=>wr=[]/\ρ1 33=vi k/\∃B',H1=H++[.box 1 (bJP c (bIH c)),.vec 1 1 (B'.map bJS),x2,x3,x4]/\bM5 B B'/\bM1 B' s k) 40
  (λρ1 H1 wr=>wr=[]/\∃B',H1=H++[.box 1 (bJP c (bIH c)),.vec 1 1 (B'.map bJS),x2,x3,x4]/\bM5 B B'/\bM1 B' s 40) bIv rfl ⟨rfl,r33,B,rfl,⟨rfl,λ_ h=>h⟩,λx hx=>omT⟩ ?_ ?_
 .rintro k ρ1 H1 dc zp ⟨rfl,e33,B',rfl,hm,ht⟩ hf;have f13:=(hf 13 rfl).trans r13;have f24:=(hf 24 rfl).trans r24;have f26:=(hf 26 rfl).trans r26;have f27:=(hf 27 rfl).trans r27;have w1:AR.wrap (s+k)=((s+k:Nat):Int):=by rw[wrap_i64 omT omT];omega
  have dy:=wS (i:=k) omT;cases d1:decide ((k:Int)<40)with
  |false=>
   have:k=40:=by simp at d1;omega
   subst this;simp only[go_sem,↓aB,seval,e33];exact⟨B',rfl,hm,ht⟩
  |true=>
   have hk:k<40:=by simp at d1;omega
   by_cases hlt:s+k<c.length
   .have d2:=decide_eq_true hlt;have hg:=bJx hlt;have hg4:(gZ (bJ8 c s))[k]? = N1 [.int .u8 (c[s+k]:Nat)]:=by rw[BN,bMv hk,AP hlt];rfl
    generalize c[s+k]=y at *;have Zn:=hm.1.trans hB;have Yu:s+k<B'.length:=omT;obtain⟨Ep,Iu⟩:=bRB hm ht Yu;have lg:(B'.map bJS).set (s+k) [.bool Pa]=(B'.set (s+k) Pa).map bJS:=(ME ..).symm;have Gt:(B'.map bJS)[s+k]? = N1 [.bool B'[s+k]]:=by rw[BN,AP Yu];rfl
    have zo:(B'.map bJS).length=c.length:=by rw[AF,Zn]
    have hyy:((y:Int) != y)=false:=siT;have Yd:((s+k:Nat):Int)<c.length:=omT;simp only[go_sem,↓aB,seval,e33,f13,f24,f26,d1,d2,ot,w1];refine aY (aq:=bJK) rfT rfT ?_;simp only[go_sem,↓aB,seval,bJK,bJJ,e33,f13,f24,f26,f27,ot,w1,hg,hg4,hyy,Gt,lg,zo,Yd,dy];exact⟨hk,_,rfl,Ep,Iu⟩
   have d2:=decide_eq_false hlt;simp only[go_sem,↓aB,seval,e33,f13,f24,f26,d1,d2,ot,w1];exact⟨B',rfl,hm,λx hx hl=>ht x (by rw[hm.1,hB]at hl;omega) hl⟩
 rintro ρ' H' ba ⟨rfl,B',rfl,hm,ht⟩ hf;exact hQ ρ' B' hf hm ht
def bRC(hc:c.length<=9000000000)(hB:B.length=c.length)(hS:∀s∈bIE c,bM1 B s 40){x2 x3:ah}(r13:ρ 13=.ptr H.length 1 0)(r24:ρ 24=.sr (H.length+1) 1 c.length)(r34:ρ 34=vi 0){Q tg}(hQ:∀ρ',aLP bLm ρ ρ'->Q (.exit 6) ρ' (H++[.box 1 (bJP c (bIH c)),.vec 1 1 (B.map bJS),x2,x3,x4]) []):wl A 224 (lwC H.length) bJN ρ (H++[.box 1 (bJP c (bIH c)),.vec 1 1 (B.map bJS),x2,x3,x4]) [] Q tg:=by
 refine bJ (id:=6) (λk ρ1 H1 wr=>wr=[]/\ρ1 34=vi k/\H1=H++[.box 1 (bJP c (bIH c)),.vec 1 1 (B.map bJS),x2,x3,x4]) c.length
  (λρ1 H1 wr=>wr=[]/\H1=H++[.box 1 (bJP c (bIH c)),.vec 1 1 (B.map bJS),x2,x3,x4]) bIv rfl ⟨rfl,r34,rfl⟩ ?_ ?_
 .rintro k ρ1 H1 dc zp ⟨rfl,e34,rfl⟩ hf;have f13:=(hf 13 rfl).trans r13;have f24:=(hf 24 rfl).trans r24;simp only[go_sem,↓aB,seval,e34,f24];refine aD (λe3=>?_) (λe3=>?_)
  .have hlt:k<c.length:=uWf
   have Yd:k<c.length:=omT;have dy:=wS (i:=k) omT;have hg:=bJx hlt;have Yu:k<B.length:=omT;have Gt:(B.map bJS)[k]? = N1 [.bool B[k]]:=by rw[BN,AP Yu];rfl
   have zo:(B.map bJS).length=c.length:=by rw[AF,hB]
   have hz:B[k]=Po->c[k]=0:=λhb=>by
    by_cases h0:c[k]=0
    .exact h0
    obtain⟨s,hs,h1,h2⟩:=bOO (AP hlt) h0;have:=hS s hs (k - s) omT omT;rw[Nat.add_sub_cancel' h1,AP Yu,hb]at this;cases this
   generalize B[k]=b at *;generalize c[k]=y at *;cases b with
   |true=>simp only[go_sem,↓aB,seval,e34,f24,Gt,zo,hlt,Yd,dy]
   |false=>have hy:=hz rfl;subst hy;simp only[go_sem,↓aB,seval,e34,f13,f24,Gt,zo,hlt,Yd,hg,dy]
  have:k=c.length:=by
   have:¬k<c.length:=uWf
   omega
  simp only[go_sem,seval]
 rintro ρ' H' ba ⟨rfl,rfl⟩ hf;exact hQ ρ' hf
end
abbrev bKd:=bTw 8 (bJ6 719615)
abbrev bKe:LN:=[]
abbrev bJ0:=bTw 8 (bJ6 785151)
abbrev bIR:LN:=[]
abbrev bKf:=bTw 8 (bJ6 11533055)
abbrev bKg:LN:=[1,6,11]
def bKh:=(.mk _:bb 8 (bIF 1791 [(702,.region Pa bKd),(766,.region Pa bJ0),(11262,.region Pa bKf)])).x
def bJu:=(.mk _:bb 8 (bIF 511 [(6,bKh)])).x
def bJQ:=(.mk _:bb 8 (bIC [(511,bJu)])).x
section
variable {A:af}
abbrev spK(H:LO)(c:LN)(st:List Int):AV->LO->LN->Prop:=λr H' wr=>wr=[]/\H'=H/\∃(c':LN)(st':List Int),r=.agg [.sl Po (gZ c'),.sl Po (st'.map bF)]/\c'.length<=c.length+1/\st'.length<=st.length+1
abbrev spC(n:Nat):Ctx:=⟨n,[4,8,17,9,22,32,60,62,84,96,51]⟩
def bP3(l:LN):((gZ l).all λr=>r.all AV.still)=true:=aT (bIy l)
def bM6(l:List Int):((l.map bF).all λr=>r.all AV.still)=true:=aT (aC aU l)
def bMI n(l:LN):eR n (gZ l)=true:=aA (bIy l)
def bKA n(l:List Int):eR n (l.map bF)=true:=aA (aC aU l)
inductive SpR(n:Nat)(c:LN)(k:Nat):AV->ah->AV->ah->Prop
 |no (x4 x5:ah):c=[]->SpR n c k (.sl Pa []) x4 (.sl Pa []) x5
 |all (v:Nat) (x5:ah):c≠[]->k=c.length->SpR n c k (.sr (n+4) v c.length) (.vec v 1 (gZ c)) (.sl Pa []) x5
 |some (v v5:Nat):k<c.length->SpR n c k (.sr (n+4) v c.length) (.vec v 1 (gZ c)) (.sr (n+5) v5 (c.length - k)) (.vec v5 1 (gZ (c.drop k)))
abbrev spH(H:LO)(c:LN)(st:List Int)(vc vs:AV)(xs x4 x5:ah):LO:=H++[.box 1 (bJP c st),.box 1 [.sl Pa [],.sl Pa []],xs,.box 1 [vc,vs],x4,x5,.gone 0,.gone 0,.gone 0,.gone 0,.gone 0]
def bNK{v:Nat}{l:LN}{x:AV}(ho:X[o]? = N1 (.vec v 1 (gZ c)))(hk:k<=c.length)(hx:bIz X x=N1 (gZ l))(hr:k+l.length<=100000000000)(site:Option Nat):eX X site 1 1 (.srw o v c.length k) x=N1 (.sr o (v+1) (k+l.length),X.set o (.vec (v+1) 1 (gZ (c.take k++l))),[o]):=by
 have ed:bP (k+l.length) 1=true:=by unfold bP;simp;omega
 have hm:gZ (c.take k++l)=(gZ c).take k++gZ l:=by unfold gZ;rw[DQ,Pu]
 unfold eX;rw[hx,hm];simp only[bIK,BT,BX,Vt,ho,AF];rw[Vx ⟨trivial,trivial,trivial,hk,ed⟩]
def bP4(ha:qK A){st:List Int}(hc:c.length<=9000000000)(hs:st.length<=9000000000){at' X9 by':Int}(h1:eA at')(h2:eA X9)(h3:eA by'){y:Nat}(hk:k<=c.length){vc vs v12:AV}{xs x5:ah}(hR:SpR H.length c k vc x4 v12 x5)(hG:ew (H.length+2) 1 (st.map bF) vs xs)(r1:ρ 1=vi at')(r2:ρ 2=vi X9)(r3:ρ 3=vi by')(r8:ρ 8=.ptr (H.length+1) 1 0)(r9:ρ 9=.ptr (H.length+3) 1 0)(r10:ρ 10=vc)(r11:ρ 11=vi k)(r12:ρ 12=v12)(r13:ρ 13=.int .u8 y):wc A 133 (spC H.length) bJu ρ (spH H c st vc vs xs x4 x5) [] (aRz H.length [.cell 8 2 Pa] (spK H c st) ⟨⟩) ⟨⟩:=by
 obtain⟨w0,w1⟩:=kV h2 (m:=7) omT;have ha7:=λH=>ha X9 7 H;generalize bu X9 7=w at *;simp only[bJu,spH];have qw:dU 0 N2 (N1 (vi 0)) N2=N1 (0,0,0):=rfl;have Xi:=hG.ak;have hgs1:=hG.aj;have hw:w=0∨w=1∨w=2∨w=3∨w=4∨w=5∨w=6:=omT;simp only[go_sem,↓aB,seval,r2,ha7];simp only[bKh];have hb:dU c.length N2 (N1 (vi k)) N2=N1 (0,k,c.length):=by have h1:(0:Int)<=(k:Nat)/\((k:Nat):Int)<=(c.length:Nat):=omT;simp[dU,iL,h1]
 have pk:(gZ c).take k=gZ (c.take k):=(Pu ..).symm;have Gx:∀a b:LN,gZ a++gZ b=gZ (a++b):=λa b=>(DQ ..).symm;have ud:∀(a:LN)(b:Nat),gZ a++[[AV.int .u8 (b:Nat)]]=gZ (a++[b]):=λa b=>by simp
 have ru:=bP3;have Xj:=bMI;have his:=bM6 st;have Xf:=λn=>bKA n st;have hid:=aC aU st;generalize Wb:st.map bF=RR at *;obtain⟨fs,ls,os,qe,iq,yz⟩:=hG.dw hid;have q1:∀a b L,aA2 (H++a::b::xs::L) vs=N1 (.sl fs RR,ls):=λa b L=>qe _ (by rw[bX];rfl);have q2:∀a b L,dL (H++a::b::xs::L) ls=H++a::b::os::L:=λa b L=>by rw[iq _ (by rw[bX];rfl),eS];rfl
 have q3:∀wr,bE H.length wr ls=wr:=λwr=>yz _ _ omT;have gj:bP 1 1=true:=deT;have hrc:bP (k+1+(c.length - k)) 1=true:=by unfold bP;simp;omega
 have yg:bP (k+1) 1=true:=by unfold bP;simp;omega
 have hne5:k<c.length->(gZ (c.drop k)).isEmpty=false:=λh=>by rw[Ad];intro h2;simp at h2;omega
 have hltk:(c.take k).length=k:=by rw[HB,Gy hk]
 have hl1k:(c.take k++[y]).length=k+1:=by rw[BA,HB,Gy hk];rfl
 rcases hw with rfl|rfl|rfl|rfl|rfl|rfl|rfl
 .cases hR with
  |no x4 x5 jg=>
   subst jg;have Rj:k=0:=uWs
   subst Rj;simp only[go_sem,↓aB,seval,r8,r9,r10,r11,r12,r13,qw,gj,Xi,q1,q2,q3,Xf];exact⟨rfl,rfl,[y],st,by rw[Wb];rfl,siT,omT⟩
  |all v x5 jg Rj=>
   have dy:eX (H++[.box 1 (bJP c st),.box 1 [.sl Pa [],.sl Pa []],xs,.box 1 [.sr (H.length+4) v c.length,vs],.vec v 1 (gZ c),x5,.gone 0,.gone 0,.gone 0,.gone 0,.gone 0]) (N1 (H.length+6)) 1 1 (.srw (H.length+4) v c.length k) (.sl Pa [[.int .u8 y]])=N1 (.sr (H.length+4) (v+1) (k+1),(H++[.box 1 (bJP c st),.box 1 [.sl Pa [],.sl Pa []],xs,.box 1 [.sr (H.length+4) v c.length,vs],.vec (v+1) 1 (gZ (c.take k++[y])),x5,.gone 0,.gone 0,.gone 0,.gone 0,.gone 0]),[H.length+4]):=by rw[bNK (l:=[y]) (by rw[bX];rfl) hk rfl soT,eS];rfl
   generalize c.take k++[y]=c1 at *;simp only[go_sem,↓aB,seval,r8,r9,r10,r11,r12,r13,Xi,q1,q2,q3,Xf,hb,ru,Xj,dy,hl1k,yg];exact⟨rfl,rfl,c1,st,uWF,omT,omT⟩
  |some v v5 Rj=>
   have dy:eX (H++[.box 1 (bJP c st),.box 1 [.sl Pa [],.sl Pa []],xs,.box 1 [.sr (H.length+4) v c.length,vs],.vec v 1 (gZ c),(.vec v5 1 (gZ (c.drop k))),.gone 0,.gone 0,.gone 0,.gone 0,.gone 0]) (N1 (H.length+6)) 1 1 (.srw (H.length+4) v c.length k) (.sl Pa [[.int .u8 y]])=N1 (.sr (H.length+4) (v+1) (k+1),(H++[.box 1 (bJP c st),.box 1 [.sl Pa [],.sl Pa []],xs,.box 1 [.sr (H.length+4) v c.length,vs],.vec (v+1) 1 (gZ (c.take k++[y])),(.vec v5 1 (gZ (c.drop k))),.gone 0,.gone 0,.gone 0,.gone 0,.gone 0]),[H.length+4]):=by rw[bNK (l:=[y]) (by rw[bX];rfl) hk rfl soT,eS];rfl
   generalize c.take k++[y]=c1 at *;have hne5:=hne5 Rj;simp only[go_sem,↓aB,seval,r8,r9,r10,r11,r12,r13,Xi,q1,q2,q3,Xf,hb,hrc,Gx,ru,Xj,dy,hl1k,hne5,bIK,NS];exact⟨rfl,rfl,c1++c.drop k,st,uWF,soT,omT⟩
 .cases hR with
  |no x4 x5 jg=>
   subst jg;have Rj:k=0:=uWs
   subst Rj;simp only[go_sem,↓aB,seval,r8,r9,r12,Xi,q1,q2,q3,Xf];exact⟨rfl,rfl,[],st,by rw[Wb];rfl,siT,omT⟩
  |all v x5 jg Rj=>simp only[go_sem,↓aB,seval,r8,r9,r12,Xi,q1,q2,q3,Xf,ru,Xj];exact⟨rfl,rfl,c,st,uWF,omT,omT⟩
  |some v v5 Rj=>have d1:decide (((c.length - k:Nat):Int)>0)=true:=soT;have hg:=bJx Rj;have hk0I:(k:Int)<c.length:=omT;have hcs1:(gZ c).set k [.int .u8 y]=gZ (c.set k y):=(ME ..).symm;have G6:(c.set k y).length=c.length:=CP ..;simp only[go_sem,↓aB,seval,r8,r9,r11,r12,r13,Xi,q1,q2,q3,Xf,ru,Xj,d1,hg,hk0I,hcs1,G6];exact⟨rfl,rfl,c.set k y,st,uWF,by rw[G6];omega,omT⟩
 .cases hR with
  |no x4 x5 jg=>
   subst jg;have Rj:k=0:=uWs
   subst Rj;simp only[go_sem,↓aB,seval,r8,r9,r12,Xi,q1,q2,q3,Xf];exact⟨rfl,rfl,[],st,by rw[Wb];rfl,siT,omT⟩
  |all v x5 jg Rj=>simp only[go_sem,↓aB,seval,r8,r9,r12,Xi,q1,q2,q3,Xf,ru,Xj];exact⟨rfl,rfl,c,st,uWF,omT,omT⟩
  |some v v5 Rj=>
   have d1:decide (((c.length - k:Nat):Int)>0)=true:=soT;have fo:dU (c.length - k) (N1 (vi 1)) N2 N2=N1 (1,c.length - k,c.length - k):=by have h1:(0:Int)<=1/\(1:Int)<=(c.length - k:Nat):=omT;simp[dU,iL,h1]
   have hdd:(gZ (c.drop k)).drop 1=gZ ((c.drop k).drop 1):=(Ak ..).symm;have dy:eX (H++[.box 1 (bJP c st),.box 1 [.sl Pa [],.sl Pa []],xs,.box 1 [.sr (H.length+4) v c.length,vs],.vec v 1 (gZ c),(.vec v5 1 (gZ (c.drop k))),.gone 0,.gone 0,.gone 0,.gone 0,.gone 0]) (N1 (H.length+8)) 1 1 (.srw (H.length+4) v c.length k) (.srv (H.length+5) v5 (c.length - k) 1 1)=N1 (.sr (H.length+4) (v+1) (k+((c.drop k).drop 1).length),(H++[.box 1 (bJP c st),.box 1 [.sl Pa [],.sl Pa []],xs,.box 1 [.sr (H.length+4) v c.length,vs],.vec (v+1) 1 (gZ (c.take k++(c.drop k).drop 1)),(.vec v5 1 (gZ (c.drop k))),.gone 0,.gone 0,.gone 0,.gone 0,.gone 0]),[H.length+4]):=by
    rw[bNK (l:=(c.drop k).drop 1) (by rw[bX];rfl) hk (by
     simp only[bIz,dO,bX,CT,BG,AF,NS,and_self,Vu,hdd]) soT,eS]
    rfl
   simp only[go_sem,↓aB,seval,r12,d1];refine aY (aq:=bKe) rfT rfT ?_;simp only[go_sem,↓aB,seval,bKe,bKd,r8,r9,r10,r11,r12,Xi,q1,q2,q3,Xf,hb,ru,Xj,fo,dy,hltk];exact⟨rfl,rfl,c.take k++(c.drop k).drop 1,st,uWF,soT,omT⟩
 .have S2:∀n:Nat,n<=100000000000->kJ .quo .no (vi n) (vi 2)=N1 (vi (n / 2:Nat)):=λn hn=>by
   show kJ .quo .no (.int .i64 n) (vi 2)=_;have e:((n:Int).tdiv 2)=((n / 2:Nat):Int):=by rw[Int.tdiv_eq_ediv_of_nonneg omT];rfl
   rw[aAl deT,e,wrap_i64 omT omT]
  have hq0:kJ .quo .no z0 (vi 2)=N1 z0:=S2 0 omT;cases hR with
  |no x4 x5 jg=>
   subst jg;have Rj:k=0:=uWs
   subst Rj;simp only[go_sem,↓aB,seval];refine aY (aq:=bIR) rfT rfT ?_;simp only[go_sem,↓aB,seval,bIR,bJ0,hq0,r8,r9,r10,r11,r12,qw,Xi,q1,q2,q3,Xf];exact⟨rfl,rfl,[],st,by rw[Wb];rfl,siT,omT⟩
  |all v x5 jg Rj=>
   have dy:eX (H++[.box 1 (bJP c st),.box 1 [.sl Pa [],.sl Pa []],xs,.box 1 [.sr (H.length+4) v c.length,vs],.vec v 1 (gZ c),x5,.gone 0,.gone 0,.gone 0,.gone 0,.gone 0]) (N1 (H.length+9)) 1 1 (.srw (H.length+4) v c.length k) (.sl Pa [])=N1 (.sr (H.length+4) (v+1) k,(H++[.box 1 (bJP c st),.box 1 [.sl Pa [],.sl Pa []],xs,.box 1 [.sr (H.length+4) v c.length,vs],.vec (v+1) 1 (gZ (c.take k)),x5,.gone 0,.gone 0,.gone 0,.gone 0,.gone 0]),[H.length+4]):=by rw[bNK (l:=[]) (by rw[bX];rfl) hk rfl soT,eS,AJ];rfl
   simp only[go_sem,↓aB,seval];refine aY (aq:=bIR) rfT rfT ?_;simp only[go_sem,↓aB,seval,bIR,bJ0,hq0,r8,r9,r10,r11,r12,qw,Xi,q1,q2,q3,Xf,hb,ru,Xj,dy,hltk];exact⟨rfl,rfl,c.take k,st,uWF,omT,omT⟩
  |some v v5 Rj=>
   have fo:dU (c.length - k) N2 (N1 (vi ((c.length - k) / 2:Nat))) N2=N1 (0,(c.length - k) / 2,c.length - k):=by have h1:(0:Int)<=((c.length - k) / 2:Nat)/\(((c.length - k) / 2:Nat):Int)<=(c.length - k:Nat):=omT;simp only[dU,iL,h1,and_self,Vu,AT]
   have hh2:(c.length - k) / 2<=c.length - k:=omT;have htt:(gZ (c.drop k)).take ((c.length - k) / 2)=gZ ((c.drop k).take ((c.length - k) / 2)):=(Pu ..).symm;have dy:eX (H++[.box 1 (bJP c st),.box 1 [.sl Pa [],.sl Pa []],xs,.box 1 [.sr (H.length+4) v c.length,vs],.vec v 1 (gZ c),(.vec v5 1 (gZ (c.drop k))),.gone 0,.gone 0,.gone 0,.gone 0,.gone 0]) (N1 (H.length+9)) 1 1 (.srw (H.length+4) v c.length k) (.srw (H.length+5) v5 (c.length - k) ((c.length - k) / 2))=N1 (.sr (H.length+4) (v+1) (k+((c.drop k).take ((c.length - k) / 2)).length),(H++[.box 1 (bJP c st),.box 1 [.sl Pa [],.sl Pa []],xs,.box 1 [.sr (H.length+4) v c.length,vs],.vec (v+1) 1 (gZ (c.take k++(c.drop k).take ((c.length - k) / 2))),(.vec v5 1 (gZ (c.drop k))),.gone 0,.gone 0,.gone 0,.gone 0,.gone 0]),[H.length+4]):=by
    rw[bNK (l:=(c.drop k).take ((c.length - k) / 2)) (by rw[bX];rfl) hk (by
     simp only[bIz,dO,bX,CT,BG,AF,NS,hh2,and_self,Vu,htt]) soT,eS]
    rfl
   have hq:=S2 (c.length - k) omT;simp only[go_sem,↓aB,seval];refine aY (aq:=bIR) rfT rfT ?_;simp only[go_sem,↓aB,seval,bIR,bJ0,r8,r9,r10,r11,r12,Xi,q1,q2,q3,Xf,hb,ru,Xj,hq,fo,dy,hltk];exact⟨rfl,rfl,c.take k++(c.drop k).take ((c.length - k) / 2),st,uWF,soT,omT⟩
 .have Xg:ew (H.length+4) 1 (gZ c) vc x4:=by
   cases hR with
   |no x4 x5 h=>subst h;exact .nil _
   |all v x5 h1 h2=>exact (AF bNc:(c.map bNc).length=c.length) ▸ .obj v (gZ c)
   |some v v5 h1=>exact (AF bNc:(c.map bNc).length=c.length) ▸ .obj v (gZ c)
  obtain⟨fc,lc,oc,m1,m2,m3⟩:=Xg.dw (bIy c);have p1:∀a b d e L,aA2 (H++a::b::d::e::x4::L) vc=N1 (.sl fc (gZ c),lc):=λa b d e L=>m1 _ (by rw[bX];rfl);have p2:∀a b d e L l2,dL (H++a::b::d::e::x4::L) (lc++l2)=dL (H++a::b::d::e::oc::L) l2:=λa b d e L l2=>by rw[uM,m2 _ (by rw[bX];rfl),eS];rfl
  have p3:∀wr l2,bE H.length wr (lc++l2)=bE H.length wr l2:=λwr l2=>by rw[aAS,m3 _ _ omT]
  have E4:=Xg.len;rw[AF]at E4;have Um:=Xg.ak;have hgc1:=Xg.aj;cases hG with
  |nil=>simp only[go_sem,↓aB,seval,r8,r9,Xi,q1,q2,q3,Xf,p1,p2,p3,Um,Xj];exact⟨rfl,rfl,c,st,uWF,omT,omT⟩
  |obj vr=>
   simp only[go_sem,↓aB,seval,r9];have J2:RR.length=st.length:=by rw[<- Wb,AF]
   refine aD (λe3=>?_) (λe3=>?_)
   .have hn:0<st.length:=by rw[<- J2];simpa using e3
    obtain⟨i0,i1⟩:=kV h1 (m:=(st.length:Int)) omT;have hai:=λX=>ha at' (st.length:Int) X;have haz:=λX=>ha by' ((c.length:Int)+2) X
    have hwz:AR.wrap ((c.length:Int)+2)=(c.length:Int)+2:=wrap_i64 omT omT;generalize bu by' ((c.length:Int)+2)=zz at *
    generalize bu at' (st.length:Int)=iI at *;obtain⟨i,rfl⟩:=DN i0;have hlt:i<RR.length:=omT;have Yd:(i:Int)<st.length:=omT;have lg:RR.set i [vi (AR.wrap (zz - 1))]=(st.set i (AR.wrap (zz - 1))).map bF:=by rw[<- Wb,ME];rfl
    have hgw:(st.map bF)[i]? = N1 [vi (st[i]'omT)]:=by rw[BN,AP omT];rfl
    rw[Wb]at hgw;have Wy:=bM6 (st.set i (AR.wrap (zz - 1)));have iq:((st.set i (AR.wrap (zz - 1))).map bF).length=RR.length:=by rw[AF,CP,J2]
    have yz:(st.set i (AR.wrap (zz - 1))).length<=st.length+1:=by rw[CP];omega
    generalize hR2:(st.set i (AR.wrap (zz - 1))).map bF=R2 at *;have hiu2:∀n,eR n R2=true:=λn=>by rw[<- hR2];exact bKA n _
    refine aY (aq:=bKg) rfT rfT ?_;rw[J2]at iq;simp only[go_sem,↓aB,seval,bKg,bKf,r1,r3,r8,r9,r10,hiu2,Wy,iq,p1,p2,p3,E4,Um,Xj,J2,hai,haz,hwz,Yd,hgw,lg,eH,dG,aL];exact⟨rfl,rfl,c,_,by rw[hR2],omT,yz⟩
   have hn:RR=[]:=by
    have:¬(0:Int)<RR.length:=uWf
    exact DP omT
   simp only[go_sem,↓aB,seval,r8,r9,Xi,q1,q2,q3,Xf,p1,p2,p3,Um,Xj];exact⟨rfl,rfl,c,st,uWF,omT,omT⟩
 .have Xg:ew (H.length+4) 1 (gZ c) vc x4:=by
   cases hR with
   |no x4 x5 h=>subst h;exact .nil _
   |all v x5 h1 h2=>exact (AF bNc:(c.map bNc).length=c.length) ▸ .obj v (gZ c)
   |some v v5 h1=>exact (AF bNc:(c.map bNc).length=c.length) ▸ .obj v (gZ c)
  obtain⟨fc,lc,oc,m1,m2,m3⟩:=Xg.dw (bIy c);have p1:∀a b d e L,aA2 (H++a::b::d::e::x4::L) vc=N1 (.sl fc (gZ c),lc):=λa b d e L=>m1 _ (by rw[bX];rfl);have p2:∀a b d e L l2,dL (H++a::b::d::e::x4::L) (lc++l2)=dL (H++a::b::d::e::oc::L) l2:=λa b d e L l2=>by rw[uM,m2 _ (by rw[bX];rfl),eS];rfl
  have p3:∀wr l2,bE H.length wr (lc++l2)=bE H.length wr l2:=λwr l2=>by rw[aAS,m3 _ _ omT]
  have E4:=Xg.len;rw[AF]at E4;have Um:=Xg.ak;have hgc1:=Xg.aj;cases hG with
  |nil=>simp only[go_sem,↓aB,seval,r8,r9,Xi,q1,q2,q3,Xf,p1,p2,p3,Um,Xj];exact⟨rfl,rfl,c,st,uWF,omT,omT⟩
  |obj vr=>
   simp only[go_sem,↓aB,seval,r9];have J2:RR.length=st.length:=by rw[<- Wb,AF]
   refine aD (λe3=>?_) (λe3=>?_)
   .have hn:0<st.length:=by rw[<- J2];simpa using e3
    have Au:AR.wrap ((st.length:Int) - 1)=((st.length - 1:Nat):Int):=by rw[wrap_i64 omT omT];omega
    have hb5:dU st.length N2 (N1 (vi (st.length - 1:Nat))) N2=N1 (0,st.length - 1,st.length):=by have h1:(0:Int)<=(st.length - 1:Nat)/\(((st.length - 1:Nat):Int))<=(st.length:Nat):=omT;simp only[dU,iL,h1,and_self,Vu,AT]
    have hh5:dF 1 RR=true:=by rw[<- Wb];cases st<;>rfl
    have ht5:RR.take (st.length - 1)=(st.take (st.length - 1)).map bF:=by rw[<- Wb,Pu]
    have Wy:=bM6 (st.take (st.length - 1));have hsu2:=λn=>bKA n (st.take (st.length - 1));have ym:(st.take (st.length - 1)).length<=st.length+1:=soT;generalize hR2:(st.take (st.length - 1)).map bF=R2 at *;simp only[go_sem,↓aB,seval,r8,r9,p1,p2,p3,Xj,J2,Au,hb5,hh5,ht5,hsu2,his,CJ];exact⟨rfl,rfl,c,st.take (st.length - 1),by rw[hR2],omT,ym⟩
   have hn:RR=[]:=by
    have:¬(0:Int)<RR.length:=uWf
    exact DP omT
   simp only[go_sem,↓aB,seval,r8,r9,Xi,q1,q2,q3,Xf,p1,p2,p3,Um,Xj];exact⟨rfl,rfl,c,st,uWF,omT,omT⟩
 have Xg:ew (H.length+4) 1 (gZ c) vc x4:=by
  cases hR with
  |no x4 x5 h=>subst h;exact .nil _
  |all v x5 h1 h2=>exact (AF bNc:(c.map bNc).length=c.length) ▸ .obj v (gZ c)
  |some v v5 h1=>exact (AF bNc:(c.map bNc).length=c.length) ▸ .obj v (gZ c)
 obtain⟨fc,lc,oc,m1,m2,m3⟩:=Xg.dw (bIy c);have p1:∀a b d e L,aA2 (H++a::b::d::e::x4::L) vc=N1 (.sl fc (gZ c),lc):=λa b d e L=>m1 _ (by rw[bX];rfl);have p2:∀a b d e L l2,dL (H++a::b::d::e::x4::L) (lc++l2)=dL (H++a::b::d::e::oc::L) l2:=λa b d e L l2=>by rw[uM,m2 _ (by rw[bX];rfl),eS];rfl
 have p3:∀wr l2,bE H.length wr (lc++l2)=bE H.length wr l2:=λwr l2=>by rw[aAS,m3 _ _ omT]
 have E4:=Xg.len;rw[AF]at E4;have Um:=Xg.ak;have hgc1:=Xg.aj;have hwm:∃z:Int,AR.wrap ((c.length:Int) - 1)=z:=⟨_,rfl⟩;obtain⟨z,hz⟩:=hwm;cases hG with
 |nil=>have hr8':bP 1 8=true:=deT;simp only[go_sem,↓aB,seval,r8,r9,r10,Xf,p1,p2,p3,E4,Um,Xj,hz,hr8'];exact⟨rfl,rfl,c,[z],rfl,omT,siT⟩
 |obj vr=>
  have J2:RR.length=st.length:=by rw[<- Wb,AF]
  have hr8':bP (st.length+1) 8=true:=by unfold bP;simp;omega
  have Wy:=bM6 (st++[z]);have hsu2:=λn=>bKA n (st++[z]);have he2:RR++[[AV.int .i64 z]]=(st++[z]).map bF:=by rw[DQ,Wb];rfl
  have ym:((st++[z]).map bF).length=st.length+1:=siT;generalize hR2:(st++[z]).map bF=R2 at *;simp only[go_sem,↓aB,seval,r8,r9,r10,p1,p2,p3,E4,Um,Xj,hz,hr8',J2,he2,ym,Wy,hsu2];exact⟨rfl,rfl,c,st++[z],by rw[hR2],omT,siT⟩
def aMq(h:Has A 8 bJQ)(ha:qK A)(c:LN)(st:List Int)(hc:c.length<=9000000000)(hs:st.length<=9000000000){at' X9 by':Int}(h1:eA at')(h2:eA X9)(h3:eA by')(H:LO):∃r H' wr,aG A 8 [.agg (bJP c st),vi at',vi X9,vi by'] H=N1 (r,H',wr)/\spK H c st r H' wr:=by
 refine h.bp (args:=[.agg (bJP c st),vi at',vi X9,vi by']) (H:=H) ?_;obtain⟨k0,k1⟩:=kV h1 (m:=(c.length:Int)+1) omT;obtain⟨b0,b1⟩:=kV h3 (m:=66) omT;obtain⟨j0,j1⟩:=kV h3 (m:=6) omT;obtain⟨w0,w1⟩:=kV h2 (m:=7) omT;have ha66:=λH=>ha by' 66 H
 have ha6:=λH=>ha by' 6 H
 have ha7:=λH=>ha X9 7 H;have hak:=λH=>ha at' ((c.length:Int)+1) H;have pg:AR.wrap ((c.length:Int)+1)=(c.length:Int)+1:=wrap_i64 omT omT;generalize bu by' 66=b66 at *
 generalize bu by' 6=b6 at *
 generalize bu X9 7=w at *;generalize bu at' ((c.length:Int)+1)=kI at *;obtain⟨k,rfl⟩:=DN k0;obtain⟨b,rfl⟩:=DN b0;obtain⟨j,rfl⟩:=DN j0;have Kw:∀HH,pT HH (.toInt .u8) (vi (b:Nat))=N1 (.int .u8 b):=λHH=>by
  show N1 (AV.int .u8 (KD.wrap b))=_;rw[aQh omT omT]
 have hsel:∃y:Nat,([[AV.int .u8 0],[.int .u8 63],[.int .u8 17],[.int .u8 5],[.int .u8 6],[.int .u8 b]]:List LA)[j]? = N1 [.int .u8 y]:=by
  have:j=0∨j=1∨j=2∨j=3∨j=4∨j=5:=omT;rcases this with rfl|rfl|rfl|rfl|rfl|rfl
  .exact⟨0,rfl⟩
  .exact⟨63,rfl⟩
  .exact⟨17,rfl⟩
  .exact⟨5,rfl⟩
  .exact⟨6,rfl⟩
  exact⟨b,rfl⟩
 obtain⟨y,hy⟩:=hsel;simp only[bJQ];obtain⟨vs,xs,ws,Yv,happs,zh⟩:=(ew.nil (.gone 0):ew (H.length+2) 1 [] _ _).appE (new:=st.map bF) (bytes:=8) (by cases st<;>rfl) soT;rw[CW]at Yv;have hss:∀x0 x1,eX (H++[x0,x1,.gone 0,.gone 0,.gone 0,.gone 0,.gone 0,.gone 0,.gone 0,.gone 0,.gone 0]) (N1 (H.length+2)) 1 8 (.sl Pa []) (.sl Po (st.map bF))=N1 (vs,H++[x0,x1,xs,.gone 0,.gone 0,.gone 0,.gone 0,.gone 0,.gone 0,.gone 0,.gone 0],ws):=λx0 x1=>by
  rw[happs _ _ (by rw[bX];rfl),eS];rfl
 have hws0:=λw=>zh H.length w omT;have Hr:=Yv.len;rw[AF]at Hr;by_cases jg:c=[]
 .subst jg;have Rj:k=0:=by simp at k1;omega
  subst Rj;have qw:dU 0 (N1 (vi 0)) N2 N2=N1 (0,0,0):=rfl;have hw10:AR.wrap 1=1:=wrap_i64 omT omT;have hak0:∀X,aG A 23 [.int .i64 at',.int .i64 1] X=N1 (vi 0,X,[]):=hak;simp only[go_sem,↓aB,seval,qw,hw10,hak0,hss,hws0,ha66,ha6,Kw,hy,Yv.aj,Yv.ak];refine bP4 (y:=y) ha hc hs h1 h2 h3 (AQ _) (.no _ _ rfl) Yv ?_ ?_ ?_ ?_ ?_ ?_ ?_ ?_ ?_
  .rfl
  .rfl
  .rfl
  .rfl
  .rfl
  .rfl
  .rfl
  .rfl
  rfl
 obtain⟨vc,xc,Xg,Zw⟩:=(ew.nil (.gone 0):ew (H.length+4) 1 [] _ _).app (new:=gZ c) (bytes:=1) (by simpa using jg) (bIK c) soT;rw[CW]at Xg;obtain⟨vr,rfl,rfl⟩:=Xg.inv (by simpa using jg);rw[AF]at Zw;have X7:∀x0 x1 x3,eX (H++[x0,x1,xs,x3,.gone 0,.gone 0,.gone 0,.gone 0,.gone 0,.gone 0,.gone 0]) (N1 (H.length+4)) 1 1 (.sl Pa []) (.sl Po (gZ c))=N1 (.sr (H.length+4) vr c.length,H++[x0,x1,xs,x3,.vec vr 1 (gZ c),.gone 0,.gone 0,.gone 0,.gone 0,.gone 0,.gone 0],[H.length+4]):=λx0 x1 x3=>by
  rw[Zw _ _ (by rw[bX];rfl),eS];rfl
 have dx:dU c.length (N1 (vi k)) N2 N2=N1 (k,c.length,c.length):=by have h1:(0:Int)<=(k:Nat)/\((k:Nat):Int)<=(c.length:Nat):=omT;simp only[dU,iL,h1,and_self,Vu,AT]
 have hdk:(gZ c).drop k=gZ (c.drop k):=(Ak ..).symm;by_cases zp:k=c.length
 .have hdn:c.drop k=[]:=DH omT;rw[hdn]at hdk;simp only[go_sem,↓aB,seval,X7,dx,hdk,hss,hws0,pg,hak,ha66,ha6,Kw,hy,Yv.aj,Yv.ak];refine bP4 (y:=y) ha hc hs h1 h2 h3 omT (.all _ _ jg zp) Yv ?_ ?_ ?_ ?_ ?_ ?_ ?_ ?_ ?_
  .rfl
  .rfl
  .rfl
  .rfl
  .rfl
  .rfl
  .rfl
  .rfl
  rfl
 have hdn:(gZ (c.drop k)).isEmpty=false:=by rw[Ad];intro h2;simp at h2;omega
 have hr:bP (c.length - k) 1=true:=by unfold bP;simp;omega
 simp only[go_sem,↓aB,seval,X7,dx,hdk,hdn,hr,bIK,NS,hss,hws0,pg,hak,ha66,ha6,Kw,hy,Yv.aj,Yv.ak];refine bP4 (y:=y) ha hc hs h1 h2 h3 omT (.some _ _ omT) Yv ?_ ?_ ?_ ?_ ?_ ?_ ?_ ?_ ?_
 .rfl
 .rfl
 .rfl
 .rfl
 .rfl
 .rfl
 .rfl
 .rfl
 rfl
end
def bJR:=(.mk _:bb 11 bTx).x
def bJq:=(.mk _:bb 7 bTx).x
section
variable {A:af}{H:LO}{c:LN}
def bRD(h:Has A 11 bJR)(c:LN)(st:List Int)(H:LO):aG A 11 [.agg (bJP c st)] H=N1 (.agg (bJP c st),H,[]):=by refine h.call ?_;simp only[bJR];have h1:=bMI H.length c;have h2:=bKA H.length st;simp only[go_sem,↓aB,seval,h1,h2]
def bPU(h:Has A 7 bJq)(c:LN)(st:List Int)(H:LO):aG A 7 [.agg (bJP c st)] H=N1 (.agg (bJP c st),H,[]):=by refine h.call ?_;simp only[bJq];have h1:=bMI H.length c;have h2:=bKA H.length st;simp only[go_sem,↓aB,seval,h1,h2]
structure Wm(A:af):Prop where
 f:u4 A
 Wq:bPC A
 Yw:∀(c:LN)(st ks:List Int)(H:LO),c.length<=10000000000->st.length<=10000000000->ks.length<=10000000000 ->
  aG A 12 [.agg (bJP c st),.sl Po (ks.map bF)] H=N1 (.tup [.sl Po (gZ (bLi c st ks).1),vi (bLi c st ks).2.1,vi (bLi c st ks).2.2],H,[])
 own:Has A 11 bJR
 plain:Has A 7 bJq
def bQT(F:Wm A){rows:List LA}(E7:ks.length<=20)(hr:∀k<3,∃(c:LN)(st:List Int)(f:Bool),rows[k]? = N1 [.sl f (gZ c),.sl f (st.map bF)]/\c.length<=9000000001/\st.length<=9000000001){fl:Bool}(r15:ρ 15=.sl fl rows)(r16:ρ 16=.sl Po (ks.map bF))(r17:ρ 17=vi 0){Q tg}(hQ:∀ρ',aLP bLj ρ ρ'->Q (.exit 0) ρ' X []):wl A 224 (lwC H.length) bJI ρ X [] Q tg:=by
 refine bJ (id:=0) (λk ρ1 H1 wr=>wr=[]/\ρ1 17=vi k/\H1=X) 3
  (λρ1 H1 wr=>wr=[]/\H1=X) bIv rfl ⟨rfl,r17,rfl⟩ ?_ ?_
 .rintro k ρ1 H1 dc zp ⟨rfl,e17,rfl⟩ hf;have f15:=(hf 15 rfl).trans r15;have f16:=(hf 16 rfl).trans r16;simp only[go_sem,↓aB,seval,e17];refine aD (λe3=>?_) (λe3=>?_)
  .have hlt:k<3:=by simp at e3;omega
   have dy:=wS (i:=k) omT;obtain⟨c,st,f,hg,h1,h2⟩:=hr k hlt;have ho:=bRD F.own c st H1;have hs:=F.Wq c st ks (.sl Po (ks.map bF)) H1 omT omT omT (.sl Po);have sy:=F.Yw c st ks H1 omT omT omT;have qe:(bLi c st ks).1.length<=100000000000:=by
    unfold bLi;split
    .split
     .unfold bJk;split
      .rw[bIN];omega
      rw[MI];omega
     simp
    simp
   have hsm:=bPO F.f.same (bLi c st ks).1 (bLi c st ks).1 qe H1;generalize bLi c st ks=V at *;obtain⟨V1,V2,V3⟩:=V;have n2:(V2 != V2)=false:=siT;have n3:(V3 != V3)=false:=siT;simp only[go_sem,↓aB,seval,e17,f15,f16,hg,ho,hs,sy,hsm,n2,n3,dy];exact hlt
  have:k=3:=by simp at e3;omega
  simp only[go_sem,seval]
 rintro ρ' H' ba ⟨rfl,rfl⟩ hf;exact hQ ρ' hf
def bPD{c:LN}(hb:bRb c=Po)(hk:ks.all okK=Pa):bLi c (bIH c) ks=(bJk c (bL8 (bIE c).length ks),bL8 (bIE c).length ks,0):=by
 have h0:bKT c (bIH c)=0:=by unfold bKT;rw[hb];simp
 unfold bLi;rw[Vx h0,Vx hk,AF]
def bQU k:(AX k 1).all okK=true:=by rw[AO];intro x hx;rw[(List.mem_replicate.1 hx).2];rfl
def bQV{c:LN}(hb:bRb c=Po){k s:Nat}(hs:(bIE c)[k]? = N1 s):bLi c (bIH c) (AX k 1)=(bJ8 c s,(k:Int),0):=by have hlt:=(AH.1 hs).1;rw[bPD hb (bQU k),bOP _ omT];have e:min (k:Int) (((bIE c).length:Int) - 1)=k:=omT;rw[e];unfold bJk;rw[AT,hs]
def bQW{c:LN}(hb:bRb c=Po){k:Nat}(hlt:k<(bIE c).length):∃C,bLi c (bIH c) (AX k 1++[1,-1])=(C,min (k:Int) (max 0 (((bIE c).length:Int) - 2)),0):=by have h:=bPD hb (ks:=AX k 1++[1,-1]) (by rw[IL,bQU];rfl);rw[bS8 _ omT k hlt]at h;exact⟨_,h⟩
def bSQ(L k:Int):(min k (max 0 (L - 2)) != (if (if L - 2>0 then L - 2 else 0)<k then (if L - 2>0 then L - 2 else 0)else k))=false:=by
 rw[bne_eq_false_iff_eq];by_cases h:L - 2>0
 .rw[Vx h];split<;>omega
 rw[Vw h];split<;>omega
def bQX(F:Wm A)(hc:c.length<=9000000000)(hb:bRb c=Po){x2 x3:ah}(hB:B.length=c.length)(r13:ρ 13=.ptr H.length 1 0)(r24:ρ 24=.sr (H.length+1) 1 c.length)(r25:ρ 25=.sl Pa [])(r26:ρ 26=vi 0){Q tg}(hQ:∀ρ' B' x2 x3 x4,aLP bLl ρ ρ'->B'.length=c.length->(∀s∈bIE c,bM1 B' s 40)->Q (.exit 2) ρ' (H++[.box 1 (bJP c (bIH c)),.vec 1 1 (B'.map bJS),x2,x3,x4]) []):wl A 224 (lwC H.length) bJM ρ (H++[.box 1 (bJP c (bIH c)),.vec 1 1 (B.map bJS),x2,x3,x4]) [] Q tg:=by
 have G6:=bOo c;refine bJ (id:=2) (λk ρ1 H1 wr=>wr=[]/\ρ1 26=vi (k:Nat)/\∃B' x2 x3 x4,H1=H++[.box 1 (bJP c (bIH c)),.vec 1 1 (B'.map bJS),x2,x3,x4]/\B'.length=c.length/\(∀j<k,∀s,(bIE c)[j]? = N1 s->bM1 B' s 40)/\ew (H.length+4) 1 ((AX k (1:Int)).map bF) (ρ1 25) x4) (bIE c).length
  (λρ1 H1 wr=>wr=[]/\∃B' x2 x3 x4,H1=H++[.box 1 (bJP c (bIH c)),.vec 1 1 (B'.map bJS),x2,x3,x4]/\B'.length=c.length/\∀s∈bIE c,bM1 B' s 40) bIv rfl ⟨rfl,r26,B,x2,x3,x4,rfl,hB,λj hj=>omT,by rw[r25];exact .nil _⟩ ?_ ?_
 .rintro k ρ1 H1 dc zp ⟨rfl,e26,B',x2,x3,x4,rfl,Zn,Xu,hG⟩ hf;have f13:ρ1 13=.ptr H.length 1 0:=(hf 13 rfl).trans r13;have f24:ρ1 24=.sr (H.length+1) 1 c.length:=(hf 24 rfl).trans r24;generalize h25:ρ1 25=v at *;simp only[go_sem,↓aB,seval,e26,f13];refine aD (λe3=>?_) (λe3=>?_)
  .have hlt:k<(bIE c).length:=uWf
   have dy:=wS (i:=k) omT;obtain⟨s,hs⟩:∃s,(bIE c)[k]? = N1 s:=⟨_,AP hlt⟩;have ot:((bIH c).map bF)[k]? = N1 [vi s]:=by rw[<- bKS,BN,hs];rfl
   have hV1:=bQV hb hs;obtain⟨C2,hV2⟩:=bQW hb hlt;have hstl:(bIH c).length<=10000000000:=by rw[AF];omega
   have hiv:Xt (H++[.box 1 (bJP c (bIH c)),.vec 1 1 (B'.map bJS),x2,x3,x4]) (AX k 1) v:=by
    generalize hR:(AX k (1:Int)).map bF=R at hG;cases hG with
    |nil=>rw[<- hR];exact .sl Pa
    |obj ver=>rw[<- hR];exact .sr _ _ (by rw[bX,hR];rfl)
   have lq:=F.Wq c (bIH c) (AX k 1) v (H++[.box 1 (bJP c (bIH c)),.vec 1 1 (B'.map bJS),x2,x3,x4]) omT hstl (by rw[MI];omega) hiv;rw[hV1]at lq;have w2:AR.wrap (((bIE c).length:Int) - 2)=((bIE c).length:Int) - 2:=wrap_i64 omT omT;have hl4:(gZ (bJ8 c s)).length=40:=by rw[AF,bIN]
   obtain⟨v5,x5,hG5,Zx⟩:=hG.app (new:=[bF 1]) (bytes:=8) siT rfl soT;have sy:(AX k (1:Int)).map bF++[bF 1]=(AX (k+1) (1:Int)).map bF:=by rw[List.replicate_succ',DQ];rfl
   rw[sy]at hG5;have Hz:decide ((s:Int)<0)=false:=siT;have d40:(((bJ8 c s).length:Int) != 40)=false:=by rw[bIN];rfl
   have dkk:((k:Int) != k)=false:=siT;have hr28:bP 2 8=true:=deT;have hsn:∀B2,bM5 B' B2->bM1 B2 s 40->∀j<k+1,∀s',(bIE c)[j]? = N1 s'->bM1 B2 s' 40:=λB2 hm ht j hj s' ml=>by
    by_cases e:j=k
    .subst e;rw[hs]at ml;cases ml;exact ht
    intro x hx hl;exact hm.2 _ (Xu j omT s' ml x hx (by rw[hm.1]at hl;exact hl))
   by_cases Rj:k=0
   .subst Rj;have nu:=F.Wq c (bIH c) [1,-1] (.sr (H.length+3) (x3.ver+1) 2) (H++[.box 1 (bJP c (bIH c)),.vec 1 1 (B'.map bJS),x2,.vec (x3.ver+1) 1 [[vi 1],[vi (-1)]],x4]) omT hstl siT (.sr _ _ (by rw[bX];rfl));rw[show ([1,-1]:List Int)=AX 0 1++[1,-1] from rfl,hV2]at nu;have happ0:eX (H++[.box 1 (bJP c (bIH c)),.vec 1 1 (B'.map bJS),x2,x3,x4]) (N1 (H.length+2)) 1 8 (.sl Pa []) v=N1 (.sl Pa [],H++[.box 1 (bJP c (bIH c)),.vec 1 1 (B'.map bJS),x2,x3,x4],[]):=by
     have hx:bIz (H++[.box 1 (bJP c (bIH c)),.vec 1 1 (B'.map bJS),x2,x3,x4]) v=N1 []:=by
      have hG:ew (H.length+4) 1 [] v x4:=hG;cases hG with
      |nil=>rfl
      |obj ver=>simp only[bIz,dO,bX,CT,BG,and_self,Vu]
     unfold eX;rw[hx];rfl
    simp only[go_sem,↓aB,seval,f13,h25,lq];refine aY (aq:=bIV) rfT rfT ?_;simp only[go_sem,↓aB,seval,bIV,bJa,e26,f13,h25,happ0,nu,hr28,d40,ot,Hz,w2,bSQ,eH,dG,aL];refine bOI hc hs Zn ?_ ?_ ?_ ?_ ?_ ?_
    .exact f13
    .exact f24
    .exact e26
    .rfl
    .rfl
    intro ρ2 B2 cq Ep Iu;have g25:ρ2 25=v:=(cq 25 rfl).trans h25;have g26:ρ2 26=vi (0:Nat):=(cq 26 rfl).trans e26;have happ6:∀a b d e f,eX (H++[a,b,d,e,x4]) (N1 (H.length+4)) 1 8 v (.sl f [[.int .i64 1]])=N1 (v5,H++[a,b,d,e,x5],[H.length+4]):=λa b d e f=>by
     rw[show ([[AV.int .i64 1]]:List LA)=[bF 1] from rfl,Zx _ f (by rw[bX];rfl),eS];rfl
    simp only[go_sem,↓aB,seval,g25,g26,happ6];exact⟨hlt,congrArg (AV.int .i64) (wrap_i64 (n:=1) deT deT),B2,_,_,x5,rfl,Ep.1.trans Zn,hsn B2 Ep Iu,hG5⟩
   obtain⟨ver,rfl,rfl⟩:=hG.inv (by simpa using Rj);have hRe:(AX k (1:Int)++[1,-1]).map bF=(AX k (1:Int)).map bF++[[.int .i64 1],[.int .i64 (-1)]]:=by rw[DQ];rfl
   have J2:((AX k (1:Int)).map bF).length=k:=siT;have hRn:((AX k (1:Int)).map bF).isEmpty=false:=by rw[Ad];simpa using Rj
   have hRh:dF 1 ((AX k (1:Int)).map bF)=true:=by obtain⟨m,rfl⟩:∃m,k=m+1:=⟨k - 1,omT⟩;rfl
   have nu:=λ(xx:ah)=>F.Wq c (bIH c) (AX k 1++[1,-1]) (.sr (H.length+2) (x2.ver+1) ((AX k (1:Int)++[1,-1]).map bF).length) (H++[.box 1 (bJP c (bIH c)),.vec 1 1 (B'.map bJS),.vec (x2.ver+1) 1 ((AX k (1:Int)++[1,-1]).map bF),x3,xx]) omT hstl soT (.sr _ _ (by rw[bX];rfl));rw[hV2,hRe]at nu;rw[J2]at lq h25 Zx;have hr8k:bP k 8=true:=by unfold bP;simp;omega
   have hr8k2:bP (k+2) 8=true:=by unfold bP;simp;omega
   have hRl2:((AX k (1:Int)).map bF++[[AV.int .i64 1],[AV.int .i64 (-1)]]).length=k+2:=by rw[BA,J2];rfl
   rw[hRl2]at nu;generalize (AX k (1:Int)).map bF=R at *;have nu:=nu (.vec ver 1 R);simp only[go_sem,↓aB,seval,f13,h25,lq];refine aY (aq:=bIV) rfT rfT ?_;simp only[go_sem,↓aB,seval,bIV,bJa,e26,f13,h25,nu,d40,dkk,ot,Hz,w2,bSQ,J2,hRn,hRh,hr8k,hr8k2,eH,dG,aL];refine bOI hc hs Zn ?_ ?_ ?_ ?_ ?_ ?_
   .exact f13
   .exact f24
   .exact e26
   .rfl
   .rfl
   intro ρ2 B2 cq Ep Iu;have g25:ρ2 25=.sr (H.length+4) ver k:=(cq 25 rfl).trans h25;have g26:ρ2 26=vi (k:Nat):=(cq 26 rfl).trans e26;have hr8k1:bP (k+1) 8=true:=by unfold bP;simp;omega
   simp only[go_sem,↓aB,seval,g25,g26,hr8k1,J2,dy];have G3:=ew.obj (id:=H.length+4) (k:=1) ver (R++[[AV.int .i64 1]]);rw[show (R++[[AV.int .i64 1]]).length=k+1 by rw[BA,J2];rfl]at G3;exact⟨hlt,B2,_,_,_,rfl,Ep.1.trans Zn,hsn B2 Ep Iu,(show R++[[AV.int .i64 1]]=bF 1::(AX k 1).map bF from sy) ▸ G3⟩
  have:k=(bIE c).length:=by
   have:¬k<(bIE c).length:=uWf
   omega
  subst this;simp only[go_sem,seval];exact⟨B',x2,x3,x4,rfl,Zn,λs hs=>by
   obtain⟨j,hj⟩:=List.getElem?_of_mem hs;exact Xu j (AH.1 hj).1 s hj⟩
 rintro ρ' H' ba ⟨rfl,B',x2,x3,x4,rfl,Zn,Xu⟩ hf;exact hQ ρ' B' x2 x3 x4 hf Zn Xu
end
abbrev bKt:=bTw 32 (bIF 38503 [])
abbrev bMa:LN:=[40,41,42,7,43,44,45,46,47,48,39]
abbrev bJ5:=bTw 32 (bJ6 32714343)
abbrev bIS:LN:=[]
abbrev bKu:=bTw 32 (bIF 77415 [(499,.region Pa bJ5)])
abbrev bMb:LN:=[53,54,55,56,9,8,57,58,59,60,61,62,63,64,65,66,67,68,69,70,10,71,72,73,74,75,76,11,77,78,79,80,81,82,83,84,86,87,88,89,85,90,91,92,93,95,96,97,94,98,99,12,13,101,102,103,104,100,105,106,107,108,109,110,111,112,113,114,115,116,117,118,119,52]
abbrev bKv:=bTw 32 (bIF 83050087 [])
abbrev bMc:LN:=[146,147,148,17,149,150,151,152,153,154,145]
abbrev bKw:=bTw 32 (bIF 81511 [(1267,bKv)])
abbrev bMd:LN:=[124,125,126,15,127,128,129,130,131,132,133,134,135,136,137,138,139,140,141,142,143,144,145,146,147,148,17,149,150,151,152,153,154,145,155,123]
abbrev bKx:=bTw 32 (bIF 39 [(1203,bKt),(2419,bKu),(2547,bKw)])
def bJU:=(.mk _:bb 32 (bIC [(39,bKx)])).x
abbrev wrC(n:Nat):Ctx:=⟨n,[3,5,7,9,10,11,116,15,136]⟩
abbrev wst(H:LO)(o:Nat)(t:my)(vp:AV)(c:LN)(L:LO):LO:=H.set o (bKi t (.sr (H.length+9) 1 c.length) vp)++L
def bQY(ho:o<H.length)(h9:L[9]? = N1 (bJb c))(hc:c.length<=100000000000):WH (wst H o t vp c L) o (H.length+9) t vp c:=⟨aP ho,by rw[aPr];exact h9,hc⟩
def bP5{d:LN}(ho:o<H.length):bNZ (wst H o t vp c L) o (H.length+9) t vp d=wst H o t vp d (L.set 9 (bJb d)):=by show ((H.set o _++L).set o _).set (H.length+9) _=_;rw[aR ho,aPs]
def bOg:(H.set o x++L).length=H.length+L.length:=siT
section
variable {A:af}{H:LO}{o:Nat}{t:my}{c:LN}{vp:AV}
structure ke(o B:Nat)(c c2:LN)(n:Nat)(wr:LN):Prop where
 len:c2.length<=c.length+n
 le:(∀x∈c,x<=63)->∀x∈c2,x<=63
 old:∀x∈wr,x=o
 mem:o∈wr
def bM7{o B:Nat}(ho:o<B):∀{w wr:LN},(∀x∈w,x=o∨x=B+9)->(∀x∈wr,x=o)->∀x∈bE B wr w,x=o
 | [],wr,_,h=>h
 |y::w,wr,h1,h2=>by
  unfold bE;split
  .rename_i hc;refine bM7 ho (λx hx=>h1 x (BZ _ hx)) λx hx=>?_;rcases BD.1 hx with rfl|hx
   .rcases h1 x HD with h|h
    .exact h
    omega
   exact h2 x hx
  exact bM7 ho (λx hx=>h1 x (BZ _ hx)) h2
def bN4{o B:Nat}(ho:o<B):∀{w wr:LN},o∈wr∨o∈w->o∈bE B wr w
 | [],wr,h=>h.elim id λh=>by cases h
 |y::w,wr,h=>by
  unfold bE;split
  .refine bN4 ho ?_;rcases h with h|h
   .exact .inl (BZ _ h)
   rcases BD.1 h with rfl|h
   .exact .inl HD
   exact .inr h
  rename_i hc;refine bN4 ho ?_;rcases h with h|h
  .exact .inl h
  rcases BD.1 h with rfl|h
  .exact .inl (by simpa [ho]using hc)
  exact .inr h
def ke.next{o B:Nat}{c d:LN}{w:LN}(h:ke o B c c2 n wr)(ho:o<B)(hd:d.length<=m)(Za:∀x∈d,x<=63)(hw:∀x∈w,x=o∨x=B+9)(hk:n+m<=k):ke o B c (c2++d) k (bE B wr w) where
 len:=by have:=h.len;rw[BA];omega
 le:=λhc x hx=>(AY.1 hx).elim (h.le hc x) (Za x)
 old:=bM7 ho hw h.old
 mem:=bN4 ho (.inl h.mem)
def ke.same{o B:Nat}{c:LN}(h:∀x∈wr,x=o)(h2:o∈wr):ke o B c c 0 wr:=⟨AQ _,λh=>h,h,h2⟩
def ke.trans{o B:Nat}{c c3:LN}{en:LN}(h:ke o B c c2 n wr)(h2:ke o B c2 c3 m en)(hk:n+m<=k):ke o B c c3 k en where
 len:=by have:=h.len;have:=h2.len;omega
 le:=λhc=>h2.le (h.le hc)
 old:=h2.old
 mem:=h2.mem
abbrev bQZ(o B:Nat)(c c3:LN)(w:LN):Prop:=∀{c0:LN}{n k:Nat}{wr0:LN},ke o B c0 c n wr0->n+210000<=k->ke o B c0 c3 k (bE B wr0 w)
structure X3(A:af)(T:List mr->Prop):Prop where
 write:Has A 32 bJU
 rc:Has A 57 bIU
 numbers:Has A 59 bJg
 runs:Has A 60 bJz
 head:bN2 A
 Wj:bLX A
 lcode0:∀H,aG A 58 [.str []] H=N1 (.ar,H,[])
 itoa:aJc A
 join:A.bq 100=N1 aKm
 syms:bOb A
 tr:bQD A
 txt:bOX A T
variable {T:List mr->Prop}
def bSR(F:X3 A T)(ho:o<H.length)(hL:L.length=12)(h9:L[9]? = N1 (bJb c))(hc:c.length<=100000000000)(Rl:bQN (H.length+12) vp)(k:Nat)(l:LN)(hv:CV l v)(hk:k<=63)(hl:l.length<=200000)(Za:∀x∈l,x<=63):∃(i:Nat)(c3 wr:LN),aG A 57 [.ptr o 1 0,vi k,v] (wst H o t vp c L)=N1 (.tup [vi i,vi (l.length:Nat)],wst H o t vp c3 (L.set 9 (bJb c3)),wr)/\bQZ o H.length c c3 wr:=by obtain⟨i,d,wr,h1,h2,h3,h4⟩:=bOd F.rc F.head (bQY ho h9 hc) (Rl.under (by rw[bOg];omega)) k l hv hk omT Za;exact⟨i,c++d,wr,h1.trans (by rw[bP5 ho]),λhm hk=>hm.next ho omT h3 h4 hk⟩
def bR0(F:X3 A T)(ho:o<H.length)(hL:L.length=12)(h9:L[9]? = N1 (bJb c))(hc:c.length<=100000000000)(Rl:bQN (H.length+12) vp)(k:Nat)(hk:k<=63)(l:LN)(sz:l≠[])(hl:l.length<=40)(h6:∀n∈l,n<1000000)(hv:We (wst H o t vp c L) o (H.length+9) l v):∃(c3 wr:LN),aG A 59 [.ptr o 1 0,vi k,v] (wst H o t vp c L)=N1 (.tup [],wst H o t vp c3 (L.set 9 (bJb c3)),wr)/\bQZ o H.length c c3 wr:=by obtain⟨d,wr,h1,h2,h3,h4⟩:=bSO F.numbers (bOd F.rc F.head) F.Wj F.itoa F.join (bQY ho h9 hc) (by rw[bOg,hL];exact Rl) k hk l sz hl h6 hv;exact⟨c++d,wr,h1.trans (by rw[bP5 ho]),λhm hk=>hm.next ho omT h3 h4 hk⟩
def bR1(F:X3 A T)(ht:yr t)(ho:o<H.length)(hL:L.length=12)(h9:L[9]? = N1 (bJb c))(hc:c.length<=100000000000)(Rl:bQN (H.length+12) vp)(l:List mr)(hl:T l):∃(i n:Nat)(c3 wr:LN),aG A 60 [.ptr o 1 0,.sl Po (l.map cZ)] (wst H o t vp c L)=N1 (.tup [vi i,vi n],wst H o t vp c3 (L.set 9 (bJb c3)),wr)/\bQZ o H.length c c3 wr:=by obtain⟨i,n,d,wr,h1,h2,h3,h4⟩:=bSP F.runs (bOd F.rc F.head) F.Wj F.syms F.tr F.txt ht (bQY ho h9 hc) (by rw[bOg,hL];exact Rl) l hl;exact⟨i,n,c++d,wr,h1.trans (by rw[bP5 ho]),λhm hk=>hm.next ho h2 h3 h4 hk⟩
def bOJ(F:X3 A T){b0 b1 b2 b3 b4 b5 b6 b7 b8:ah}{bs:List Block}(ss:bs.length<=16)(hk:∀b∈bs,0<=b.kind/\b.kind<1000000)(ho:o<H.length)(Rl:bQN (H.length+12) vp)(hc:c.length<=90000000000)(r0:ρ 0=.ptr o 1 0)(r37:ρ 37=.sl Po (bs.map aE))(r38:ρ 38=vi (bs.length:Nat))(r39:ρ 39=vi 0)(hw:∀x∈wr,x=o)(X9:o∈wr){Q tg}(hQ:∀ρ' c2 b2 en,aLP bMa ρ ρ'->ke o H.length c c2 (16*210000) en->Q (.exit 2) ρ' (wst H o t vp c2 [b0,b1,b2,b3,b4,b5,b6,b7,b8,bJb c2,.gone 0,.gone 0]) en):wl A 157 (wrC H.length) bKt ρ (wst H o t vp c [b0,b1,b2,b3,b4,b5,b6,b7,b8,bJb c,.gone 0,.gone 0]) wr Q tg:=by
 refine bJ (id:=2) (λk ρ1 H1 dc=>ρ1 39=vi (k:Nat)/\∃c2 b2,H1=wst H o t vp c2 [b0,b1,b2,b3,b4,b5,b6,b7,b8,bJb c2,.gone 0,.gone 0]/\ke o H.length c c2 (k*210000) dc) bs.length
  (λρ1 H1 dc=>∃c2 b2,H1=wst H o t vp c2 [b0,b1,b2,b3,b4,b5,b6,b7,b8,bJb c2,.gone 0,.gone 0]/\ke o H.length c c2 (bs.length*210000) dc) bIv rfl ⟨r39,c,b2,rfl,by rw[Ap];exact .same hw X9⟩ ?_ ?_
 .rintro k ρ1 H1 dc zp ⟨e39,c2,b2,rfl,hm⟩ hf;have f0:ρ1 0=.ptr o 1 0:=(hf 0 rfl).trans r0;have f37:ρ1 37=.sl Po (bs.map aE):=(hf 37 rfl).trans r37;have f38:ρ1 38=vi (bs.length:Nat):=(hf 38 rfl).trans r38;simp only[go_sem,↓aB,seval,e39,f38];refine aD (λe3=>?_) (λe3=>?_)
  .have hlt:k<bs.length:=by simp at e3;omega
   have dy:=wS (i:=k) omT;have cj:=mgE aE hlt;obtain⟨Rj,Ch⟩:=hk _ (AS hlt);generalize bs[k]=b at *;have qv:=bG b;have iz:(aE b).all AV.ak=true:=bID qv;obtain⟨kk,pt⟩:=DN Rj;have S5:FW 1 (aE b)=[vi kk]:=by obtain⟨op,n,ks,ig⟩:=eW b;rw[ig,pt];rfl
   have ax:=hm.len;have hle:0+1<=13:=deT;obtain⟨c3,w,Gm,bd⟩:=bR0 F (c:=c2) (t:=t) (vp:=vp) (L:=[b0,b1,.box (b2.ver+1) (aE b),b3,b4,b5,b6,b7,b8,bJb c2,.gone 0,.gone 0]) ho rfl rfl omT Rl 3 omT [kk] siT siT (λn hn=>by simp at hn;omega) (We.sl Pa);have Gm:aG A 59 [.ptr o 1 0,.int .i64 3,.sl Pa [[.int .i64 kk]]] (H.set o (bKi t (.sr (H.length+9) 1 c2.length) vp)++[b0,b1,.box (b2.ver+1) (aE b),b3,b4,b5,b6,b7,b8,bJb c2,.gone 0,.gone 0])=N1 (.tup [],H.set o (bKi t (.sr (H.length+9) 1 c3.length) vp)++[b0,b1,.box (b2.ver+1) (aE b),b3,b4,b5,b6,b7,b8,bJb c3,.gone 0,.gone 0],w):=Gm;simp only[go_sem,↓aB,seval,e39,Gm,dy,f0,f37,cj,hlt,S5,cF,iz,bT.take];exact⟨c3,_,rfl,bd hm omT⟩
  have:k=bs.length:=by simp at e3;omega
  subst this;simp only[go_sem,seval];exact⟨c2,b2,rfl,hm⟩
 rintro ρ' H' ba ⟨c2,b2,rfl,hm⟩ hf;exact hQ ρ' c2 b2 ba hf (hm.trans (m:=0) ⟨AQ _,λh=>h,hm.old,hm.mem⟩ omT)
end
section
variable {A:af}{H:LO}{o:Nat}{t:my}{c:LN}{vp:AV}{T:List mr->Prop}
def ke.wider{o B:Nat}{c:LN}(h:ke o B c c2 n wr)(hk:n<=m):ke o B c c2 m wr:=⟨HX h.len omT,h.le,h.old,h.mem⟩
def bPV(F:X3 A T)(ht:yr t){b0 b1 b2 b3 b4 b5 b6 b7 b8:ah}{os:List Str}(hos:os.length<=16)(hT:∀s∈os,T [⟨0,s⟩])(ho:o<H.length)(Rl:bQN (H.length+12) vp)(hc:c.length<=90000000000)(r0:ρ 0=.ptr o 1 0)(r143:ρ 143=.sl Po (os.map aN))(r144:ρ 144=vi (os.length:Nat))(r145:ρ 145=vi 0)(hw:∀x∈wr,x=o)(X9:o∈wr){Q tg}(hQ:∀ρ' c2 en,aLP bMc ρ ρ'->ke o H.length c c2 (16*210000) en->Q (.exit 8) ρ' (wst H o t vp c2 [b0,b1,b2,b3,b4,b5,b6,b7,b8,bJb c2,.gone 0,.gone 0]) en):wl A 157 (wrC H.length) bKv ρ (wst H o t vp c [b0,b1,b2,b3,b4,b5,b6,b7,b8,bJb c,.gone 0,.gone 0]) wr Q tg:=by
 refine bJ (id:=8) (λk ρ1 H1 dc=>ρ1 145=vi (k:Nat)/\∃c2,H1=wst H o t vp c2 [b0,b1,b2,b3,b4,b5,b6,b7,b8,bJb c2,.gone 0,.gone 0]/\ke o H.length c c2 (k*210000) dc) os.length
  (λρ1 H1 dc=>∃c2,H1=wst H o t vp c2 [b0,b1,b2,b3,b4,b5,b6,b7,b8,bJb c2,.gone 0,.gone 0]/\ke o H.length c c2 (os.length*210000) dc) bIv rfl ⟨r145,c,rfl,by rw[Ap];exact .same hw X9⟩ ?_ ?_
 .rintro k ρ1 H1 dc zp ⟨e145,c2,rfl,hm⟩ hf;have f0:ρ1 0=.ptr o 1 0:=(hf 0 rfl).trans r0;have f143:ρ1 143=.sl Po (os.map aN):=(hf 143 rfl).trans r143;have f144:ρ1 144=vi (os.length:Nat):=(hf 144 rfl).trans r144;simp only[go_sem,↓aB,seval,e145,f144];refine aD (λe3=>?_) (λe3=>?_)
  .have hlt:k<os.length:=by simp at e3;omega
   have dy:=wS (i:=k) omT;have cj:=mgE aN hlt;have hTk:=hT _ (AS hlt);generalize os[k]=s at *;have ax:=hm.len;obtain⟨i,n,c3,w,hr,bd⟩:=bR1 F (c:=c2) (t:=t) (vp:=vp) (L:=[b0,b1,b2,b3,b4,b5,b6,b7,b8,bJb c2,.gone 0,.gone 0]) ht ho rfl rfl omT Rl [⟨0,s⟩] hTk;have hr:aG A 60 [.ptr o 1 0,.sl Po [[.int .i64 0,.str s]]] (H.set o (bKi t (.sr (H.length+9) 1 c2.length) vp)++[b0,b1,b2,b3,b4,b5,b6,b7,b8,bJb c2,.gone 0,.gone 0])=N1 (.tup [vi i,vi n],H.set o (bKi t (.sr (H.length+9) 1 c3.length) vp)++[b0,b1,b2,b3,b4,b5,b6,b7,b8,bJb c3,.gone 0,.gone 0],w):=hr;simp only[go_sem,↓aB,seval,hr,dy,e145,f0,f143,cj,hlt,aN];exact⟨c3,rfl,bd hm omT⟩
  have:k=os.length:=by simp at e3;omega
  subst this;simp only[go_sem,seval];exact⟨c2,rfl,hm⟩
 rintro ρ' H' ba ⟨c2,rfl,hm⟩ hf;exact hQ ρ' c2 ba hf (hm.wider omT)
structure AskW(T:List mr->Prop)(q:Question):Prop where
 kind:0<=q.kind/\q.kind<1000000
 lenO:q.options.length<=16
 Q4:q.cy.length<=16
 cy:∀n∈q.cy,0<=n/\n<1000000
 lk:T q.lk
 opt:∀s∈q.options,T [⟨0,s⟩]
def bSn(ho:o<H.length)(hL:8<L.length)(a b:Nat)(nn:LN)(hn:nn.length<=100):∃v b8 wr8,eX (H.set o x++L) (N1 (H.length+8)) 1 8 (.sl Pa [[vi a],[vi b]]) (.sl Po (nn.map bL7))=N1 (v,H.set o x++L.set 8 b8,wr8)/\(∀w,bE H.length w wr8=w) /\ ∀x' L',L'[8]? = N1 b8->We (H.set o x'++L') o (H.length+9) (a::b::nn) v:=by
 cases nn with
 |nil=>refine⟨.sl Pa [[vi a],[vi b]],L[8],[], ?_,λ_=>rfl,λ_ _ _=>We.sl Pa⟩;unfold eX;simp only[BY,bIz,dO,dF,BT,BX,Vt,Bm,Vu];rw[aJo (AP hL)]
 |cons n l=>
  have ed:bP ([[vi a],[vi b]].length+((n::l).map bL7).length) 8=true:=by unfold bP;simp at hn ⊢;omega
  refine⟨.sr (H.length+8) (L[8].ver+1) ((a::b::n::l).map bL7).length,.vec (L[8].ver+1) 1 ((a::b::n::l).map bL7),[H.length+8], ?_,λw=>aKs,λx' L' h=>We.sr _ _ omT omT (by rw[aPr];exact h)⟩;have hl:H.length+8<(H.set o x++L).length:=by rw[bOg];omega
  have hg:(H.set o x++L)[H.length+8]? = N1 L[8]:=by rw[aPr];exact AP hL
  unfold eX;simp only[bIz,dO];rw[Vw (by simp[dF]),Vw siT,Vx (by rw[ed];rfl),Vx hl];unfold bH make;rw[hg,aPs];simp;omega
def bPW(F:X3 A T)(ht:yr t){b0 b1 b2 b3 b4 b5 b6 b7 b8:ah}{qs:List Question}(hqs:qs.length<=16)(hq:∀q∈qs,AskW T q)(ho:o<H.length)(Rl:bQN (H.length+12) vp)(hc:c.length<=80000000000)(r0:ρ 0=.ptr o 1 0)(r121:ρ 121=.sl Po (qs.map gR))(r122:ρ 122=vi (qs.length:Nat))(r123:ρ 123=vi 0)(hw:∀x∈wr,x=o)(X9:o∈wr){Q tg}(hQ:∀ρ' c2 b7 b8 en,aLP bMd ρ ρ'->ke o H.length c c2 (16*5000000) en->Q (.exit 6) ρ' (wst H o t vp c2 [b0,b1,b2,b3,b4,b5,b6,b7,b8,bJb c2,.gone 0,.gone 0]) en):wl A 157 (wrC H.length) bKw ρ (wst H o t vp c [b0,b1,b2,b3,b4,b5,b6,b7,b8,bJb c,.gone 0,.gone 0]) wr Q tg:=by
 refine bJ (id:=6) (λk ρ1 H1 dc=>ρ1 123=vi k/\∃c2 b7 b8,H1=wst H o t vp c2 [b0,b1,b2,b3,b4,b5,b6,b7,b8,bJb c2,.gone 0,.gone 0]/\ke o H.length c c2 (k*5000000) dc) qs.length
  (λρ1 H1 dc=>∃c2 b7 b8,H1=wst H o t vp c2 [b0,b1,b2,b3,b4,b5,b6,b7,b8,bJb c2,.gone 0,.gone 0]/\ke o H.length c c2 (qs.length*5000000) dc) bIv rfl ⟨r123,c,_,_,rfl,by rw[Ap];exact .same hw X9⟩ ?_ ?_
 .rintro k ρ1 H1 dc zp ⟨e123,c2,b7,b8,rfl,hm⟩ hf;have f0:=(hf 0 rfl).trans r0;have f121:=(hf 121 rfl).trans r121;have f122:=(hf 122 rfl).trans r122;simp only[go_sem,↓aB,seval,e123,f122];refine aD (λe3=>?_) (λe3=>?_)
  .have hlt:k<qs.length:=by simp at e3;omega
   have dy:=wS (i:=k) omT;have cj:=mgE gR hlt;have Lh:=hq _ (AS hlt);generalize qs[k]=q at *;obtain⟨⟨Rj,Ch⟩,hlO,hlN,bl,bd,Qx⟩:=Lh;obtain⟨kk,pt⟩:=DN Rj;have Hz:q.cy.map bF=(q.cy.map Aw).map bL7:=by
    rw[PA];exact C5 λn hn=>by
     have:=(bl n hn).1;show [vi n]=[vi (n.toNat:Nat)];rw[Int.toNat_of_nonneg this]
   have hn6:∀n∈q.cy.map Aw,n<1000000:=λn hn=>by
    obtain⟨m,hm,rfl⟩:=DB.1 hn;have:=bl m hm;omega
   have O4:(q.cy.map Aw).length<=16:=by simpa using hlN
   have ax:=hm.len;obtain⟨qk,qst,qop,qne,qke,qpo,qre⟩:=q;simp only at pt Ch Hz hn6 O4 bd Qx hlO;subst pt;generalize qne.map Aw=nn at *;obtain⟨v,b8',wr8,db,hw8,hnv⟩:=bSn (x:=bKi t (.sr (H.length+9) 1 c2.length) vp) (L:=[b0,b1,b2,b3,b4,b5,b6,.box (b7.ver+1) (gR ⟨kk,qst,qop,qne,qke,qpo,qre⟩),b8,bJb c2,.gone 0,.gone 0]) ho siT kk qop.length nn omT;obtain⟨c3,w,Gm,Wy⟩:=bR0 F (L:=[b0,b1,b2,b3,b4,b5,b6,.box (b7.ver+1) (gR ⟨kk,qst,qop,qne,qke,qpo,qre⟩),b8',bJb c2,.gone 0,.gone 0]) ho rfl rfl omT Rl 7 omT (kk::qop.length::nn) siT soT (λn hn=>by
    simp only[BD]at hn;rcases hn with rfl|rfl|hn
    .omega
    .omega
    exact hn6 n hn) (hnv _ _ rfl)
   have Dc:=Wy (k:=k*5000000+210000) hm omT;have yz:c3.length<=c.length+k*5000000+210000:=by
    have:=Dc.len
    rwa [<- EU]at this
   obtain⟨i,n,c4,w4,hr,Xa⟩:=bR1 F (L:=[b0,b1,b2,b3,b4,b5,b6,.box (b7.ver+1) (gR ⟨kk,qst,qop,qne,qke,qpo,qre⟩),b8',bJb c3,.gone 0,.gone 0]) ht ho rfl rfl omT Rl qst bd;have Xq:=Xa (k:=k*5000000+420000) Dc omT;have hl4:c4.length<=c.length+k*5000000+420000:=by
    have:=Xq.len
    rwa [<- EU]at this
   have Gm:aG A 59 [.ptr o 1 0,.int .i64 7,v] (H.set o (bKi t (.sr (H.length+9) 1 c2.length) vp)++[b0,b1,b2,b3,b4,b5,b6,.box (b7.ver+1) (gR ⟨kk,qst,qop,qne,qke,qpo,qre⟩),b8',bJb c2,.gone 0,.gone 0])=N1 (.tup [],H.set o (bKi t (.sr (H.length+9) 1 c3.length) vp)++[b0,b1,b2,b3,b4,b5,b6,.box (b7.ver+1) (gR ⟨kk,qst,qop,qne,qke,qpo,qre⟩),b8',bJb c3,.gone 0,.gone 0],w):=Gm;simp only[gR,Hz]at db Gm hr;simp only[go_sem,↓aB,seval,e123,db,Gm,hr,hw8,f0,f121,cj,hlt,Hz,gR];refine bPV F ht hlO Qx ho Rl omT ?_ ?_ ?_ ?_ Xq.old Xq.mem ?_
   .exact f0
   .rfl
   .rfl
   .rfl
   intro ρ2 c5 wr5 cq hm5;have g123:=(cq 123 rfl).trans e123;simp only[go_sem,↓aB,seval,g123,dy];exact⟨hlt,c5,_,_,rfl,Xq.trans hm5 omT⟩
  have:k=qs.length:=by simp at e3;omega
  subst this;exact⟨c2,b7,b8,rfl,hm⟩
 rintro ρ' H' ba ⟨c2,b7,b8,rfl,hm⟩ hf;exact hQ ρ' c2 b7 b8 ba hf (hm.wider omT)
end
section
variable {A:af}{H:LO}{o:Nat}{t:my}{c:LN}{vp:AV}{T:List mr->Prop}
def ew.vpok(h:ew (n+6) 6 P vp b):bQN (n+12) vp:=by
 cases h with
 |nil=>exact .inl rfl
 |obj v=>exact .inr ⟨_,_,_,rfl,omT⟩
def bP6{r:LA}(h:gG P=Pa)(hr:iX r=Pa):gG (P++[r])=true:=aGl λv hv=>by
 rcases AY.1 hv with hv|hv
 .exact aBf h v hv
 rw[CG.1 hv];exact hr
def ke.wrote{o B:Nat}{c:LN}(h:ke o B c c2 n wr)(ho:o<B):ke o B c c2 n (bE B wr [o]):=by
 have:=h.next (d:=[]) (w:=[o]) ho (AQ _) siT siT (AQ _)
 rwa [AJ]at this
structure Zy(A:af)(T:List mr->Prop)(it:Item)(f:Fact):Prop where
 kind:0<=f.kind/\f.kind<1000000
 block:0<=f.block/\f.block<it.blocks.length
 a:0<=f.a/\f.a<1000000
 b:0<=f.b/\f.b<1000000
 text:∀b,it.blocks[f.block.toNat]? = N1 b->b.kind=0->T b.runs
 val:∀H,∃(s:Str)(e:Int),aG A 56 [.agg (aO it),.agg (aI f)] H=N1 (.tup [.str s,vi e],H,[])/\s.length<=100000
def bP7(F:X3 A T)(ht:yr t){b0 b2 b3 b4 b5 b6 b7 b8:ah}{v1 ki:Nat}{it:Item}(hfs:it.facts.length<=16)(P0:it.blocks.length<=16)(hf:∀f∈it.facts,Zy A T it f)(ho:o<H.length)(hP:P.length<=100000)(hPd:gG P=Pa)(hG:ew (H.length+6) 6 P vp b6)(hc:c.length<=80000000000)(r0:ρ 0=.ptr o 1 0)(r4:ρ 4=vi ki)(r5:ρ 5=.ptr (H.length+1) v1 0)(r50:ρ 50=.sl Po (it.facts.map aI))(r51:ρ 51=vi (it.facts.length:Nat))(r52:ρ 52=vi 0)(hw:∀x∈wr,x=o)(X9:o∈wr){Q tg}(hQ:∀ρ' c2 vp2 P2 b3 b4 b5 b6 en,aLP bMb ρ ρ'->ke o H.length c c2 (16*500000) en->ew (H.length+6) 6 P2 vp2 b6->P2.length<=P.length+16/\gG P2=Pa->Q (.exit 4) ρ' (wst H o t vp2 c2 [b0,.box v1 (aO it),b2,b3,b4,b5,b6,b7,b8,bJb c2,.gone 0,.gone 0]) en):wl A 157 (wrC H.length) bKu ρ (wst H o t vp c [b0,.box v1 (aO it),b2,b3,b4,b5,b6,b7,b8,bJb c,.gone 0,.gone 0]) wr Q tg:=by
 refine bJ (id:=4) (λk ρ1 H1 dc=>ρ1 52=vi (k:Nat)/\∃c2 vp2 P2 b3 b4 b5 b6,H1=wst H o t vp2 c2 [b0,.box v1 (aO it),b2,b3,b4,b5,b6,b7,b8,bJb c2,.gone 0,.gone 0]/\ke o H.length c c2 (k*500000) dc/\ew (H.length+6) 6 P2 vp2 b6/\P2.length<=P.length+k/\gG P2=Pa) it.facts.length
  (λρ1 H1 dc=>∃c2 vp2 P2 b3 b4 b5 b6,H1=wst H o t vp2 c2 [b0,.box v1 (aO it),b2,b3,b4,b5,b6,b7,b8,bJb c2,.gone 0,.gone 0]/\ke o H.length c c2 (it.facts.length*500000) dc/\ew (H.length+6) 6 P2 vp2 b6/\P2.length<=P.length+it.facts.length/\gG P2=Pa) bIv rfl ⟨r52,c,vp,P,_,_,_,_,rfl,by rw[Ap];exact .same hw X9,hG,AQ _,hPd⟩ ?_ ?_
 .rintro k ρ1 H1 dc zp ⟨e52,c2,vp2,P2,b3,b4,b5,b6,rfl,hm,Wh,hP2,Xr⟩ Pw;have f0:ρ1 0=.ptr o 1 0:=by rw[Pw 0 rfT];exact r0
  have f4:ρ1 4=vi ki:=by rw[Pw 4 rfT];exact r4
  have f5:ρ1 5=.ptr (H.length+1) v1 0:=by rw[Pw 5 rfT];exact r5
  have f50:ρ1 50=.sl Po (it.facts.map aI):=by rw[Pw 50 rfT];exact r50
  have f51:ρ1 51=vi (it.facts.length:Nat):=by rw[Pw 51 rfT];exact r51
  simp only[go_sem,↓aB,seval,e52,f51];refine aD (λe3=>?_) (λe3=>?_)
  .have hlt:k<it.facts.length:=by simp at e3;omega
   have dy:=wS (i:=k) omT;have cj:=mgE aI hlt;have qo:=hf _ (AS hlt);generalize it.facts[k]=f at *;obtain⟨fk,fb,fa,fbb⟩:=f;obtain⟨⟨Rj,Ch⟩,⟨qw,fo⟩,⟨ha0,M1⟩,⟨hbb0,hbb1⟩,Mm,kp⟩:=qo;simp only at Rj Ch qw fo ha0 M1 hbb0 hbb1 Mm;obtain⟨fk,rfl⟩:=DN Rj;obtain⟨fb,rfl⟩:=DN qw;obtain⟨fa,rfl⟩:=DN ha0;obtain⟨fbb,rfl⟩:=DN hbb0;have zo:fb<it.blocks.length:=omT;have Yx:=mgE aE zo;have Mm:=Mm it.blocks[fb] (by rw[AT];exact AP zo);generalize it.blocks[fb]=b at *;have qv:=bG b;have iz:(aE b).all AV.ak=true:=bID qv;have S5:FW 1 (aE b)=[vi b.kind]:=by obtain⟨op,n,ks,ig⟩:=eW b;rw[ig];rfl
   have sh:FW 1 (KW 1 (aE b))=[.sl Po (b.runs.map cZ)]:=by obtain⟨op,n,ks,ig⟩:=eW b;rw[ig];rfl
   have ax:=hm.len;have Rl:=Wh.vpok;obtain⟨c3,w,Gm,bd⟩:=bR0 F (c:=c2) (t:=t) (vp:=vp2) (L:=[b0,.box v1 (aO it),b2,.box (b3.ver+1) (aI ⟨fk,fb,fa,fbb⟩),b4,b5,b6,b7,b8,bJb c2,.gone 0,.gone 0]) ho rfl rfl omT Rl 4 omT [fk,fb,fa,fbb] siT siT (λn hn=>by
    simp only[BD,List.not_mem_nil,or_false]at hn;rcases hn with rfl|rfl|rfl|rfl<;>omega) (We.sl Pa)
   have Gm:aG A 59 [.ptr o 1 0,.int .i64 4,.sl Pa [[.int .i64 fk],[.int .i64 fb],[.int .i64 fa],[.int .i64 fbb]]] (H.set o (bKi t (.sr (H.length+9) 1 c2.length) vp2)++[b0,.box v1 (aO it),b2,.box (b3.ver+1) (aI ⟨fk,fb,fa,fbb⟩),b4,b5,b6,b7,b8,bJb c2,.gone 0,.gone 0])=N1 (.tup [],H.set o (bKi t (.sr (H.length+9) 1 c3.length) vp2)++[b0,.box v1 (aO it),b2,.box (b3.ver+1) (aI ⟨fk,fb,fa,fbb⟩),b4,b5,b6,b7,b8,bJb c3,.gone 0,.gone 0],w):=Gm;have Dc:=bd (k:=k*500000+210000) hm omT;have yz:c3.length<=c.length+k*500000+210000:=by
    have:=Dc.len
    rwa [<- EU]at this
   simp only[aI,aO]at Gm kp;have k1:decide ((0:Int)<=fb)=true:=siT;have go1:=λx L=>aP (H:=H) (x:=x) (L:=L) ho;have go2:=λx y L=>aR (H:=H) (x:=x) (y:=y) (L:=L) ho;have hcok:=Wh.ak;have hcs1:=Wh.aj;have hend:∀(c4 w4:LN)(i n:Nat)(b5':ah),bQZ o H.length c3 c4 w4->∃vp3 b6',ew (H.length+6) 6 (P2++[[vi ki,vi k,vi i,vi n,vi 0,vi 0]]) vp3 b6'/\vp3.cells=[vp3]/\vp3.ak=Pa /\
     (eX (H.set o (bKi t (.sr (H.length+9) 1 c4.length) vp2)++[b0,.box v1 [.str it.name,.sl Po (it.blocks.map aE),.sl Po (it.facts.map aI),.sl Po (it.ask.map gR)],b2,.box (b3.ver+1) [vi fk,vi fb,vi fa,vi fbb],.box (b4.ver+1) [vi ki,vi k,vi i,vi n,.int .i64 0,.int .i64 0],b5',b6,b7,b8,bJb c4,.gone 0,.gone 0]) (N1 (H.length+6)) 6 48 vp2 (.sl Pa [[vi ki,vi k,vi i,vi n,.int .i64 0,.int .i64 0]]) =
      N1 (vp3,H.set o (bKi t (.sr (H.length+9) 1 c4.length) vp2)++[b0,.box v1 [.str it.name,.sl Po (it.blocks.map aE),.sl Po (it.facts.map aI),.sl Po (it.ask.map gR)],b2,.box (b3.ver+1) [vi fk,vi fb,vi fa,vi fbb],.box (b4.ver+1) [vi ki,vi k,vi i,vi n,.int .i64 0,.int .i64 0],b5',b6',b7,b8,bJb c4,.gone 0,.gone 0],[H.length+6])) /\
     ke o H.length c c4 ((k+1)*500000) (bE H.length (bE H.length (bE H.length dc w) w4) [o])/\(P2++[[vi ki,vi k,vi i,vi n,vi 0,vi 0]]).length<=P.length+(k+1)/\gG (P2++[[vi ki,vi k,vi i,vi n,vi 0,vi 0]])=true:=λc4 w4 i n b5' h4=>by
    obtain⟨vp3,b6',Lt,db⟩:=Wh.app (new:=[[vi ki,vi k,vi i,vi n,vi 0,vi 0]]) (bytes:=48) siT rfl soT;refine⟨vp3,b6',Lt,Lt.aj,Lt.ak, ?_,(h4 (k:=k*500000+420000) Dc omT).wrote ho |>.wider omT,soT,bP6 Xr rfl⟩;have:=db (H.set o (bKi t (.sr (H.length+9) 1 c4.length) vp2)++[b0,.box v1 [.str it.name,.sl Po (it.blocks.map aE),.sl Po (it.facts.map aI),.sl Po (it.ask.map gR)],b2,.box (b3.ver+1) [vi fk,vi fb,vi fa,vi fbb],.box (b4.ver+1) [vi ki,vi k,vi i,vi n,.int .i64 0,.int .i64 0],b5',b6,b7,b8,bJb c4,.gone 0,.gone 0]) Pa (by rw[aPr];rfl);rw[aPs]at this;exact this
   have Zz:∃(sv:Str)(ev:Int)(n:Nat)(cs:LN)(cv:AV)(i:Nat)(c4 w4:LN),aG A 56 [.agg [.str it.name,.sl Po (it.blocks.map aE),.sl Po (it.facts.map aI),.sl Po (it.ask.map gR)],.agg [vi fk,vi fb,vi fa,vi fbb]] (H.set o (bKi t (.sr (H.length+9) 1 c3.length) vp2)++[b0,.box v1 [.str it.name,.sl Po (it.blocks.map aE),.sl Po (it.facts.map aI),.sl Po (it.ask.map gR)],b2,.box (b3.ver+1) [vi fk,vi fb,vi fa,vi fbb],.box (b4.ver+1) [vi ki,vi k,.int .i64 0,.int .i64 0,.int .i64 0,.int .i64 0],.box (b5.ver+1) (aE b),b6,b7,b8,bJb c3,.gone 0,.gone 0])=N1 (.tup [.str sv,vi ev],(H.set o (bKi t (.sr (H.length+9) 1 c3.length) vp2)++[b0,.box v1 [.str it.name,.sl Po (it.blocks.map aE),.sl Po (it.facts.map aI),.sl Po (it.ask.map gR)],b2,.box (b3.ver+1) [vi fk,vi fb,vi fa,vi fbb],.box (b4.ver+1) [vi ki,vi k,.int .i64 0,.int .i64 0,.int .i64 0,.int .i64 0],.box (b5.ver+1) (aE b),b6,b7,b8,bJb c3,.gone 0,.gone 0]),[]) /\
     aG A 58 [.str sv] (H.set o (bKi t (.sr (H.length+9) 1 c3.length) vp2)++[b0,.box v1 [.str it.name,.sl Po (it.blocks.map aE),.sl Po (it.facts.map aI),.sl Po (it.ask.map gR)],b2,.box (b3.ver+1) [vi fk,vi fb,vi fa,vi fbb],.box (b4.ver+1) [vi ki,vi k,.int .i64 0,.int .i64 0,.int .i64 0,.int .i64 0],.box (b5.ver+1) (aE b),b6,b7,b8,bJb c3,.gone 0,.gone 0])=N1 (cv,(H.set o (bKi t (.sr (H.length+9) 1 c3.length) vp2)++[b0,.box v1 [.str it.name,.sl Po (it.blocks.map aE),.sl Po (it.facts.map aI),.sl Po (it.ask.map gR)],b2,.box (b3.ver+1) [vi fk,vi fb,vi fa,vi fbb],.box (b4.ver+1) [vi ki,vi k,.int .i64 0,.int .i64 0,.int .i64 0,.int .i64 0],.box (b5.ver+1) (aE b),b6,b7,b8,bJb c3,.gone 0,.gone 0]),[])/\aG A 57 [.ptr o 1 0,.int .i64 6,cv] (H.set o (bKi t (.sr (H.length+9) 1 c3.length) vp2)++[b0,.box v1 [.str it.name,.sl Po (it.blocks.map aE),.sl Po (it.facts.map aI),.sl Po (it.ask.map gR)],b2,.box (b3.ver+1) [vi fk,vi fb,vi fa,vi fbb],.box (b4.ver+1) [vi ki,vi k,.int .i64 0,.int .i64 0,.int .i64 0,.int .i64 0],.box (b5.ver+1) (aE b),b6,b7,b8,bJb c3,.gone 0,.gone 0])=N1 (.tup [vi i,vi n],(H.set o (bKi t (.sr (H.length+9) 1 c4.length) vp2)++[b0,.box v1 [.str it.name,.sl Po (it.blocks.map aE),.sl Po (it.facts.map aI),.sl Po (it.ask.map gR)],b2,.box (b3.ver+1) [vi fk,vi fb,vi fa,vi fbb],.box (b4.ver+1) [vi ki,vi k,.int .i64 0,.int .i64 0,.int .i64 0,.int .i64 0],.box (b5.ver+1) (aE b),b6,b7,b8,bJb c4,.gone 0,.gone 0]),w4)/\bQZ o H.length c3 c4 w4/\(cv=.ar∨cv=.sl Po (gZ cs)):=by
    obtain⟨sv,ev,qy,D7⟩:=kp (H.set o (bKi t (.sr (H.length+9) 1 c3.length) vp2)++[b0,.box v1 [.str it.name,.sl Po (it.blocks.map aE),.sl Po (it.facts.map aI),.sl Po (it.ask.map gR)],b2,.box (b3.ver+1) [vi fk,vi fb,vi fa,vi fbb],.box (b4.ver+1) [vi ki,vi k,.int .i64 0,.int .i64 0,.int .i64 0,.int .i64 0],.box (b5.ver+1) (aE b),b6,b7,b8,bJb c3,.gone 0,.gone 0]);have Kw:∃(cs:LN)(cv:AV),aG A 58 [.str sv] (H.set o (bKi t (.sr (H.length+9) 1 c3.length) vp2)++[b0,.box v1 [.str it.name,.sl Po (it.blocks.map aE),.sl Po (it.facts.map aI),.sl Po (it.ask.map gR)],b2,.box (b3.ver+1) [vi fk,vi fb,vi fa,vi fbb],.box (b4.ver+1) [vi ki,vi k,.int .i64 0,.int .i64 0,.int .i64 0,.int .i64 0],.box (b5.ver+1) (aE b),b6,b7,b8,bJb c3,.gone 0,.gone 0])=N1 (cv,(H.set o (bKi t (.sr (H.length+9) 1 c3.length) vp2)++[b0,.box v1 [.str it.name,.sl Po (it.blocks.map aE),.sl Po (it.facts.map aI),.sl Po (it.ask.map gR)],b2,.box (b3.ver+1) [vi fk,vi fb,vi fa,vi fbb],.box (b4.ver+1) [vi ki,vi k,.int .i64 0,.int .i64 0,.int .i64 0,.int .i64 0],.box (b5.ver+1) (aE b),b6,b7,b8,bJb c3,.gone 0,.gone 0]),[])/\CV cs cv/\cs.length<=200000/\(∀x∈cs,x<=63)/\(cv=.ar∨cv=.sl Po (gZ cs)):=by
     by_cases h0:sv=[]
     .subst h0;exact⟨[],.ar,F.lcode0 _,.nil,siT,siT,.inl rfl⟩
     obtain⟨cs,h1,h2,h3⟩:=F.Wj sv h0 D7 (H.set o (bKi t (.sr (H.length+9) 1 c3.length) vp2)++[b0,.box v1 [.str it.name,.sl Po (it.blocks.map aE),.sl Po (it.facts.map aI),.sl Po (it.ask.map gR)],b2,.box (b3.ver+1) [vi fk,vi fb,vi fa,vi fbb],.box (b4.ver+1) [vi ki,vi k,.int .i64 0,.int .i64 0,.int .i64 0,.int .i64 0],.box (b5.ver+1) (aE b),b6,b7,b8,bJb c3,.gone 0,.gone 0]);exact⟨cs,_,h1,.sl cs,omT,h3,.inr rfl⟩
    obtain⟨cs,cv,ru,Kw,hcs2,Yy,hcw⟩:=Kw;obtain⟨i,c4,w4,hr,Xa⟩:=bSR F (c:=c3) (t:=t) (vp:=vp2) (L:=[b0,.box v1 [.str it.name,.sl Po (it.blocks.map aE),.sl Po (it.facts.map aI),.sl Po (it.ask.map gR)],b2,.box (b3.ver+1) [vi fk,vi fb,vi fa,vi fbb],.box (b4.ver+1) [vi ki,vi k,.int .i64 0,.int .i64 0,.int .i64 0,.int .i64 0],.box (b5.ver+1) (aE b),b6,b7,b8,bJb c3,.gone 0,.gone 0]) ho rfl rfl omT Rl 6 cs Kw omT hcs2 Yy;exact⟨sv,ev,cs.length,cs,cv,i,c4,w4,qy,ru,hr,Xa,hcw⟩
   cases z1:((fk:Int)==0)with
   |true=>
    cases z2:(b.kind==0)with
    |true=>obtain⟨i,n,c4,w4,hr,Xa⟩:=bR1 F (c:=c3) (t:=t) (vp:=vp2) (L:=[b0,.box v1 [.str it.name,.sl Po (it.blocks.map aE),.sl Po (it.facts.map aI),.sl Po (it.ask.map gR)],b2,.box (b3.ver+1) [vi fk,vi fb,vi fa,vi fbb],.box (b4.ver+1) [vi ki,vi k,.int .i64 0,.int .i64 0,.int .i64 0,.int .i64 0],.box (b5.ver+1) (aE b),b6,b7,b8,bJb c3,.gone 0,.gone 0]) ht ho rfl rfl omT Rl b.runs (Mm (by simpa using z2));have hr:aG A 60 [.ptr o 1 0,.sl Po (b.runs.map cZ)] (H.set o (bKi t (.sr (H.length+9) 1 c3.length) vp2)++[b0,.box v1 [.str it.name,.sl Po (it.blocks.map aE),.sl Po (it.facts.map aI),.sl Po (it.ask.map gR)],b2,.box (b3.ver+1) [vi fk,vi fb,vi fa,vi fbb],.box (b4.ver+1) [vi ki,vi k,.int .i64 0,.int .i64 0,.int .i64 0,.int .i64 0],.box (b5.ver+1) (aE b),b6,b7,b8,bJb c3,.gone 0,.gone 0])=N1 (.tup [vi i,vi n],H.set o (bKi t (.sr (H.length+9) 1 c4.length) vp2)++[b0,.box v1 [.str it.name,.sl Po (it.blocks.map aE),.sl Po (it.facts.map aI),.sl Po (it.ask.map gR)],b2,.box (b3.ver+1) [vi fk,vi fb,vi fa,vi fbb],.box (b4.ver+1) [vi ki,vi k,.int .i64 0,.int .i64 0,.int .i64 0,.int .i64 0],.box (b5.ver+1) (aE b),b6,b7,b8,bJb c4,.gone 0,.gone 0],w4):=hr;obtain⟨vp3,b6',Lt,F1,hk3,db,Xq,hP4⟩:=hend c4 w4 i n (.box (b5.ver+1) (aE b)) Xa;simp only[go_sem,↓aB,seval,z1,z2,hr,e52,Gm,f0,f4,f5,f50,cj,hlt,Yx,S5,sh,aI,aO,cF,iz,bT.take];refine aY (aq:=bIS) rfT rfT ?_;simp only[go_sem,↓aB,seval,bIS,bJ5,db,F1,hk3,e52,f0,hlt,go1,go2,dy];exact⟨c4,vp3,_,_,_,_,b6',rfl,Xq,Lt,hP4⟩
    |false=>
     obtain⟨sv,ev,n,cs,cv,i,c4,w4,qy,ru,hr,Xa,hcw⟩:=Zz;obtain⟨vp3,b6',Lt,F1,hk3,db,Xq,hP4⟩:=hend c4 w4 i n (.box (b5.ver+1) (aE b)) Xa;rcases hcw with rfl|rfl
     all_goals
      simp only[go_sem,↓aB,seval,z1,z2,qy,ru,hr,e52,Gm,f0,f4,f5,f50,cj,hlt,Yx,S5,aI,aO,cF,iz,bT.take];refine aY (aq:=bIS) rfT rfT ?_;simp only[go_sem,↓aB,seval,bIS,bJ5,db,F1,hk3,e52,f0,hlt,go1,go2,dy];exact⟨c4,vp3,_,_,_,_,b6',rfl,Xq,Lt,hP4⟩
   |false=>
    obtain⟨sv,ev,n,cs,cv,i,c4,w4,qy,ru,hr,Xa,hcw⟩:=Zz;obtain⟨vp3,b6',Lt,F1,hk3,db,Xq,hP4⟩:=hend c4 w4 i n (.box (b5.ver+1) (aE b)) Xa;rcases hcw with rfl|rfl
    all_goals
     simp only[go_sem,↓aB,seval,z1,qy,ru,hr,e52,Gm,f0,f4,f5,f50,cj,hlt,Yx,aI,aO,cF,iz,bT.take];refine aY (aq:=bIS) rfT rfT ?_;simp only[go_sem,↓aB,seval,bIS,bJ5,db,F1,hk3,e52,f0,hlt,go1,go2,dy];exact⟨c4,vp3,_,_,_,_,b6',rfl,Xq,Lt,hP4⟩
  have:k=it.facts.length:=by simp at e3;omega
  subst this;simp only[go_sem,seval];exact⟨c2,vp2,P2,b3,b4,b5,b6,rfl,hm,Wh,hP2,Xr⟩
 rintro ρ' H' ba ⟨c2,vp2,P2,b3,b4,b5,b6,rfl,hm,Wh,hP2,Xr⟩ Pw;exact hQ ρ' c2 vp2 P2 b3 b4 b5 b6 ba Pw (hm.wider omT) Wh ⟨omT,Xr⟩
end
section
variable {A:af}{H:LO}{o:Nat}{t:my}{c:LN}{vp:AV}{T:List mr->Prop}
structure ItemW(A:af)(T:List mr->Prop)(it:Item):Prop where
 name:it.name≠[]/\it.name.length<=1000
 zq:it.blocks.length<=16
 B1:it.facts.length<=16
 tj:it.ask.length<=16
 kind:∀b∈it.blocks,0<=b.kind/\b.kind<1000000
 fact:∀f∈it.facts,Zy A T it f
 ask:∀q∈it.ask,AskW T q
structure WrL(n:Nat)(vp:AV)(c:LN)(L:LO):Prop where
 len:L.length=12
 q:L[9]? = N1 (bJb c)
 pl:∃P b6,L[6]? = N1 b6/\ew (n+6) 6 P vp b6/\gG P=Pa
def bP8(F:X3 A T)(ht:yr t){b0 b1 b2 b3 b4 b5 b6 b7 b8:ah}{its:List Item}(hl:its.length<=16)(hi:∀i∈its,ItemW A T i)(ho:o<H.length)(hP:P.length=0)(hG:ew (H.length+6) 6 P vp b6)(hc:c.length<=3000000)(r0:ρ 0=.ptr o 1 0)(r24:ρ 24=.sl Po (its.map aO))(r25:ρ 25=vi (its.length:Nat))(r26:ρ 26=vi 0)(hw:∀x∈wr,x=o)(X9:o∈wr){Q tg}(hQ:∀ρ' c2 vp2 L en,ke o H.length c c2 (16*200000000) en->WrL H.length vp2 c2 L->Q (.exit 0) ρ' (wst H o t vp2 c2 L) en):wl A 157 (wrC H.length) bKx ρ (wst H o t vp c [b0,b1,b2,b3,b4,b5,b6,b7,b8,bJb c,.gone 0,.gone 0]) wr Q tg:=by
 refine bJ (id:=0) (λk ρ1 H1 dc=>ρ1 26=vi k/\∃c2 vp2 P2 b1 b2 b3 b4 b5 b6 b7 b8,H1=wst H o t vp2 c2 [b0,b1,b2,b3,b4,b5,b6,b7,b8,bJb c2,.gone 0,.gone 0]/\ke o H.length c c2 (k*200000000) dc/\ew (H.length+6) 6 P2 vp2 b6/\P2.length<=k*16/\gG P2=Pa) its.length
  (λρ1 H1 dc=>∃c2 vp2 L,H1=wst H o t vp2 c2 L/\ke o H.length c c2 (its.length*200000000) dc/\WrL H.length vp2 c2 L) bIv rfl ⟨r26,c,vp,P,_,_,_,_,_,_,_,_,rfl,by rw[Ap];exact .same hw X9,hG,omT,by rw[DP hP];rfl⟩ ?_ ?_
 .rintro k ρ1 H1 dc zp ⟨e26,c2,vp2,P2,b1,b2,b3,b4,b5,b6,b7,b8,rfl,hm,Wh,hP2,Xr⟩ Pw;have f0:ρ1 0=.ptr o 1 0:=by rw[Pw 0 rfT];exact r0
  have f24:ρ1 24=.sl Po (its.map aO):=by rw[Pw 24 rfT];exact r24
  have f25:ρ1 25=vi (its.length:Nat):=by rw[Pw 25 rfT];exact r25
  simp only[go_sem,↓aB,seval,e26,f25];refine aD (λe3=>?_) (λe3=>?_)
  .have hlt:k<its.length:=by simp at e3;omega
   have dy:=wS (i:=k) omT;have cj:=mgE aO hlt;have Zb:=hi _ (AS hlt);generalize its[k]=it at *;have ax:=hm.len;have Rl:=Wh.vpok;have hL:=F.Wj it.name Zb.name.1 (by have:=Zb.name.2;omega) (H.set o (bKi t (.sr (H.length+9) 1 c2.length) vp2)++[b0,.box (b1.ver+1) (aO it),b2,b3,b4,b5,b6,b7,b8,bJb c2,.gone 0,.gone 0]);obtain⟨cs,ru,hcs2,Yy⟩:=hL;have hnm:=Zb.name.2;obtain⟨i,c3,w3,hr,hst3⟩:=bSR F (L:=[b0,.box (b1.ver+1) (aO it),b2,b3,b4,b5,b6,b7,b8,bJb c2,.gone 0,.gone 0]) ho rfl rfl omT Rl 2 cs (.sl cs) omT omT Yy;have hr:aG A 57 [.ptr o 1 0,.int .i64 2,.sl Po (gZ cs)] (H.set o (bKi t (.sr (H.length+9) 1 c2.length) vp2)++[b0,.box (b1.ver+1) (aO it),b2,b3,b4,b5,b6,b7,b8,bJb c2,.gone 0,.gone 0])=N1 (.tup [vi i,vi (cs.length:Nat)],H.set o (bKi t (.sr (H.length+9) 1 c3.length) vp2)++[b0,.box (b1.ver+1) (aO it),b2,b3,b4,b5,b6,b7,b8,bJb c3,.gone 0,.gone 0],w3):=hr;have Dc:=hst3 (k:=k*200000000+210000) hm omT;have yz:c3.length<=c.length+k*200000000+210000:=by
    have:=Dc.len
    rwa [<- EU]at this
   simp only[aO]at ru hr;simp only[go_sem,↓aB,seval,e26,f0,f24,ru,hr,cj,hlt,aO];refine bOJ F Zb.zq Zb.kind ho Rl omT ?_ ?_ ?_ ?_ Dc.old Dc.mem ?_
   .exact f0
   .rfl
   .rfl
   .rfl
   intro ρ2 c4 b2' wr4 cq Xq;have hl4:=Xq.len;have g0:=(cq 0 rfl).trans f0;have g4:=cq 4 rfl;have g5:=cq 5 rfl;have g26:=(cq 26 rfl).trans e26;simp only[go_sem,↓aB,seval,g5];refine bP7 (ki:=k) F ht Zb.B1 Zb.zq Zb.fact ho omT Xr Wh omT ?_ ?_ ?_ ?_ ?_ ?_ Xq.old Xq.mem ?_
   .exact g0
   .exact g4
   .exact g5
   .rfl
   .rfl
   .rfl
   intro ρ3 c5 vp3 P3 b3' b4' b5' b6' wr5 im hm5 Lt ⟨hP3,hPd3⟩;have hl5:=hm5.len;have i0:=(im 0 rfl).trans g0;have i5:=(im 5 rfl).trans g5;have i26:=(im 26 rfl).trans g26;simp only[go_sem,↓aB,seval,i5,aO];refine bPW F ht Zb.tj Zb.ask ho Lt.vpok omT ?_ ?_ ?_ ?_ hm5.old hm5.mem ?_
   .exact i0
   .rfl
   .rfl
   .rfl
   intro ρ4 c6 b7' b8' wr6 I3 hm6;have j26:=(I3 26 rfl).trans i26;simp only[go_sem,↓aB,seval,j26,dy];refine⟨hlt,c6,vp3,P3,_,_,_,_,_,_,_,_,rfl, ?_,Lt,omT,hPd3⟩;have hm7:=(Dc.trans Xq (AQ _)).trans (hm5.trans hm6 (AQ _)) (AQ _);exact hm7.wider omT
  have:k=its.length:=by simp at e3;omega
  subst this;exact⟨c2,vp2,_,rfl,hm,rfl,rfl,P2,b6,rfl,Wh,Xr⟩
 rintro ρ' H' ba ⟨c2,vp2,L,rfl,hm,hWL⟩ Pw;exact hQ ρ' c2 vp2 L ba (hm.wider omT) hWL
structure ExamW(A:af)(T:List mr->Prop)(x:jm):Prop where
 title:x.title≠[]/\x.title.length<=1000
 G8:x.items.length<=16
 item:∀i∈x.items,ItemW A T i
def bP9(F:X3 A T)(ht:yr t)(hb:H[o]? = N1 (bKi t (.sl Pa []) (.sl Pa [])))(x:jm)(hx:ExamW A T x):∃(c:LN)(vp:AV)(L:LO)(wr:LN),aG A 32 [.ptr o 1 0,dE x] H=N1 (.tup [],wst H o t vp c L,wr)/\WrL H.length vp c L/\c.length<=4000000000/\(∀x∈c,x<=63)/\(∀y∈wr,y=o)/\o∈wr:=by
 have ho:=getElem?_lt hb;have tl:=hx.title.2;obtain⟨r,H',ba,e1,c,vp,L,rfl,rfl,h2,h4,h5,h6,h7⟩:=F.write.bp (args:=[.ptr o 1 0,dE x]) (H:=H) (K:=λr H' wr=>∃c vp L,r=.tup []/\H'=wst H o t vp c L/\WrL H.length vp c L/\c.length<=4000000000/\(∀x∈c,x<=63)/\(∀y∈wr,y=o)/\o∈wr) (by
  simp only[bJU];obtain⟨cs,ru,hcs2,Yy⟩:=F.Wj x.title hx.title.1 omT (H++[.box 1 [.str x.title,.sl Po (x.items.map aO)],.gone 0,.gone 0,.gone 0,.gone 0,.gone 0,.gone 0,.gone 0,.gone 0]);obtain⟨i,d,wr,hr,hd1,O9,hd3,hd4⟩:=bQM F.rc F.head (H:=H++[.box 1 [.str x.title,.sl Po (x.items.map aO)],.gone 0,.gone 0,.gone 0,.gone 0,.gone 0,.gone 0,.gone 0,.gone 0]) (o:=o) (t:=t) (vp:=.sl Pa []) (by rw[BM ho];exact hb) 1 cs omT omT Yy;have hH:(H++[.box 1 [.str x.title,.sl Po (x.items.map aO)],.gone 0,.gone 0,.gone 0,.gone 0,.gone 0,.gone 0,.gone 0,.gone 0]:LO).set o (bKi t (.sr (H++[.box 1 [.str x.title,.sl Po (x.items.map aO)],.gone 0,.gone 0,.gone 0,.gone 0,.gone 0,.gone 0,.gone 0,.gone 0]:LO).length 1 d.length) (.sl Pa []))++[bJb d,.gone 0,.gone 0] =
    H.set o (bKi t (.sr (H.length+9) 1 d.length) (.sl Pa []))++[.box 1 [.str x.title,.sl Po (x.items.map aO)],.gone 0,.gone 0,.gone 0,.gone 0,.gone 0,.gone 0,.gone 0,.gone 0,bJb d,.gone 0,.gone 0]:=by
   rw[DX _ _ ho,CJ,BA];rfl
  rw[hH]at hr;have hr:aG A 57 [.ptr o 1 0,.int .i64 1,.sl Po (gZ cs)] _=_:=hr;have ma:∀y∈bE H.length [] wr,y=o:=bM7 ho (λy hy=>(hd3 y hy).imp id λh=>by simpa using h) siT;have howr:o∈bE H.length [] wr:=bN4 ho (.inr hd4);simp only[go_sem,↓aB,seval,ru,hr,dE];refine bP8 F ht hx.G8 hx.item ho (P:=[]) rfl (.nil _) omT ?_ ?_ ?_ ?_ ma howr ?_
  .rfl
  .rfl
  .rfl
  .rfl
  intro ρ2 c2 vp2 L en hm hWL;have iq:=hm.len;have zl:cJ H.length (.tup [],wst H o t vp2 c2 L,en)=(.tup [],wst H o t vp2 c2 L,en):=by unfold cJ;dsimp only;rw[Vw];intro hc;rw[AI,AO]at hc;have:=hc.2 o hm.mem;rw[aP ho]at this;simp[ah.under,dJ,AV.under]at this;omega
  simp only[go_sem,↓aB,seval,zl];exact⟨c2,vp2,L,rfl,hWL,omT,hm.le O9,hm.old,hm.mem⟩)
 exact⟨c,vp,L,ba,e1,h2,h4,h5,h6,h7⟩
end
def bMJ:=(.mk _:bb 15 bTx).x
abbrev bMs:=bTw 4 (bJ6 55)
abbrev bMt:LN:=[3,8]
def bMK:=(.mk _:bb 4 (bIC [(55,.region Pa bMs)])).x
def bPX{base v f:Nat}{k:IntKind}{n:Int}:cJ base (.tup [.ptr (base+i) v f,.int k n],H,wr)=(.tup [.ptr (base+i) v f,.int k n],H,wr):=by unfold cJ;dsimp only;rw[Vw];simp[AV.under,dJ];omega
section
variable {A:af}{T:List mr->Prop}
structure Wr(A:af)(T:List mr->Prop):Prop where
 w:X3 A T
 render:Has A 15 bMJ
 Render:Has A 4 bMK
 stops:Has A 16 bM3
 tabv:bMU A
structure Xv(A:af)(T:List mr->Prop)(x:jm):Prop where
 w:ExamW A T x
 valid:∀X,aG A 29 [dE x] X=N1 (vi 0,X,[])
 facts:∀X,∃R,aG A 31 [dE x] X=N1 (.tup [.sl Po R,vi 0],X,[])
def bRE(F:Wr A T)(ht:yr t){x:jm}(hx:Xv A T x)(H:LO):∃c vp L b0 b1,aG A 15 [dE x,bJF t] H=N1 (.tup [.ptr (H.length+2) 1 0,vi 0],H++b0::b1::bKi t (.sr (H.length+12) 1 c.length) vp::L,[])/\WrL (H.length+3) vp c L/\c.length<=4000000000/\∀x∈c,x<=63:=by
 obtain⟨r,H',ba,e1,c,vp,L,b0,b1,rfl,rfl,rfl,h2,h3,h4⟩:=F.render.bp (args:=[dE x,bJF t]) (H:=H) (K:=λr H' wr=>∃c vp L b0 b1,r=.tup [.ptr (H.length+2) 1 0,vi 0]/\H'=H++b0::b1::bKi t (.sr (H.length+12) 1 c.length) vp::L/\wr=[]/\WrL (H.length+3) vp c L/\c.length<=4000000000/\∀x∈c,x<=63) (by
  have hv:=hx.valid;have htv:=λX=>F.tabv t ht X;obtain⟨R,hf⟩:=hx.facts (H++[.box 1 [.str x.title,.sl Po (x.items.map aO)],.box 1 [.sl Po (t.l0.map bIx),.sl Po (t.l1.map bIx),.sl Po (gZ t.dig),.sl Po (gZ t.cap),.sl Po (gZ t.num),.sl Po (gZ t.fin),.sl Po (gZ t.sw)],.gone 0]);obtain⟨c,vp,L,wr,hw,hL,kq,hc6,hwo,hwm⟩:=bP9 F.w ht (H:=H++[.box 1 [.str x.title,.sl Po (x.items.map aO)],.box 1 [.sl Po (t.l0.map bIx),.sl Po (t.l1.map bIx),.sl Po (gZ t.dig),.sl Po (gZ t.cap),.sl Po (gZ t.num),.sl Po (gZ t.fin),.sl Po (gZ t.sw)],bKi t (.sl Pa []) (.sl Pa [])]) (o:=H.length+2) (by rw[bX];rfl) x hx.w;have bd:wst (H++[.box 1 [.str x.title,.sl Po (x.items.map aO)],.box 1 [.sl Po (t.l0.map bIx),.sl Po (t.l1.map bIx),.sl Po (gZ t.dig),.sl Po (gZ t.cap),.sl Po (gZ t.num),.sl Po (gZ t.fin),.sl Po (gZ t.sw)],bKi t (.sl Pa []) (.sl Pa [])]) (H.length+2) t vp c L=H++.box 1 [.str x.title,.sl Po (x.items.map aO)]::.box 1 [.sl Po (t.l0.map bIx),.sl Po (t.l1.map bIx),.sl Po (gZ t.dig),.sl Po (gZ t.cap),.sl Po (gZ t.num),.sl Po (gZ t.fin),.sl Po (gZ t.sw)]::bKi t (.sr (H.length+12) 1 c.length) vp::L:=by unfold wst;rw[eS,CJ,BA];rfl
  rw[bd]at hw;have ma:∀b,b<=H.length+2->bE b [] wr=[]:=λb hb=>kH λy hy=>by rw[hwo y hy];exact hb
  simp only[bMJ];unfold dE at *;simp only[go_sem,↓aB,seval,hv,htv,hf,hw,ma];rw[bPX];exact⟨c,vp,L,_,_,rfl,rfl,rfl,(by simpa using hL),kq,hc6⟩)
 exact⟨c,vp,L,b0,b1,e1,h2,h3,h4⟩
abbrev bO1(A:af)(T:List mr->Prop):Prop:=∀(t:my),yr t->∀x:jm,Xv A T x->∀H,∃c:LN,aG A 4 [dE x,bJF t] H=N1 (.tup [.agg [.sl Po (gZ c),.sl Po ((bIH c).map bF)],vi 0],H,[])/\c.length<=4000000000/\∀x∈c,x<=63
def bRF(F:Wr A T):bO1 A T:=by
 intro t ht x hx H;obtain⟨r,H',ba,e1,c,rfl,rfl,rfl,h2,h3⟩:=F.Render.bp (args:=[dE x,bJF t]) (H:=H) (K:=λr H' wr=>∃c:LN,r=.tup [.agg [.sl Po (gZ c),.sl Po ((bIH c).map bF)],vi 0]/\H'=H/\wr=[]/\c.length<=4000000000/\∀x∈c,x<=63) (by
  obtain⟨c,vp,L,b0,b1,hr,⟨hL12,hL9,P,b6,hL6,hG,hPd⟩,kq,hc6⟩:=bRE F ht hx (H++[.box 1 [.str x.title,.sl Po (x.items.map aO)],.box 1 [.sl Po (t.l0.map bIx),.sl Po (t.l1.map bIx),.sl Po (gZ t.dig),.sl Po (gZ t.cap),.sl Po (gZ t.num),.sl Po (gZ t.fin),.sl Po (gZ t.sw)],.box 1 [.sl Pa [],.sl Pa []]])
  match L,hL12 with
  | [l0,l1,l2,l3,l4,l5,l6,l7,l8,l9,l10,l11],_=>
  have e9:l9=bJb c:=by simpa using hL9
  have e6:l6=b6:=by simpa using hL6
  subst e9 e6;rw[CJ]at hr;have hr:aG A 15 [dE x,bJF t] (H++[.box 1 [.str x.title,.sl Po (x.items.map aO)],.box 1 [.sl Po (t.l0.map bIx),.sl Po (t.l1.map bIx),.sl Po (gZ t.dig),.sl Po (gZ t.cap),.sl Po (gZ t.num),.sl Po (gZ t.fin),.sl Po (gZ t.sw)],.box 1 [.sl Pa [],.sl Pa []]])=N1 (.tup [.ptr (H.length+5) 1 0,vi 0],H++[.box 1 [.str x.title,.sl Po (x.items.map aO)],.box 1 [.sl Po (t.l0.map bIx),.sl Po (t.l1.map bIx),.sl Po (gZ t.dig),.sl Po (gZ t.cap),.sl Po (gZ t.num),.sl Po (gZ t.fin),.sl Po (gZ t.sw)],.box 1 [.sl Pa [],.sl Pa []],b0,b1,bKi t (.sr (H.length+15) 1 c.length) vp,l0,l1,l2,l3,l4,l5,l6,l7,l8,bJb c,l10,l11],[]):=by simpa using hr
  have hsto:=λX=>bM4 (k:=1) (H:=X) (by have:=bNH F.stops c omT X;rwa [bKS]at this);simp only[bMK];unfold dE at *;have hG:ew (H.length+12) 6 P vp l6:=by simpa using hG
  obtain⟨fp,lp,op,m1,m2,m3⟩:=hG.dw hPd;have p1:∀a0 a1 a2 a3 a4 a5 a6 a7 a8 a9 a10 a11 L,aA2 (H++a0::a1::a2::a3::a4::a5::a6::a7::a8::a9::a10::a11::l6::L) vp=N1 (.sl fp P,lp):=λa0 a1 a2 a3 a4 a5 a6 a7 a8 a9 a10 a11 L=>m1 _ (by rw[bX];rfl);have p2:∀a0 a1 a2 a3 a4 a5 a6 a7 a8 a9 a10 a11 L,dL (H++a0::a1::a2::a3::a4::a5::a6::a7::a8::a9::a10::a11::l6::L) lp=H++a0::a1::a2::a3::a4::a5::a6::a7::a8::a9::a10::a11::op::L:=λa0 a1 a2 a3 a4 a5 a6 a7 a8 a9 a10 a11 L=>by rw[m2 _ (by rw[bX];rfl),eS];rfl
  have p3:∀wr r,bE H.length wr (lp++r)=bE H.length wr r:=λwr r=>by rw[aAS,m3 _ _ omT]
  have p4:=λwr=>m3 H.length wr omT;have ru:=aT (bIy c);have hcd:=λn=>aA (n:=n) (bIy c);have hid:=λn=>aA (n:=n) (aC aU (bIH c));simp only[go_sem,↓aB,seval,hr,ru,p1,p2,p3];refine aY (aq:=bMt) rfT rfT ?_;simp only[go_sem,↓aB,seval,bMt,bMs,hsto,hcd,hid,eH,dG,aL];exact⟨c,rfl,kq,hc6⟩)
 exact⟨c,e1,h2,h3⟩
end
def bJA:=(.mk _:bb 9 bTx).x
def bPY(h:Has A 9 bJA)(l:List Int)(m:Nat)(hm:m<=1000000)(H:LO):aG A 9 [.sl Po (l.map bF),vi m] H=N1 (if (l.take m).isEmpty then .sl Po [] else .own 1 ((l.take m).map bF),H,[]):=by
 refine h.call ?_;simp only[bJA];have hmn':(if m<l.length then (m:Int)else (l.length:Int))=((min m l.length:Nat):Int):=by split<;>omega
 have hb:dU l.length N2 (N1 (vi ((min m l.length:Nat):Int))) N2=N1 (0,min m l.length,l.length):=by have h1:0<=((min m l.length:Nat):Int)/\((min m l.length:Nat):Int)<=(l.length:Nat):=omT;simp only[dU,iL];rw[Vx h1];simp
 have hh:dF 1 (l.map bF)=true:=by cases l<;>rfl
 have ht:(l.map bF).take (min m l.length)=(l.take m).map bF:=by
  rw[<- Pu];congr 1;rcases Nat.le_total m l.length with h|h
  .rw[Gy h]
  rw[Nat.min_eq_right h,DM,CH h]
 simp only[go_sem,↓aB,seval,hmn',hb,hh,ht];cases he:l.take m with
 |nil=>simp only[go_sem,↓aB,seval]
 |cons a r=>
  have hk:(a::r).length<=m:=by rw[<- he];simp;omega
  have hr:bP (r.length+1) 8=true:=by unfold bP;simp at hk ⊢;omega
  have hs:((bF a).all AV.still&&(r.map bF).all λr=>r.all AV.still)=true:=by simpa using aT (aC aU (a::r))
  simp only[go_sem,↓aB,seval,hr,show (bF a).length=1 from rfl,hs,cJ];have hu:(dJ H.length (bF a)&&eR H.length (r.map bF))=true:=aA (aC aU (a::r));rw[Vx hu];exact⟨rfl,rfl,rfl⟩
section
variable {A:af}{T:List mr->Prop}
structure Zo(A:af)(T:List mr->Prop):Prop where
 J3:∀{l:List Int},jP l->∀H,∃x:jm,aG A 5 [.sl Po (l.map bF)] H=N1 (dE x,H,[])/\Xv A T x
 tabs:∀{n:Int},eA n->∀H,∃t:my,yr t/\aG A 6 [vi n] H=N1 (bJF t,H,[])
 render:bO1 A T
 F:Wm A
 spoilt:∀(c:LN)(st:List Int),c.length<=9000000000->st.length<=9000000000->∀{at' X9 by':Int},eA at'->eA X9->eA by'->∀H,∃r H' wr,aG A 8 [.agg (bJP c st),vi at',vi X9,vi by'] H=N1 (r,H',wr)/\spK H c st r H' wr
 take:Has A 9 bJA
 law:Has A 3 bJo
 wu:∀H,aG A 14 [] H=N1 (.bool Pa,H,[])
def bOh(S:Zo A T){l:List Int}{n at' X9 by':Int}(hl:jP l)(hn:eA n)(h1:eA at')(h2:eA X9)(h3:eA by')(H:LO):aG A 3 [.sl Po (l.map bF),vi n,vi at',vi X9,vi by',.sl Po (ks.map bF)] H=N1 (.bool Pa,H,[]):=by
 refine S.law.call ?_;obtain⟨x,hx,hgx⟩:=S.J3 hl (H++[.gone 0,.gone 0,.gone 0,.gone 0,.gone 0]);obtain⟨t,ht,cx⟩:=S.tabs hn (H++[.gone 0,.gone 0,.gone 0,.gone 0,.gone 0]);obtain⟨c,hr,hc,hc6⟩:=S.render t ht x hgx (H++[.gone 0,.gone 0,.gone 0,.gone 0,.gone 0]);have bd:(bIH c).length<=4000000000:=by rw[AF];exact HX (bOo c) hc
 obtain⟨r,H',ba,Wo,rfl,rfl,c1,s1,rfl,mj,lq⟩:=S.spoilt c (bIH c) omT omT h1 h2 h3 (H++[.box 1 (bJP c (bIH c)),.gone 0,.gone 0,.gone 0,.gone 0]);have Qk:=bPU S.F.plain c (bIH c) (H++[.box 1 (bJP c (bIH c)),.gone 0,.gone 0,.gone 0,.gone 0]);have hb:bRb c=false:=KH.2 λy hy=>by have:=hc6 y hy;simp;omega
 have pk:=bPY S.take ks 20 omT (H++[.box 1 (bJP c (bIH c)),.gone 0,.gone 0,.gone 0,.gone 0]);have sh:cX (aG A) (H++[.box 1 (bJP c (bIH c)),.gone 0,.gone 0,.gone 0,.gone 0]) N2 (.fn 9 [] []) [.sl Po (ks.map bF),.int .i64 20]=N1 (.sl Po ((ks.take 20).map bF),H++[.box 1 (bJP c (bIH c)),.gone 0,.gone 0,.gone 0,.gone 0],[]):=by
  have pk:aG A 9 [.sl Po (ks.map bF),.int .i64 20] _=_:=pk;cases he:(ks.take 20).isEmpty with
  |true=>
   rw[he,Vx rfl]at pk;have:ks.take 20=[]:=uXe
   rw[this];simp only[go_sem,seval,pk]
  |false=>rw[he,Vw siT]at pk;simp only[go_sem,seval,pk]
 have zp:(ks.take 20).length<=20:=soT;simp only[bJo];unfold dE at hx hr;simp only[go_sem,↓aB,seval,hx,cx,hr];refine aY (aq:=bJH) rfT rfT ?_;simp only[go_sem,↓aB,seval,bJH,bJG,Qk,Wo,sh,eH,dG,aL];refine bQT S.F zp (rows:=[bJP c (bIH c),bJP c1 s1,bJP [] []]) (fl:=Pa) ?_ ?_ ?_ ?_ ?_
 .intro k hk;have:k=0∨k=1∨k=2:=omT;rcases this with rfl|rfl|rfl
  .exact⟨c,bIH c,Po,rfl,omT,omT⟩
  .exact⟨c1,s1,Po,rfl,omT,omT⟩
  exact⟨[],[],Po,rfl,siT,siT⟩
 .rfl
 .rfl
 .rfl
 intro ρ1 Jh;have f13:ρ1 13=.ptr H.length 1 0:=Jh 13 rfl;have f14:ρ1 14=vi 0:=Jh 14 rfl;have ed:bP c.length 1=true:=by unfold bP;simp;omega
 have hrep:AX c.length [AV.bool Po]=(AX c.length Po).map bJS:=by rw[Ay]
 simp only[go_sem,↓aB,seval,-Ag,f13,f14,ed];rw[hrep];refine bQX (H:=H) (x2:=.gone 0) (x3:=.gone 0) (x4:=.gone 0) S.F omT hb (B:=AX c.length Po) MI ?_ ?_ ?_ ?_ ?_
 .exact f13
 .rfl
 .rfl
 .rfl
 intro ρ2 B x2 x3 x4 cq hB hS;have g13:ρ2 13=.ptr H.length 1 0:=(cq 13 rfl).trans f13;have g24:ρ2 24=.sr (H.length+1) 1 c.length:=cq 24 rfl;simp only[go_sem,↓aB,seval,];refine bRC omT hB hS ?_ ?_ ?_ ?_
 .exact g13
 .exact g24
 .rfl
 intro ρ3 im;have E4:=S.wu;simp only[go_sem,↓aB,seval,E4]
end
def aSy(h:Has A 62 bKD){x y w hh:Int}(hx:0<=x/\x<=1000)(hy:0<=y/\y<=1000)(hw:0<=w/\w<=1000)(ft:0<=hh/\hh<=1000)(H:LO):aG A 62 [vi x,vi y,vi w,vi hh] H=N1 (.sl Po ([(x,y),(x+w,y),(x+w,y+hh),(x,y+hh)].map bL),H,[]):=by have h1:AR.wrap (x+w)=x+w:=wrap_i64 omT omT;have h2:AR.wrap (y+hh)=y+hh:=wrap_i64 omT omT;refine h.call ?_;simp only[bKD];simp only[go_sem,seval,h1,h2,bL]
def aOz(h:Has A 38 fD)(ht:fR A)(hbx:∀{x y w hh:Int},(0<=x/\x<=1000)->(0<=y/\y<=1000)->(0<=w/\w<=1000)->(0<=hh/\hh<=1000)->∀H,aG A 62 [vi x,vi y,vi w,vi hh] H=N1 (.sl Po ((P4 x y w hh).map bL),H,[])):dI A 38 [] aNr:=by
 refine h.gen (by simp[fD]) (λn=>bIv) ?_;intro l i o v H hl hlt ho;have bl:∀k,(H.length+k==o)=false:=λk=>by simp;omega
 simp only[fD];simp only[go_sem,seval];refine aY (aq:=kW) rfT rfT ?_;simp only[go_sem,seval,kW];refine eB (bA ht (m:=4) deT) hl (i:=i) uWd ?_;rintro val i1 ⟨x1,rfl,jr,lz⟩;have w1:AR.wrap (24+x1)=24+x1:=wrap_i64 omT omT;simp only[go_sem,seval,hlt,fN,w1];refine eB (bA ht (m:=9) deT) hl (i:=i1) uWb ?_;rintro val i2 ⟨x2,rfl,C9,hx3⟩;have w2:AR.wrap (30+x2)=30+x2:=wrap_i64 omT omT;have fo:=λH=>hbx (x:=2) (y:=2) (w:=24+x1) (hh:=30+x2) deT deT omT omT H;simp only[go_sem,seval,hlt,aR,w2,fo,bP,eH,dG,bl,aL];refine bB (bA ht (m:=3) deT) hl (i:=i2) uWb ?_;rintro val i3 ⟨x3,rfl,hx4,hx5⟩;simp only[go_sem,seval,hlt,aR];have s1:Shape.mk 2 (P4 2 2 (24+x1) (30+x2))∈bE7:=CZ _ (bEo (f:=λx y=>⟨2,P4 2 2 (24+x) (30+y)⟩) jr lz C9 hx3);have S1:bHs [Shape.mk 2 (P4 2 2 (24+x1) (30+x2))]:=⟨λa ha=>by rw[CG.1 ha];exact s1,_,_,rfl,rfl⟩;refine xX (W:=[23,24,25,26,27,28,29,30,31,32,33,34,35,36]) (λ_ H1 wr=>wr=[o]/\∃i' o5,∃S:List Shape,1<=S.length/\S.length<=2/\bHs S /\
  H1=H.set o (.box v (aM l i'))++[.gone 0,.gone 0,.box 1 [vi 0,vi 0,.sl Pa []],.box 1 [vi 60,vi 50,.sr (H.length+4) 1 S.length],.vec 1 2 (S.map aH),o5,.gone 0,.gone 0,.gone 0]) rfT (λhb=>?_) (λhb=>?_) ?_
 .refine aY (aq:=kX) rfT rfT ?_;simp only[go_sem,seval,kX];refine eB (bA ht (m:=5) deT) hl (i:=i3) uWb ?_;rintro val i4 ⟨x4,rfl,hx6,hx7⟩;have w4:AR.wrap (10+x4)=10+x4:=wrap_i64 omT omT;simp only[go_sem,seval,hlt,aR,w4];refine eB (bA ht (m:=8) deT) hl (i:=i4) uWb ?_;rintro val i5 ⟨x5,rfl,hx8,hx9⟩;have w5:AR.wrap (12+x5)=12+x5:=wrap_i64 omT omT;simp only[go_sem,seval,hlt,aR,w5,bP,eH,dG,bl,aL];exact⟨i5,_,[Shape.mk 2 (P4 2 2 (24+x1) (30+x2)),Shape.mk 0 [(10+x4,12+x5)]],siT,siT,S1.app (CX _ (CZ _ (bEo (f:=λx y=>⟨0,[(10+x,12+y)]⟩) hx6 hx7 hx8 hx9))),rfl⟩
 .simp only[go_sem,seval];exact⟨i3,_,[Shape.mk 2 (P4 2 2 (24+x1) (30+x2))],siT,siT,S1,rfl⟩
 rintro ρ2 H2 en ⟨rfl,i6,o5,S,hS1,hS2,hS3,rfl⟩ cq;have g0:ρ2 0=.ptr o v 0:=by rw[cq 0 rfl];simp only[go_sem,seval]
 have g2:ρ2 2=.ptr (H.length+2) 1 0:=by rw[cq 2 rfl];simp only[go_sem,seval]
 have g3:ρ2 3=.ptr (H.length+3) 1 0:=by rw[cq 3 rfl];simp only[go_sem,seval]
 have g94:ρ2 94=.undef:=by rw[cq 94 rfl];simp only[go_sem,seval]
 simp only[go_sem,seval,g0];refine bB (bA ht (m:=4) deT) hl (i:=i6) uWb ?_;rintro val i7 ⟨x6,rfl,hx10,hx11⟩;have w6:AR.wrap (36+x6)=36+x6:=wrap_i64 omT omT;simp only[go_sem,seval,hlt,aR,w6];refine bB (bA ht (m:=2) deT) hl (i:=i7) uWb ?_;rintro val i8 ⟨x7,rfl,hx12,hx13⟩;simp only[go_sem,seval,hlt,aR];have vg:∀(a:Shape)(S:List Shape),S.map aH++[[vi a.kind,.sl Po (a.points.map bL)]]=(S++[a]).map aH:=λa S=>by simp[aH]
 refine xX (W:=[43,44,45,46,47,48,49,50,51,52,53,54,55,56,57,58,59,60,61,62,63,64,65,66,67,68,69,70]) (λ_ H1 wr=>wr=[o]/\∃i' o5 o6 o7,∃S:List Shape,2<=S.length/\S.length<=3/\bHs S /\
  H1=H.set o (.box v (aM l i'))++[.gone 0,.gone 0,.box 1 [vi 0,vi 0,.sl Pa []],.box 1 [vi 60,vi 50,.sr (H.length+4) 1 S.length],.vec 1 2 (S.map aH),o5,o6,o7,.gone 0]) rfT (λhb=>?_) (λhb=>?_) ?_
 .refine aY (aq:=kY) rfT rfT ?_;have w7:AR.wrap (36+x6+8)=36+x6+8:=wrap_i64 omT omT;simp only[go_sem,seval,kY,g0,g3,w7];refine eB (bA ht (m:=6) deT) hl (i:=i8) uWb ?_;rintro val i9 ⟨x8,rfl,hx14,hx15⟩;have w8:AR.wrap (10+x8)=10+x8:=wrap_i64 omT omT;have hr:bP (S.length+1) 32=true:=by unfold bP;simp;omega
  have hsu:=vg ⟨1,[(36+x6,4),(36+x6+8,10+x8),(36+x6,30)]⟩ S;simp only[DR,bL]at hsu;simp only[go_sem,seval,hlt,aR,w8,hr,hsu,eH,dG,bl,aL];exact⟨i9,_,_,_,S++[⟨1,[(36+x6,4),(36+x6+8,10+x8),(36+x6,30)]⟩],soT,soT,hS3.app (CX _ (CX _ (CZ _ (bEo (f:=λx y=>⟨1,[(36+x,4),(36+x+8,10+y),(36+x,30)]⟩) hx10 hx11 hx14 hx15)))),by simp only[BA,AW,AZ,BC];rfl⟩
 .refine aY (aq:=kZ) rfT rfT ?_;simp only[go_sem,seval,kZ,g0,g3];refine eB (bA ht (m:=12) deT) hl (i:=i8) uWb ?_;rintro val i9 ⟨x8,rfl,hx14,hx15⟩;have w8:AR.wrap (12+x8)=12+x8:=wrap_i64 omT omT;have hr:bP (S.length+1) 32=true:=by unfold bP;simp;omega
  have dp:=λH=>hbx (x:=36+x6) (y:=5) (w:=10) (hh:=12+x8) omT deT deT omT H;have hsu:=vg ⟨2,P4 (36+x6) 5 10 (12+x8)⟩ S;simp only[DR]at hsu dp;simp only[go_sem,seval,hlt,aR,w8,dp,hr,hsu,eH,dG,bl,aL];exact⟨i9,_,_,_,S++[⟨2,P4 (36+x6) 5 10 (12+x8)⟩],soT,soT,hS3.app (CX _ (CX _ (CX _ (CZ _ (bEo (f:=λx y=>⟨2,P4 (36+x) 5 10 (12+y)⟩) hx10 hx11 hx14 hx15))))),by simp only[BA,AW,AZ,BC];rfl⟩
 rintro ρ3 H3 wr3 ⟨rfl,i9,o5',o6,o7,T,hT1,hT2,hT3,rfl⟩ im;have e0:ρ3 0=.ptr o v 0:=by rw[im 0 rfl];simp only[go_sem,seval,g0]
 have e2:ρ3 2=.ptr (H.length+2) 1 0:=by rw[im 2 rfl];simp only[go_sem,seval,g2]
 have e3:ρ3 3=.ptr (H.length+3) 1 0:=by rw[im 3 rfl];simp only[go_sem,seval,g3]
 have e94:ρ3 94=.undef:=by rw[im 94 rfl];simp only[go_sem,seval,g94]
 clear cq im;simp only[go_sem,seval,e0];refine bB (bA ht (m:=3) deT) hl (i:=i9) uWb ?_;rintro val i10 ⟨x9,rfl,hx16,hx17⟩;simp only[go_sem,seval,hlt,aR];refine aD (λhb=>?_) (λhb=>?_)
 .simp only[go_sem,seval];refine aY (aq:=lA) rfT rfT ?_;simp only[go_sem,seval,lA,e0,e3];refine eB (bA ht (m:=20) deT) hl (i:=i10) uWb ?_;rintro val i11 ⟨x10,rfl,hx18,hx19⟩;have w10:AR.wrap (36+x10)=36+x10:=wrap_i64 omT omT;have hr:bP (T.length+1) 32=true:=by unfold bP;simp;omega
  simp only[go_sem,seval,e3,hlt,aR,w10,hr,eH,dG,bl,aL];have w11:AR.wrap (((T.length+1:Nat):Int) - 1)=(T.length:Int):=by rw[wrap_i64 omT omT];omega
  have Ye:(T.map aH++[[AV.int AR 1,AV.sr H.length 1 2]])[T.length]? = N1 [AV.int AR 1,AV.sr H.length 1 2]:=siT;rw[w11];refine aY (aq:=lB) rfT rfT ?_;have w12:AR.wrap (36+x10+3)=36+x10+3:=wrap_i64 omT omT;have lg:∀x y,(T.map aH++[x]).set T.length y=T.map aH++[y]:=λx y=>by simp
  have hsu:=vg ⟨1,[(36,44),(36+x10+3,44)]⟩ T;simp only[DR,bL]at hsu;have ax:(T++[Shape.mk 1 [(36,44),(36+x10+3,44)]]).length=T.length+1:=siT;simp only[go_sem,seval,lB,e2,e3,Ye,AT,w12,lg,hsu,hlt,ax,AF,aT (aC bW (T++[Shape.mk 1 [(36,44),(36+x10+3,44)]])),aW,aA (aC bW _),aA (aC aU _)];exact⟨⟨i11,rfl⟩,T++[Shape.mk 1 [(36,44),(36+x10+3,44)]],rfl,soT,hT3.app (CX _ (CX _ (CX _ (CX _ (bEo (y:=0) (f:=λx y=>⟨1,[(36,44),(36+x+3,44)]⟩) hx18 hx19 deT deT)))))⟩
 simp only[go_sem,seval,e3,e94,e2,hlt,aT (aC bW T),aW,aA (aC bW _),aA (aC aU _)];exact⟨⟨i10,rfl⟩,T,rfl,⟨hT1,omT⟩,hT3⟩
def bRG(hp:A.bq 238=N1 bNb):bOs A:=λH=>dT (by rw[hp];rfl)
def bR2(hp:A.bq 238=N1 bNb):bPr A:=λn h0 h1 H=>dT (by
 rw[hp];show bNb [.ar,.int .i64 n] H=_;unfold bNb;dsimp only;rw[Vw omT,Vx omT])
def bSo{P:Block->Fact->Bool}{b:Block}(hb:kf b)(h:Val P b f s):s.length<=100000:=by
 have ho:=hb.ok;have hl:=hb.limB;unfold Val at h;split at h
 .subst h;exact bOM ho (AQ _) (HX (bOj (n:=3) (m:=3) hl.cd.1 λr hr=>⟨(hl.cd.2 r hr).1,(ho.cd r hr).2⟩) deT)
 split at h
 .obtain⟨r,h1,h2⟩:=h;have:s.length<=1000:=(ho.cd r (AN h1)).2 s (AN h2);omega
 split at h
 .obtain⟨r,l,h1,h2,rfl⟩:=h;have:=aSe ((ho.bo r (AN h1)).2 l (AN h2)).1;omega
 split at h
 .have:s.length<=1000:=ho.lines s (AN h);omega
 subst h;split<;>decide
def bSS{M:UInt8->Bool}(h:s≠[]):esc M s≠[]:=by
 cases s with
 |nil=>exact Vv rfl h
 |cons c s=>rw[aFC];split<;>simp
def bRH{l:List mr}(h:1<=l.length)(ht:∀r∈l,r.text≠[]) p:aHA p l≠[]:=by
 cases l with
 |nil=>simp at h
 |cons r l=>have:=bSS (M:=mL) (ht r siT);unfold aHA;simp[this]
abbrev bSv(l:List mr):Prop:=aGx l=Pa/\l.length<=8/\∀r∈l,r.Ok
def bOK{l:List mr}(h:bGD l):bSv l:=⟨bED h,by have:=h.2.1;omega,λr hr=>(h.2.2.1 r hr).1⟩
def bRI(h:s∈bGE):bSv [⟨0,s⟩]:=⟨(by decide:∀s∈bGE,aGx [⟨0,s⟩]=Pa) s h,siT,λr hr=>by
 rw[CG.1 hr];have:=bGa h;exact⟨by show eA 0;unfold eA;omega,by show s.length<=1000;omega⟩⟩
structure Qw(A:af):Prop where
 J3:Has A 5 pM
 bu:Has A 23 nP
 J6:Has A 42 mV
 take:Has A 17 kC
 block:Has A 18 fT
 fact:Has A 19 gF
 has:Has A 20 rI
 jd:Has A 21 eT
 at':Has A 33 oQ
 runs:Has A 34 bIX
 expr:Has A 35 gE
 sum:Has A 36 gQ
 cd:Has A 37 gC
 ye:Has A 38 fD
 yb:Has A 39 fE
 lines:Has A 40 fS
 phrase:Has A 41 fC
 term:Has A 61 gD
 box:Has A 62 bKD
 arity:Has A 103 oI
structure Xw(A:af):Prop where
 Rw:Qw A
 tables:Has A 6 bJO
 cell:Has A 22 bKl
 once:Has A 24 bJy
 tab:kl A
 tvalid:Has A 30 bMz
 tsyms:Has A 101 bLp
 Zp:Has A 337 bLR
 Yz:Has A 365 bJ1
 tfits:Has A 301 bN9
 tsteps:Has A 249 bMA
 tr:Ys A
 nums:Has A 154 bKo
 cat:Has A 148 bIQ
 grow:A.bq 238=N1 bNb
 yf:sn A
 lst:Wf A
 Wj:Has A 58 bLW
 lhead:Has A 97 bNG
 lrec:Has A 57 bIU
 lnums:Has A 59 bJg
 lruns:Has A 60 bJz
 lwrite:Has A 32 bJU
 render:Has A 15 bMJ
 Render:Has A 4 bMK
 Wq:Has A 10 bNJ
 Yw:Has A 12 bKp
 Xh:u4 A
 own:Has A 11 bJR
 plain:Has A 7 bJq
 spoilt:Has A 8 bJQ
 take:Has A 9 bJA
 sfacts:Has A 31 tM
 itoa:A.bq 99=N1 sC
 join:A.bq 100=N1 aKm
 law:Has A 3 bJo
 wu:∀H,aG A 14 [] H=N1 (.bool Pa,H,[])
section
variable {A:af}{E:Int->Int->List Shape->Int}{P:Block->Fact->Bool}{tB tP:Nat}
def aQG(hp:A.bq 99=N1 sC):aJc A:=by
 intro n H hn;refine dT ?_;rw[hp];rw[Option.bind_some];have h:(0:Int)<=n/\(n:Int)<1000000:=⟨omT,omT⟩;have e7:=aJJ 6 n (by have:10 ^ (6+1)=10000000:=deT;omega);have e:sC [vi n] H=if (0:Int)<=n/\(n:Int)<1000000 then N1 (.str (nC 7 (n:Int).toNat),[],[])else if n<0 /\ -1000000<(n:Int)then N1 (.str (45::nC 7 (-(n:Int)).toNat),[],[])else none:=by rfl
 rw[e,Vx h,AT,e7]
def bIi(F:Qw A):Gens A:=by
 have ha:=yX F.bu;have ht:=aQi F.take F.at' ha;have hp:=aOq F.phrase ht;have hr:=aSp F.runs ht hp;have har:=λop H=>aOv F.arity op H;have qt:=λd hd=>aNp F.term ht har d hd;have hbx:∀{x y w hh:Int},(0<=x/\x<=1000)->(0<=y/\y<=1000)->(0<=w/\w<=1000)->(0<=hh/\hh<=1000)->∀H,aG A 62 [vi x,vi y,vi w,vi hh] H=N1 (.sl Po ((P4 x y w hh).map bL),H,[]):=
  λh1 h2 h3 h4 H=>aSy F.box h1 h2 h3 h4 H
 exact⟨ht,λh0 h1=>aQy F.block hr (aSx F.expr ht qt) (aVx F.sum ht) (aSv F.cd ht hp) (aOz F.ye ht hbx) (aOx F.yb ht) (aQp F.lines ht) h0 h1,
  λhb _ h0 h1=>aSz F.fact ht hb h0 h1,λl hl f H=>aSq F.has l hl f H,λhm=>aLg F.jd ht hp hr (aLd F.J6) hm⟩
def bPa(G:Qb A E P tB tP){x:Item}(hx:x.Ok)(hf:Told E x f):∃s:Str,(s.length<=1000000/\∀b,x.blocks[f.block.toNat]? = N1 b->Val P b f s)/\∀H,aG A 56 [.agg (aO x),.agg (aI f)] H=N1 (.tup [.str s,vi 0],H,[]):=by obtain⟨s,h1,h2⟩:=bEL G x hx f hf [];refine⟨s,h1,λH=>?_⟩;obtain⟨t,h3,h4⟩:=bEL G x hx f hf H;have h0:=hf.b0;have hb:=AP (show f.block.toNat<x.blocks.length by have:=hf.b1;omega);rw[(h1.2 _ hb).inj (h3.2 _ hb)];exact h4
def bPZ(G:Qb A E P tB tP)(hE:∀s,bGI s->E 60 50 s=0)(h:Has A 31 tM){x:jm}(hx:Wi x)(H:LO):∃R,aG A 31 [dE x] H=N1 (.tup [.sl Po R,vi 0],H,[]):=by
 classical
 have hV:bEN A (λx f=>if h:x.Ok/\Told E x f then Classical.choose (bPa G h.1 h.2)else []) (Told E):=λy hy f hf H=>by
  dsimp only;rw[dif_pos ⟨hy,hf⟩];have:=Classical.choose_spec (bPa G hy hf);exact⟨this.2 H,this.1.1⟩
 exact⟨_,bGN hV h x hx.ok (λit M5 f hf=>(hx.item it M5).told hE hf) H⟩
def bST(G:Qb A E P tB tP):bOX A bSv:=by
 intro l hl;obtain⟨h1,h2,h3⟩:=hl;refine⟨⟨omT,λr hr=>by have:r.text.length<=1000:=(h3 r hr).text;omega⟩,λH=>?_⟩;have hb:Block.Ok { cV 0 with runs:=l }:={ oJ (k:=0) (by unfold eA;omega)with vw:=by show l.length<=16;omega,runs:=h3 };have hB:dQ { cV 0 with runs:=l }=true:=by unfold dQ;rw[AI];exact⟨by simp[eqv,aKK,cV],h1⟩
 have hc:=λH=>aMj G.fig G.hold.valid G.text.form G.check _ hb H;have hC:nU E { cV 0 with runs:=l }=0:=by unfold nU;rw[Vx hB];rfl
 rw[hC]at hc;have bl:wB { cV 0 with runs:=l }≠[]:=by simp only[aGx,aUL,AI,AO,eG,vP]at h1;refine bRH (l:=l) omT (λr hr e=>?_) 0;have:=(h1.2.2 r hr).2.1.1;rw[e]at this;simp at this
 exact⟨_,_,aVl G.text _ hb hB (λh=>by cases h) (λh=>by cases h) hc H,bl,bOM hb (AQ _) (by show (aRX []).length<=_;exact FF _)⟩
def bR3(F:Has A 31 tM)(G:Qb A E P tB tP)(hE:∀s,bGI s->E 60 50 s=0){x:jm}(hx:Wi x):Xv A bSv x where
 valid:=λX=>bFW G.hold.valid hx X
 facts:=λX=>bPZ G hE F hx X
 w:={
  title:=(by decide:∀s∈bEq,s≠[]/\s.length<=1000) _ hx.title
  G8:=by have:=hx.G8;omega
  item:=λit M5=>by
   have hi:=hx.item it M5;exact {
    name:=(by decide:∀s∈bF7,s≠[]/\s.length<=1000) _ hi.name
    zq:=by have:=hi.zq;omega
    B1:=by have:=hi.B1;omega
    tj:=by have:=hi.tj;omega
    kind:=λb hb=>by
     have hm:=hi.block b hb;cases hm<;>(simp only[cV];omega)
    fact:=λf hf=>by
     obtain⟨a0,b,a1,a2⟩:=hi.fact f hf;have hmb:=hi.block b (AN a1);have a3:=a2.small hmb.lens;have a4:=(AH.1 a1).1;exact {
      kind:=omT
      block:=omT
      a:=omT
      b:=omT
      text:=λc hc hk=>by
       rw[a1]at hc;cases hc;cases hmb with
       |text h=>exact bOK h
       |_=>cases hk
      val:=λH=>by
       obtain⟨s,⟨_,h1⟩,h2⟩:=bPa G hi.ok (hi.told hE hf);exact⟨s,0,h2 H,bSo hmb (h1 b a1)⟩ }
    ask:=λq hq=>by
     have hm:=hi.ask q hq;exact {
      kind:=by have:=hm.kind;omega
      lenO:=by have:=hm.len;omega
      Q4:=by have:=hm.Q4;have:=hi.B1;omega
      cy:=λn hn=>by have:=hm.cy n hn;have:=hi.B1;omega
      lk:=bOK hm.lk
      opt:=λs hs=>bRI (hm.opt s hs) } } }
def bQ0(F:Xw A)(G:Qb A E P tB tP)(hE:∀s,bGI s->E 60 50 s=0){l:List Int}{n at' X9 by':Int}(hl:jP l)(hn:eA n)(h1:eA at')(h2:eA X9)(h3:eA by')(H:LO):aG A 3 [.sl Po (l.map bF),vi n,vi at',vi X9,vi by',.sl Po (ks.map bF)] H=N1 (.bool Pa,H,[]):=by
 have ha:=yX F.Rw.bu;have hv:=bQn F.tvalid F.tab;have hg:=bR2 F.grow;have Wn:=bRs F.cat hg;have bd:=bPI F.tsteps F.tr.st F.tab hv (bQr F.tfits F.tab (bRq F.Zp F.Yz F.tab)) Wn;have hlc:=bPM F.Wj (bQH F.lst Wn);have sz:=bQI F.Wj (bRA F.lst λv hv H=>bSc F.cat (bRG F.grow) hv H);have M5:=aQG F.itoa;have hw:X3 A bSv:=⟨F.lwrite,F.lrec,F.lnums,F.lruns,bQJ F.lhead hlc M5,hlc,sz,M5,F.join,bQp F.tsyms F.tab,bSh F.tr hv bd (bQy F.nums F.tr.con bd) F.yf,bST G⟩;exact bOh {
  J3:=λhl H=>by
   obtain⟨v,H',wr,h1,rfl,rfl,x,rfl,hx⟩:=aQB F.Rw.J3 (bIi F.Rw) hl H;exact⟨x,h1,bR3 F.sfacts G hE hx⟩
  tabs:=λhn H=>bOR F.tables (bQb F.cell ha) ha F.once hn H
  render:=bRF ⟨hw,F.render,F.Render,F.Xh.Yt,hv⟩
  F:=⟨F.Xh,bPR F.Xh F.Wq,bPT F.Xh F.Yw,F.own,F.plain⟩
  spoilt:=λc st hc hs _ _ _ h1 h2 h3 H=>aMq F.spoilt ha c st hc hs h1 h2 h3 H
  take:=F.take
  law:=F.law
  wu:=F.wu } hl hn h1 h2 h3 H
end
def bR4:Qw AM0:=by constructor<;>exact⟨bIv,bIv⟩
def bR5:kl AM0:=by refine' {cB:=⟨63,⟨bIv,bIv⟩,⟨bIv,bIv⟩⟩,cR:=⟨86,⟨bIv,bIv⟩,⟨bIv,bIv⟩⟩,..}<;>exact⟨bIv,bIv⟩
def bQ1:X4 AM0:=by refine' {con:=⟨297,⟨bIv,bIv⟩,⟨bIv,bIv⟩⟩,..}<;>exact⟨bIv,bIv⟩
def bR6:pz AM0:=by constructor<;>exact⟨bIv,bIv⟩
def bGW:sn AK where
 fn:=bIv
 bq:=bIv
def bFg:PlaneFns AK:=by refine' {yf:=bGW,..}<;>exact⟨bIv,bIv⟩
def bEK:Rp AK:=by refine' {toPlaneFns:=bFg,..}<;>exact⟨bIv,bIv⟩
def aQN:sn AM0 where
 fn:=bIv
 bq:=bIv
def bQ2:Wc AM0:=by constructor<;>exact⟨bIv,bIv⟩
def bQ3:Wd AM0:=by refine' {f0:=bQ2,cB:=⟨63,⟨bIv,bIv⟩,⟨bIv,bIv⟩⟩,..}<;>exact⟨bIv,bIv⟩
def bR7:Wf AM0:=by refine' {f1:=bQ3,yf:=aQN,..}<;>exact⟨bIv,bIv⟩
def bQ4:u4 AM0:=by refine' {con:=⟨63,⟨bIv,bIv⟩,⟨bIv,bIv⟩⟩,..}<;>exact⟨bIv,bIv⟩
def bRJ:Ys AM0:=by refine' {con:=bR6,st:=bQ1,..}<;>exact⟨bIv,bIv⟩
def bQ5:Xw AM0:=by refine' {Rw:=bR4,tab:=bR5,tr:=bRJ,grow:=by kernel_rfl,yf:=aQN,lst:=bR7,Xh:=bQ4,itoa:=by kernel_rfl,join:=by kernel_rfl,wu:=λH=>(by rw[show 14=14 by kernel_rfl];exact dT rfl),..}<;>exact⟨bIv,bIv⟩
def aLp:mh AM0:=by refine' {load:=by kernel_rfl,..}<;>exact⟨bIv,bIv⟩
def aQI:OutFns AM0 171 173:=by refine' {cc:=by kernel_rfl,itoa:=by kernel_rfl,..}<;>exact⟨bIv,bIv⟩
def aOC:TextFns AM0 171 173:=by refine' {toOutFns:=aQI,rep:=aLp,num:=by kernel_rfl,cnt:=by kernel_rfl,..}<;>exact⟨bIv,bIv⟩
def aMt:BlockPrt AM0 171 173:=by refine' {toTextFns:=aOC,..}<;>exact⟨bIv,bIv⟩
def aQJ:uw AM0 171 where
 toBlockPrt:=aMt
 source:=⟨bIv,bIv⟩
 str:=bIv
def aQK:RepAll AM0 171 173:=by refine' {cc:=by kernel_rfl,str:=by kernel_rfl,grow:=by kernel_rfl,cnt:=by kernel_rfl,ix1:=by kernel_rfl,..}<;>exact⟨bIv,bIv⟩
def aQL:WrtFns AM0 171 173:=by refine' {toRepAll:=aQK,join:=by kernel_rfl,itoa:=by kernel_rfl,..}<;>exact⟨bIv,bIv⟩
def aQM:MelFns AM0 171 173:=by refine' {toWrtFns:=aQL,..}<;>exact⟨bIv,bIv⟩
def aOD:rj AM0 171 173:=by refine' {toMelFns:=aQM,rpl:=aLp,num:=by kernel_rfl,..}<;>exact⟨bIv,bIv⟩
def bDB:ij AMs (shV AK 201) (shV AK 205):=by refine' {shaped:=(bF3 bEK bIv bIv).1,simple:=(bF3 bEK bIv bIv).2,conS:=⟨258,⟨bIv,bIv⟩,⟨bIv,bIv⟩⟩,conP:=⟨271,⟨bIv,bIv⟩,⟨bIv,bIv⟩⟩,..}<;>exact⟨bIv,bIv⟩
def bGX:sn AM2 where
 fn:=bIv
 bq:=bIv
def bFh:PlaneFns AM2:=by refine' {yf:=bGX,..}<;>exact⟨bIv,bIv⟩
def bGs:Yl AM2:=by refine' {fns:=bFh,con:=⟨271,⟨bIv,bIv⟩,⟨bIv,bIv⟩⟩,..}<;>exact⟨bIv,bIv⟩
def aMw:X0 AM0:=by constructor<;>exact⟨bIv,bIv⟩
def aQO:si AM0:=by refine' {allH:=⟨⟨260,305,261,⟨bIv,bIv⟩,⟨bIv,bIv⟩,⟨bIv,bIv⟩,⟨bIv,bIv⟩⟩⟩,sj:=⟨⟨262,306,263,⟨bIv,bIv⟩,⟨bIv,bIv⟩,⟨bIv,bIv⟩,⟨bIv,bIv⟩⟩⟩,allN:=⟨⟨264,307,265,⟨bIv,bIv⟩,⟨bIv,bIv⟩,⟨bIv,bIv⟩,⟨bIv,bIv⟩⟩⟩,..}<;>exact⟨bIv,bIv⟩
def aMx:kb AM0:=by refine' {mel:=aQO,same:=aMw,sj:=⟨⟨43,63,104,⟨bIv,bIv⟩,⟨bIv,bIv⟩,⟨bIv,bIv⟩,⟨bIv,bIv⟩⟩⟩,allR:=⟨⟨253,304,254,⟨bIv,bIv⟩,⟨bIv,bIv⟩,⟨bIv,bIv⟩,⟨bIv,bIv⟩⟩⟩,allI:=⟨⟨172,255,173,⟨bIv,bIv⟩,⟨bIv,bIv⟩,⟨bIv,bIv⟩,⟨bIv,bIv⟩⟩⟩,allL:=⟨⟨174,256,175,⟨bIv,bIv⟩,⟨bIv,bIv⟩,⟨bIv,bIv⟩,⟨bIv,bIv⟩⟩⟩,allS:=⟨⟨176,257,177,⟨bIv,bIv⟩,⟨bIv,bIv⟩,⟨bIv,bIv⟩,⟨bIv,bIv⟩⟩⟩,allF:=⟨⟨179,258,180,⟨bIv,bIv⟩,⟨bIv,bIv⟩,⟨bIv,bIv⟩,⟨bIv,bIv⟩⟩⟩,allP:=⟨⟨203,271,259,⟨bIv,bIv⟩,⟨bIv,bIv⟩,⟨bIv,bIv⟩,⟨bIv,bIv⟩⟩⟩,..}<;>exact⟨bIv,bIv⟩
def aHq:kc AM0 171:=by refine' {blk:=aMx,src:=aQJ,allX:=⟨⟨108,156,109,⟨bIv,bIv⟩,⟨bIv,bIv⟩,⟨bIv,bIv⟩,⟨bIv,bIv⟩⟩⟩,B6:=⟨⟨124,189,125,⟨bIv,bIv⟩,⟨bIv,bIv⟩,⟨bIv,bIv⟩,⟨bIv,bIv⟩⟩⟩,allQ:=⟨⟨126,190,127,⟨bIv,bIv⟩,⟨bIv,bIv⟩,⟨bIv,bIv⟩,⟨bIv,bIv⟩⟩⟩,allI:=⟨⟨68,105,69,⟨bIv,bIv⟩,⟨bIv,bIv⟩,⟨bIv,bIv⟩,⟨bIv,bIv⟩⟩⟩,..}<;>exact⟨bIv,bIv⟩
def aIM:lu AM0:=by refine' {con:=⟨314,⟨bIv,bIv⟩,⟨bIv,bIv⟩⟩,..}<;>exact⟨bIv,bIv⟩
def aOE:oh AM0 171:=by refine' {val:=aHq,..}<;>exact⟨bIv,bIv⟩
def aQP:wz AM0:=by refine' {noY:=aQN,..}<;>exact⟨bIv,bIv⟩
def aMy:Wa AM0 171:=by refine' {fam:=aQP,valid:=aOE,..}<;>exact⟨bIv,bIv⟩
def aOF:og AM0 171 173:=by refine' {form:=aIM,wrt:=aOD,B9:=aMs ⟨bIv,bIv⟩ ⟨bIv,bIv⟩ bIv,..}<;>exact⟨bIv,bIv⟩
def bGt:Qb AM0 (aNn AMs 139) (bGK AM2 96) 171 173:=by refine' {hold:=aMy,text:=aOF,fig:=aOt bDB bIv,ph:=bGd bGs (aOt bDB bIv) bIv,..}<;>exact⟨bIv,bIv⟩
noncomputable def bEg(k:Nat):Bool:=((bE7.drop k).take 7).all λa=>aE3 AK 10000 100 201 [.agg (aH a)] [] aJi&&aE3 AK 10000 100 205 [.agg (aH a)] [] aJi
end Go.AM
end
