/- Part 5: lemmas for the last text. -/
import Derived.Test.YtebodiamojfnnaaGreatDoorK03
import Derived.Test.YtebodiamojfnnaaGreatDoorK04
import Derived.ProofKit
set_option linter.unusedVariables false
set_option linter.unusedSimpArgs false
set_option maxRecDepth 100000
open Bool renaming true -> Qt, false -> Qu
open Option renaming some -> Qr, none -> Qs
section
namespace Go.AM
open Go
def aXY(f:Nat):LN:=match f with
 |3=>[9,15]
 |4=>[2,22,4,7,10,58,13,81,98,104]
 |5=>[4,8,31,11,63,78,89,119,41]
 |6=>[1,6,8,11,36,37,52,53,68,69,86,87]
 |7=>[6,9,38,43]
 |8=>[5,23]
 |9=>[6]
 |10=>[3]
 |12=>[4,5]
 |13=>[4,6,9]
 |14=>[3]
 |15=>[4,5,28,58,68]
 |17=>[3,6,32,43,51,55,64,71,80,86,104,112,12,19]
 |18=>[3,6,21,23,30,35]
 |22=>[8]
 |24=>[5]
 |26=>[5,6,7,25,34]
 |29=>[3]
 |30=>[5]
 |31=>[5,16]
 |32=>[13]
 |33=>[2,7]
 |34=>[2,5,32]
 |36=>[28]
 |37=>[4,5]
 |38=>[2]
 |39=>[2,3,29,34]
 |40=>[81,83,2,3,18,35,58,69,84]
 |41=>[2,3,12,57,61,66]
 |42=>[23]
 |48=>[13,5,7,9,11]
 |50=>[7]
 |51=>[1]
 |54=>[4]
 |59=>[1]
 |60=>[9,16,23,28,39,46]
 |61=>[8]
 |62=>[4,22,5,25,6]
 |63=>[5,6,7,8]
 |65=>[4,6,8]
 |66=>[2,3,6,8]
 |72=>[4,7,46]
 |78=>[3]
 |82=>[1]
 |84=>[1]
 |88=>[9,11]
 |90=>[3]
 |91=>[14]
 |94=>[5]
 |95=>[5]
 |96=>[5]
 |104=>[2,5,32,4]
 |119=>[6]
 |120=>[2]
 |121=>[26]
 |124=>[2,3]
 |127=>[2]
 |128=>[2,4,47]
 |130=>[30,36]
 |131=>[2]
 |132=>[2,4,5,3]
 |134=>[26,32]
 |135=>[2]
 |136=>[2,3,37,42,48]
 |138=>[16]
 |139=>[2]
 |140=>[4,3]
 |142=>[14]
 |144=>[4,5,9,6]
 |147=>[1,2,3,4,5,7]
 |148=>[1,3,9,4]
 |150=>[1,7,10,11,15,16,21,22,26,27,33,34,50,51,55,56,60,61,65,66]
 |160=>[2,3]
 |161=>[2,3]
 |163=>[9]
 |180=>[9,11]
 |182=>[5]
 |183=>[5]
 |184=>[9]
 |201=>[7,18,30,39,44,54,69,85]
 |202=>[2,3,4,13]
 |206=>[34,35,36,48,49,22]
 |207=>[2,3,4]
 |208=>[12]
 |213=>[21,33,39,57]
 |214=>[7,20,21,27,28]
 |215=>[1,13,27,28]
 |216=>[7,19,20]
 |217=>[7,19,20]
 |218=>[1,15,63,66,67]
 |219=>[1,12,27,28,8,71,74,75]
 |220=>[5]
 |223=>[2,3]
 |229=>[2,3]
 |233=>[8,9]
 |260=>[2,7,5,11]
 |263=>[10]
 |264=>[10]
 |265=>[15]
 |266=>[15]
 |267=>[10]
 |268=>[10]
 |270=>[3,4,5,6]
 |273=>[31]
 |279=>[5,8]
 |283=>[12,98]
 |284=>[8,9]
 |294=>[94,11]
 |297=>[5]
 |300=>[14,20]
 |301=>[2,3]
 |303=>[3]
 |320=>[9]
 |321=>[13]
 |326=>[9]
 |327=>[17,7,27]
 |328=>[2,4,5]
 |337=>[16]
 |338=>[100,101,163,210,230]
 |339=>[2]
 |375=>[5]
 |378=>[5]
 |384=>[85]
 |388=>[11]
 |389=>[11]
 |390=>[2]
 |391=>[14]
 |405=>[6]
 |426=>[27]
 |_=>[]
def bC1(f r:Nat):List (Nat×Nat):=match f,r with
 |5,25=>[(4,11)]
 |7,14=>[(0,7)]
 |40,13=>[(1,94)]
 |132,3=>[(1,3)]
 |218,10=>[(0,5)]
 |219,15=>[(0,6)]
 |273,18=>[(0,9)]
 |_,_=>[]
def nlK(f:Nat):Bool:=match f with
 |6 | 22 | 48 | 180 | 191 | 260 | 267 | 294 | 384=>Qt
 |_=>Qu
def tyK(f:Nat):LN:=match f with
 |48=>[165,181,167,195,5]
 |91=>[165,181,167,195,5]
 |142=>[165,181,167,195,5]
 |267=>[165,181,167,195,5]
 |_=>[]
def aXZ:LN:=[201,268,300,327,22,50]
def aO4(f:Nat):Option aIP:=match f with
 |185=>Qr (fB 165 167)
 |92=>Qr (aAh 5)
 |141=>Qr (aNR 165 5)
 |61=>Qr aKm
 |305=>Qr aYu
 |298=>Qr aE7
 |292=>Qr aAi
 |67=>Qr sC
 |327=>Qr oN
 |117=>Qr (aHz 328)
 |50=>Qr (aWl 51)
 |_=>Qs
def vi0(n:Int):AV:=.int .i64 n
def bAN:LA:=[[119,104,111,108,101],[101,110,116,114,121],[105,110,115,105,100,101],[108,101,102,116],[108,111,110,103,101,114],[98,97,114],[114,111,119]].map AV.str
def bAO:LA:=[vi0 0,vi0 999999,vi0 4,.int .u8 0,vi0 0,vi0 25,vi0 4,.int .u8 0,vi0 1,vi0 0,vi0 3,.int .u8 45,vi0 2,vi0 0,vi0 1,.int .u8 43,vi0 2,vi0 0,vi0 1,.int .u8 45,vi0 2,vi0 0,vi0 2,.int .u8 42,vi0 2,vi0 0,vi0 2,.int .u8 47,vi0 2,vi0 0,vi0 3,.int .u8 94,vi0 1,vi0 0,vi0 4,.int .u8 82,vi0 2,vi0 0,vi0 0,.int .u8 61,vi0 2,vi0 0,vi0 0,.int .u8 60]
def bAP:LA:=[[],[],[110,101,103],[43],[45],[42],[47],[94],[114,111,111,116],[61],[60]].map AV.str
def bAQ:LA:=[[100,111,116],[108,105,110,101],[97,114,101,97]].map AV.str
def bAR:LA:=[[99,104,111,105,99,101],[99,111,117,110,116],[111,112,101,110]].map AV.str
def aT4(b:Int)(f:Nat):AV:=.agg [vi0 b,.fn f [] []]
def aUy:LA:=[.fmp [vi0 0,vi0 1,vi0 2,vi0 3,vi0 4,vi0 5,vi0 6] [aT4 (-1) 393,aT4 (3) 395,aT4 (4) 397,aT4 (4) 399,aT4 (4) 400,aT4 (5) 401,aT4 (6) 403]]
def aZA(n:Nat):Option LA:=match n with
 |1=>Qr bAN
 |5=>Qr bAO
 |2=>Qr bAP
 |3=>Qr bAQ
 |4=>Qr bAR
 |0=>Qr aUy
 |6=>Qr [.ifc 388 .undef]
 |7=>Qr [.ifc 388 .undef]
 |9=>Qr (Lib.pow10Tab.map fun z=>AV.int .u64 z)
 |_=>Qs
def aBx:cu:=⟨aZA,Qu,[],aXZ⟩
noncomputable def fnK(f:Nat):Option bw:=match f with
 |293=>Qr nI
 |f=>match Go.Proofs.Tryz.prog.funcs[f]? with
  |some F=>match F.body,aNz Go.Proofs.Tryz.prog F.results.toList with
   |some b,Qr rs=>Qr ⟨F.ntmps,aXY f,rs,nR Go.Proofs.Tryz.prog { aBx with nl:=nlK f,typed:=tyK f } (bC1 f) b⟩
   |_,_=>Qs
  |none=>Qs
noncomputable def AK:af:=⟨fnK,aO4⟩
theorem aRR:(Go.Proofs.Tryz.prog.funcs.toList.all fun F => !(F.name == "runtime.NumGoroutine"))=true:=by kernel_rfl
theorem aUz{f:Nat}{F:Func}(h:Go.Proofs.Tryz.prog.funcs[f]? = Qr F):(F.name == "runtime.NumGoroutine")=false:=by have:=List.all_eq_true.1 aRR F (by rw[Array.mem_toList_iff];exact Array.mem_of_getElem? h);simpa using this
theorem aY0{f:Nat}{fn:bw}(bl:f≠293)(h:fnK f=Qr fn):aMT Go.Proofs.Tryz.prog aBx f fn:=by
 unfold fnK at h;split at h
 ·exact Zw rfl bl
 split at h
 ·rename_i F hF;split at h
  ·rename_i b rs hb hr;cases h;exact⟨F,b,bC1 f,nlK f,tyK f,aXZ,hF,aUz hF,hb,rfl,rfl,hr⟩
  cases h
 cases h
theorem bC2:Go.Proofs.Tryz.prog.globalNamed "internal/strconv.uint64pow10" = Qr 9:=by kernel_rfl
theorem aRS:Good Go.Proofs.Tryz.prog aBx AK where
 mixed:=by kernel_rfl
 A5:=⟨by kernel_rfl,by kernel_rfl⟩
 fn:=fun f fn h=>by
  by_cases e:f=293
  ·subst e;exact .inr (Go.Proofs.Sa.yu rfl rfl)
  exact .inl (aY0 e h)
 bq:=fun f p h=>by
  have h:aO4 f=Qr p:=h;unfold aO4 at h;split at h
  ·cases h;exact Go.Proofs.Sa.uq
  ·cases h;exact Go.Proofs.Sa.zn
  ·cases h;exact Go.Proofs.Sa.G5
  ·cases h;exact Go.Proofs.Sa.G2
  ·cases h;exact Go.Proofs.Sa.A9
  ·cases h;exact Go.Proofs.Sa.A8
  ·cases h;exact Go.Proofs.Sa.vv
  ·cases h;exact Go.Proofs.Sa.G4 bC2 rfl
  ·cases h;exact Go.Proofs.Sa.xx bC2 rfl
  ·cases h;exact Go.Proofs.Sa.G9 rfl rfl
  ·cases h;exact aXX
  cases h
def aJi:AV->LO->LN->Bool:=fun v H wr=>match v,H,wr with | .bool Qt,[],[]=>Qt | _,_,_=>Qu
def aRT:AV->LO->LN->Bool:=fun v H wr=>match v,H,wr with | .str [53],[],[]=>Qt | _,_,_=>Qu
def aKy:LA:=[.agg [.int .i64 (0),.sl Qu [[.int .i64 (0),.str [97,32,126]],[.int .i64 (1),.str [98]]],.int .i64 (0),.int .i64 (0),.sl Qu [],.int .i64 (0),.sl Qu [],.sl Qu [],.int .i64 (0),.int .i64 (0),.sl Qu [],.sl Qu [],.sl Qu []],.str [97,32,126,126,126,124,98]]
def aKz:LA:=[.agg [.int .i64 (2),.sl Qu [],.int .i64 (0),.int .i64 (0),.sl Qu [],.int .i64 (3),.sl Qu [[.int .i64 (12)],[.int .i64 (7)]],.sl Qu [],.int .i64 (0),.int .i64 (0),.sl Qu [],.sl Qu [],.sl Qu []],.str [43,32,49,50,32,55]]
def aKA:LA:=[.agg [.int .i64 (3),.sl Qu [],.int .i64 (0),.int .i64 (0),.sl Qu [],.int .i64 (0),.sl Qu [],.sl Qu [[.sl Qu [[.str [97]],[.str [98,59]]]],[.sl Qu [[.str []],[.str [124]]]]],.int .i64 (0),.int .i64 (0),.sl Qu [],.sl Qu [],.sl Qu []],.str [97,124,98,126,59,59,124,126,124]]
def aKB:LA:=[.agg [.int .i64 (6),.sl Qu [],.int .i64 (0),.int .i64 (0),.sl Qu [],.int .i64 (0),.sl Qu [],.sl Qu [],.int .i64 (0),.int .i64 (0),.sl Qu [],.sl Qu [],.sl Qu [[.str [120]],[.str []],[.str [126]]]],.str [120,126,124,126,124,126,126]]
def aKC:LA:=[.agg [.int .i64 (5),.sl Qu [],.int .i64 (0),.int .i64 (0),.sl Qu [],.int .i64 (0),.sl Qu [],.sl Qu [],.int .i64 (0),.int .i64 (0),.sl Qu [],.sl Qu [[.sl Qu [[.sl Qu [[.int .i64 (21),.int .i64 (2),.int .i64 (0)],[.int .i64 (-1),.int .i64 (1),.int .i64 (0)]]],[.sl Qu [[.int .i64 (3),.int .i64 (4),.int .i64 (1)]]]]]],.sl Qu []],.str [99,51,50,32,114,49,124,102,35,48,52]]
def aIr:LA:=[.agg [.int .i64 (1),.sl Qu [],.sl Qu [],.sl Qu [[.int .i64 (0)],[.int .i64 (2)]],.str [],.int .i64 (0),.sl Qu []],.sl Qu [[.str [97,49,50,98,51]],[.str [57]],[.str [57,57,48]]]]
end Go.AM
end
