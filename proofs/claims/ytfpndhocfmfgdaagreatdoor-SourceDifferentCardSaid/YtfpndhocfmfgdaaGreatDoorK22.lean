/- Part 22: lemmas for the last text. -/
import Derived.Test.YtfpndhocfmfgdaaGreatDoorK21
import Derived.Laws.BitsLemmas
import Derived.KernelRfl
set_option linter.unusedVariables false
set_option linter.unusedSimpArgs false
open Nat renaming reduceAdd -> NA, reduceLT -> NL, reduceLeDiff -> ND
open Bool renaming not_true -> BT, not_false -> BF
section
namespace Go.AM
open Go
@[go_sem] theorem aQV{b:Bool}:AV.cellOk (.bool b)=true:=(rfl)
@[go_sem] theorem aTz{b:Bool}:AV.atom (.bool b)=true:=(rfl)
@[go_sem] theorem aQW{b:Bool}:AV.atomic (.bool b)=AV.atom (.bool b):=(rfl)
@[go_sem] theorem aSa{b:Bool}:AV.strip (.bool b)=(.bool b):=(rfl)
@[go_sem] theorem aSb{b:Bool}:AV.cells (.bool b)=[(.bool b)]:=(rfl)
@[go_sem] theorem aTA{H:List AObj}{b:Bool}:lend H (.bool b)=some ((.bool b),[]):=(rfl)
@[go_sem] theorem aTB{k:IntKind}{n:Int}:AV.still (.int k n)=true:=(rfl)
@[go_sem] theorem aSc{k:IntKind}{n:Int}:AV.cellOk (.int k n)=true:=(rfl)
@[go_sem] theorem aSd{k:IntKind}{n:Int}:AV.strip1 (.int k n)=(.int k n):=(rfl)
@[go_sem] theorem aTC{k:IntKind}{n:Int}:AV.strip (.int k n)=(.int k n):=(rfl)
@[go_sem] theorem aTD{k:IntKind}{n:Int}:AV.cells (.int k n)=[(.int k n)]:=(rfl)
@[go_sem] theorem aTE{H:List AObj}{k:IntKind}{n:Int}:aBT H (.int k n)=some ((.int k n),[]):=(rfl)
@[go_sem] theorem aV2{H:List AObj}{k:IntKind}{n:Int}:lend H (.int k n)=some ((.int k n),[]):=(rfl)
@[go_sem] theorem aTF{l:List UInt8}:AV.still (.str l)=true:=(rfl)
@[go_sem] theorem aSe{l:List UInt8}:AV.cellOk (.str l)=true:=(rfl)
@[go_sem] theorem aV3{l:List UInt8}:AV.atom (.str l)=true:=(rfl)
@[go_sem] theorem aSf{l:List UInt8}:AV.atomic (.str l)=AV.atom (.str l):=(rfl)
@[go_sem] theorem aSg{l:List UInt8}:AV.strip1 (.str l)=(.str l):=(rfl)
@[go_sem] theorem aTG{l:List UInt8}:AV.strip (.str l)=(.str l):=(rfl)
@[go_sem] theorem aTH{l:List UInt8}:AV.cells (.str l)=[(.str l)]:=(rfl)
@[go_sem] theorem aTI{H:List AObj}{l:List UInt8}:aBT H (.str l)=some ((.str l),[]):=(rfl)
@[go_sem] theorem aV4{H:List AObj}{l:List UInt8}:lend H (.str l)=some ((.str l),[]):=(rfl)
@[go_sem] theorem aV5{f:Nat}{a c:List AV}:AV.still (.fn f a c)=true:=(rfl)
@[go_sem] theorem aTJ{f:Nat}{a c:List AV}:AV.cellOk (.fn f a c)=true:=(rfl)
@[go_sem] theorem aTK{f:Nat}{a c:List AV}:AV.strip1 (.fn f a c)=(.fn f a c):=(rfl)
@[go_sem] theorem aV6{f:Nat}{a c:List AV}:AV.strip (.fn f a c)=(.fn f a c):=(rfl)
@[go_sem] theorem aV7{f:Nat}{a c:List AV}:AV.cells (.fn f a c)=[(.fn f a c)]:=(rfl)
@[go_sem] theorem aWL{H:List AObj}{f:Nat}{a c:List AV}:lend H (.fn f a c)=some ((.fn f a c),[]):=(rfl)
@[go_sem] theorem aPB  : AV.cellOk .nilFn=true:=(rfl)
@[go_sem] theorem aTL{o v off:Nat}:AV.still (.ptr o v off)=true:=(rfl)
@[go_sem] theorem aSh{o v off:Nat}:AV.cellOk (.ptr o v off)=true:=(rfl)
@[go_sem] theorem aQX{o v off:Nat}:AV.isUndef (.ptr o v off)=false:=(rfl)
@[go_sem] theorem aSi{o v off:Nat}:AV.strip1 (.ptr o v off)=(.ptr o v off):=(rfl)
@[go_sem] theorem aTM{o v off:Nat}:AV.strip (.ptr o v off)=(.ptr o v off):=(rfl)
@[go_sem] theorem aTN{o v off:Nat}:AV.cells (.ptr o v off)=[(.ptr o v off)]:=(rfl)
@[go_sem] theorem aV8{H:List AObj}{o v off:Nat}:lend H (.ptr o v off)=some ((.ptr o v off),[]):=(rfl)
@[go_sem] theorem aSj{o v n k i off:Nat}:AV.isUndef (.vp o v n k i off)=false:=(rfl)
@[go_sem] theorem aOn  : AV.cellOk .nilPtr=true:=(rfl)
@[go_sem] theorem aV9{row:List AV}{off:Nat}:AV.still (.ep row off)=true:=(rfl)
@[go_sem] theorem aTO{row:List AV}{off:Nat}:AV.strip1 (.ep row off)=(.ep row off):=(rfl)
@[go_sem] theorem aVa{row:List AV}{off:Nat}:AV.strip (.ep row off)=(.ep row off):=(rfl)
@[go_sem] theorem aWM{H:List AObj}{row:List AV}{off:Nat}:lend H (.ep row off)=some ((.ep row off),[]):=(rfl)
@[go_sem] theorem aVb{f:Bool}{rows:List (List AV)}:AV.still (.sl f rows)=true:=(rfl)
@[go_sem] theorem aTP{f:Bool}{rows:List (List AV)}:AV.cellOk (.sl f rows)=true:=(rfl)
@[go_sem] theorem aTQ{f:Bool}{rows:List (List AV)}:AV.strip1 (.sl f rows)=(.sl false rows):=(rfl)
@[go_sem] theorem aVc{f:Bool}{rows:List (List AV)}:AV.strip (.sl f rows)=(.sl false rows):=(rfl)
@[go_sem] theorem aVd{f:Bool}{rows:List (List AV)}:AV.cells (.sl f rows)=[(.sl f rows)]:=(rfl)
@[go_sem] theorem aVe{H:List AObj}{f:Bool}{rows:List (List AV)}:aBT H (.sl f rows)=some ((.sl f rows),[]):=(rfl)
@[go_sem] theorem aWN{H:List AObj}{f:Bool}{rows:List (List AV)}:lend H (.sl f rows)=some ((.sl f rows),[]):=(rfl)
@[go_sem] theorem aTR{o v n:Nat}:AV.cellOk (.sr o v n)=true:=(rfl)
@[go_sem] theorem aTS{o v n:Nat}:AV.strip1 (.sr o v n)=(.sr o v n):=(rfl)
@[go_sem] theorem aVf{o v n:Nat}:AV.cells (.sr o v n)=[(.sr o v n)]:=(rfl)
@[go_sem] theorem aWO{H:List AObj}{o v n:Nat}:lend H (.sr o v n)=aBT H (.sr o v n):=(rfl)
@[go_sem] theorem aPC  : AV.cellOk .nilSl=true:=(rfl)
@[go_sem] theorem aQY  : AV.strip .nilSl=.nilSl:=(rfl)
@[go_sem] theorem aQZ  : AV.cells .nilSl=[.nilSl]:=(rfl)
@[go_sem] theorem aSk{H:List AObj}  : lend H .nilSl=some (.nilSl,[]):=(rfl)
@[go_sem] theorem aOo  : AV.cellOk .nilIfc=true:=(rfl)
@[go_sem] theorem aPD  : AV.strip .nilIfc=.nilIfc:=(rfl)
@[go_sem] theorem aR0{H:List AObj}  : lend H .nilIfc=some (.nilIfc,[]):=(rfl)
@[go_sem] theorem aSl{t:Nat}{x:AV}:AV.cellOk (.ifc t x)=true:=(rfl)
@[go_sem] theorem aTT{t:Nat}{x:AV}:AV.cells (.ifc t x)=[(.ifc t x)]:=(rfl)
@[go_sem] theorem aTU{cs:List AV}:AV.cells (.agg cs)=cs:=(rfl)
@[go_sem] theorem aOp  : AV.isUndef .undef=true:=(rfl)
@[go_sem] theorem aTV{cs:List AV}:AV.strip (.agg cs)=.agg (cs.map AV.strip1):=(rfl)
@[go_sem] theorem aVg{H:List AObj}{o v n:Nat}:aBT H (.sr o v n)=match H[o]? with
  |some (.vec v' _ rows)=>if v'=v/\rows.length=n/\rows.all (fun r=>r.all AV.still)then some (.sl false rows,[o])else none
  |_=>none:=(rfl)
@[go_sem] theorem aOq{H:List AObj}{cs:List AV}:lend H (.agg cs)=match aGc H cs with
  |some (cs',l)=>some (.agg cs',l)
  |none=>none:=(rfl)
attribute [go_sem] aGc jP dL fix
@[go_sem] theorem aR1{cs:List AV}:dR true cs=some (.agg cs):=(rfl)
@[go_sem] theorem aR2{v:AV}:dR false [v]=some v:=(rfl)
section
variable {k:IntKind}{a b:Int}{ek:EqK}
@[go_sem] theorem aWP:kM .add ek (.int k a) (.int k b)=some (.int k (k.wrap (a+b))):=by simp[kM]
@[go_sem] theorem aWQ:kM .sub ek (.int k a) (.int k b)=some (.int k (k.wrap (a - b))):=by simp[kM]
@[go_sem] theorem aWR:kM .mul ek (.int k a) (.int k b)=some (.int k (k.wrap (a*b))):=by simp[kM]
theorem yQ(h:b≠0):kM .quo ek (.int k a) (.int k b)=some (.int k (k.wrap (a.tdiv b))):=by simp[kM,h]
theorem sN(h:b≠0):kM .rem ek (.int k a) (.int k b)=some (.int k (a.tmod b)):=by simp[kM,h]
@[go_sem] theorem aWS:kM .eql ek (.int k a) (.int k b)=some (.bool (a==b)):=by simp[kM]
@[go_sem] theorem aR3:kM .neq ek (.int k a) (.int k b)=some (.bool (a != b)):=by simp[kM]
@[go_sem] theorem aWT:kM .lss ek (.int k a) (.int k b)=some (.bool (decide (a<b))):=by simp[kM]
@[go_sem] theorem aWU:kM .leq ek (.int k a) (.int k b)=some (.bool (decide (a<=b))):=by simp[kM]
@[go_sem] theorem aWV:kM .gtr ek (.int k a) (.int k b)=some (.bool (decide (a>b))):=by simp[kM]
@[go_sem] theorem aWW:kM .geq ek (.int k a) (.int k b)=some (.bool (decide (a ≥ b))):=by simp[kM]
end
section
variable {a b:List UInt8}{ek:EqK}
theorem jH(h:a.length+b.length<=4611686018427387904):kM .add ek (.str a) (.str b)=some (.str (a++b)):=by simp[kM,h]
@[go_sem] theorem aVh:kM .eql ek (.str a) (.str b)=some (.bool (a==b)):=by simp[kM]
@[go_sem] theorem aOr:kM .neq ek (.str a) (.str b)=some (.bool (a != b)):=by simp[kM]
@[go_sem] theorem aVi{a b:Bool}:kM .neq .bool (.bool a) (.bool b)=some (.bool !(a==b)):=by simp[kM,qD]
@[go_sem] theorem aXX{b:Bool}:unV .not (.bool b)=some (.bool !b):=(rfl)
@[go_sem] theorem aXY{k:IntKind}{n:Int}:unV .neg (.int k n)=some (.int k (k.wrap (0 - n))):=(rfl)
end
theorem wrap_i64{n:Int}(h1 : -9223372036854775808<=n)(h2:n<=9223372036854775807):IntKind.wrap .i64 n=n:=by
 rw[Go.IntKind.wrap_i64];omega
section
variable {H:List AObj}{L:List AObj}{i o:Nat}{x:AObj}
@[go_sem] theorem gP:(H++L)[H.length+i]? = L[i]? := by
 rw[List.getElem?_append_right (by omega)];congr 1;omega
@[go_sem] theorem vP:(H++L)[H.length]? = L[0]? := gP (i:=0)
@[go_sem] theorem nI:(H++L).set (H.length+i) x=H++L.set i x:=by
 rw[List.set_append_right _ _ (by omega)];congr 2;omega
@[go_sem] theorem aBu:(H++L).set H.length x=H++L.set 0 x:=nI (i:=0)
theorem gQ(h:o<H.length):(H++L)[o]? = H[o]? := List.getElem?_append_left h
theorem gH(h:o<H.length):(H++L).set o x=H.set o x++L:=List.set_append_left _ _ h
@[go_sem] theorem aBv:(H++L).take H.length=H:=List.take_left ..
theorem aK{y:AObj}(h:o<H.length):(H.set o x++L).set o y=H.set o y++L:=by
 rw[List.set_append_left _ _ (by rw[List.length_set];exact h),List.set_set]
theorem aI(h:o<H.length):(H.set o x++L)[o]? = some x:=by
 rw[List.getElem?_append_left (by rw[List.length_set];exact h),List.getElem?_set_self h]
@[go_sem] theorem aMm:(H.set o x++L)[H.length+i]? = L[i]? := by
 have:=gP (H:=H.set o x) (L:=L) (i:=i);rwa [List.length_set]at this
@[go_sem] theorem aSm:(H.set o x++L)[H.length]? = L[0]? := aMm (i:=0)
@[go_sem] theorem aMn{y:AObj}:(H.set o x++L).set (H.length+i) y=H.set o x++L.set i y:=by
 have:=nI (H:=H.set o x) (L:=L) (i:=i) (x:=y);rwa [List.length_set]at this
@[go_sem] theorem aSn{y:AObj}:(H.set o x++L).set H.length y=H.set o x++L.set 0 y:=aMn (i:=0)
@[go_sem] theorem aSo:(H.set o x++L).take H.length=H.set o x:=by
 have:=aBv (H:=H.set o x) (L:=L);rwa [List.length_set]at this
@[go_sem] theorem aVj:(H.set o x).take H.length=H.set o x:=by
 have:=List.take_length (l:=H.set o x);rwa [List.length_set]at this
theorem aK0{mk:Nat->AObj}:make (H++L) (H.length+i) mk=H++L.set i (mk ((L[i]?).elim 0 AObj.ver+1)):=by
 unfold make;rw[gP,nI]
attribute [go_sem] make bG
@[go_sem] theorem aVk{v:Nat}:AObj.ver (.gone v)=v:=(rfl)
@[go_sem] theorem aWX{v:Nat}{cs:List AV}:AObj.ver (.box v cs)=v:=(rfl)
@[go_sem] theorem aWY{v k:Nat}{rows:List (List AV)}:AObj.ver (.vec v k rows)=v:=(rfl)
@[go_sem] theorem uK{b:Nat}{wr:List Nat}:bA b wr []=wr:=(rfl)
@[go_sem] theorem aHR{b i:Nat}{wr r:List Nat}:bA b wr ((b+i)::r)=bA b wr r:=by
 conv=>lhs;unfold bA
 rw[if_neg (by omega)]
@[go_sem] theorem uL{b o:Nat}{r:List Nat}(h1:o<b):bA b [] (o::r)=bA b [o] r:=by
 conv=>lhs;unfold bA
 rw[if_pos ⟨h1,by simp⟩]
@[go_sem] theorem aMo{b o:Nat}{r:List Nat}:bA b [o] (o::r)=bA b [o] r:=by
 conv=>lhs;unfold bA
 rw[if_neg (by simp)]
@[go_sem] theorem aSp{b:Nat}{wr r:List Nat}:bA b wr (b::r)=bA b wr r:=aHR (i:=0)
end
def aSq:AV->Option AV
 |.sl _ rows=>some (.int .i64 rows.length)
 |.sr _ _ n=>some (.int .i64 n)
 |.nilSl=>some (.int .i64 0)
 |_=>none
@[go_sem] theorem aWZ{f:Bool}{rows:List (List AV)}:aSq (.sl f rows)=some (.int .i64 rows.length):=(rfl)
@[go_sem] theorem aVl:aSq .nilSl=some (.int .i64 0):=(rfl)
@[go_sem] theorem aX0{o v n:Nat}:aSq (.sr o v n)=some (.int .i64 n):=(rfl)
section
variable {H:List AObj}{ρ:bH}{call:Nat->List AV->List AObj->Out}{site:Option Nat}
@[go_sem] theorem aVm{x:AOpd}:tW H ρ (.mov x)=(some (x.at ρ)):=(rfl)
@[go_sem] theorem aTW{c:AOpd}{a:AOpd}{b:AOpd}:tW H ρ (.pick c a b)=(match c.at ρ with
  |.bool t=>some (if t then a.at ρ else b.at ρ)
  |_=>none):=(rfl)
@[go_sem] theorem aSr{zs:List AV}{parts:List (Nat×Nat×AOpd)}:tW H ρ (.build zs parts)=((lT ρ zs parts).map .agg):=(rfl)
@[go_sem] theorem aVn{k:Nat}{zs:List AV}{n:Nat}{parts:List (Nat×AOpd)}:tW H ρ (.bsl k zs n parts)=((nE ρ k (List.replicate n zs) parts).map (.sl true)):=(rfl)
@[go_sem] theorem aVo{u0:Nat}{bytes:Nat}{zs:List AV}{len:AOpd}{cap:AOpd}:tW H ρ (.mks u0 bytes zs len cap)=(match len.at ρ,cap.at ρ with
  |.int _ n,.int _ c=>if 0<=n/\n=c/\bP n.toNat bytes then some (.sl true (List.replicate n.toNat (zs.map AV.strip1)))else none
  |_,_=>none):=(rfl)
@[go_sem] theorem aTX{k:Nat}{agg:Bool}{x:AOpd}:tW H ρ (.load k agg x)=(match aX H k (x.at ρ)with
  |some cs=>dR agg cs
  |none=>none):=(rfl)
@[go_sem] theorem aSs{x:AOpd}:tW H ρ (.nilck x)=(match x.at ρ with
  |.ptr o v off=>some (.ptr o v off)
  |.vp o v n k i off=>some (.vp o v n k i off)
  |.ep row off=>some (.ep row off)
  |.fn f a b=>some (.fn f a b)
  |_=>none):=(rfl)
@[go_sem] theorem aSt{neg:Bool}{x:AOpd}:tW H ρ (.isnil neg x)=(match x.at ρ with
  |.sl _ (_::_) | .sr ..=>some (.bool neg)
  |.nilSl=>some (.bool !neg)
  |_=>none):=(rfl)
@[go_sem] theorem aVp{op:BinOp}{ek:EqK}{x:AOpd}{y:AOpd}:tW H ρ (.bin op ek x y)=(kM op ek (x.at ρ) (y.at ρ)):=(rfl)
@[go_sem] theorem aX1{op:UnOp}{x:AOpd}:tW H ρ (.un op x)=(unV op (x.at ρ)):=(rfl)
@[go_sem] theorem aTY{c:AConv}{x:AOpd}:tW H ρ (.conv c x)=(pG H c (x.at ρ)):=(rfl)
@[go_sem] theorem aVq{f:Nat}{first:List AOpd}{caps:List AOpd}:tW H ρ (.mkf f first caps)=(if (first.map (AOpd.at ρ)).all AV.still&&(caps.map (AOpd.at ρ)).all AV.still then some (.fn f (first.map fun x=>(x.at ρ).strip1) (caps.map fun x=>(x.at ρ).strip1))else none):=(rfl)
@[go_sem] theorem aR4{x:AOpd}{lo:Option AOpd}{hi:Option AOpd}:tW H ρ (.sliceS x lo hi)=(match x.at ρ with
  |.str s=>match dK s.length (lo.map (AOpd.at ρ)) (hi.map (AOpd.at ρ)) none with
   |some (l,h,_)=>some (.str ((s.take h).drop l))
   |none=>none
  |_=>none):=(rfl)
@[go_sem] theorem aR5{k:Nat}{x:AOpd}{lo:Option AOpd}{hi:Option AOpd}{mx:Option AOpd}:tW H ρ (.sliceV k x lo hi mx)=(match x.at ρ with
  |.sl full rows=>match dK rows.length (lo.map (AOpd.at ρ)) (hi.map (AOpd.at ρ)) (mx.map (AOpd.at ρ))with
   |some (l,h,m)=>if cH k rows&&(!mx.isSome || hi.isSome)then some (.sl (decide (m=h)&&(mx.isSome || full)) ((rows.take h).drop l))else none
   |none=>none
  |.sr o v n=>if mx.isSome then none else match dK n (lo.map (AOpd.at ρ)) (hi.map (AOpd.at ρ)) none with
   |some (l,h,_)=>if hi.isSome&&decide (l=0)then some (.srw o v n h)else if h=n then some (.srv o v n k l)else none
   |none=>none
  |_=>none):=(rfl)
@[go_sem] theorem aTZ{k:Nat}{x:AOpd}{lo:Option AOpd}:tW H ρ (.view k x lo)=(match x.at ρ with
  |.sl full rows=>match dK rows.length (lo.map (AOpd.at ρ)) none none with
   |some (l,h,m)=>if cH k rows then some (.sl (decide (m=h)&&full) ((rows.take h).drop l))else none
   |none=>none
  |.sr o v n=>match H[o]? with
   |some (.vec v' _ rows)=>if v'=v/\rows.length=n then match kS 0 n (lo.map (AOpd.at ρ))with
     |some l=>some (.srv o v n k l)
     |none=>none
    else none
   |_=>none
  |_=>none):=(rfl)
@[go_sem] theorem aX2{off:Nat}{x:AOpd}:tW H ρ (.fa off x)=(match x.at ρ with
  |.ptr o v off0=>some (.ptr o v (off0+off))
  |.vp o v n k i off0=>some (.vp o v n k i (off0+off))
  |.ep row off0=>some (.ep row (off0+off))
  |_=>none):=(rfl)
@[go_sem] theorem aVr{off:Nat}{k:Nat}{agg:Bool}{x:AOpd}:tW H ρ (.fld off k agg x)=(match x.at ρ with
  |.agg cs=>if off+k<=cs.length then dR agg ((cs.drop off).take k)else none
  |_=>none):=(rfl)
@[go_sem] theorem aVs{x:AOpd}{i:AOpd}{k:Nat}:tW H ρ (.iaV x i k)=(match x.at ρ,i.at ρ with
  |.sl _ rows,.int _ n=>if 0<=n then match rows[n.toNat]? with
    |some row=>if row.length=k then some (.ep row 0)else none
    |none=>none
   else none
  |.sr o v len,.int _ n=>if 0<=n/\n<len then some (.vp o v len k n.toNat 0)else none
  |_,_=>none):=(rfl)
@[go_sem] theorem aVt{len:Nat}{k:Nat}{x:AOpd}{i:AOpd}:tW H ρ (.iaA len k x i)=(match x.at ρ,i.at ρ with
  |.ptr o v off,.int _ n=>if 0<=n/\n<len then some (.ptr o v (off+n.toNat*k))else none
  |.ep row off,.int _ n=>if 0<=n/\n<len then some (.ep row (off+n.toNat*k))else none
  |_,_=>none):=(rfl)
@[go_sem] theorem aVu{x:AOpd}{i:AOpd}:tW H ρ (.ixS x i)=(match x.at ρ,i.at ρ with
  |.str s,.int _ n=>if 0<=n then match s[n.toNat]? with
    |some b=>some (.int .u8 b.toNat)
    |none=>none
   else none
  |_,_=>none):=(rfl)
@[go_sem] theorem aU0{x:AOpd}:tW H ρ (.lenS x)=(match x.at ρ with
  |.str s=>some (.int .i64 s.length)
  |_=>none):=(rfl)
@[go_sem] theorem aU1{x:AOpd}:tW H ρ (.lenV x)=aSq (x.at ρ):=by cases hx:x.at ρ<;>simp only[tW,aSq,hx]
@[go_sem] theorem aX3{mx:Bool}{xs:List AOpd}:tW H ρ (.mm mx xs)=(mmV mx (xs.map (AOpd.at ρ))):=(rfl)
@[go_sem] theorem aVv{i:Nat}{x:AOpd}:tW H ρ (.ext i x)=(match x.at ρ with
  |.tup vs=>vs[i]?
  |_=>none):=(rfl)
@[go_sem] theorem aSu{t:Nat}{x:AOpd}:tW H ρ (.mkifc t x)=(if (x.at ρ).inIfc then some (.ifc t (x.at ρ))else none):=(rfl)
@[go_sem] theorem aU2{zero:AV}{m:AOpd}{k:AOpd}{ok:Bool}:tW H ρ (.look zero m k ok)=(match m.at ρ with
  |.mp o v=>match H[o]? with
   |some (.map v' es)=>if v'=v then
     match gY (k.at ρ) es 0 with
     |some (some (_,x))=>if ok then some (.tup [x,.bool true])else some x
     |some none=>if ok then some (.tup [zero,.bool false])else some zero
     |none=>none
    else none
   |_=>none
  |.fmp ks vs=>match gY (k.at ρ) (ks.zip vs) 0 with
   |some (some (_,x))=>if ok then some (.tup [x,.bool true])else some x
   |some none=>if ok then some (.tup [zero,.bool false])else some zero
   |none=>none
  |_=>none):=(rfl)
@[go_sem] theorem aSv{k:Nat}{x:AOpd}{v:AOpd}:aBj call H ρ site (.store k x v)=(if (v.at ρ).cells.length=k/\(v.at ρ).cells.all AV.cellOk then
   match storeCells H (v.at ρ).cells (x.at ρ)with
   |some (H',wr)=>some (.undef,H',wr)
   |none=>none
  else none):=(rfl)
@[go_sem] theorem aVw{k:Nat}{zs:List AV}{n:Nat}{parts:List (Nat×AOpd)}:aBj call H ρ site (.bsl k zs n parts)=(match site with
  |some id=>match lU ρ k (List.replicate n zs) parts with
   |some rows=>if id<H.length then some (.sr id (bG H id) n,make H id (.vec · k rows),[id])else none
   |none=>none
  |none=>match vJ ρ k H (List.replicate n zs) parts with
   |some (rows,H',wr)=>some (.sl true rows,H',wr)
   |none=>none):=(rfl)
@[go_sem] theorem aVx{k:Nat}{bytes:Nat}{zs:List AV}{len:AOpd}{cap:AOpd}:aBj call H ρ site (.mks k bytes zs len cap)=(match len.at ρ,cap.at ρ with
  |.int _ n,.int _ c=>
   if 0<=n/\n=c/\bP n.toNat bytes then
    match site with
    |some id=>if id<H.length then some (.sr id (bG H id) n.toNat,make H id (.vec · k (List.replicate n.toNat (zs.map AV.strip1))),[id])else none
    |none=>some (.sl true (List.replicate n.toNat (zs.map AV.strip1)),H,[])
   else match site with
    |some id=>if n=0/\0<c/\bP c.toNat bytes/\id<H.length then some (.sr id (bG H id) 0,make H id (.vec · k []),[id])else none
    |none=>none
  |_,_=>none):=(rfl)
@[go_sem] theorem aU3{tab:List (Nat×Nat)}{x:AOpd}{args:List AOpd}:aBj call H ρ site (.invk tab x args)=(match x.at ρ with
  |.ifc t v=>match tab.lookup t with
   |some f=>cY call H site (.fn f [v] []) (args.map (AOpd.at ρ))
   |none=>none
  |_=>none):=(rfl)
@[go_sem] theorem aVy{k:Nat}{x:AOpd}{y:AOpd}:aBj call H ρ site (.cpy k x y)=(match x.at ρ with
  |.srv o v n k' lo=>match H[o]? with
   |some (.vec v' k2 rows)=>match cU H (y.at ρ)with
    |some new=>if new.isEmpty then some (.int .i64 0,H,[])else if v'=v/\rows.length=n/\k2=k/\k'=k/\cH k new/\lo+new.length<=n then
      some (.int .i64 (new.length:Nat),H.set o (.vec v k (rows.take lo++new++rows.drop (lo+new.length))),[o])
     else none
    |none=>none
   |_=>none
  |_=>none):=(rfl)
@[go_sem] theorem aSw  : aBj call H ρ site (.mkmap)=(match site with
  |some id=>if id<H.length then some (.mp id (bG H id),make H id (.map · []),[id])else none
  |none=>none):=(rfl)
@[go_sem] theorem aVz{m:AOpd}{k:AOpd}{v:AOpd}:aBj call H ρ site (.ins m k v)=(match m.at ρ,k.at ρ with
  |.mp o ver,key=>match H[o]? with
   |some (.map v' es)=>
    if v'=ver/\(aH4 key key).isSome/\(v.at ρ).strip.cells.all AV.still then
     match gY key es 0 with
     |some (some (i,_))=>some (.undef,H.set o (.map ver (es.set i (key,(v.at ρ).strip))),[o])
     |some none=>some (.undef,H.set o (.map ver (es++[(key,(v.at ρ).strip)])),[o])
     |none=>none
    else none
   |_=>none
  |_,_=>none):=(rfl)
@[go_sem] theorem aSx{u0:Nat}{u1:Bool}{x:AOpd}:aAB ρ (.load u0 u1 x)=(match x.at ρ with
  |.ptr o _ _=>[o]
  |.vp o _ _ _ _ _=>[o]
  |_=>[]):=(rfl)
@[go_sem] theorem aLz{k:IntKind}{x:AOpd}:aAB ρ (.conv (.toInt k) x)=[]:=(rfl)
@[go_sem] theorem aNK{x:AOpd}:aAB ρ (.conv .b2s x)=(match x.at ρ with
  |.sr o _ _=>[o]
  |.srv o _ _ _ _=>[o]
  |.srw o _ _ _=>[o]
  |_=>[]):=(rfl)
end
def aFO:List Nat->Nat->Nat->Option Nat | [],_,_=>none | t::ts,i,d=>if t=d then some i else aFO ts (i+1) d
theorem idxOf?_siteIn(d:Nat):∀(l:List Nat) (i:Nat),(l.idxOf? d).map (i + ·)=aFO l i d
 | [],i=>by simp[aFO]
 |t::ts,i=>by
  rw[List.idxOf?_cons];unfold aFO
  by_cases h:t=d
  ·simp[h]
  ·have hb:(t==d)=false:=by simpa using h
   rw[if_neg h,<- idxOf?_siteIn d ts (i+1),hb];cases ts.idxOf? d<;>simp<;>omega
@[go_sem] theorem aU4{b d:Nat}{l:List Nat}:Ctx.site ⟨b,l⟩ (some d)=(aFO l 0 d).map (b + ·):=by
 rw[<- idxOf?_siteIn]
 show (l.idxOf? d).map (b + ·)=_
 cases l.idxOf? d<;>simp
@[go_sem] theorem aU5{c:Ctx}:c.site none=none:=(rfl)
attribute [go_sem] aFO
@[go_sem] theorem aR6{α β:Type}{f:α->β}{a:α}:(some a).map f=some (f a):=(rfl)
@[go_sem] theorem aR7{α β:Type}{f:α->β}:(none:Option α).map f=none:=(rfl)
@[go_sem] theorem aPE{α β:Type}{b:β}{f:α->β}{a:α}:(some a).elim b f=f a:=(rfl)
attribute [go_sem] List.length_append Nat.add_lt_add_iff_left Nat.lt_add_right_iff_pos
theorem aGx(a b:Nat):(a==b)=decide (a=b):=rfl
@[go_sem] theorem aX4{x a b:Nat}:(x+a==x+b)=(a==b):=by rw[aGx,aGx];exact decide_eq_decide.2 (by omega)
@[go_sem] theorem aVA{x a:Nat}:(x+a==x)=(a==0):=by rw[aGx,aGx];exact decide_eq_decide.2 (by omega)
@[go_sem] theorem aXZ:(false==true)=false:=(rfl)
@[go_sem] theorem aY0:(true==false)=false:=(rfl)
attribute [go_sem] Bool.false_eq_true
attribute [go_sem] Int.cast_ofNat_Int Int.lt_irrefl
attribute [go_sem] Int.natCast_nonneg Int.ofNat_lt Int.ofNat_le Int.toNat_natCast
@[go_sem] theorem aVB{H:List AObj}{site:Option Nat}{k bytes:Nat}{full:Bool}{rows:List (List AV)}{x:AV}:fH H site k bytes (.sl full rows) x=(match cU H x with
 |none=>none
 |some new=>
  if !cH k new then none else
   if new.isEmpty then some (.sl full rows,H,[])
   else if full&&cH k rows&&bP (rows.length+new.length) bytes then
    match site with
    |some id=>if id<H.length then some (.sr id (bG H id) (rows.length+new.length),make H id (.vec · k (rows++new)),[id])else none
    |none=>none
   else none):=(rfl)
@[go_sem] theorem aVC{H:List AObj}{site:Option Nat}{k bytes o v n:Nat}{x:AV}:fH H site k bytes (.sr o v n) x=(match cU H x with
 |none=>none
 |some new=>
  if !cH k new then none else
   match H[o]? with
   |some (.vec v' k' rows)=>
    if v'=v/\rows.length=n/\k'=k/\bP (n+new.length) bytes then
     if new.isEmpty then some (.sr o v n,H,[])else
     some (.sr o v (n+new.length),H.set o (.vec v k (rows++new)),[o])
    else none
   |_=>none):=(rfl)
@[go_sem] theorem aSy{k:Nat}:cH k []=true:=(rfl)
@[go_sem] theorem vQ{k:Nat}{r:List AV}{rows:List (List AV)}:cH k (r::rows)=(r.length==k):=(rfl)
attribute [go_sem] aH4 gY aX storeCells cU eH nB aBo aS1 lT nE lU vJ mmV aCE mm2
attribute [go_sem] List.drop_zero List.drop_succ_cons List.drop_nil List.take_zero List.take_succ_cons List.take_nil List.getElem?_cons_zero List.getElem?_cons_succ List.getElem?_nil List.set_cons_zero List.set_cons_succ List.set_nil List.nil_append List.cons_append List.append_nil List.all_cons List.all_nil List.map_cons List.map_nil List.length_cons List.length_nil List.replicate_succ List.replicate_zero List.length_set List.length_map List.getElem?_set_self List.set_set List.take_length List.isEmpty_nil List.isEmpty_cons List.contains_cons List.contains_nil Bool.or_false Bool.false_or Bool.or_true Bool.true_or Option.getD_some Option.getD_none Nat.add_zero Nat.zero_add and_true true_and and_false false_and if_true if_false ite_true ite_false Bool.and_true Bool.true_and Bool.and_false Bool.false_and BT BF decide_true decide_false beq_self_eq_true NA NL ND
abbrev u:=AOpd.tmp
abbrev ui(n:Int):AOpd:=.const (.int .i64 n)
abbrev uc:=AOpd.const
abbrev uF:AOpd:=.const (.bool false)
abbrev uT:AOpd:=.const (.bool true)
abbrev uf(f:Nat):AOpd:=.const (.fn f [] [])
abbrev om(x:Nat):AOp:=.mov (.tmp x)
abbrev ol(k x:Nat):AOp:=.load k false (.tmp x)
abbrev ola(k x:Nat):AOp:=.load k true (.tmp x)
abbrev of(o x:Nat):AOp:=.fa o (.tmp x)
abbrev ob(o:BinOp)(x y:Nat):AOp:=.bin o .no (.tmp x) (.tmp y)
abbrev obi(o:BinOp)(x:Nat)(n:Int):AOp:=.bin o .no (.tmp x) (.const (.int .i64 n))
abbrev oi(x i k:Nat):AOp:=.iaV (.tmp x) (.tmp i) k
abbrev on(x:Nat):AOp:=.lenV (.tmp x)
abbrev op(x y:Nat):AOp:=.pick (.tmp x) (.tmp y) (.const (.bool false))
abbrev oa(k b x y:Nat):AOp:=.app k b (.tmp x) (.tmp y)
abbrev os(k x y:Nat):AOp:=.store k (.tmp x) (.tmp y)
abbrev oc(f:Nat)(l:List AOpd):AOp:=.callv (.const (.fn f [] [])) l
abbrev qq(d:Nat)(o:AOp):AOper:=⟨some d,o,none,[]⟩
abbrev qz(o:AOp):AOper:=⟨none,o,none,[]⟩
abbrev qT(d g:Nat)(o:AOp):AOper:=⟨some d,o,some (some g,true),[]⟩
abbrev qF(d g:Nat)(o:AOp):AOper:=⟨some d,o,some (some g,false),[]⟩
abbrev qm(d x:Nat):AOper:=⟨some d,.mov (.tmp x),none,[]⟩
abbrev qmc(d:Nat)(v:AV):AOper:=⟨some d,.mov (.const v),none,[]⟩
abbrev ql(d k x:Nat):AOper:=⟨some d,.load k false (.tmp x),none,[]⟩
abbrev qla(d k x:Nat):AOper:=⟨some d,.load k true (.tmp x),none,[]⟩
abbrev qf(d o x:Nat):AOper:=⟨some d,.fa o (.tmp x),none,[]⟩
abbrev qb(d:Nat)(o:BinOp)(x y:Nat):AOper:=⟨some d,.bin o .no (.tmp x) (.tmp y),none,[]⟩
abbrev qbi(d:Nat)(o:BinOp)(x:Nat)(n:Int):AOper:=⟨some d,.bin o .no (.tmp x) (.const (.int .i64 n)),none,[]⟩
abbrev qi(d x i k:Nat):AOper:=⟨some d,.iaV (.tmp x) (.tmp i) k,none,[]⟩
abbrev qn(d x:Nat):AOper:=⟨some d,.lenV (.tmp x),none,[]⟩
abbrev qx(d k x:Nat):AOper:=⟨some d,.box k (.tmp x),none,[]⟩
abbrev qp(d x y:Nat):AOper:=⟨some d,.pick (.tmp x) (.tmp y) (.const (.bool false)),none,[]⟩
abbrev qa(d k b x y:Nat):AOper:=⟨some d,.app k b (.tmp x) (.tmp y),none,[]⟩
abbrev qs(k x y:Nat):AOper:=⟨none,.store k (.tmp x) (.tmp y),none,[]⟩
abbrev qc(d f:Nat)(l:List AOpd):AOper:=⟨some d,.callv (.const (.fn f [] [])) l,none,[]⟩
abbrev qS(l:List AOper)(c:ACode):ACode:=.seq (.region false l) c
abbrev qR(l:List AOper):ACode:=.region false l
abbrev qC(x:Nat)(a b:ACode):ACode:=.cond (.tmp x) a b
set_option maxRecDepth 8000
@[go_sem] theorem aSz{a:AV}{r:List AV}:pE (a::r) 0=a:=(rfl)
@[go_sem] theorem aSA{a:AV}{r:List AV}{n:Nat}:pE (a::r) (n+1)=pE r n:=(rfl)
@[go_sem] theorem aU6{n:Nat}:pE [] n=.undef:=(rfl)
attribute [go_sem] Option.isSome_some Option.isSome_none BT BF
mutual
def AV.data:AV->Bool
 |.bool _ | .int _ _ | .str _ | .nilFn | .nilPtr=>true
 |.sl f rows => !f&&oC rows
 |.agg cs=>jE cs
 |_=>false
def jE:List AV->Bool
 | []=>true
 |v::r=>v.cellOk&&v.data&&jE r
def oC:List (List AV)->Bool
 | []=>true
 |l::r=>jE l&&oC r
end
mutual
theorem aGy:∀{v:AV} {n:Nat},v.data=true->v.under n=true
 |.bool _,_,_ | .int _ _,_,_ | .str _,_,_ | .nilFn,_,_ | .nilPtr,_,_=>rfl
 |.sl f rows,n,h=>by
  simp only[AV.data,Bool.and_eq_true]at h;simp only[AV.under];exact aA h.2
 |.agg cs,n,h=>by
  simp only[AV.data]at h;simp only[AV.under];exact cS h
 |.undef,_,h | .fn ..,_,h | .ptr ..,_,h | .vp ..,_,h | .ep ..,_,h | .sr ..,_,h | .mp ..,_,h | .own ..,_,h | .tup ..,_,h=>by simp[AV.data]at h
theorem cS:∀{l:List AV} {n:Nat},jE l=true->dS n l=true
 | [],_,_=>rfl
 |v::r,n,h=>by
  simp only[jE,Bool.and_eq_true]at h;simp only[dS,Bool.and_eq_true];exact⟨aGy h.1.2,cS h.2⟩
theorem aA:∀{l:List (List AV)} {n:Nat},oC l=true->eF n l=true
 | [],_,_=>rfl
 |v::r,n,h=>by
  simp only[oC,Bool.and_eq_true]at h;simp only[eF,Bool.and_eq_true];exact⟨cS h.1,aA h.2⟩
end
theorem sO{v:AV}(h:v.data=true):v.strip1=v:=by
 cases v<;>try rfl
 rename_i f rows;simp only[AV.data,Bool.and_eq_true,Bool.not_eq_true']at h;rw[h.1];rfl
theorem yR:∀{l:List AV},jE l=true->∀v∈l,v.data=true/\v.cellOk=true
 | [],_,v,hv=>by cases hv
 |a::r,h,v,hv=>by
  simp only[jE,Bool.and_eq_true]at h;rcases List.mem_cons.1 hv with rfl | hv
  ·exact⟨h.1.2,h.1.1⟩
  ·exact yR h.2 v hv
theorem aM{l:List AV}(h:jE l=true):l.map AV.strip1=l:=by
 conv=>rhs;rw[<- List.map_id l]
 exact List.map_congr_left fun v hv=>sO (yR h v hv).1
theorem aGz{v:AV}(h:v.data=true)(h2:v.cellOk=true):v.still=true:=by
 cases v<;>first | rfl | exact absurd (show false=true from h2) Bool.false_ne_true | exact absurd (show false=true from h) Bool.false_ne_true
theorem bK{l:List AV}(h:jE l=true):l.all AV.still=true:=by
 rw[List.all_eq_true];intro v hv;exact aGz (yR h v hv).1 (yR h v hv).2
theorem bY{l:List AV}(h:jE l=true):l.all AV.cellOk=true:=by
 rw[List.all_eq_true];intro v hv;exact (yR h v hv).2
theorem aFP:∀{l:List (List AV)},oC l=true->∀v∈l,jE v=true
 | [],_,v,hv=>by cases hv
 |a::r,h,v,hv=>by
  simp only[oC,Bool.and_eq_true]at h;rcases List.mem_cons.1 hv with rfl | hv
  ·exact h.1
  ·exact aFP h.2 v hv
theorem aO{rows:List (List AV)}(h:oC rows=true):(rows.all fun r=>r.all AV.still)=true:=by
 rw[List.all_eq_true];intro r hr;exact bK (aFP h r hr)
theorem vR{H:List AObj}{v:AV}(h:v.data=true)(h2:v.cellOk=true):aBT H v=some (v,[]):=by
 cases v<;>first | rfl | exact absurd (show false=true from h2) Bool.false_ne_true | exact absurd (show false=true from h) Bool.false_ne_true
theorem aY{H:List AObj}:∀{l:List AV},jE l=true->aGc H l=some (l,[])
 | [],_=>rfl
 |v::r,h=>by
  simp only[jE,Bool.and_eq_true]at h;unfold aGc;rw[vR h.1.2 h.1.1,aY h.2];rfl
theorem aCf{base:Nat}{v:AV}{H:List AObj}{wr:List Nat}(h:v.under base=true)(h2:(wr.all fun o=>match H[o]? with | some x=>x.under base | none=>true)=true):cD base (v,H,wr)=(v,H.take base,wr):=by
 unfold cD;dsimp only;rw[if_pos (by rw[h,Bool.true_and];exact h2)]
@[go_sem] theorem aIZ{base o:Nat}{v:AV}{H:List AObj}{x:AObj}(h:v.under base=true)(h1:H[o]? = some x)(h2:x.under base=true):cD base (v,H,[o])=(v,H.take base,[o]):=
 aCf h (by rw[List.all_cons,List.all_nil,Bool.and_true,h1];exact h2)
@[go_sem] theorem zV{n v:Nat}{cs:List AV}:AObj.under n (.box v cs)=dS n cs:=(rfl)
@[go_sem] theorem aSB{n:Nat}{b:Bool}:AV.under n (.bool b)=true:=(rfl)
@[go_sem] theorem aMp{n:Nat}{k:IntKind}{i:Int}:AV.under n (.int k i)=true:=(rfl)
@[go_sem] theorem aU7{n:Nat}{l:List UInt8}:AV.under n (.str l)=true:=(rfl)
@[go_sem] theorem aVD{n:Nat}{f:Bool}{rows:List (List AV)}:AV.under n (.sl f rows)=eF n rows:=(rfl)
@[go_sem] theorem aU8{n:Nat}{cs:List AV}:AV.under n (.agg cs)=dS n cs:=(rfl)
@[go_sem] theorem aU9{n:Nat}{cs:List AV}:AV.under n (.tup cs)=dS n cs:=(rfl)
@[go_sem] theorem aUa{n k:Nat}{rows:List (List AV)}:AV.under n (.own k rows)=eF n rows:=(rfl)
@[go_sem] theorem aKY{n:Nat}:dS n []=true:=(rfl)
@[go_sem] theorem aJ0{n:Nat}{v:AV}{r:List AV}:dS n (v::r)=(v.under n&&dS n r):=(rfl)
@[go_sem] theorem aR8{n:Nat}:eF n []=true:=(rfl)
@[go_sem] theorem aPF{n:Nat}{v:List AV}{r:List (List AV)}:eF n (v::r)=(dS n v&&eF n r):=(rfl)
@[go_sem] theorem aAI{base:Nat}{v:AV}{H:List AObj}(h:v.under base=true):cD base (v,H,[])=(v,H.take base,[]):=by
 unfold cD;simp only[h,List.all_nil,Bool.and_true,if_true]
def aOs(base:Nat)(rs:List ARes)(K:AV->List AObj->List Nat->Prop)(tg:Tg K):AExit->bH->List AObj->List Nat->Prop:=aS2 base rs K
section
variable {base:Nat}{ρ:bH}{H:List AObj}{wr:List Nat}{K:AV->List AObj->List Nat->Prop}{rs:List ARes}
@[go_sem] theorem aVE{t:Tg K}:aOs base rs K t .ret ρ H wr=bnd (jD base rs ρ H wr) fun r=>bnd (some (cD base r)) fun r=>K r.1 r.2.1 r.2.2:=by
 unfold aOs aS2;dsimp only;cases jD base rs ρ H wr<;>rfl
@[go_sem] theorem aR9{t:Tg K}:aOs base rs K t .normal ρ H wr=bnd (jD base rs ρ H wr) fun r=>bnd (some (cD base r)) fun r=>K r.1 r.2.1 r.2.2:=by
 unfold aOs aS2;dsimp only;cases jD base rs ρ H wr<;>rfl
@[go_sem] theorem aRa{t:Nat}:jD base [.tmp t] ρ H wr=match aD6 base H (ρ t)with
  |some (v',H',l)=>some (v',H',bA base wr l)
  |none=>none:=(rfl)
@[go_sem] theorem aPG{t k:Nat}{agg:Bool}:jD base [.cell t k agg] ρ H wr=match aX H k (ρ t)with
  |some cs=>match dR agg cs with
   |some v=>match aD6 base H v with
    |some (v',H',l)=>some (v',H',bA base wr l)
    |none=>none
   |none=>none
  |none=>none:=by
 simp only[jD,aFA,aO1];cases aX H k (ρ t)with
 |none=>rfl
 |some cs=>dsimp only;cases dR agg cs<;>rfl
@[go_sem] theorem aVF{k:IntKind}{n:Int}:aD6 base H (.int k n)=some (.int k n,H,[]):=(rfl)
@[go_sem] theorem aUb{b:Bool}:aD6 base H (.bool b)=some (.bool b,H,[]):=(rfl)
@[go_sem] theorem aVG{l:List UInt8}:aD6 base H (.str l)=some (.str l,H,[]):=(rfl)
@[go_sem] theorem aX5{f:Bool}{rows:List (List AV)}:aD6 base H (.sl f rows)=some (.sl false rows,H,[]):=(rfl)
@[go_sem] theorem aVH{cs:List AV}:aD6 base H (.agg cs)=fix H (.agg cs):=(rfl)
@[go_sem] theorem aRb{o v n:Nat}:aD6 base H (.sr o v n)=if o<base then some (.sr o v n,H,[])else match H[o]? with
  |some (.vec v' k rows)=>if v'=v/\rows.length=n/\base<=o/\rows.all (fun r=>r.all AV.still)then some (.own k rows,dL H [o],[o])else none
  |_=>none:=(rfl)
@[go_sem] theorem aPH{n i:Nat}:(n+i<n)=False:=by simp
@[go_sem] theorem aOt{n:Nat}:(n<n)=False:=by simp
attribute [go_sem] Nat.le_refl Nat.le_add_right
end
theorem jU{A:AProg}{f:Nat}{args:List AV}{H:List AObj}{fn:AFn}{K:AV->List AObj->List Nat->Prop}(hf:A.fn f=some fn)(hp:(A.prim f).bind (· args H)=none)
  (hN:args.length<=fn.ntmps) (hok:cZ fn.ntmps ⟨H.length,fn.sites⟩ fn.body=true)
  (h:wc A fn.ntmps ⟨H.length,fn.sites⟩ fn.body (pE args) (H++List.replicate fn.sites.length (.gone 0)) [] (aOs H.length fn.results K ⟨⟩) ⟨⟩):
  ∃v H' wr,aL A f args H=some (v,H',wr)/\K v H' wr:=aC3 hf hp hN hok h
structure Has(A:AProg)(g:String->Nat)(name:String)(fn:AFn):Prop where
 fn:A.fn (g name)=some fn
 prim:A.prim (g name)=none
theorem Has.call{A:AProg}{g:String->Nat}{name:String}{fn:AFn}(h:Has A g name fn){args:List AV}{H:List AObj}{v:AV}{H':List AObj}{wr:List Nat}
  (hN:args.length<=fn.ntmps) (hok:cZ fn.ntmps ⟨H.length,fn.sites⟩ fn.body=true)
  (hw:wc A fn.ntmps ⟨H.length,fn.sites⟩ fn.body (pE args) (H++List.replicate fn.sites.length (.gone 0)) [] (aOs H.length fn.results (fun v' H'' wr'=>v'=v/\H''=H'/\wr'=wr) ⟨⟩) ⟨⟩):
  aL A (g name) args H=some (v,H',wr):=by
 obtain⟨v1,H1,wr1,h1,rfl,rfl,rfl⟩:=aC3 (K:=fun v' H'' wr'=>v'=v/\H''=H'/\wr'=wr) h.fn (by rw[h.prim];rfl) hN hok hw
 exact h1
theorem Has.callEx{A:AProg}{g:String->Nat}{name:String}{fn:AFn}(h:Has A g name fn){args:List AV}{H:List AObj}{K:AV->List AObj->List Nat->Prop}
  (hN:args.length<=fn.ntmps) (hok:cZ fn.ntmps ⟨H.length,fn.sites⟩ fn.body=true)
  (hw:wc A fn.ntmps ⟨H.length,fn.sites⟩ fn.body (pE args) (H++List.replicate fn.sites.length (.gone 0)) [] (aOs H.length fn.results K ⟨⟩) ⟨⟩):
  ∃v H' wr,aL A (g name) args H=some (v,H',wr)/\K v H' wr:=aC3 h.fn (by rw[h.prim];rfl) hN hok hw
def eD(site:Option Nat)(quiet:Bool)(H:List AObj):Out->Out
 |none=>none
 |some (v,H',wr)=>
  if quiet then
   match v with
   |.own k rows=>
    match site with
    |some id=>if id<H'.length then some (.sr id (bG H' id) rows.length,make H' id (.vec · k rows),if wr.contains id then wr else id::wr)else none
    |none=>some (.sl false rows,H',wr)
   |v=>some (v,H',wr)
  else if wr.isEmpty&&decide (H'.length=H.length)&&v.atomic then some (v,H,[])else none
@[go_sem] theorem aNL{site:Option Nat}{q:Bool}{H:List AObj}{v:AV}{H':List AObj}{wr:List Nat}:eD site q H (some (v,H',wr))=(if q then
   match v with
   |.own k rows=>
    match site with
    |some id=>if id<H'.length then some (.sr id (bG H' id) rows.length,make H' id (.vec · k rows),if wr.contains id then wr else id::wr)else none
    |none=>some (.sl false rows,H',wr)
   |v=>some (v,H',wr)
  else if wr.isEmpty&&decide (H'.length=H.length)&&v.atomic then some (v,H,[])else none):=(rfl)
@[go_sem] theorem aSC{call:Nat->List AV->List AObj->Out}{H:List AObj}{site:Option Nat}{f:Nat}{first caps args:List AV}:cY call H site (.fn f first caps) args =
  match jP H (first++args++caps)with
  |none=>none
  |some (args',lent)=>eD site lent.isEmpty H (call f (args'.map AV.strip) (dL H lent)):=by
 show (match jP H (first++args++caps)with
  |none=>none
  |some (args',lent)=>_)=_
 cases jP H (first++args++caps)with
 |none=>rfl
 |some p=>
  dsimp only;cases call f (p.1.map AV.strip) (dL H p.2)with
  |none=>rfl
  |some r=>obtain⟨v,H',wr⟩:=r;cases v<;>rfl
@[go_sem] theorem aSD{call:Nat->List AV->List AObj->Out}{H:List AObj}{site:Option Nat}{f:Nat}{first caps args:List AV}:hD call H site (.fn f first caps) args =
  eD site true H (call f (first++args++caps) H):=by
 show (match call f (first++args++caps) H with
  |none=>none
  |some (v,H',wr)=>_)=_
 cases call f (first++args++caps) H with
 |none=>rfl
 |some r=>obtain⟨v,H',wr⟩:=r;cases v<;>rfl
theorem aK1{A:AProg}{f:Nat}{args:List AV}{H H2 H3:List AObj}{site:Option Nat}{q:Bool}{k:AV×List AObj×List Nat×Option (List Nat)->Prop}{tg}{R:AV->List AObj->List Nat->Prop}
  (h:∃v H' wr,aL A f args H=some (v,H',wr)/\R v H' wr) (hk:∀v H' wr,R v H' wr->bnd (nH H3 (eD site q H2 (some (v,H',wr)))) k):aCe (nH H3 (eD site q H2 (aL A f args H))) k tg:=by
 obtain⟨v,H',wr,h1,h2⟩:=h;rw[h1];exact hk v H' wr h2
end Go.AM
end
