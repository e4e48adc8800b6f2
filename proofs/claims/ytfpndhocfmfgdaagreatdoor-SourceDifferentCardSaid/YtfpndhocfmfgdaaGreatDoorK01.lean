/- Part 1: lemmas for the last text. -/
import Derived.Calls
import Derived.Orders
set_option linter.unusedVariables false
set_option linter.unusedSimpArgs false
section
namespace Go.AM
open Go
inductive AV where
 |undef
 |bool (b:Bool)
 |int (k:IntKind) (n:Int)
 |str (l:List UInt8)
 |fn (f:Nat) (first caps:List AV)
 |nilFn
 |ptr (o v off:Nat)
 |vp (o v n k i off:Nat)
 |nilPtr
 |ep (row:List AV) (off:Nat)
 |sl (full:Bool) (rows:List (List AV))
 |sr (o v n:Nat)
 |srv (o v n k lo:Nat)
 |srw (o v n hi:Nat)
 |nilSl
 |mp (o v:Nat)
 |fmp (ks vs:List AV)
 |yld (o v:Nat)
 |own (k:Nat) (rows:List (List AV))
 |agg (cs:List AV)
 |tup (vs:List AV)
 |ifc (t:Nat) (v:AV)
 |nilIfc
 deriving Inhabited
inductive AOpd where
 |tmp (t:Nat)
 |const (v:AV)
 deriving Inhabited
inductive Tag where
 |bool
 |int
 |str
 deriving Inhabited,DecidableEq
inductive EqK where
 |no
 |bool
 |func
 |ptr
 |iface
 |cells (tags:List Tag)
 deriving Inhabited,DecidableEq
inductive AConv where
 |toInt (k:IntKind)
 |same
 |s2b
 |b2s
 |i2s
 deriving Inhabited,DecidableEq
inductive AOp where
 |bad
 |mov (x:AOpd)
 |pick (c a b:AOpd)
 |alloc (zs:List AV)
 |talloc (ty:Nat) (zs:List AV)
 |box (k:Nat) (x:AOpd)
 |tbx (ty k:Nat) (x:AOpd)
 |build (zs:List AV) (parts:List (Nat×Nat×AOpd))
 |bsl (k:Nat) (zs:List AV) (n:Nat) (parts:List (Nat×AOpd))
 |load (k:Nat) (agg:Bool) (x:AOpd)
 |store (k:Nat) (x v:AOpd)
 |nilck (x:AOpd)
 |isnil (neg:Bool) (x:AOpd)
 |bin (op:BinOp) (ek:EqK) (x y:AOpd)
 |un (op:UnOp) (x:AOpd)
 |conv (c:AConv) (x:AOpd)
 |mkf (f:Nat) (first caps:List AOpd)
 |mks (k bytes:Nat) (zs:List AV) (len cap:AOpd)
 |sliceS (x:AOpd) (lo hi:Option AOpd)
 |sliceV (k:Nat) (x:AOpd) (lo hi mx:Option AOpd)
 |view (k:Nat) (x:AOpd) (lo:Option AOpd)
 |sliceA (n k:Nat) (x:AOpd) (lo hi mx:Option AOpd)
 |fa (off:Nat) (x:AOpd)
 |fld (off k:Nat) (agg:Bool) (x:AOpd)
 |iaV (x i:AOpd) (k:Nat)
 |iaA (n k:Nat) (x i:AOpd)
 |ixS (x i:AOpd)
 |ixA (n k:Nat) (agg:Bool) (x i:AOpd)
 |lenS (x:AOpd)
 |lenV (x:AOpd)
 |lenC (n:Nat)
 |mm (mx:Bool) (xs:List AOpd)
 |app (k bytes:Nat) (s x:AOpd)
 |tapp (ty k bytes:Nat) (s x:AOpd)
 |ext (i:Nat) (x:AOpd)
 |callv (f:AOpd) (args:List AOpd)
 |callr (f:AOpd) (args:List AOpd)
 |mkmap
 |ins (m k v:AOpd)
 |look (zero:AV) (m k:AOpd) (ok:Bool)
 |mkifc (t:Nat) (x:AOpd)
 |invk (tab:List (Nat×Nat)) (x:AOpd) (args:List AOpd)
 |cpy (k:Nat) (x y:AOpd)
 deriving Inhabited
structure AOper where
 dst:Option Nat
 op:AOp
 guard:Option (Option Nat×Bool)
 pre:List Nat
 deriving Inhabited
inductive ACode where
 |skip
 |bad
 |region (draw:Bool) (ops:List AOper)
 |seq (a b:ACode)
 |cond (c:AOpd) (a b:ACode)
 |block (id:Nat) (c:ACode)
 |loop (c:ACode)
 |exit (id:Nat)
 |ret
 |frz (ts:List (Nat×Nat))
 |rangeF (x:AOpd) (ps:List Nat) (body:ACode)
 deriving Inhabited
inductive AExit where
 |normal
 |exit (id:Nat)
 |ret
 deriving DecidableEq,Inhabited
inductive AObj where
 |gone (v:Nat)
 |box (v:Nat) (cells:List AV)
 |tbox (v ty:Nat) (cells:List AV)
 |vec (v k:Nat) (rows:List (List AV))
 |tvec (v ty k:Nat) (rows:List (List AV))
 |map (v:Nat) (es:List (AV×AV))
 |rnd (v base:Nat) (sites ps:List Nat) (body:ACode) (ρ:List AV) (busy:Bool) (pend:Option AExit)
 deriving Inhabited
def AObj.ver:AObj->Nat
 |.gone v | .box v _ | .tbox v _ _ | .vec v _ _ | .tvec v _ _ _ | .map v _=>v
 |.rnd v _ _ _ _ _ _ _=>v
inductive ARes where
 |tmp (t:Nat)
 |cell (t k:Nat) (agg:Bool)
 deriving Inhabited
structure AFn where
 ntmps:Nat
 sites:List Nat
 results:List ARes
 body:ACode
 deriving Inhabited
abbrev aIH:=List AV->List AObj->Option (AV×List (Nat×AObj)×List AObj)
structure AProg where
 fn:Nat->Option AFn
 prim:Nat->Option aIH
def AOpd.ev(ρ:List AV):AOpd->AV
 |.tmp t=>(ρ[t]?).getD .undef
 |.const v=>v
def AV.strip1:AV->AV
 |.sl _ rows=>.sl false rows
 |v=>v
def AV.strip:AV->AV
 |.agg cs=>.agg (cs.map AV.strip1)
 |.tup vs=>.tup (vs.map fun
   |.agg cs=>.agg (cs.map AV.strip1)
   |v=>v.strip1)
 |v=>v.strip1
def AV.cells:AV->List AV
 |.agg cs=>cs
 |v=>[v]
def AV.atom:AV->Bool
 |.bool _ | .int _ _ | .str _ | .nilFn | .nilPtr | .nilIfc | .nilSl=>true
 |_=>false
def AV.inIfc:AV->Bool
 |.bool _ | .int _ _ | .str _ | .nilFn | .nilPtr | .ptr ..=>true
 |_=>false
def AV.atomic:AV->Bool
 |.agg cs=>cs.all AV.atom
 |.tup vs=>vs.all AV.atom
 |v=>v.atom
def AV.still:AV->Bool
 |.sr .. | .srv .. | .srw .. | .own .. | .agg _ | .tup _ | .undef=>false
 |_=>true
def AV.cellOk:AV->Bool
 |.srv .. | .srw .. | .own .. | .agg _ | .tup _ | .undef=>false
 |_=>true
mutual
def AV.under(n:Nat):AV->Bool
 |.fn _ xs ys=>dS n xs&&dS n ys
 |.ptr o _ _=>decide (o<n)
 |.vp o _ _ _ _ _=>decide (o<n)
 |.sr o _ _=>decide (o<n)
 |.srv o _ _ _ _=>decide (o<n)
 |.srw o _ _ _=>decide (o<n)
 |.mp o _=>decide (o<n)
 |.fmp ks vs=>dS n ks&&dS n vs
 |.yld o _=>decide (o<n)
 |.ep row _=>dS n row
 |.sl _ rows=>eF n rows
 |.own _ rows=>eF n rows
 |.agg cs=>dS n cs
 |.tup vs=>dS n vs
 |.ifc _ v=>v.under n
 |_=>true
def dS(n:Nat):List AV->Bool
 | []=>true
 |v::r=>v.under n&&dS n r
def eF(n:Nat):List (List AV)->Bool
 | []=>true
 |l::r=>dS n l&&eF n r
end
def AObj.under(n:Nat):AObj->Bool
 |.gone _=>true
 |.box _ cs=>dS n cs
 |.tbox _ _ cs=>dS n cs
 |.vec _ _ rows=>eF n rows
 |.tvec _ _ _ rows=>eF n rows
 |.map _ es=>es.all fun(k,v)=>k.under n&&v.under n
 |.rnd _ _ _ _ _ ρ _ _=>dS n ρ
def aBT(H:List AObj):AV->Option (AV×List Nat)
 |.sr o v n=>
  match H[o]? with
  |some (.vec v' _ rows)=>if v'=v/\rows.length=n/\rows.all (fun r=>r.all AV.still)then some (.sl false rows,[o])else none
  |_=>none
 |.own .. | .srv .. | .srw .. | .tup _=>none
 |v=>some (v,[])
def aGc(H:List AObj):List AV->Option (List AV×List Nat)
 | []=>some ([],[])
 |a::r=>
  match aBT H a with
  |none=>none
  |some (a',l)=>
   match aGc H r with
   |none=>none
   |some (r',l')=>some (a'::r',l++l')
def lend(H:List AObj):AV->Option (AV×List Nat)
 |.agg cs=>match aGc H cs with
  |some (cs',l)=>some (.agg cs',l)
  |none=>none
 |.tup _=>none
 |v=>aBT H v
def jP(H:List AObj):List AV->Option (List AV×List Nat)
 | []=>some ([],[])
 |a::r=>
  match lend H a with
  |none=>none
  |some (a',l)=>
   match jP H r with
   |none=>none
   |some (r',l')=>some (a'::r',l++l')
def dL(H:List AObj):List Nat->List AObj
 | []=>H
 |o::r=>dL (H.set o (.gone ((H[o]?).elim 0 AObj.ver))) r
def aDC(k:Nat):(n:Nat)->List AV->List (List AV)
 |0,_=>[]
 |n+1,l=>l.take k::aDC k n (l.drop k)
def aX(H:List AObj)(k:Nat):AV->Option (List AV)
 |.ptr o v off=>
  match H[o]? with
  |some (.box v' cells)=>if v'=v/\off+k<=cells.length then some ((cells.drop off).take k)else none
  |some (.tbox v' _ cells)=>if v'=v/\off+k<=cells.length then some ((cells.drop off).take k)else none
  |_=>none
 |.vp o v n k1 i off=>
  match H[o]? with
  |some (.vec v' k2 rows)=>
   if v'=v/\rows.length=n/\k2=k1 then
    match rows[i]? with
    |some row=>if off+k<=row.length then some ((row.drop off).take k)else none
    |none=>none
   else none
  |_=>none
 |.ep row off=>if off+k<=row.length then some ((row.drop off).take k)else none
 |_=>none
def dR(agg:Bool):List AV->Option AV
 |cs=>if agg then some (.agg cs)else match cs with
  | [v]=>some v
  |_=>none
def aAv:List UInt8->List UInt8->Bool
 |_,[]=>false
 | [],_::_=>true
 |a::x,b::y=>a<b || (a==b&&aAv x y)
def aAc:Tag->AV->AV->Option Bool
 |.bool,.bool a,.bool b=>some (a==b)
 |.int,.int k a,.int k' b=>if k=k' then some (a==b)else none
 |.str,.str a,.str b=>some (a==b)
 |_,_,_=>none
def jQ:List Tag->List AV->List AV->Option Bool
 | [],[],[]=>some true
 |t::ts,a::x,b::y=>
  match aAc t a b with
  |some true=>jQ ts x y
  |some false=>match jQ ts x y with
   |some _=>some false
   |none=>none
  |none=>none
 |_,_,_=>none
def qD:EqK->AV->AV->Option Bool
 |.bool,.bool a,.bool b=>some (a==b)
 |.cells ts,.agg xs,.agg ys=>jQ ts xs ys
 |.func,.nilFn,.nilFn=>some true
 |.func,.fn ..,.nilFn=>some false
 |.func,.nilFn,.fn ..=>some false
 |.ptr,.nilPtr,.nilPtr=>some true
 |.iface,.nilIfc,.nilIfc=>some true
 |.iface,.ifc ..,.nilIfc=>some false
 |.iface,.nilIfc,.ifc ..=>some false
 |_,_,_=>none
def kM(op:BinOp)(ek:EqK):AV->AV->Option AV
 |.int k a,.int k' b=>
  match op with
  |.shl=>if b<0 then none else some (.int k (k.wrap (a*2 ^ (min b.toNat k.bits))))
  |.shr=>if b<0 then none else some (.int k (a.fdiv (2 ^ (min b.toNat k.bits))))
  |.add=>if k=k' then some (.int k (k.wrap (a+b)))else none
  |.sub=>if k=k' then some (.int k (k.wrap (a - b)))else none
  |.mul=>if k=k' then some (.int k (k.wrap (a*b)))else none
  |.quo=>if k=k'/\b≠0 then some (.int k (k.wrap (a.tdiv b)))else none
  |.rem=>if k=k'/\b≠0 then some (.int k (a.tmod b))else none
  |.and=>if k=k' then some (.int k (k.wrap (BitVec.ofInt k.bits a &&& BitVec.ofInt k.bits b).toNat))else none
  |.or=>if k=k' then some (.int k (k.wrap (BitVec.ofInt k.bits a ||| BitVec.ofInt k.bits b).toNat))else none
  |.xor=>if k=k' then some (.int k (k.wrap (BitVec.ofInt k.bits a ^^^ BitVec.ofInt k.bits b).toNat))else none
  |.eql=>if k=k' then some (.bool (a==b))else none
  |.neq=>if k=k' then some (.bool (a != b))else none
  |.lss=>if k=k' then some (.bool (decide (a<b)))else none
  |.leq=>if k=k' then some (.bool (decide (a<=b)))else none
  |.gtr=>if k=k' then some (.bool (decide (a>b)))else none
  |.geq=>if k=k' then some (.bool (decide (a ≥ b)))else none
  |_=>none
 |.str a,.str b=>
  match op with
  |.add=>if a.length+b.length<=4611686018427387904 then some (.str (a++b))else none
  |.eql=>some (.bool (a==b))
  |.neq=>some (.bool (a != b))
  |.lss=>some (.bool (aAv a b))
  |.leq=>some (.bool (aAv a b || a==b))
  |.gtr=>some (.bool !(aAv a b || a==b))
  |.geq=>some (.bool !aAv a b)
  |_=>none
 |x,y=>
  match op with
  |.eql=>(qD ek x y).map .bool
  |.neq=>(qD ek x y).map fun b=>.bool !b
  |_=>none
def unV(op:UnOp):AV->Option AV
 |.int k n=>match op with
  |.neg=>some (.int k (k.wrap (0 - n)))
  |.xor=>some (.int k (k.wrap (BitVec.ofInt k.bits (if k.signed then -1 else k.max) ^^^ BitVec.ofInt k.bits n).toNat))
  |_=>none
 |.bool b=>match op with
  |.not=>some (.bool !b)
  |_=>none
 |_=>none
def cF:List (List AV)->Option (List UInt8)
 | []=>some []
 | [.int .u8 n]::r=>(cF r).map (UInt8.ofNat n.toNat :: ·)
 |_=>none
def aG(l:List UInt8):List (List AV):=l.map fun b=>[.int .u8 b.toNat]
def cH(k:Nat):List (List AV)->Bool
 | []=>true
 |r::_=>r.length==k
def eH(H:List AObj):AV->Option (List (List AV))
 |.sl _ rows=>some rows
 |.nilSl=>some []
 |.sr o v n=>
  match H[o]? with
  |some (.vec v' _ rows)=>if v'=v/\rows.length=n then some rows else none
  |some (.tvec v' _ _ rows)=>if v'=v/\rows.length=n then some rows else none
  |_=>none
 |.srv o v n k lo=>
  match H[o]? with
  |some (.vec v' k' rows)=>if v'=v/\rows.length=n/\k'=k then some (rows.drop lo)else none
  |_=>none
 |.srw o v n hi=>
  match H[o]? with
  |some (.vec v' _ rows)=>if v'=v/\rows.length=n/\hi<=n then some (rows.take hi)else none
  |_=>none
 |_=>none
def pG(H:List AObj):AConv->AV->Option AV
 |.toInt k,.int _ n=>some (.int k (k.wrap n))
 |.same,.str l=>some (.str l)
 |.s2b,.str l=>if l.length<=1099511627776 then some (.sl false (aG l))else none
 |.b2s,x=>match eH H x with
  |some rows=>(cF rows).map .str
  |none=>none
 |.i2s,.int _ n=>if 0<=n/\n<128 then some (.str [UInt8.ofNat n.toNat])else none
 |_,_=>none
def kS(dflt most:Nat):Option AV->Option Nat
 |none=>some dflt
 |some (.int _ n)=>if 0<=n/\n<=most then some n.toNat else none
 |some _=>none
def dK(len:Nat)(lo hi mx:Option AV):Option (Nat×Nat×Nat):=
 match kS len len mx with
 |none=>none
 |some m=>match kS len m hi with
  |none=>none
  |some h=>match kS 0 h lo with
   |none=>none
   |some l=>some (l,h,m)
def nB(cells:List AV)(off:Nat)(vs:List AV):List AV:=cells.take off++vs++cells.drop (off+vs.length)
def gM(ρ:List AV)(cells:List AV):List (Nat×Nat×AOpd)->Option (List AV)
 | []=>some cells
 | (off,size,x)::r=>
  let vs:=(x.ev ρ).cells
  if vs.length=size/\off+size<=cells.length/\vs.all AV.cellOk then gM ρ (nB cells off vs) r else none
def lG(ρ:List AV)(k:Nat)(rows:List (List AV)):List (Nat×AOpd)->Option (List (List AV))
 | []=>some rows
 | (i,x)::r=>
  let vs:=(x.ev ρ).strip.cells
  if vs.length=k/\i<rows.length/\vs.all AV.still then lG ρ k (rows.set i vs) r else none
def iY(ρ:List AV)(k:Nat)(rows:List (List AV)):List (Nat×AOpd)->Option (List (List AV))
 | []=>some rows
 | (i,x)::r=>
  let vs:=(x.ev ρ).strip.cells
  if vs.length=k/\i<rows.length/\vs.all AV.cellOk then iY ρ k (rows.set i vs) r else none
def mm2(mx:Bool):AV->AV->Option AV
 |.int k a,.int k' b=>if k=k' then some (.int k (if mx then (if b>a then b else a)else (if b<a then b else a)))else none
 |_,_=>none
def aCE(mx:Bool):AV->List AV->Option AV
 |x,[]=>some x
 |x,y::r=>match mm2 mx x y with
  |some z=>aCE mx z r
  |none=>none
def mmV(mx:Bool):List AV->Option AV
 | []=>none
 |x::r=>aCE mx x r
def aH4:AV->AV->Option Bool
 |.int k a,.int k' b=>if k=k' then some (a==b)else none
 |_,_=>none
def gY(k:AV):List (AV×AV)->Nat->Option (Option (Nat×AV))
 | [],_=>some none
 | (k',v)::r,i=>
  match aH4 k k' with
  |some true=>some (some (i,v))
  |some false=>gY k r (i+1)
  |none=>none
def bP(n bytes:Nat):Bool:=decide (n*(bytes+1)<=1099511627776)
def evR(H:List AObj)(ρ:List AV):AOp->Option AV
 |.mov x=>some (x.ev ρ)
 |.pick c a b=>match c.ev ρ with
  |.bool t=>some (if t then a.ev ρ else b.ev ρ)
  |_=>none
 |.alloc zs=>if zs.all AV.still then some (.ep (zs.map AV.strip1) 0)else none
 |.box k x=>
  let vs:=(x.ev ρ).strip.cells
  if vs.length=k/\vs.all AV.still then some (.ep vs 0)else none
 |.build zs parts=>(gM ρ zs parts).map .agg
 |.bsl k zs n parts=>(lG ρ k (List.replicate n zs) parts).map (.sl true)
 |.mks _ bytes zs len cap=>match len.ev ρ,cap.ev ρ with
  |.int _ n,.int _ c=>if 0<=n/\n=c/\bP n.toNat bytes then some (.sl true (List.replicate n.toNat (zs.map AV.strip1)))else none
  |_,_=>none
 |.load k agg x=>match aX H k (x.ev ρ)with
  |some cs=>dR agg cs
  |none=>none
 |.nilck x=>match x.ev ρ with
  |.ptr o v off=>some (.ptr o v off)
  |.vp o v n k i off=>some (.vp o v n k i off)
  |.ep row off=>some (.ep row off)
  |.fn f a b=>some (.fn f a b)
  |_=>none
 |.isnil neg x=>match x.ev ρ with
  |.sl _ (_::_) | .sr ..=>some (.bool neg)
  |.nilSl=>some (.bool !neg)
  |_=>none
 |.bin op ek x y=>kM op ek (x.ev ρ) (y.ev ρ)
 |.un op x=>unV op (x.ev ρ)
 |.conv c x=>pG H c (x.ev ρ)
 |.mkf f first caps=>if (first.map (AOpd.ev ρ)).all AV.still&&(caps.map (AOpd.ev ρ)).all AV.still then some (.fn f (first.map fun x=>(x.ev ρ).strip1) (caps.map fun x=>(x.ev ρ).strip1))else none
 |.sliceS x lo hi=>match x.ev ρ with
  |.str s=>match dK s.length (lo.map (AOpd.ev ρ)) (hi.map (AOpd.ev ρ)) none with
   |some (l,h,_)=>some (.str ((s.take h).drop l))
   |none=>none
  |_=>none
 |.sliceV k x lo hi mx=>match x.ev ρ with
  |.sl full rows=>match dK rows.length (lo.map (AOpd.ev ρ)) (hi.map (AOpd.ev ρ)) (mx.map (AOpd.ev ρ))with
   |some (l,h,m)=>if cH k rows&&(!mx.isSome || hi.isSome)then some (.sl (decide (m=h)&&(mx.isSome || full)) ((rows.take h).drop l))else none
   |none=>none
  |.sr o v n=>if mx.isSome then none else match dK n (lo.map (AOpd.ev ρ)) (hi.map (AOpd.ev ρ)) none with
   |some (l,h,_)=>if hi.isSome&&decide (l=0)then some (.srw o v n h)else if h=n then some (.srv o v n k l)else none
   |none=>none
  |_=>none
 |.view k x lo=>match x.ev ρ with
  |.sl full rows=>match dK rows.length (lo.map (AOpd.ev ρ)) none none with
   |some (l,h,m)=>if cH k rows then some (.sl (decide (m=h)&&full) ((rows.take h).drop l))else none
   |none=>none
  |.sr o v n=>match H[o]? with
   |some (.vec v' _ rows)=>if v'=v/\rows.length=n then match kS 0 n (lo.map (AOpd.ev ρ))with
     |some l=>some (.srv o v n k l)
     |none=>none
    else none
   |_=>none
  |_=>none
 |.sliceA n k x lo hi mx=>match x.ev ρ with
  |.ep row off=>if off+n*k<=row.length then
    let rows:=aDC k n (row.drop off)
    match dK n (lo.map (AOpd.ev ρ)) (hi.map (AOpd.ev ρ)) (mx.map (AOpd.ev ρ))with
    |some (l,h,m)=>if !mx.isSome || hi.isSome then some (.sl (decide (m=h)) ((rows.take h).drop l))else none
    |none=>none
   else none
  |_=>none
 |.fa off x=>match x.ev ρ with
  |.ptr o v off0=>some (.ptr o v (off0+off))
  |.vp o v n k i off0=>some (.vp o v n k i (off0+off))
  |.ep row off0=>some (.ep row (off0+off))
  |_=>none
 |.fld off k agg x=>match x.ev ρ with
  |.agg cs=>if off+k<=cs.length then dR agg ((cs.drop off).take k)else none
  |_=>none
 |.iaV x i k=>match x.ev ρ,i.ev ρ with
  |.sl _ rows,.int _ n=>if 0<=n then match rows[n.toNat]? with
    |some row=>if row.length=k then some (.ep row 0)else none
    |none=>none
   else none
  |.sr o v len,.int _ n=>if 0<=n/\n<len then some (.vp o v len k n.toNat 0)else none
  |_,_=>none
 |.iaA len k x i=>match x.ev ρ,i.ev ρ with
  |.ptr o v off,.int _ n=>if 0<=n/\n<len then some (.ptr o v (off+n.toNat*k))else none
  |.ep row off,.int _ n=>if 0<=n/\n<len then some (.ep row (off+n.toNat*k))else none
  |_,_=>none
 |.ixS x i=>match x.ev ρ,i.ev ρ with
  |.str s,.int _ n=>if 0<=n then match s[n.toNat]? with
    |some b=>some (.int .u8 b.toNat)
    |none=>none
   else none
  |_,_=>none
 |.ixA len k agg x i=>match x.ev ρ,i.ev ρ with
  |.agg cs,.int _ n=>if 0<=n/\n<len/\n.toNat*k+k<=cs.length then dR agg ((cs.drop (n.toNat*k)).take k)else none
  |_,_=>none
 |.lenS x=>match x.ev ρ with
  |.str s=>some (.int .i64 s.length)
  |_=>none
 |.lenV x=>match x.ev ρ with
  |.sl _ rows=>some (.int .i64 rows.length)
  |.sr _ _ n=>some (.int .i64 n)
  |.nilSl=>some (.int .i64 0)
  |_=>none
 |.lenC n=>some (.int .i64 n)
 |.mm mx xs=>mmV mx (xs.map (AOpd.ev ρ))
 |.ext i x=>match x.ev ρ with
  |.tup vs=>vs[i]?
  |_=>none
 |.mkifc t x=>if (x.ev ρ).inIfc then some (.ifc t (x.ev ρ))else none
 |.look zero m k ok=>match m.ev ρ with
  |.mp o v=>match H[o]? with
   |some (.map v' es)=>if v'=v then
     match gY (k.ev ρ) es 0 with
     |some (some (_,x))=>if ok then some (.tup [x,.bool true])else some x
     |some none=>if ok then some (.tup [zero,.bool false])else some zero
     |none=>none
    else none
   |_=>none
  |.fmp ks vs=>match gY (k.ev ρ) (ks.zip vs) 0 with
   |some (some (_,x))=>if ok then some (.tup [x,.bool true])else some x
   |some none=>if ok then some (.tup [zero,.bool false])else some zero
   |none=>none
  |_=>none
 |_=>none
def aGd(ρ:List AV):AOp->List Nat
 |.load _ _ x=>match x.ev ρ with
  |.ptr o _ _=>[o]
  |.vp o _ _ _ _ _=>[o]
  |_=>[]
 |.conv .b2s x=>match x.ev ρ with
  |.sr o _ _=>[o]
  |.srv o _ _ _ _=>[o]
  |.srw o _ _ _=>[o]
  |_=>[]
 |.look _ m _ _=>match m.ev ρ with
  |.mp o _=>[o]
  |_=>[]
 |.view _ x _=>match x.ev ρ with
  |.sr o _ _=>[o]
  |_=>[]
 |_=>[]
abbrev Out:=Option (AV×List AObj×List Nat)
def make(H:List AObj)(id:Nat)(mk:Nat->AObj):List AObj:=H.set id (mk ((H[id]?).elim 0 AObj.ver+1))
def bG(H:List AObj)(id:Nat):Nat:=(H[id]?).elim 0 AObj.ver+1
def storeCells(H:List AObj)(vs:List AV):AV->Option (List AObj×List Nat)
 |.ptr o v off=>
  match H[o]? with
  |some (.box v' cells)=>
   if v'=v/\off+vs.length<=cells.length then some (H.set o (.box v (nB cells off vs)),[o])else none
  |some (.tbox v' ty cells)=>
   if v'=v/\off+vs.length<=cells.length then some (H.set o (.tbox v ty (nB cells off vs)),[o])else none
  |_=>none
 |.vp o v n k1 i off=>
  match H[o]? with
  |some (.vec v' k rows)=>
   if v'=v/\rows.length=n/\k=k1 then
    match rows[i]? with
    |some row=>if off+vs.length<=row.length/\(vs.map AV.strip1).all AV.cellOk then some (H.set o (.vec v k (rows.set i (nB row off (vs.map AV.strip1)))),[o])else none
    |none=>none
   else none
  |_=>none
 |_=>none
def fix(H:List AObj)(v:AV):Option (AV×List AObj×List Nat):=
 match lend H v with
 |some (v',l)=>some (v'.strip,dL H l,l)
 |none=>none
def aII(H:List AObj):List (List AV)->Option (List (List AV)×List AObj×List Nat)
 | []=>some ([],H,[])
 |r::rs=>
  match fix H (.agg r)with
  |some (.agg r',H',l)=>
   match aII H' rs with
   |some (rs',H'',l')=>some (r'::rs',H'',l++l')
   |none=>none
  |_=>none
def xY(H:List AObj):AV->Option (AV×List AObj×List Nat)
 |.sr o v n=>
  match H[o]? with
  |some (.vec v' k rows)=>
   if v'=v/\rows.length=n then
    match aII H rows with
    |some (rows',H',l)=>
     if l.contains o=false/\rows'.all (fun r=>r.all AV.cellOk)then
      match fix (H'.set o (.vec v k rows')) (.sr o v n)with
      |some (v2,H2,l2)=>some (v2,H2,l++(o::l2))
      |none=>none
     else none
    |none=>none
   else none
  |_=>none
 |v=>fix H v
def oQ(H:List AObj):AV->Option (List AObj×List Nat)
 |.nilSl=>some (H,[])
 |.sr o v n=>
  match H[o]? with
  |some (.vec v' k rows)=>
   if v'=v/\rows.length=n then
    match aII H rows with
    |some (rows',H',l)=>
     if l.contains o=false/\rows'.all (fun r=>r.all AV.cellOk)then some (H'.set o (.vec v k rows'),l++[o])else none
    |none=>none
   else none
  |_=>none
 |_=>none
def aJI(H:List AObj)(v:AV):Option (AV×List AObj×List Nat):=
 match fix H v with
 |some r=>some r
 |none=>match v with
  |.agg [c]=>match xY H c with
   |some (c',H',l)=>some (.agg [c'],H',l)
   |none=>none
  |v=>xY H v
def nC(ρ:List AV)(k:Nat)(H:List AObj)(rows:List (List AV)):List (Nat×AOpd)->Option (List (List AV)×List AObj×List Nat)
 | []=>some (rows,H,[])
 | (i,x)::r=>
  match fix H (x.ev ρ)with
  |some (v,H',l)=>
   if v.cells.length=k/\i<rows.length/\v.cells.all AV.still then
    match nC ρ k H' (rows.set i v.cells) r with
    |some (rows',H'',l')=>some (rows',H'',l++l')
    |none=>none
   else none
  |none=>none
def cU(H:List AObj):AV->Option (List (List AV))
 |.str l=>some (aG l)
 |x=>eH H x
def fH(H:List AObj)(site:Option Nat)(k bytes:Nat)(s x:AV):Out:=
 match cU H x with
 |none=>none
 |some new=>
  if !cH k new then none else
  match s with
  |.nilSl=>if new.isEmpty then some (.nilSl,H,[])else if bP new.length bytes then
    match site with
    |some id=>if id<H.length then some (.sr id (bG H id) new.length,make H id (.vec · k new),[id])else none
    |none=>none
   else none
  |.sl full rows=>
   if new.isEmpty then some (.sl full rows,H,[])
   else if full&&cH k rows&&bP (rows.length+new.length) bytes then
    match site with
    |some id=>if id<H.length then some (.sr id (bG H id) (rows.length+new.length),make H id (.vec · k (rows++new)),[id])else none
    |none=>none
   else none
  |.sr o v n=>
   match H[o]? with
   |some (.vec v' k' rows)=>
    if v'=v/\rows.length=n/\k'=k/\bP (n+new.length) bytes then
     if new.isEmpty then some (.sr o v n,H,[])else
     some (.sr o v (n+new.length),H.set o (.vec v k (rows++new)),[o])
    else none
   |_=>none
  |.srw o v n h=>
   match H[o]? with
   |some (.vec v' k' rows)=>
    if v'=v/\rows.length=n/\k'=k/\h<=n/\bP (h+new.length) bytes then
     some (.sr o (v+1) (h+new.length),H.set o (.vec (v+1) k (rows.take h++new)),[o])
    else none
   |_=>none
  |_=>none
def tX(H:List AObj)(site:Option Nat)(ty k bytes:Nat)(s x:AV):Out:=
 match cU H x with
 |none=>none
 |some new=>
  if !cH k new then none else
  match s with
  |.nilSl=>if new.isEmpty then some (.nilSl,H,[])else if bP new.length bytes then
    match site with
    |some id=>if id<H.length then some (.sr id (bG H id) new.length,make H id (.tvec · ty k new),[id])else none
    |none=>none
   else none
  |.sr o v n=>
   match H[o]? with
   |some (.tvec v' ty' k' rows)=>
    if v'=v/\rows.length=n/\k'=k/\ty'=ty/\bP (n+new.length) bytes then
     if new.isEmpty then some (.sr o v n,H,[])else
     some (.sr o v (n+new.length),H.set o (.tvec v ty k (rows++new)),[o])
    else none
   |_=>none
  |_=>none
def YF:Nat:=1000000007
def cY(call:Nat->List AV->List AObj->Out)(H:List AObj)(site:Option Nat)(f:AV)(args:List AV):Out:=
 match f with
 |.fn f first caps=>
  match jP H (first++args++caps)with
  |none=>none
  |some (args',lent)=>
   match call f (args'.map AV.strip) (dL H lent)with
   |none=>none
   |some (v,H',wr)=>
    if lent.isEmpty then
     match v with
     |.own k rows=>
      match site with
      |some id=>if id<H'.length then some (.sr id (bG H' id) rows.length,make H' id (.vec · k rows),if wr.contains id then wr else id::wr)else none
      |none=>some (.sl false rows,H',wr)
     |v=>some (v,H',wr)
    else if wr.isEmpty&&decide (H'.length=H.length)&&v.atomic then some (v,H,[])else none
 |.yld o v=>match jP H args with
  |none=>none
  |some (args',lent)=>match call YF (.own 0 []::.yld o v::args'.map AV.strip) (dL H lent)with
   |none=>none
   |some (b,H',wr)=>if lent.isEmpty&&b.atomic then some (b,H',wr)else none
 |_=>none
def hD(call:Nat->List AV->List AObj->Out)(H:List AObj)(site:Option Nat)(f:AV)(args:List AV):Out:=
 match f with
 |.fn f first caps=>
  match call f (first++args++caps) H with
  |none=>none
  |some (v,H',wr)=>match v with
   |.own k rows=>
    match site with
    |some id=>if id<H'.length then some (.sr id (bG H' id) rows.length,make H' id (.vec · k rows),if wr.contains id then wr else id::wr)else none
    |none=>some (.sl false rows,H',wr)
   |v=>some (v,H',wr)
 |_=>none
def evW(call:Nat->List AV->List AObj->Out)(H:List AObj)(ρ:List AV)(site:Option Nat):AOp->Out
 |.alloc zs=>match site with
  |some id=>if id<H.length then some (.ptr id (bG H id) 0,make H id (.box · zs),[id])else none
  |none=>none
 |.talloc ty zs=>match site with
  |some id=>if id<H.length then some (.ptr id (bG H id) 0,make H id (.tbox · ty zs),[id])else none
  |none=>none
 |.box k x=>match site with
  |some id=>if id<H.length/\(x.ev ρ).cells.length=k/\(x.ev ρ).cells.all AV.cellOk then some (.ptr id (bG H id) 0,make H id (.box · (x.ev ρ).cells),[id])else none
  |none=>none
 |.tbx ty k x=>match site with
  |some id=>if id<H.length/\(x.ev ρ).cells.length=k/\(x.ev ρ).cells.all AV.cellOk then some (.ptr id (bG H id) 0,make H id (.tbox · ty (x.ev ρ).cells),[id])else none
  |none=>none
 |.store k x v=>if (v.ev ρ).cells.length=k/\(v.ev ρ).cells.all AV.cellOk then
   match storeCells H (v.ev ρ).cells (x.ev ρ)with
   |some (H',wr)=>some (.undef,H',wr)
   |none=>none
  else none
 |.bsl k zs n parts=>match site with
  |some id=>match iY ρ k (List.replicate n zs) parts with
   |some rows=>if id<H.length then some (.sr id (bG H id) n,make H id (.vec · k rows),[id])else none
   |none=>none
  |none=>match nC ρ k H (List.replicate n zs) parts with
   |some (rows,H',wr)=>some (.sl true rows,H',wr)
   |none=>none
 |.mks k bytes zs len cap=>match len.ev ρ,cap.ev ρ with
  |.int _ n,.int _ c=>
   if 0<=n/\n=c/\bP n.toNat bytes then
    match site with
    |some id=>if id<H.length then some (.sr id (bG H id) n.toNat,make H id (.vec · k (List.replicate n.toNat (zs.map AV.strip1))),[id])else none
    |none=>some (.sl true (List.replicate n.toNat (zs.map AV.strip1)),H,[])
   else match site with
    |some id=>if n=0/\0<c/\bP c.toNat bytes/\id<H.length then some (.sr id (bG H id) 0,make H id (.vec · k []),[id])else none
    |none=>none
  |_,_=>none
 |.app k bytes s x=>fH H site k bytes (s.ev ρ) (x.ev ρ)
 |.tapp ty k bytes s x=>tX H site ty k bytes (s.ev ρ) (x.ev ρ)
 |.callv f args=>cY call H site (f.ev ρ) (args.map (AOpd.ev ρ))
 |.callr f args=>hD call H site (f.ev ρ) (args.map (AOpd.ev ρ))
 |.invk tab x args=>match x.ev ρ with
  |.ifc t v=>match tab.lookup t with
   |some f=>cY call H site (.fn f [v] []) (args.map (AOpd.ev ρ))
   |none=>none
  |_=>none
 |.cpy k x y=>match x.ev ρ with
  |.srv o v n k' lo=>match H[o]? with
   |some (.vec v' k2 rows)=>match cU H (y.ev ρ)with
    |some new=>if new.isEmpty then some (.int .i64 0,H,[])else if v'=v/\rows.length=n/\k2=k/\k'=k/\cH k new/\lo+new.length<=n then
      some (.int .i64 (new.length:Nat),H.set o (.vec v k (rows.take lo++new++rows.drop (lo+new.length))),[o])
     else none
    |none=>none
   |_=>none
  |_=>none
 |.mkmap=>match site with
  |some id=>if id<H.length then some (.mp id (bG H id),make H id (.map · []),[id])else none
  |none=>none
 |.ins m k v=>match m.ev ρ,k.ev ρ with
  |.mp o ver,key=>match H[o]? with
   |some (.map v' es)=>
    if v'=ver/\(aH4 key key).isSome/\(v.ev ρ).strip.cells.all AV.still then
     match gY key es 0 with
     |some (some (i,_))=>some (.undef,H.set o (.map ver (es.set i (key,(v.ev ρ).strip))),[o])
     |some none=>some (.undef,H.set o (.map ver (es++[(key,(v.ev ρ).strip)])),[o])
     |none=>none
    else none
   |_=>none
  |_,_=>none
 |_=>none
def isW(site:Option Nat)(inDraw:Bool):AOp->Bool
 |.alloc _ | .talloc .. | .box .. | .tbx ..=>site.isSome
 |.bsl .. | .mks ..=>site.isSome || !inDraw
 |.store .. | .app .. | .tapp .. | .callv .. | .callr .. | .invk .. | .cpy .. | .mkmap | .ins ..=>true
 |_=>false
structure ASt where
 ρ:List AV
 H:List AObj
 wr:List Nat
 deriving Inhabited
def putSlot(ρ:List AV)(dst:Option Nat)(v:AV):List AV:=
 match dst with
 |some d=>ρ.set d v
 |none=>ρ
def bA(base:Nat)(wr:List Nat):List Nat->List Nat
 | []=>wr
 |o::r=>if o<base/\¬wr.contains o then bA base (o::wr) r else bA base wr r
structure Ctx where
 base:Nat
 sites:List Nat
def Ctx.site(c:Ctx)(dst:Option Nat):Option Nat:=
 match dst with
 |none=>none
 |some t=>(c.sites.idxOf? t).map (c.base + ·)
def aLy(call:Nat->List AV->List AObj->Out)(c:Ctx)(inDraw:Bool)(H:List AObj)(ρ:List AV)(o:AOper):Out:=
 if isW (c.site o.dst) inDraw o.op then evW call H ρ (c.site o.dst) o.op
 else match evR H ρ o.op with
  |some v=>some (v,H,[])
  |none=>none
def wanted(ρ:List AV)(o:AOper):Bool:=
 match o.guard with
 |none=>true
 |some (none,_)=>false
 |some (some t,want)=>match ρ[t]? with
  |some (.bool b)=>b==want
  |_=>false
def oR(ρ:List AV)(o:AOper):Bool:=
 match o.guard with
 |none=>true
 |some (none,_)=>false
 |some (some t,_)=>match ρ[t]? with
  |some (.bool _)=>true
  |some (.tup [])=>true
  |_=>false
def iK(call:Nat->List AV->List AObj->Out)(c:Ctx):List AOper->ASt->Option ASt
 | [],s=>some s
 |o::r,s=>
  if oR s.ρ o then
   if wanted s.ρ o then
    match aLy call c false s.H s.ρ o with
    |some (v,H',wr)=>iK call c r ⟨putSlot s.ρ o.dst v,H',bA c.base s.wr wr⟩
    |none=>none
   else iK call c r ⟨putSlot s.ρ o.dst (.tup []),s.H,s.wr⟩
  else none
abbrev Log:=List (Nat×List Nat×Option (List Nat))
def eB(a b:List Nat):Bool:=a.all fun x => !b.contains x
def fG(pre:Nat->List Nat):Log->Bool
 | []=>true
 | (i,rd,wr)::r=>
  (r.all fun(j,rd',wr')=>
   (pre j).contains i ||
   (match wr,wr' with
    |some _,some _=>false
    |some ws,none=>eB rd' ws
    |none,some ws=>eB rd ws
    |none,none=>true))&&fG pre r
def aVR:AOp->Bool
 |.alloc _=>true
 |_=>false
def AOpd.slot:AOpd->List Nat
 |.tmp t=>[t]
 |.const _=>[]
def aDD:Option AOpd->List Nat
 |none=>[]
 |some x=>x.slot
def AOp.slots:AOp->List Nat
 |.bad | .alloc _ | .talloc .. | .lenC _ | .mkmap=>[]
 |.mov x | .box _ x | .tbx _ _ x | .load _ _ x | .nilck x | .isnil _ x | .un _ x | .conv _ x | .fa _ x | .fld _ _ _ x | .lenS x | .lenV x | .ext _ x | .mkifc _ x=>x.slot
 |.pick c a b=>c.slot++a.slot++b.slot
 |.build _ ps=>ps.flatMap fun p=>p.2.2.slot
 |.bsl _ _ _ ps=>ps.flatMap fun p=>p.2.slot
 |.store _ x v=>x.slot++v.slot
 |.bin _ _ x y=>x.slot++y.slot
 |.mkf _ f c=>f.flatMap AOpd.slot++c.flatMap AOpd.slot
 |.mks _ _ _ l c=>l.slot++c.slot
 |.sliceS x lo hi=>x.slot++aDD lo++aDD hi
 |.sliceV _ x lo hi mx=>x.slot++aDD lo++aDD hi++aDD mx
 |.view _ x lo=>x.slot++aDD lo
 |.sliceA _ _ x lo hi mx=>x.slot++aDD lo++aDD hi++aDD mx
 |.iaV x i _=>x.slot++i.slot
 |.iaA _ _ x i=>x.slot++i.slot
 |.ixS x i=>x.slot++i.slot
 |.ixA _ _ _ x i=>x.slot++i.slot
 |.mm _ xs=>xs.flatMap AOpd.slot
 |.app _ _ s x=>s.slot++x.slot
 |.tapp _ _ _ s x=>s.slot++x.slot
 |.callv f xs=>f.slot++xs.flatMap AOpd.slot
 |.callr f xs=>f.slot++xs.flatMap AOpd.slot
 |.invk _ x xs=>x.slot++xs.flatMap AOpd.slot
 |.cpy _ x y=>x.slot++y.slot
 |.ins m k v=>m.slot++k.slot++v.slot
 |.look _ m k _=>m.slot++k.slot
def AOper.names(o:AOper):List Nat:=
 o.dst.toList++o.op.slots++(match o.guard with | some (some t,_)=>[t] | _=>[])
def aIJ(i:Nat)(o:AOper)(j:Nat)(p:AOper):Bool:=
 match p.dst with
 |none=>true
 |some t => !o.names.contains t || (if i<j then p.pre.contains i else o.pre.contains j)
def aLC(ops:List AOper):Bool:=
 ops.zipIdx.all fun(o,i)=>o.pre.all (fun k=>decide (k<i))&&ops.zipIdx.all fun(p,j)=>i==j || aIJ i o j p
def cI(c:Ctx)(H:List AObj):List AOper->Option (List AObj)
 | []=>some H
 |o::r=>
  match o.op,c.site o.dst with
  |.alloc zs,some id=>if id<H.length/\o.guard.isNone/\o.pre.isEmpty then cI c (make H id (.box · zs)) r else none
  |_,_=>cI c H r
def aDE(call:Nat->List AV->List AObj->Out)(c:Ctx)(H:List AObj)(ρ:List AV)(o:AOper):Option (AV×List AObj×List Nat×Option (List Nat)):=
 match o.op,c.site o.dst with
 |.alloc _,some id=>some (.ptr id ((H[id]?).elim 0 AObj.ver) 0,H,[id],none)
 |op,site=>
  if isW site true op then
   match evW call H ρ site op with
   |some (v,H',wr)=>if H'.length=H.length then some (v,H',[],some wr)else none
   |none=>none
  else match evR H ρ op with
   |some v=>some (v,H,aGd ρ op,none)
   |none=>none
def nA(call:Nat->List AV->List AObj->Out)(c:Ctx):Nat->List AOper->ASt->Option (ASt×Log)
 |_,[],s=>some (s,[])
 |i,o::r,s=>
  if oR s.ρ o then
   if wanted s.ρ o then
    match aDE call c s.H s.ρ o with
    |some (v,H',rd,wr)=>
     match nA call c (i+1) r ⟨putSlot s.ρ o.dst v,H',bA c.base s.wr (wr.getD [])⟩ with
     |some (s',log)=>some (s',(i,rd,wr)::log)
     |none=>none
    |none=>none
   else nA call c (i+1) r ⟨putSlot s.ρ o.dst (.tup []),s.H,s.wr⟩
  else none
def hG(call:Nat->List AV->List AObj->Out)(c:Ctx)(draw:Bool)(ops:List AOper)(s:ASt):Option ASt:=
 if draw&&aLC ops then
  match cI c s.H ops with
  |some H0=>
   match nA call c 0 ops ⟨s.ρ,H0,s.wr⟩ with
   |some (s',log)=>if fG (fun j=>((ops[j]?).map AOper.pre).getD []) log then some s' else none
   |none=>none
  |none=>none
 else if draw then none
 else iK call c ops s
def AV.isUndef:AV->Bool
 |.undef=>true
 |.tup []=>true
 |_=>false
def nD(c:Ctx)(s:ASt):List (Nat×Nat)->Option ASt
 | []=>some s
 | (k+1,t)::r=>
  if ((s.ρ[t]?).getD .undef).isUndef then nD c s r else
  match oQ s.H ((s.ρ[t]?).getD .undef)with
  |some (H',l)=>nD c ⟨s.ρ,H',bA c.base s.wr l⟩ r
  |none=>
  match aX s.H (k+1) ((s.ρ[t]?).getD .undef)with
  |some cs=>
   match aJI s.H (.agg cs)with
   |some (.agg cs',H',l)=>
    match storeCells H' cs' ((s.ρ[t]?).getD .undef)with
    |some (H'',l')=>nD c ⟨s.ρ,H'',bA c.base s.wr (l++l')⟩ r
    |none=>none
   |_=>none
  |none=>none
 | (0,t)::r=>
  match aJI s.H ((s.ρ[t]?).getD .undef)with
  |some (v,H',l)=>nD c ⟨s.ρ.set t v,H',bA c.base s.wr l⟩ r
  |none=>none
def aUA(H:List AObj)(ρ:List AV):ARes->Option AV
 |.tmp t=>some ((ρ[t]?).getD .undef)
 |.cell t k agg=>match aX H k ((ρ[t]?).getD .undef)with
  |some cs=>dR agg cs
  |none=>none
def aGe(H:List AObj)(ρ:List AV):List ARes->Option (List AV)
 | []=>some []
 |r::rs=>match aUA H ρ r with
  |none=>none
  |some v=>match aGe H ρ rs with
   |none=>none
   |some vs=>some (v::vs)
def aD6(base:Nat)(H:List AObj):AV->Option (AV×List AObj×List Nat)
 |.sr o v n=>
  if o<base then some (.sr o v n,H,[])else
  match H[o]? with
  |some (.vec v' k rows)=>if v'=v/\rows.length=n/\base<=o/\rows.all (fun r=>r.all AV.still)then some (.own k rows,dL H [o],[o])else none
  |_=>none
 |.mp o v=>
  match H[o]? with
  |some (.map v' es)=>if v'=v/\base<=o then some (.fmp (es.map Prod.fst) (es.map Prod.snd),H.set o (.gone v),[o])else some (.mp o v,H,[])
  |_=>some (.mp o v,H,[])
 |x=>fix H x
def aBU(H:List AObj):List AV->Option (List AV×List AObj×List Nat)
 | []=>some ([],H,[])
 |v::r=>match fix H v with
  |none=>none
  |some (v',H',l)=>match aBU H' r with
   |none=>none
   |some (r',H'',l')=>some (v'::r',H'',l++l')
def xZ(base:Nat)(fn:AFn)(s:ASt):Out:=
 match aGe s.H s.ρ fn.results with
 |none=>none
 |some [v]=>match aD6 base s.H v with
  |some (v',H',l)=>some (v',H',bA base s.wr l)
  |none=>none
 |some vs=>match aBU s.H vs with
  |some (vs',H',l)=>some (.tup vs',H',bA base s.wr l)
  |none=>none
def cD(base:Nat):AV×List AObj×List Nat->AV×List AObj×List Nat
 | (v,H,wr)=>
  if v.under base&&wr.all (fun o=>match H[o]? with | some x=>x.under base | none=>true)then (v,H.take base,wr)else (v,H,wr)
def mK(fn:AFn)(args:List AV)(H:List AObj):ASt:=
 ⟨args++List.replicate (fn.ntmps - args.length) .undef,H++List.replicate fn.sites.length (.gone 0),[]⟩
def fZ(H:List AObj):List (Nat×AObj)->List AObj
 | []=>H
 | (o,x)::r=>fZ (H.set o x) r
def dA(H:List AObj)(r:AV×List (Nat×AObj)×List AObj):AV×List AObj×List Nat:=(r.1,fZ H r.2.1++r.2.2,r.2.1.map Prod.fst)
def dQ(ρ:List AV):List Nat->List AV->List AV
 |t::ts,x::xs=>dQ (ρ.set t x) ts xs
 |_,_=>ρ
def Ctx.rd(c:Ctx):Option (Nat×Nat):=match c.sites.reverse with
 |a::b::_=>if YF<=a/\YF<=b then some (b - YF,a - YF)else none
 |_=>none
def rX(ev:Ctx->ACode->ASt->Option (AExit×ASt))(H:List AObj):List AV->Out
 |.own 0 []::.yld o v::xs=>match H[o]? with
  |some (.rnd v' base sites ps (.seq asg body) ρ false none)=>
   if v'=v/\xs.length=ps.length then
    match ev ⟨base,sites++[YF+o,YF+v]⟩ asg ⟨dQ ρ ps xs,H,[]⟩ with
    |some (.normal,s0)=>match s0.H[o]? with
     |some (.rnd v1 b1 t1 p1 c1 r1 false none)=>
      if v1=v then
       match ev ⟨base,sites++[YF+o,YF+v]⟩ body ⟨s0.ρ,s0.H.set o (.rnd v b1 t1 p1 c1 r1 true none),s0.wr⟩ with
       |some (e,s)=>match s.H[o]? with
        |some (.rnd v2 b2 s2 p2 c2 r2 true none)=>
         if v2=v then some (.bool (decide (e=.normal)),s.H.set o (.rnd v b2 s2 p2 c2 r2 false (if e=.normal then none else some e)),List.range' base (H.length - base)++(o::s.wr))else none
        |_=>none
       |none=>none
      else none
     |_=>none
    |_=>none
   else none
  |_=>none
 |_=>none
def qE(A:AProg)(ev:Ctx->ACode->ASt->Option (AExit×ASt))(f:Nat)(args:List AV)(H:List AObj):Out:=
 match (A.prim f).bind (· args H)with
 |some r=>some (dA H r)
 |none=>
  match A.fn f with
  |none=>rX ev H args
  |some fn=>
   if args.length<=fn.ntmps then
   match ev ⟨H.length,fn.sites⟩ fn.body (mK fn args H)with
   |some (.normal,s') | some (.ret,s')=>
    match xZ H.length fn s' with
    |some r=>some (cD H.length r)
    |none=>none
   |_=>none
   else none
def iZ(c:Ctx)(H:List AObj):Bool:=match c.rd with
 |none=>true
 |some (o,v)=>match H[o]? with
  |some (.rnd v' _ _ _ _ _ true none)=>v'==v
  |_=>false
def cO(A:AProg):Nat->Ctx->ACode->ASt->Option (AExit×ASt)
 |0,_,_,_=>none
 |n+1,c,code,s=>
  match code with
  |.skip=>some (.normal,s)
  |.bad=>none
  |.region draw ops=>match hG (qE A (cO A n)) c draw ops s with
   |some s'=>some (.normal,s')
   |none=>none
  |.seq a b=>match cO A n c a s with
   |some (.normal,s')=>cO A n c b s'
   |r=>r
  |.cond x a b=>match x.ev s.ρ with
   |.bool true=>cO A n c a s
   |.bool false=>cO A n c b s
   |_=>none
  |.block id b=>match cO A n c b s with
   |some (.exit id',s')=>if id'=id then some (.normal,s')else some (.exit id',s')
   |r=>r
  |.loop b=>match cO A n c b s with
   |some (.normal,s')=>cO A n c (.loop b) s'
   |r=>r
  |.exit id=>some (.exit id,s)
  |.ret=>some (.ret,s)
  |.frz ts=>match nD c s ts with
   |some s'=>some (.normal,s')
   |none=>none
  |.rangeF x ps body=>match x.ev s.ρ,c.site ps.head? with
   |.fn f first caps,some id=>
    if id<s.H.length/\iZ c s.H=true then
     match qE A (cO A n) f (first++.yld id (bG s.H id)::caps) (make s.H id fun v=>.rnd v c.base c.sites ps body s.ρ false none)with
     |some (_,H2,wr)=>match H2[id]? with
      |some (.rnd v _ _ _ _ _ false pend)=>if v=bG s.H id/\iZ c H2=true then some (pend.getD .normal,⟨s.ρ,H2.set id (.gone v),bA c.base s.wr (id::wr)⟩)else none
      |_=>none
     |none=>none
    else none
   |_,_=>none
def cT(A:AProg)(n:Nat)(f:Nat)(args:List AV)(H:List AObj):Out:=qE A (cO A n) f args H
end Go.AM
end
