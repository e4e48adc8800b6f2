/- Part 1 of the proof that stands in the last text of this folder (lemmas; no statement of its own). -/
import Derived.Calls
import Derived.Orders
set_option linter.unusedVariables false
set_option linter.unusedSimpArgs false
section
namespace Go.AM
open Go
inductive AV where
 | undef
 | bool (b : Bool)
 | int (k : IntKind) (n : Int)
 | str (l : List UInt8)
 | fn (f : Nat) (first caps : List AV)
 | nilFn
 | ptr (o v off : Nat)
 | vp (o v n k i off : Nat)
 | nilPtr
 | ep (row : List AV) (off : Nat)
 | sl (full : Bool) (rows : List (List AV))
 | sr (o v n : Nat)
 | srv (o v n k lo : Nat)
 | nilSl
 | mp (o v : Nat)
 | fmp (ks vs : List AV)
 | own (k : Nat) (rows : List (List AV))
 | agg (cs : List AV)
 | tup (vs : List AV)
 | ifc (t : Nat) (v : AV)
 | nilIfc
 deriving Inhabited
inductive AObj where
 | gone (v : Nat)
 | box (v : Nat) (cells : List AV)
 | tbox (v ty : Nat) (cells : List AV)
 | vec (v k : Nat) (rows : List (List AV))
 | tvec (v ty k : Nat) (rows : List (List AV))
 | map (v : Nat) (es : List (AV × AV))
 deriving Inhabited
def AObj.ver : AObj -> Nat
 | .gone v | .box v _ | .tbox v _ _ | .vec v _ _ | .tvec v _ _ _ | .map v _ => v
inductive AOpd where
 | tmp (t : Nat)
 | const (v : AV)
 deriving Inhabited
inductive Tag where
 | bool
 | int
 | str
 deriving Inhabited, DecidableEq
inductive EqK where
 | no
 | bool
 | func
 | ptr
 | iface
 | cells (tags : List Tag)
 deriving Inhabited, DecidableEq
inductive AConv where
 | toInt (k : IntKind)
 | same
 | s2b
 | b2s
 | i2s
 deriving Inhabited, DecidableEq
inductive AOp where
 | bad
 | mov (x : AOpd)
 | pick (c a b : AOpd)
 | alloc (zs : List AV)
 | talloc (ty : Nat) (zs : List AV)
 | box (k : Nat) (x : AOpd)
 | tbx (ty k : Nat) (x : AOpd)
 | build (zs : List AV) (parts : List (Nat × Nat × AOpd))
 | bsl (k : Nat) (zs : List AV) (n : Nat) (parts : List (Nat × AOpd))
 | load (k : Nat) (agg : Bool) (x : AOpd)
 | store (k : Nat) (x v : AOpd)
 | nilck (x : AOpd)
 | isnil (neg : Bool) (x : AOpd)
 | bin (op : BinOp) (ek : EqK) (x y : AOpd)
 | un (op : UnOp) (x : AOpd)
 | conv (c : AConv) (x : AOpd)
 | mkf (f : Nat) (first caps : List AOpd)
 | mks (k bytes : Nat) (zs : List AV) (len cap : AOpd)
 | sliceS (x : AOpd) (lo hi : Option AOpd)
 | sliceV (k : Nat) (x : AOpd) (lo hi mx : Option AOpd)
 | view (k : Nat) (x : AOpd) (lo : Option AOpd)
 | sliceA (n k : Nat) (x : AOpd) (lo hi mx : Option AOpd)
 | fa (off : Nat) (x : AOpd)
 | fld (off k : Nat) (agg : Bool) (x : AOpd)
 | iaV (x i : AOpd) (k : Nat)
 | iaA (n k : Nat) (x i : AOpd)
 | ixS (x i : AOpd)
 | ixA (n k : Nat) (agg : Bool) (x i : AOpd)
 | lenS (x : AOpd)
 | lenV (x : AOpd)
 | lenC (n : Nat)
 | mm (mx : Bool) (xs : List AOpd)
 | app (k bytes : Nat) (s x : AOpd)
 | tapp (ty k bytes : Nat) (s x : AOpd)
 | ext (i : Nat) (x : AOpd)
 | callv (f : AOpd) (args : List AOpd)
 | mkmap
 | ins (m k v : AOpd)
 | look (zero : AV) (m k : AOpd) (ok : Bool)
 | mkifc (t : Nat) (x : AOpd)
 | invk (tab : List (Nat × Nat)) (x : AOpd) (args : List AOpd)
 | cpy (k : Nat) (x y : AOpd)
 deriving Inhabited
structure AOper where
 dst : Option Nat
 op : AOp
 guard : Option (Option Nat × Bool)
 pre : List Nat
 deriving Inhabited
inductive ACode where
 | skip
 | bad
 | region (draw : Bool) (ops : List AOper)
 | seq (a b : ACode)
 | cond (c : AOpd) (a b : ACode)
 | block (id : Nat) (c : ACode)
 | loop (c : ACode)
 | exit (id : Nat)
 | ret
 | frz (ts : List (Nat × Nat))
 deriving Inhabited
inductive ARes where
 | tmp (t : Nat)
 | cell (t k : Nat) (agg : Bool)
 deriving Inhabited
structure AFn where
 ntmps : Nat
 sites : List Nat
 results : List ARes
 body : ACode
 deriving Inhabited
abbrev Prim := List AV -> List AObj -> Option (AV × List (Nat × AObj) × List AObj)
structure AProg where
 fn : Nat -> Option AFn
 prim : Nat -> Option Prim
def AOpd.ev (ρ : List AV) : AOpd -> AV
 | .tmp t => (ρ[t]?).getD .undef
 | .const v => v
def AV.strip1 : AV -> AV
 | .sl _ rows => .sl false rows
 | v => v
def AV.strip : AV -> AV
 | .agg cs => .agg (cs.map AV.strip1)
 | .tup vs => .tup (vs.map fun
   | .agg cs => .agg (cs.map AV.strip1)
   | v => v.strip1)
 | v => v.strip1
def AV.cells : AV -> List AV
 | .agg cs => cs
 | v => [v]
def AV.atom : AV -> Bool
 | .bool _ | .int _ _ | .str _ | .nilFn | .nilPtr | .nilIfc | .nilSl => true
 | _ => false
def AV.inIfc : AV -> Bool
 | .bool _ | .int _ _ | .str _ | .nilFn | .nilPtr | .ptr .. => true
 | _ => false
def AV.atomic : AV -> Bool
 | .agg cs => cs.all AV.atom
 | .tup vs => vs.all AV.atom
 | v => v.atom
def AV.still : AV -> Bool
 | .sr .. | .srv .. | .own .. | .agg _ | .tup _ | .undef => false
 | _ => true
def AV.cellOk : AV -> Bool
 | .srv .. | .own .. | .agg _ | .tup _ | .undef => false
 | _ => true
mutual
def AV.under (n : Nat) : AV -> Bool
 | .fn _ xs ys => abLZ n xs && abLZ n ys
 | .ptr o _ _ => decide (o < n)
 | .vp o _ _ _ _ _ => decide (o < n)
 | .sr o _ _ => decide (o < n)
 | .srv o _ _ _ _ => decide (o < n)
 | .mp o _ => decide (o < n)
 | .fmp ks vs => abLZ n ks && abLZ n vs
 | .ep row _ => abLZ n row
 | .sl _ rows => acTZ n rows
 | .own _ rows => acTZ n rows
 | .agg cs => abLZ n cs
 | .tup vs => abLZ n vs
 | .ifc _ v => v.under n
 | _ => true
def abLZ (n : Nat) : List AV -> Bool
 | [] => true
 | v :: r => v.under n && abLZ n r
def acTZ (n : Nat) : List (List AV) -> Bool
 | [] => true
 | l :: r => abLZ n l && acTZ n r
end
def AObj.under (n : Nat) : AObj -> Bool
 | .gone _ => true
 | .box _ cs => abLZ n cs
 | .tbox _ _ cs => abLZ n cs
 | .vec _ _ rows => acTZ n rows
 | .tvec _ _ _ rows => acTZ n rows
 | .map _ es => es.all fun (k, v) => k.under n && v.under n
def ajDZ (H : List AObj) : AV -> Option (AV × List Nat)
 | .sr o v n =>
  match H[o]? with
  | some (.vec v' _ rows) => if v' = v /\ rows.length = n /\ rows.all (fun r => r.all AV.still) then some (.sl false rows, [o]) else none
  | _ => none
 | .own .. | .srv .. | .tup _ => none
 | v => some (v, [])
def alLZ (H : List AObj) : List AV -> Option (List AV × List Nat)
 | [] => some ([], [])
 | a :: r =>
  match ajDZ H a with
  | none => none
  | some (a', l) =>
   match alLZ H r with
   | none => none
   | some (r', l') => some (a' :: r', l ++ l')
def lend (H : List AObj) : AV -> Option (AV × List Nat)
 | .agg cs => match alLZ H cs with
  | some (cs', l) => some (.agg cs', l)
  | none => none
 | .tup _ => none
 | v => ajDZ H v
def aeYZ (H : List AObj) : List AV -> Option (List AV × List Nat)
 | [] => some ([], [])
 | a :: r =>
  match lend H a with
  | none => none
  | some (a', l) =>
   match aeYZ H r with
   | none => none
   | some (r', l') => some (a' :: r', l ++ l')
def aaOZ (H : List AObj) : List Nat -> List AObj
 | [] => H
 | o :: r => aaOZ (H.set o (.gone ((H[o]?).elim 0 AObj.ver))) r
def amdZ (k : Nat) : (n : Nat) -> List AV -> List (List AV)
 | 0, _ => []
 | n + 1, l => l.take k :: amdZ k n (l.drop k)
def aamZ (H : List AObj) (k : Nat) : AV -> Option (List AV)
 | .ptr o v off =>
  match H[o]? with
  | some (.box v' cells) => if v' = v /\ off + k <= cells.length then some ((cells.drop off).take k) else none
  | some (.tbox v' _ cells) => if v' = v /\ off + k <= cells.length then some ((cells.drop off).take k) else none
  | _ => none
 | .vp o v n k1 i off =>
  match H[o]? with
  | some (.vec v' k2 rows) =>
   if v' = v /\ rows.length = n /\ k2 = k1 then
    match rows[i]? with
    | some row => if off + k <= row.length then some ((row.drop off).take k) else none
    | none => none
   else none
  | _ => none
 | .ep row off => if off + k <= row.length then some ((row.drop off).take k) else none
 | _ => none
def abnZ (agg : Bool) : List AV -> Option AV
 | cs => if agg then some (.agg cs) else match cs with
  | [v] => some v
  | _ => none
def ajfZ : List UInt8 -> List UInt8 -> Bool
 | _, [] => false
 | [], _ :: _ => true
 | a :: x, b :: y => a < b || (a == b && ajfZ x y)
def apGZ : Tag -> AV -> AV -> Option Bool
 | .bool, .bool a, .bool b => some (a == b)
 | .int, .int k a, .int k' b => if k = k' then some (a == b) else none
 | .str, .str a, .str b => some (a == b)
 | _, _, _ => none
def aeBZ : List Tag -> List AV -> List AV -> Option Bool
 | [], [], [] => some true
 | t :: ts, a :: x, b :: y =>
  match apGZ t a b with
  | some true => aeBZ ts x y
  | some false => match aeBZ ts x y with
   | some _ => some false
   | none => none
  | none => none
 | _, _, _ => none
def aeZZ : EqK -> AV -> AV -> Option Bool
 | .bool, .bool a, .bool b => some (a == b)
 | .cells ts, .agg xs, .agg ys => aeBZ ts xs ys
 | .func, .nilFn, .nilFn => some true
 | .func, .fn .., .nilFn => some false
 | .func, .nilFn, .fn .. => some false
 | .ptr, .nilPtr, .nilPtr => some true
 | .iface, .nilIfc, .nilIfc => some true
 | .iface, .ifc .., .nilIfc => some false
 | .iface, .nilIfc, .ifc .. => some false
 | _, _, _ => none
def binV (op : BinOp) (ek : EqK) : AV -> AV -> Option AV
 | .int k a, .int k' b =>
  match op with
  | .shl => if b < 0 then none else some (.int k (k.wrap (a * 2 ^ (min b.toNat k.bits))))
  | .shr => if b < 0 then none else some (.int k (a.fdiv (2 ^ (min b.toNat k.bits))))
  | .add => if k = k' then some (.int k (k.wrap (a + b))) else none
  | .sub => if k = k' then some (.int k (k.wrap (a - b))) else none
  | .mul => if k = k' then some (.int k (k.wrap (a * b))) else none
  | .quo => if k = k' /\ b ≠ 0 then some (.int k (k.wrap (a.tdiv b))) else none
  | .rem => if k = k' /\ b ≠ 0 then some (.int k (a.tmod b)) else none
  | .and => if k = k' then some (.int k (k.wrap (BitVec.ofInt k.bits a &&& BitVec.ofInt k.bits b).toNat)) else none
  | .or => if k = k' then some (.int k (k.wrap (BitVec.ofInt k.bits a ||| BitVec.ofInt k.bits b).toNat)) else none
  | .xor => if k = k' then some (.int k (k.wrap (BitVec.ofInt k.bits a ^^^ BitVec.ofInt k.bits b).toNat)) else none
  | .eql => if k = k' then some (.bool (a == b)) else none
  | .neq => if k = k' then some (.bool (a != b)) else none
  | .lss => if k = k' then some (.bool (decide (a < b))) else none
  | .leq => if k = k' then some (.bool (decide (a <= b))) else none
  | .gtr => if k = k' then some (.bool (decide (a > b))) else none
  | .geq => if k = k' then some (.bool (decide (a ≥ b))) else none
  | _ => none
 | .str a, .str b =>
  match op with
  | .add => if a.length + b.length <= 4611686018427387904 then some (.str (a ++ b)) else none
  | .eql => some (.bool (a == b))
  | .neq => some (.bool (a != b))
  | .lss => some (.bool (ajfZ a b))
  | .leq => some (.bool (ajfZ a b || a == b))
  | .gtr => some (.bool !(ajfZ a b || a == b))
  | .geq => some (.bool !ajfZ a b)
  | _ => none
 | x, y =>
  match op with
  | .eql => (aeZZ ek x y).map .bool
  | .neq => (aeZZ ek x y).map fun b => .bool !b
  | _ => none
def unV (op : UnOp) : AV -> Option AV
 | .int k n => match op with
  | .neg => some (.int k (k.wrap (0 - n)))
  | .xor => some (.int k (k.wrap (BitVec.ofInt k.bits (if k.signed then -1 else k.max) ^^^ BitVec.ofInt k.bits n).toNat))
  | _ => none
 | .bool b => match op with
  | .not => some (.bool !b)
  | _ => none
 | _ => none
def abqZ : List (List AV) -> Option (List UInt8)
 | [] => some []
 | [.int .u8 n] :: r => (abqZ r).map (UInt8.ofNat n.toNat :: ·)
 | _ => none
def aayZ (l : List UInt8) : List (List AV) := l.map fun b => [.int .u8 b.toNat]
def abkZ (k : Nat) : List (List AV) -> Bool
 | [] => true
 | r :: _ => r.length == k
def aeOZ (H : List AObj) : AV -> Option (List (List AV))
 | .sl _ rows => some rows
 | .nilSl => some []
 | .sr o v n =>
  match H[o]? with
  | some (.vec v' _ rows) => if v' = v /\ rows.length = n then some rows else none
  | some (.tvec v' _ _ rows) => if v' = v /\ rows.length = n then some rows else none
  | _ => none
 | _ => none
def agRZ (H : List AObj) : AConv -> AV -> Option AV
 | .toInt k, .int _ n => some (.int k (k.wrap n))
 | .same, .str l => some (.str l)
 | .s2b, .str l => if l.length <= 1099511627776 then some (.sl false (aayZ l)) else none
 | .b2s, x => match aeOZ H x with
  | some rows => (abqZ rows).map .str
  | none => none
 | .i2s, .int _ n => if 0 <= n /\ n < 128 then some (.str [UInt8.ofNat n.toNat]) else none
 | _, _ => none
def adPZ (dflt most : Nat) : Option AV -> Option Nat
 | none => some dflt
 | some (.int _ n) => if 0 <= n /\ n <= most then some n.toNat else none
 | some _ => none
def acdZ (len : Nat) (lo hi mx : Option AV) : Option (Nat × Nat × Nat) :=
 match adPZ len len mx with
 | none => none
 | some m => match adPZ len m hi with
  | none => none
  | some h => match adPZ 0 h lo with
   | none => none
   | some l => some (l, h, m)
def adjZ (cells : List AV) (off : Nat) (vs : List AV) : List AV := cells.take off ++ vs ++ cells.drop (off + vs.length)
def ackZ (ρ : List AV) (cells : List AV) : List (Nat × Nat × AOpd) -> Option (List AV)
 | [] => some cells
 | (off, size, x) :: r =>
  let vs := (x.ev ρ).cells
  if vs.length = size /\ off + size <= cells.length /\ vs.all AV.cellOk then ackZ ρ (adjZ cells off vs) r else none
def adQZ (ρ : List AV) (k : Nat) (rows : List (List AV)) : List (Nat × AOpd) -> Option (List (List AV))
 | [] => some rows
 | (i, x) :: r =>
  let vs := (x.ev ρ).strip.cells
  if vs.length = k /\ i < rows.length /\ vs.all AV.still then adQZ ρ k (rows.set i vs) r else none
def acRZ (ρ : List AV) (k : Nat) (rows : List (List AV)) : List (Nat × AOpd) -> Option (List (List AV))
 | [] => some rows
 | (i, x) :: r =>
  let vs := (x.ev ρ).strip.cells
  if vs.length = k /\ i < rows.length /\ vs.all AV.cellOk then acRZ ρ k (rows.set i vs) r else none
def mm2 (mx : Bool) : AV -> AV -> Option AV
 | .int k a, .int k' b => if k = k' then some (.int k (if mx then (if b > a then b else a) else (if b < a then b else a))) else none
 | _, _ => none
def akZZ (mx : Bool) : AV -> List AV -> Option AV
 | x, [] => some x
 | x, y :: r => match mm2 mx x y with
  | some z => akZZ mx z r
  | none => none
def mmV (mx : Bool) : List AV -> Option AV
 | [] => none
 | x :: r => akZZ mx x r
def arlZ : AV -> AV -> Option Bool
 | .int k a, .int k' b => if k = k' then some (a == b) else none
 | _, _ => none
def aeuZ (k : AV) : List (AV × AV) -> Nat -> Option (Option (Nat × AV))
 | [], _ => some none
 | (k', v) :: r, i =>
  match arlZ k k' with
  | some true => some (some (i, v))
  | some false => aeuZ k r (i + 1)
  | none => none
def abNZ (n bytes : Nat) : Bool := decide (n * (bytes + 1) <= 1099511627776)
def evR (H : List AObj) (ρ : List AV) : AOp -> Option AV
 | .mov x => some (x.ev ρ)
 | .pick c a b => match c.ev ρ with
  | .bool t => some (if t then a.ev ρ else b.ev ρ)
  | _ => none
 | .alloc zs => if zs.all AV.still then some (.ep (zs.map AV.strip1) 0) else none
 | .box k x =>
  let vs := (x.ev ρ).strip.cells
  if vs.length = k /\ vs.all AV.still then some (.ep vs 0) else none
 | .build zs parts => (ackZ ρ zs parts).map .agg
 | .bsl k zs n parts => (adQZ ρ k (List.replicate n zs) parts).map (.sl true)
 | .mks _ bytes zs len cap => match len.ev ρ, cap.ev ρ with
  | .int _ n, .int _ c => if 0 <= n /\ n = c /\ abNZ n.toNat bytes then some (.sl true (List.replicate n.toNat (zs.map AV.strip1))) else none
  | _, _ => none
 | .load k agg x => match aamZ H k (x.ev ρ) with
  | some cs => abnZ agg cs
  | none => none
 | .nilck x => match x.ev ρ with
  | .ptr o v off => some (.ptr o v off)
  | .vp o v n k i off => some (.vp o v n k i off)
  | .ep row off => some (.ep row off)
  | .fn f a b => some (.fn f a b)
  | _ => none
 | .isnil neg x => match x.ev ρ with
  | .sl _ (_ :: _) | .sr .. => some (.bool neg)
  | .nilSl => some (.bool !neg)
  | _ => none
 | .bin op ek x y => binV op ek (x.ev ρ) (y.ev ρ)
 | .un op x => unV op (x.ev ρ)
 | .conv c x => agRZ H c (x.ev ρ)
 | .mkf f first caps => if (first.map (AOpd.ev ρ)).all AV.still && (caps.map (AOpd.ev ρ)).all AV.still then some (.fn f (first.map fun x => (x.ev ρ).strip1) (caps.map fun x => (x.ev ρ).strip1)) else none
 | .sliceS x lo hi => match x.ev ρ with
  | .str s => match acdZ s.length (lo.map (AOpd.ev ρ)) (hi.map (AOpd.ev ρ)) none with
   | some (l, h, _) => some (.str ((s.take h).drop l))
   | none => none
  | _ => none
 | .sliceV k x lo hi mx => match x.ev ρ with
  | .sl full rows => match acdZ rows.length (lo.map (AOpd.ev ρ)) (hi.map (AOpd.ev ρ)) (mx.map (AOpd.ev ρ)) with
   | some (l, h, m) => if abkZ k rows && (!mx.isSome || hi.isSome) then some (.sl (decide (m = h) && (mx.isSome || full)) ((rows.take h).drop l)) else none
   | none => none
  | _ => none
 | .view k x lo => match x.ev ρ with
  | .sl full rows => match acdZ rows.length (lo.map (AOpd.ev ρ)) none none with
   | some (l, h, m) => if abkZ k rows then some (.sl (decide (m = h) && full) ((rows.take h).drop l)) else none
   | none => none
  | .sr o v n => match H[o]? with
   | some (.vec v' _ rows) => if v' = v /\ rows.length = n then match adPZ 0 n (lo.map (AOpd.ev ρ)) with
     | some l => some (.srv o v n k l)
     | none => none
    else none
   | _ => none
  | _ => none
 | .sliceA n k x lo hi mx => match x.ev ρ with
  | .ep row off => if off + n * k <= row.length then
    let rows := amdZ k n (row.drop off)
    match acdZ n (lo.map (AOpd.ev ρ)) (hi.map (AOpd.ev ρ)) (mx.map (AOpd.ev ρ)) with
    | some (l, h, m) => if !mx.isSome || hi.isSome then some (.sl (decide (m = h)) ((rows.take h).drop l)) else none
    | none => none
   else none
  | _ => none
 | .fa off x => match x.ev ρ with
  | .ptr o v off0 => some (.ptr o v (off0 + off))
  | .vp o v n k i off0 => some (.vp o v n k i (off0 + off))
  | .ep row off0 => some (.ep row (off0 + off))
  | _ => none
 | .fld off k agg x => match x.ev ρ with
  | .agg cs => if off + k <= cs.length then abnZ agg ((cs.drop off).take k) else none
  | _ => none
 | .iaV x i k => match x.ev ρ, i.ev ρ with
  | .sl _ rows, .int _ n => if 0 <= n then match rows[n.toNat]? with
    | some row => if row.length = k then some (.ep row 0) else none
    | none => none
   else none
  | .sr o v len, .int _ n => if 0 <= n /\ n < len then some (.vp o v len k n.toNat 0) else none
  | _, _ => none
 | .iaA len k x i => match x.ev ρ, i.ev ρ with
  | .ptr o v off, .int _ n => if 0 <= n /\ n < len then some (.ptr o v (off + n.toNat * k)) else none
  | .ep row off, .int _ n => if 0 <= n /\ n < len then some (.ep row (off + n.toNat * k)) else none
  | _, _ => none
 | .ixS x i => match x.ev ρ, i.ev ρ with
  | .str s, .int _ n => if 0 <= n then match s[n.toNat]? with
    | some b => some (.int .u8 b.toNat)
    | none => none
   else none
  | _, _ => none
 | .ixA len k agg x i => match x.ev ρ, i.ev ρ with
  | .agg cs, .int _ n => if 0 <= n /\ n < len /\ n.toNat * k + k <= cs.length then abnZ agg ((cs.drop (n.toNat * k)).take k) else none
  | _, _ => none
 | .lenS x => match x.ev ρ with
  | .str s => some (.int .i64 s.length)
  | _ => none
 | .lenV x => match x.ev ρ with
  | .sl _ rows => some (.int .i64 rows.length)
  | .sr _ _ n => some (.int .i64 n)
  | .nilSl => some (.int .i64 0)
  | _ => none
 | .lenC n => some (.int .i64 n)
 | .mm mx xs => mmV mx (xs.map (AOpd.ev ρ))
 | .ext i x => match x.ev ρ with
  | .tup vs => vs[i]?
  | _ => none
 | .mkifc t x => if (x.ev ρ).inIfc then some (.ifc t (x.ev ρ)) else none
 | .look zero m k ok => match m.ev ρ with
  | .mp o v => match H[o]? with
   | some (.map v' es) => if v' = v then
     match aeuZ (k.ev ρ) es 0 with
     | some (some (_, x)) => if ok then some (.tup [x, .bool true]) else some x
     | some none => if ok then some (.tup [zero, .bool false]) else some zero
     | none => none
    else none
   | _ => none
  | .fmp ks vs => match aeuZ (k.ev ρ) (ks.zip vs) 0 with
   | some (some (_, x)) => if ok then some (.tup [x, .bool true]) else some x
   | some none => if ok then some (.tup [zero, .bool false]) else some zero
   | none => none
  | _ => none
 | _ => none
def rdOf (ρ : List AV) : AOp -> List Nat
 | .load _ _ x => match x.ev ρ with
  | .ptr o _ _ => [o]
  | .vp o _ _ _ _ _ => [o]
  | _ => []
 | .conv .b2s x => match x.ev ρ with
  | .sr o _ _ => [o]
  | _ => []
 | .look _ m _ _ => match m.ev ρ with
  | .mp o _ => [o]
  | _ => []
 | .view _ x _ => match x.ev ρ with
  | .sr o _ _ => [o]
  | _ => []
 | _ => []
abbrev Out := Option (AV × List AObj × List Nat)
def make (H : List AObj) (id : Nat) (mk : Nat -> AObj) : List AObj := H.set id (mk ((H[id]?).elim 0 AObj.ver + 1))
def aaDZ (H : List AObj) (id : Nat) : Nat := (H[id]?).elim 0 AObj.ver + 1
def storeCells (H : List AObj) (vs : List AV) : AV -> Option (List AObj × List Nat)
 | .ptr o v off =>
  match H[o]? with
  | some (.box v' cells) =>
   if v' = v /\ off + vs.length <= cells.length then some (H.set o (.box v (adjZ cells off vs)), [o]) else none
  | some (.tbox v' ty cells) =>
   if v' = v /\ off + vs.length <= cells.length then some (H.set o (.tbox v ty (adjZ cells off vs)), [o]) else none
  | _ => none
 | .vp o v n k1 i off =>
  match H[o]? with
  | some (.vec v' k rows) =>
   if v' = v /\ rows.length = n /\ k = k1 then
    match rows[i]? with
    | some row => if off + vs.length <= row.length /\ (vs.map AV.strip1).all AV.cellOk then some (H.set o (.vec v k (rows.set i (adjZ row off (vs.map AV.strip1)))), [o]) else none
    | none => none
   else none
  | _ => none
 | _ => none
def fix (H : List AObj) (v : AV) : Option (AV × List AObj × List Nat) :=
 match lend H v with
 | some (v', l) => some (v'.strip, aaOZ H l, l)
 | none => none
def atfZ (H : List AObj) : List (List AV) -> Option (List (List AV) × List AObj × List Nat)
 | [] => some ([], H, [])
 | r :: rs =>
  match fix H (.agg r) with
  | some (.agg r', H', l) =>
   match atfZ H' rs with
   | some (rs', H'', l') => some (r' :: rs', H'', l ++ l')
   | none => none
  | _ => none
def aksZ (H : List AObj) : AV -> Option (AV × List AObj × List Nat)
 | .sr o v n =>
  match H[o]? with
  | some (.vec v' k rows) =>
   if v' = v /\ rows.length = n then
    match atfZ H rows with
    | some (rows', H', l) =>
     if l.contains o = false /\ rows'.all (fun r => r.all AV.cellOk) then
      match fix (H'.set o (.vec v k rows')) (.sr o v n) with
      | some (v2, H2, l2) => some (v2, H2, l ++ (o :: l2))
      | none => none
     else none
    | none => none
   else none
  | _ => none
 | v => fix H v
def fixD (H : List AObj) (v : AV) : Option (AV × List AObj × List Nat) :=
 match fix H v with
 | some r => some r
 | none => match v with
  | .agg [c] => match aksZ H c with
   | some (c', H', l) => some (.agg [c'], H', l)
   | none => none
  | v => aksZ H v
def aeCZ (ρ : List AV) (k : Nat) (H : List AObj) (rows : List (List AV)) : List (Nat × AOpd) -> Option (List (List AV) × List AObj × List Nat)
 | [] => some (rows, H, [])
 | (i, x) :: r =>
  match fix H (x.ev ρ) with
  | some (v, H', l) =>
   if v.cells.length = k /\ i < rows.length /\ v.cells.all AV.still then
    match aeCZ ρ k H' (rows.set i v.cells) r with
    | some (rows', H'', l') => some (rows', H'', l ++ l')
    | none => none
   else none
  | none => none
def adkZ (H : List AObj) : AV -> Option (List (List AV))
 | .str l => some (aayZ l)
 | x => aeOZ H x
def ahEZ (H : List AObj) (site : Option Nat) (k bytes : Nat) (s x : AV) : Out :=
 match adkZ H x with
 | none => none
 | some new =>
  if !abkZ k new then none else
  match s with
  | .nilSl => if new.isEmpty then some (.nilSl, H, []) else if abNZ new.length bytes then
    match site with
    | some id => if id < H.length then some (.sr id (aaDZ H id) new.length, make H id (.vec · k new), [id]) else none
    | none => none
   else none
  | .sl full rows =>
   if new.isEmpty then some (.sl full rows, H, [])
   else if full && abkZ k rows && abNZ (rows.length + new.length) bytes then
    match site with
    | some id => if id < H.length then some (.sr id (aaDZ H id) (rows.length + new.length), make H id (.vec · k (rows ++ new)), [id]) else none
    | none => none
   else none
  | .sr o v n =>
   match H[o]? with
   | some (.vec v' k' rows) =>
    if v' = v /\ rows.length = n /\ k' = k /\ abNZ (n + new.length) bytes then
     if new.isEmpty then some (.sr o v n, H, []) else
     some (.sr o v (n + new.length), H.set o (.vec v k (rows ++ new)), [o])
    else none
   | _ => none
  | _ => none
def anRZ (H : List AObj) (site : Option Nat) (ty k bytes : Nat) (s x : AV) : Out :=
 match adkZ H x with
 | none => none
 | some new =>
  if !abkZ k new then none else
  match s with
  | .nilSl => if new.isEmpty then some (.nilSl, H, []) else if abNZ new.length bytes then
    match site with
    | some id => if id < H.length then some (.sr id (aaDZ H id) new.length, make H id (.tvec · ty k new), [id]) else none
    | none => none
   else none
  | .sr o v n =>
   match H[o]? with
   | some (.tvec v' ty' k' rows) =>
    if v' = v /\ rows.length = n /\ k' = k /\ ty' = ty /\ abNZ (n + new.length) bytes then
     if new.isEmpty then some (.sr o v n, H, []) else
     some (.sr o v (n + new.length), H.set o (.tvec v ty k (rows ++ new)), [o])
    else none
   | _ => none
  | _ => none
def abrZ (call : Nat -> List AV -> List AObj -> Out) (H : List AObj) (site : Option Nat) (f : AV) (args : List AV) : Out :=
 match f with
 | .fn f first caps =>
  match aeYZ H (first ++ args ++ caps) with
  | none => none
  | some (args', lent) =>
   match call f (args'.map AV.strip) (aaOZ H lent) with
   | none => none
   | some (v, H', wr) =>
    if lent.isEmpty then
     match v with
     | .own k rows =>
      match site with
      | some id => if id < H'.length then some (.sr id (aaDZ H' id) rows.length, make H' id (.vec · k rows), if wr.contains id then wr else id :: wr) else none
      | none => some (.sl false rows, H', wr)
     | v => some (v, H', wr)
    else if wr.isEmpty && decide (H'.length = H.length) && v.atomic then some (v, H, []) else none
 | _ => none
def evW (call : Nat -> List AV -> List AObj -> Out) (H : List AObj) (ρ : List AV) (site : Option Nat) : AOp -> Out
 | .alloc zs => match site with
  | some id => if id < H.length then some (.ptr id (aaDZ H id) 0, make H id (.box · zs), [id]) else none
  | none => none
 | .talloc ty zs => match site with
  | some id => if id < H.length then some (.ptr id (aaDZ H id) 0, make H id (.tbox · ty zs), [id]) else none
  | none => none
 | .box k x => match site with
  | some id => if id < H.length /\ (x.ev ρ).cells.length = k /\ (x.ev ρ).cells.all AV.cellOk then some (.ptr id (aaDZ H id) 0, make H id (.box · (x.ev ρ).cells), [id]) else none
  | none => none
 | .tbx ty k x => match site with
  | some id => if id < H.length /\ (x.ev ρ).cells.length = k /\ (x.ev ρ).cells.all AV.cellOk then some (.ptr id (aaDZ H id) 0, make H id (.tbox · ty (x.ev ρ).cells), [id]) else none
  | none => none
 | .store k x v => if (v.ev ρ).cells.length = k /\ (v.ev ρ).cells.all AV.cellOk then
   match storeCells H (v.ev ρ).cells (x.ev ρ) with
   | some (H', wr) => some (.undef, H', wr)
   | none => none
  else none
 | .bsl k zs n parts => match site with
  | some id => match acRZ ρ k (List.replicate n zs) parts with
   | some rows => if id < H.length then some (.sr id (aaDZ H id) n, make H id (.vec · k rows), [id]) else none
   | none => none
  | none => match aeCZ ρ k H (List.replicate n zs) parts with
   | some (rows, H', wr) => some (.sl true rows, H', wr)
   | none => none
 | .mks k bytes zs len cap => match len.ev ρ, cap.ev ρ with
  | .int _ n, .int _ c =>
   if 0 <= n /\ n = c /\ abNZ n.toNat bytes then
    match site with
    | some id => if id < H.length then some (.sr id (aaDZ H id) n.toNat, make H id (.vec · k (List.replicate n.toNat (zs.map AV.strip1))), [id]) else none
    | none => some (.sl true (List.replicate n.toNat (zs.map AV.strip1)), H, [])
   else match site with
    | some id => if n = 0 /\ 0 < c /\ abNZ c.toNat bytes /\ id < H.length then some (.sr id (aaDZ H id) 0, make H id (.vec · k []), [id]) else none
    | none => none
  | _, _ => none
 | .app k bytes s x => ahEZ H site k bytes (s.ev ρ) (x.ev ρ)
 | .tapp ty k bytes s x => anRZ H site ty k bytes (s.ev ρ) (x.ev ρ)
 | .callv f args => abrZ call H site (f.ev ρ) (args.map (AOpd.ev ρ))
 | .invk tab x args => match x.ev ρ with
  | .ifc t v => match tab.lookup t with
   | some f => abrZ call H site (.fn f [v] []) (args.map (AOpd.ev ρ))
   | none => none
  | _ => none
 | .cpy k x y => match x.ev ρ with
  | .srv o v n k' lo => match H[o]? with
   | some (.vec v' k2 rows) => match adkZ H (y.ev ρ) with
    | some new => if new.isEmpty then some (.int .i64 0, H, []) else if v' = v /\ rows.length = n /\ k2 = k /\ k' = k /\ abkZ k new /\ lo + new.length <= n then
      some (.int .i64 (new.length : Nat), H.set o (.vec v k (rows.take lo ++ new ++ rows.drop (lo + new.length))), [o])
     else none
    | none => none
   | _ => none
  | _ => none
 | .mkmap => match site with
  | some id => if id < H.length then some (.mp id (aaDZ H id), make H id (.map · []), [id]) else none
  | none => none
 | .ins m k v => match m.ev ρ, k.ev ρ with
  | .mp o ver, key => match H[o]? with
   | some (.map v' es) =>
    if v' = ver /\ (arlZ key key).isSome /\ (v.ev ρ).strip.cells.all AV.still then
     match aeuZ key es 0 with
     | some (some (i, _)) => some (.undef, H.set o (.map ver (es.set i (key, (v.ev ρ).strip))), [o])
     | some none => some (.undef, H.set o (.map ver (es ++ [(key, (v.ev ρ).strip)])), [o])
     | none => none
    else none
   | _ => none
  | _, _ => none
 | _ => none
def isW (site : Option Nat) (inDraw : Bool) : AOp -> Bool
 | .alloc _ | .talloc .. | .box .. | .tbx .. => site.isSome
 | .bsl .. | .mks .. => site.isSome || !inDraw
 | .store .. | .app .. | .tapp .. | .callv .. | .invk .. | .cpy .. | .mkmap | .ins .. => true
 | _ => false
structure ASt where
 ρ : List AV
 H : List AObj
 wr : List Nat
 deriving Inhabited
def putSlot (ρ : List AV) (dst : Option Nat) (v : AV) : List AV :=
 match dst with
 | some d => ρ.set d v
 | none => ρ
def aaCZ (base : Nat) (wr : List Nat) : List Nat -> List Nat
 | [] => wr
 | o :: r => if o < base /\ ¬ wr.contains o then aaCZ base (o :: wr) r else aaCZ base wr r
structure Ctx where
 base : Nat
 sites : List Nat
def Ctx.site (c : Ctx) (dst : Option Nat) : Option Nat :=
 match dst with
 | none => none
 | some t => (c.sites.idxOf? t).map (c.base + ·)
def evOp (call : Nat -> List AV -> List AObj -> Out) (c : Ctx) (inDraw : Bool) (H : List AObj) (ρ : List AV) (o : AOper) : Out :=
 if isW (c.site o.dst) inDraw o.op then evW call H ρ (c.site o.dst) o.op
 else match evR H ρ o.op with
  | some v => some (v, H, [])
  | none => none
def wanted (ρ : List AV) (o : AOper) : Bool :=
 match o.guard with
 | none => true
 | some (none, _) => false
 | some (some t, want) => match ρ[t]? with
  | some (.bool b) => b == want
  | _ => false
def afaZ (ρ : List AV) (o : AOper) : Bool :=
 match o.guard with
 | none => true
 | some (none, _) => false
 | some (some t, _) => match ρ[t]? with
  | some (.bool _) => true
  | some (.tup []) => true
  | _ => false
def adRZ (call : Nat -> List AV -> List AObj -> Out) (c : Ctx) : List AOper -> ASt -> Option ASt
 | [], s => some s
 | o :: r, s =>
  if afaZ s.ρ o then
   if wanted s.ρ o then
    match evOp call c false s.H s.ρ o with
    | some (v, H', wr) => adRZ call c r ⟨putSlot s.ρ o.dst v, H', aaCZ c.base s.wr wr⟩
    | none => none
   else adRZ call c r ⟨putSlot s.ρ o.dst (.tup []), s.H, s.wr⟩
  else none
abbrev Log := List (Nat × List Nat × Option (List Nat))
def acEZ (a b : List Nat) : Bool := a.all fun x => !b.contains x
def acUZ (pre : Nat -> List Nat) : Log -> Bool
 | [] => true
 | (i, rd, wr) :: r =>
  (r.all fun (j, rd', wr') =>
   (pre j).contains i ||
   (match wr, wr' with
    | some _, some _ => false
    | some ws, none => acEZ rd' ws
    | none, some ws => acEZ rd ws
    | none, none => true)) && acUZ pre r
def aDpZ : AOp -> Bool
 | .alloc _ => true
 | _ => false
def AOpd.slot : AOpd -> List Nat
 | .tmp t => [t]
 | .const _ => []
def ameZ : Option AOpd -> List Nat
 | none => []
 | some x => x.slot
def AOp.slots : AOp -> List Nat
 | .bad | .alloc _ | .talloc .. | .lenC _ | .mkmap => []
 | .mov x | .box _ x | .tbx _ _ x | .load _ _ x | .nilck x | .isnil _ x | .un _ x | .conv _ x | .fa _ x | .fld _ _ _ x | .lenS x | .lenV x | .ext _ x | .mkifc _ x => x.slot
 | .pick c a b => c.slot ++ a.slot ++ b.slot
 | .build _ ps => ps.flatMap fun p => p.2.2.slot
 | .bsl _ _ _ ps => ps.flatMap fun p => p.2.slot
 | .store _ x v => x.slot ++ v.slot
 | .bin _ _ x y => x.slot ++ y.slot
 | .mkf _ f c => f.flatMap AOpd.slot ++ c.flatMap AOpd.slot
 | .mks _ _ _ l c => l.slot ++ c.slot
 | .sliceS x lo hi => x.slot ++ ameZ lo ++ ameZ hi
 | .sliceV _ x lo hi mx => x.slot ++ ameZ lo ++ ameZ hi ++ ameZ mx
 | .view _ x lo => x.slot ++ ameZ lo
 | .sliceA _ _ x lo hi mx => x.slot ++ ameZ lo ++ ameZ hi ++ ameZ mx
 | .iaV x i _ => x.slot ++ i.slot
 | .iaA _ _ x i => x.slot ++ i.slot
 | .ixS x i => x.slot ++ i.slot
 | .ixA _ _ _ x i => x.slot ++ i.slot
 | .mm _ xs => xs.flatMap AOpd.slot
 | .app _ _ s x => s.slot ++ x.slot
 | .tapp _ _ _ s x => s.slot ++ x.slot
 | .callv f xs => f.slot ++ xs.flatMap AOpd.slot
 | .invk _ x xs => x.slot ++ xs.flatMap AOpd.slot
 | .cpy _ x y => x.slot ++ y.slot
 | .ins m k v => m.slot ++ k.slot ++ v.slot
 | .look _ m k _ => m.slot ++ k.slot
def AOper.names (o : AOper) : List Nat :=
 o.dst.toList ++ o.op.slots ++ (match o.guard with | some (some t, _) => [t] | _ => [])
def armZ (i : Nat) (o : AOper) (j : Nat) (p : AOper) : Bool :=
 match p.dst with
 | none => true
 | some t => !o.names.contains t || (if i < j then p.pre.contains i else o.pre.contains j)
def aurZ (ops : List AOper) : Bool :=
 ops.zipIdx.all fun (o, i) => o.pre.all (fun k => decide (k < i)) && ops.zipIdx.all fun (p, j) => i == j || armZ i o j p
def abfZ (c : Ctx) (H : List AObj) : List AOper -> Option (List AObj)
 | [] => some H
 | o :: r =>
  match o.op, c.site o.dst with
  | .alloc zs, some id => if id < H.length /\ o.guard.isNone /\ o.pre.isEmpty then abfZ c (make H id (.box · zs)) r else none
  | _, _ => abfZ c H r
def amfZ (call : Nat -> List AV -> List AObj -> Out) (c : Ctx) (H : List AObj) (ρ : List AV) (o : AOper) : Option (AV × List AObj × List Nat × Option (List Nat)) :=
 match o.op, c.site o.dst with
 | .alloc _, some id => some (.ptr id ((H[id]?).elim 0 AObj.ver) 0, H, [id], none)
 | op, site =>
  if isW site true op then
   match evW call H ρ site op with
   | some (v, H', wr) => if H'.length = H.length then some (v, H', [], some wr) else none
   | none => none
  else match evR H ρ op with
   | some v => some (v, H, rdOf ρ op, none)
   | none => none
def aeAZ (call : Nat -> List AV -> List AObj -> Out) (c : Ctx) : Nat -> List AOper -> ASt -> Option (ASt × Log)
 | _, [], s => some (s, [])
 | i, o :: r, s =>
  if afaZ s.ρ o then
   if wanted s.ρ o then
    match amfZ call c s.H s.ρ o with
    | some (v, H', rd, wr) =>
     match aeAZ call c (i + 1) r ⟨putSlot s.ρ o.dst v, H', aaCZ c.base s.wr (wr.getD [])⟩ with
     | some (s', log) => some (s', (i, rd, wr) :: log)
     | none => none
    | none => none
   else aeAZ call c (i + 1) r ⟨putSlot s.ρ o.dst (.tup []), s.H, s.wr⟩
  else none
def actZ (call : Nat -> List AV -> List AObj -> Out) (c : Ctx) (draw : Bool) (ops : List AOper) (s : ASt) : Option ASt :=
 if draw && aurZ ops then
  match abfZ c s.H ops with
  | some H0 =>
   match aeAZ call c 0 ops ⟨s.ρ, H0, s.wr⟩ with
   | some (s', log) => if acUZ (fun j => ((ops[j]?).map AOper.pre).getD []) log then some s' else none
   | none => none
  | none => none
 else if draw then none
 else adRZ call c ops s
inductive AExit where
 | normal
 | exit (id : Nat)
 | ret
 deriving DecidableEq
def AV.isUndef : AV -> Bool
 | .undef => true
 | .tup [] => true
 | _ => false
def afhZ (c : Ctx) (s : ASt) : List (Nat × Nat) -> Option ASt
 | [] => some s
 | (k + 1, t) :: r =>
  if ((s.ρ[t]?).getD .undef).isUndef then afhZ c s r else
  match aamZ s.H (k + 1) ((s.ρ[t]?).getD .undef) with
  | some cs =>
   match fixD s.H (.agg cs) with
   | some (.agg cs', H', l) =>
    match storeCells H' cs' ((s.ρ[t]?).getD .undef) with
    | some (H'', l') => afhZ c ⟨s.ρ, H'', aaCZ c.base s.wr (l ++ l')⟩ r
    | none => none
   | _ => none
  | none => none
 | (0, t) :: r =>
  match fixD s.H ((s.ρ[t]?).getD .undef) with
  | some (v, H', l) => afhZ c ⟨s.ρ.set t v, H', aaCZ c.base s.wr l⟩ r
  | none => none
def resV (H : List AObj) (ρ : List AV) : ARes -> Option AV
 | .tmp t => some ((ρ[t]?).getD .undef)
 | .cell t k agg => match aamZ H k ((ρ[t]?).getD .undef) with
  | some cs => abnZ agg cs
  | none => none
def aoMZ (H : List AObj) (ρ : List AV) : List ARes -> Option (List AV)
 | [] => some []
 | r :: rs => match resV H ρ r with
  | none => none
  | some v => match aoMZ H ρ rs with
   | none => none
   | some vs => some (v :: vs)
def finV (base : Nat) (H : List AObj) : AV -> Option (AV × List AObj × List Nat)
 | .sr o v n =>
  match H[o]? with
  | some (.vec v' k rows) => if v' = v /\ rows.length = n /\ base <= o /\ rows.all (fun r => r.all AV.still) then some (.own k rows, aaOZ H [o], [o]) else none
  | _ => none
 | .mp o v =>
  match H[o]? with
  | some (.map v' es) => if v' = v /\ base <= o then some (.fmp (es.map Prod.fst) (es.map Prod.snd), H.set o (.gone v), [o]) else some (.mp o v, H, [])
  | _ => some (.mp o v, H, [])
 | x => fix H x
def aktZ (H : List AObj) : List AV -> Option (List AV × List AObj × List Nat)
 | [] => some ([], H, [])
 | v :: r => match fix H v with
  | none => none
  | some (v', H', l) => match aktZ H' r with
   | none => none
   | some (r', H'', l') => some (v' :: r', H'', l ++ l')
def ahvZ (base : Nat) (fn : AFn) (s : ASt) : Out :=
 match aoMZ s.H s.ρ fn.results with
 | none => none
 | some [v] => match finV base s.H v with
  | some (v', H', l) => some (v', H', aaCZ base s.wr l)
  | none => none
 | some vs => match aktZ s.H vs with
  | some (vs', H', l) => some (.tup vs', H', aaCZ base s.wr l)
  | none => none
def aaVZ (base : Nat) : AV × List AObj × List Nat -> AV × List AObj × List Nat
 | (v, H, wr) =>
  if v.under base && wr.all (fun o => match H[o]? with | some x => x.under base | none => true) then (v, H.take base, wr) else (v, H, wr)
def aejZ (fn : AFn) (args : List AV) (H : List AObj) : ASt :=
 ⟨args ++ List.replicate (fn.ntmps - args.length) .undef, H ++ List.replicate fn.sites.length (.gone 0), []⟩
def adSZ (H : List AObj) : List (Nat × AObj) -> List AObj
 | [] => H
 | (o, x) :: r => adSZ (H.set o x) r
def abxZ (H : List AObj) (r : AV × List (Nat × AObj) × List AObj) : AV × List AObj × List Nat := (r.1, adSZ H r.2.1 ++ r.2.2, r.2.1.map Prod.fst)
def aaNZ (A : AProg) : Nat -> Ctx -> ACode -> ASt -> Option (AExit × ASt)
 | 0, _, _, _ => none
 | n + 1, c, code, s =>
  let call (f : Nat) (args : List AV) (H : List AObj) : Out :=
   match (A.prim f).bind (· args H) with
   | some r => some (abxZ H r)
   | none =>
    match A.fn f with
    | none => none
    | some fn =>
     if args.length <= fn.ntmps then
     match aaNZ A n ⟨H.length, fn.sites⟩ fn.body (aejZ fn args H) with
     | some (.normal, s') | some (.ret, s') =>
      match ahvZ H.length fn s' with
      | some r => some (aaVZ H.length r)
      | none => none
     | _ => none
     else none
  match code with
  | .skip => some (.normal, s)
  | .bad => none
  | .region draw ops => match actZ call c draw ops s with
   | some s' => some (.normal, s')
   | none => none
  | .seq a b => match aaNZ A n c a s with
   | some (.normal, s') => aaNZ A n c b s'
   | r => r
  | .cond x a b => match x.ev s.ρ with
   | .bool true => aaNZ A n c a s
   | .bool false => aaNZ A n c b s
   | _ => none
  | .block id b => match aaNZ A n c b s with
   | some (.exit id', s') => if id' = id then some (.normal, s') else some (.exit id', s')
   | r => r
  | .loop b => match aaNZ A n c b s with
   | some (.normal, s') => aaNZ A n c (.loop b) s'
   | r => r
  | .exit id => some (.exit id, s)
  | .ret => some (.ret, s)
  | .frz ts => match afhZ c s ts with
   | some s' => some (.normal, s')
   | none => none
def aaXZ (A : AProg) (n : Nat) (f : Nat) (args : List AV) (H : List AObj) : Out :=
 match (A.prim f).bind (· args H) with
 | some r => some (abxZ H r)
 | none =>
  match A.fn f with
  | none => none
  | some fn =>
   if args.length <= fn.ntmps then
   match aaNZ A n ⟨H.length, fn.sites⟩ fn.body (aejZ fn args H) with
   | some (.normal, s') | some (.ret, s') =>
    match ahvZ H.length fn s' with
    | some r => some (aaVZ H.length r)
    | none => none
   | _ => none
   else none
end Go.AM
end
