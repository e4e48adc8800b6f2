/- Part 1 of the proof that stands in the last text of this folder (lemmas; no statement of its own). -/
import Derived.Calls
import Derived.Orders
import Derived.Laws.World
section
namespace Go.Proofs.AM
open Go
inductive AV where
  | undef
  | bool (b : Bool)
  | int (k : IntKind) (n : Int)
  | str (l : List UInt8)
  | fn (f : Nat) (first caps : List AV)
  | nilFn
  | ptr (o v off : Nat)
  | vp (o v n k i off : Nat)
  | nilPtr
  | ep (row : List AV) (off : Nat)
  | sl (full : Bool) (rows : List (List AV))
  | sr (o v n : Nat)
  | mp (o v : Nat)
  | own (k : Nat) (rows : List (List AV))
  | agg (cs : List AV)
  | tup (vs : List AV)
  deriving Inhabited
inductive AObj where
  | gone (v : Nat)
  | box (v : Nat) (cells : List AV)
  | vec (v k : Nat) (rows : List (List AV))
  | map (v : Nat) (es : List (AV × AV))
  deriving Inhabited
def AObj.ver : AObj → Nat
  | .gone v | .box v _ | .vec v _ _ | .map v _ => v
inductive AOpd where
  | tmp (t : Nat)
  | const (v : AV)
  deriving Inhabited
inductive Tag where
  | bool
  | int
  | str
  deriving Inhabited, DecidableEq
inductive EqK where
  | no
  | bool
  | func
  | ptr
  | cells (tags : List Tag)
  deriving Inhabited, DecidableEq
inductive AConv where
  | toInt (k : IntKind)
  | same
  | s2b
  | b2s
  | i2s
  deriving Inhabited, DecidableEq
inductive AOp where
  | bad
  | mov (x : AOpd)
  | pick (c a b : AOpd)
  | alloc (zs : List AV)
  | box (k : Nat) (x : AOpd)
  | build (zs : List AV) (parts : List (Nat × Nat × AOpd))
  | bsl (k : Nat) (zs : List AV) (n : Nat) (parts : List (Nat × AOpd))
  | load (k : Nat) (agg : Bool) (x : AOpd)
  | store (k : Nat) (x v : AOpd)
  | nilck (x : AOpd)
  | isnil (neg : Bool) (x : AOpd)
  | bin (op : BinOp) (ek : EqK) (x y : AOpd)
  | un (op : UnOp) (x : AOpd)
  | conv (c : AConv) (x : AOpd)
  | mkf (f : Nat) (first caps : List AOpd)
  | mks (k bytes : Nat) (zs : List AV) (len cap : AOpd)
  | sliceS (x : AOpd) (lo hi : Option AOpd)
  | sliceV (k : Nat) (x : AOpd) (lo hi mx : Option AOpd)
  | sliceA (n k : Nat) (x : AOpd) (lo hi mx : Option AOpd)
  | fa (off : Nat) (x : AOpd)
  | fld (off k : Nat) (agg : Bool) (x : AOpd)
  | iaV (x i : AOpd) (k : Nat)
  | iaA (n k : Nat) (x i : AOpd)
  | ixS (x i : AOpd)
  | ixA (n k : Nat) (agg : Bool) (x i : AOpd)
  | lenS (x : AOpd)
  | lenV (x : AOpd)
  | lenC (n : Nat)
  | mm (mx : Bool) (xs : List AOpd)
  | app (k bytes : Nat) (s x : AOpd)
  | ext (i : Nat) (x : AOpd)
  | callv (f : AOpd) (args : List AOpd)
  | mkmap
  | ins (m k v : AOpd)
  | look (zero : AV) (m k : AOpd) (ok : Bool)
  deriving Inhabited
structure AOper where
  dst : Option Nat
  op : AOp
  guard : Option (Option Nat × Bool)
  pre : List Nat
  deriving Inhabited
inductive ACode where
  | skip
  | bad
  | region (draw : Bool) (ops : List AOper)
  | seq (a b : ACode)
  | cond (c : AOpd) (a b : ACode)
  | block (id : Nat) (c : ACode)
  | loop (c : ACode)
  | exit (id : Nat)
  | ret
  | frz (ts : List (Nat × Nat))
  deriving Inhabited
inductive ARes where
  | tmp (t : Nat)
  | cell (t k : Nat) (agg : Bool)
  deriving Inhabited
structure AFn where
  ntmps : Nat
  sites : List Nat
  results : List ARes
  body : ACode
  deriving Inhabited
structure AProg where
  fn : Nat → Option AFn
  prim : Nat → Option (List AV → Option AV)
def AOpd.ev (ρ : List AV) : AOpd → AV
  | .tmp t => (ρ[t]?).getD .undef
  | .const v => v
def AV.strip1 : AV → AV
  | .sl _ rows => .sl false rows
  | v => v
def AV.strip : AV → AV
  | .agg cs => .agg (cs.map AV.strip1)
  | .tup vs => .tup (vs.map fun
      | .agg cs => .agg (cs.map AV.strip1)
      | v => v.strip1)
  | v => v.strip1
def AV.cells : AV → List AV
  | .agg cs => cs
  | v => [v]
def AV.atom : AV → Bool
  | .bool _ | .int _ _ | .str _ | .nilFn | .nilPtr => true
  | _ => false
def AV.atomic : AV → Bool
  | .agg cs => cs.all AV.atom
  | .tup vs => vs.all AV.atom
  | v => v.atom
def AV.still : AV → Bool
  | .sr .. | .own .. | .agg _ | .tup _ | .undef => false
  | _ => true
def AV.cellOk : AV → Bool
  | .own .. | .agg _ | .tup _ | .undef => false
  | _ => true
mutual
def AV.under (n : Nat) : AV → Bool
  | .fn _ xs ys => underL n xs && underL n ys
  | .ptr o _ _ => decide (o < n)
  | .vp o _ _ _ _ _ => decide (o < n)
  | .sr o _ _ => decide (o < n)
  | .mp o _ => decide (o < n)
  | .ep row _ => underL n row
  | .sl _ rows => underLL n rows
  | .own _ rows => underLL n rows
  | .agg cs => underL n cs
  | .tup vs => underL n vs
  | _ => true
def underL (n : Nat) : List AV → Bool
  | [] => true
  | v :: r => v.under n && underL n r
def underLL (n : Nat) : List (List AV) → Bool
  | [] => true
  | l :: r => underL n l && underLL n r
end
def AObj.under (n : Nat) : AObj → Bool
  | .gone _ => true
  | .box _ cs => underL n cs
  | .vec _ _ rows => underLL n rows
  | .map _ es => es.all fun (k, v) => k.under n && v.under n
def lend1 (H : List AObj) : AV → Option (AV × List Nat)
  | .sr o v n =>
    match H[o]? with
    | some (.vec v' _ rows) => if v' = v ∧ rows.length = n ∧ rows.all (fun r => r.all AV.still) then some (.sl false rows, [o]) else none
    | _ => none
  | .own .. | .tup _ => none
  | v => some (v, [])
def lendL (H : List AObj) : List AV → Option (List AV × List Nat)
  | [] => some ([], [])
  | a :: r =>
    match lend1 H a with
    | none => none
    | some (a', l) =>
      match lendL H r with
      | none => none
      | some (r', l') => some (a' :: r', l ++ l')
def lend (H : List AObj) : AV → Option (AV × List Nat)
  | .agg cs => match lendL H cs with
    | some (cs', l) => some (.agg cs', l)
    | none => none
  | .tup _ => none
  | v => lend1 H v
def lendAll (H : List AObj) : List AV → Option (List AV × List Nat)
  | [] => some ([], [])
  | a :: r =>
    match lend H a with
    | none => none
    | some (a', l) =>
      match lendAll H r with
      | none => none
      | some (r', l') => some (a' :: r', l ++ l')
def goneAll (H : List AObj) : List Nat → List AObj
  | [] => H
  | o :: r => goneAll (H.set o (.gone ((H[o]?).elim 0 AObj.ver))) r
def chunk (k : Nat) : (n : Nat) → List AV → List (List AV)
  | 0, _ => []
  | n + 1, l => l.take k :: chunk k n (l.drop k)
def readCells (H : List AObj) (k : Nat) : AV → Option (List AV)
  | .ptr o v off =>
    match H[o]? with
    | some (.box v' cells) => if v' = v ∧ off + k ≤ cells.length then some ((cells.drop off).take k) else none
    | _ => none
  | .vp o v n k1 i off =>
    match H[o]? with
    | some (.vec v' k2 rows) =>
      if v' = v ∧ rows.length = n ∧ k2 = k1 then
        match rows[i]? with
        | some row => if off + k ≤ row.length then some ((row.drop off).take k) else none
        | none => none
      else none
    | _ => none
  | .ep row off => if off + k ≤ row.length then some ((row.drop off).take k) else none
  | _ => none
def ofCells (agg : Bool) : List AV → Option AV
  | cs => if agg then some (.agg cs) else match cs with
    | [v] => some v
    | _ => none
def bytesLt : List UInt8 → List UInt8 → Bool
  | _, [] => false
  | [], _ :: _ => true
  | a :: x, b :: y => a < b || (a == b && bytesLt x y)
def eqAtom : Tag → AV → AV → Option Bool
  | .bool, .bool a, .bool b => some (a == b)
  | .int, .int k a, .int k' b => if k = k' then some (a == b) else none
  | .str, .str a, .str b => some (a == b)
  | _, _, _ => none
def eqCells : List Tag → List AV → List AV → Option Bool
  | [], [], [] => some true
  | t :: ts, a :: x, b :: y =>
    match eqAtom t a b with
    | some true => eqCells ts x y
    | some false => match eqCells ts x y with
      | some _ => some false
      | none => none
    | none => none
  | _, _, _ => none
def eqOther : EqK → AV → AV → Option Bool
  | .bool, .bool a, .bool b => some (a == b)
  | .cells ts, .agg xs, .agg ys => eqCells ts xs ys
  | .func, .nilFn, .nilFn => some true
  | .func, .fn .., .nilFn => some false
  | .func, .nilFn, .fn .. => some false
  | .ptr, .nilPtr, .nilPtr => some true
  | _, _, _ => none
def binV (op : BinOp) (ek : EqK) : AV → AV → Option AV
  | .int k a, .int k' b =>
    match op with
    | .shl => if b < 0 then none else some (.int k (k.wrap (a * 2 ^ (min b.toNat k.bits))))
    | .shr => if b < 0 then none else some (.int k (a.fdiv (2 ^ (min b.toNat k.bits))))
    | .add => if k = k' then some (.int k (k.wrap (a + b))) else none
    | .sub => if k = k' then some (.int k (k.wrap (a - b))) else none
    | .mul => if k = k' then some (.int k (k.wrap (a * b))) else none
    | .quo => if k = k' ∧ b ≠ 0 then some (.int k (k.wrap (a.tdiv b))) else none
    | .rem => if k = k' ∧ b ≠ 0 then some (.int k (a.tmod b)) else none
    | .and => if k = k' then some (.int k (k.wrap (BitVec.ofInt k.bits a &&& BitVec.ofInt k.bits b).toNat)) else none
    | .or => if k = k' then some (.int k (k.wrap (BitVec.ofInt k.bits a ||| BitVec.ofInt k.bits b).toNat)) else none
    | .xor => if k = k' then some (.int k (k.wrap (BitVec.ofInt k.bits a ^^^ BitVec.ofInt k.bits b).toNat)) else none
    | .eql => if k = k' then some (.bool (a == b)) else none
    | .neq => if k = k' then some (.bool (a != b)) else none
    | .lss => if k = k' then some (.bool (decide (a < b))) else none
    | .leq => if k = k' then some (.bool (decide (a ≤ b))) else none
    | .gtr => if k = k' then some (.bool (decide (a > b))) else none
    | .geq => if k = k' then some (.bool (decide (a ≥ b))) else none
    | _ => none
  | .str a, .str b =>
    match op with
    | .add => if a.length + b.length ≤ 4611686018427387904 then some (.str (a ++ b)) else none
    | .eql => some (.bool (a == b))
    | .neq => some (.bool (a != b))
    | .lss => some (.bool (bytesLt a b))
    | .leq => some (.bool (bytesLt a b || a == b))
    | .gtr => some (.bool !(bytesLt a b || a == b))
    | .geq => some (.bool !bytesLt a b)
    | _ => none
  | x, y =>
    match op with
    | .eql => (eqOther ek x y).map .bool
    | .neq => (eqOther ek x y).map fun b => .bool !b
    | _ => none
def unV (op : UnOp) : AV → Option AV
  | .int k n => match op with
    | .neg => some (.int k (k.wrap (0 - n)))
    | .xor => some (.int k (k.wrap (BitVec.ofInt k.bits (if k.signed then -1 else k.max) ^^^ BitVec.ofInt k.bits n).toNat))
    | _ => none
  | .bool b => match op with
    | .not => some (.bool !b)
    | _ => none
  | _ => none
def bytesOfRows : List (List AV) → Option (List UInt8)
  | [] => some []
  | [.int .u8 n] :: r => (bytesOfRows r).map (UInt8.ofNat n.toNat :: ·)
  | _ => none
def rowsOfBytes (l : List UInt8) : List (List AV) := l.map fun b => [.int .u8 b.toNat]
def headOk (k : Nat) : List (List AV) → Bool
  | [] => true
  | r :: _ => r.length == k
def rowsOf (H : List AObj) : AV → Option (List (List AV))
  | .sl _ rows => some rows
  | .sr o v n =>
    match H[o]? with
    | some (.vec v' _ rows) => if v' = v ∧ rows.length = n then some rows else none
    | _ => none
  | _ => none
def convV (H : List AObj) : AConv → AV → Option AV
  | .toInt k, .int _ n => some (.int k (k.wrap n))
  | .same, .str l => some (.str l)
  | .s2b, .str l => if l.length ≤ 1099511627776 then some (.sl false (rowsOfBytes l)) else none
  | .b2s, x => match rowsOf H x with
    | some rows => (bytesOfRows rows).map .str
    | none => none
  | .i2s, .int _ n => if 0 ≤ n ∧ n < 128 then some (.str [UInt8.ofNat n.toNat]) else none
  | _, _ => none
def boundV (dflt most : Nat) : Option AV → Option Nat
  | none => some dflt
  | some (.int _ n) => if 0 ≤ n ∧ n ≤ most then some n.toNat else none
  | some _ => none
def bounds (len : Nat) (lo hi mx : Option AV) : Option (Nat × Nat × Nat) :=
  match boundV len len mx with
  | none => none
  | some m => match boundV len m hi with
    | none => none
    | some h => match boundV 0 h lo with
      | none => none
      | some l => some (l, h, m)
def fillRow (cells : List AV) (off : Nat) (vs : List AV) : List AV := cells.take off ++ vs ++ cells.drop (off + vs.length)
def buildCells (ρ : List AV) (cells : List AV) : List (Nat × Nat × AOpd) → Option (List AV)
  | [] => some cells
  | (off, size, x) :: r =>
    let vs := (x.ev ρ).cells
    if vs.length = size ∧ off + size ≤ cells.length ∧ vs.all AV.cellOk then buildCells ρ (fillRow cells off vs) r else none
def buildRows (ρ : List AV) (k : Nat) (rows : List (List AV)) : List (Nat × AOpd) → Option (List (List AV))
  | [] => some rows
  | (i, x) :: r =>
    let vs := (x.ev ρ).strip.cells
    if vs.length = k ∧ i < rows.length ∧ vs.all AV.still then buildRows ρ k (rows.set i vs) r else none
def buildRowsC (ρ : List AV) (k : Nat) (rows : List (List AV)) : List (Nat × AOpd) → Option (List (List AV))
  | [] => some rows
  | (i, x) :: r =>
    let vs := (x.ev ρ).strip.cells
    if vs.length = k ∧ i < rows.length ∧ vs.all AV.cellOk then buildRowsC ρ k (rows.set i vs) r else none
def mm2 (mx : Bool) : AV → AV → Option AV
  | .int k a, .int k' b => if k = k' then some (.int k (if mx then (if b > a then b else a) else (if b < a then b else a))) else none
  | _, _ => none
def mmFold (mx : Bool) : AV → List AV → Option AV
  | x, [] => some x
  | x, y :: r => match mm2 mx x y with
    | some z => mmFold mx z r
    | none => none
def mmV (mx : Bool) : List AV → Option AV
  | [] => none
  | x :: r => mmFold mx x r
def eqKey : AV → AV → Option Bool
  | .int k a, .int k' b => if k = k' then some (a == b) else none
  | _, _ => none
def findKey (k : AV) : List (AV × AV) → Nat → Option (Option (Nat × AV))
  | [], _ => some none
  | (k', v) :: r, i =>
    match eqKey k k' with
    | some true => some (some (i, v))
    | some false => findKey k r (i + 1)
    | none => none
def roomy (n bytes : Nat) : Bool := decide (n * (bytes + 1) ≤ 1099511627776)
def evR (H : List AObj) (ρ : List AV) : AOp → Option AV
  | .mov x => some (x.ev ρ)
  | .pick c a b => match c.ev ρ with
    | .bool t => some (if t then a.ev ρ else b.ev ρ)
    | _ => none
  | .alloc zs => if zs.all AV.still then some (.ep (zs.map AV.strip1) 0) else none
  | .box k x =>
    let vs := (x.ev ρ).strip.cells
    if vs.length = k ∧ vs.all AV.still then some (.ep vs 0) else none
  | .build zs parts => (buildCells ρ zs parts).map .agg
  | .bsl k zs n parts => (buildRows ρ k (List.replicate n zs) parts).map (.sl true)
  | .mks _ bytes zs len cap => match len.ev ρ, cap.ev ρ with
    | .int _ n, .int _ c => if 0 ≤ n ∧ n = c ∧ roomy n.toNat bytes then some (.sl true (List.replicate n.toNat (zs.map AV.strip1))) else none
    | _, _ => none
  | .load k agg x => match readCells H k (x.ev ρ) with
    | some cs => ofCells agg cs
    | none => none
  | .nilck x => match x.ev ρ with
    | .ptr o v off => some (.ptr o v off)
    | .vp o v n k i off => some (.vp o v n k i off)
    | .ep row off => some (.ep row off)
    | .fn f a b => some (.fn f a b)
    | _ => none
  | .isnil neg x => match x.ev ρ with
    | .sl _ (_ :: _) | .sr .. => some (.bool neg)
    | _ => none
  | .bin op ek x y => binV op ek (x.ev ρ) (y.ev ρ)
  | .un op x => unV op (x.ev ρ)
  | .conv c x => convV H c (x.ev ρ)
  | .mkf f first caps => if (first.map (AOpd.ev ρ)).all AV.still && (caps.map (AOpd.ev ρ)).all AV.still then some (.fn f (first.map fun x => (x.ev ρ).strip1) (caps.map fun x => (x.ev ρ).strip1)) else none
  | .sliceS x lo hi => match x.ev ρ with
    | .str s => match bounds s.length (lo.map (AOpd.ev ρ)) (hi.map (AOpd.ev ρ)) none with
      | some (l, h, _) => some (.str ((s.take h).drop l))
      | none => none
    | _ => none
  | .sliceV k x lo hi mx => match x.ev ρ with
    | .sl full rows => match bounds rows.length (lo.map (AOpd.ev ρ)) (hi.map (AOpd.ev ρ)) (mx.map (AOpd.ev ρ)) with
      | some (l, h, m) => if headOk k rows && (!mx.isSome || hi.isSome) then some (.sl (decide (m = h) && (mx.isSome || full)) ((rows.take h).drop l)) else none
      | none => none
    | _ => none
  | .sliceA n k x lo hi mx => match x.ev ρ with
    | .ep row off => if off + n * k ≤ row.length then
        let rows := chunk k n (row.drop off)
        match bounds n (lo.map (AOpd.ev ρ)) (hi.map (AOpd.ev ρ)) (mx.map (AOpd.ev ρ)) with
        | some (l, h, m) => if !mx.isSome || hi.isSome then some (.sl (decide (m = h)) ((rows.take h).drop l)) else none
        | none => none
      else none
    | _ => none
  | .fa off x => match x.ev ρ with
    | .ptr o v off0 => some (.ptr o v (off0 + off))
    | .vp o v n k i off0 => some (.vp o v n k i (off0 + off))
    | .ep row off0 => some (.ep row (off0 + off))
    | _ => none
  | .fld off k agg x => match x.ev ρ with
    | .agg cs => if off + k ≤ cs.length then ofCells agg ((cs.drop off).take k) else none
    | _ => none
  | .iaV x i k => match x.ev ρ, i.ev ρ with
    | .sl _ rows, .int _ n => if 0 ≤ n then match rows[n.toNat]? with
        | some row => if row.length = k then some (.ep row 0) else none
        | none => none
      else none
    | .sr o v len, .int _ n => if 0 ≤ n ∧ n < len then some (.vp o v len k n.toNat 0) else none
    | _, _ => none
  | .iaA len k x i => match x.ev ρ, i.ev ρ with
    | .ptr o v off, .int _ n => if 0 ≤ n ∧ n < len then some (.ptr o v (off + n.toNat * k)) else none
    | .ep row off, .int _ n => if 0 ≤ n ∧ n < len then some (.ep row (off + n.toNat * k)) else none
    | _, _ => none
  | .ixS x i => match x.ev ρ, i.ev ρ with
    | .str s, .int _ n => if 0 ≤ n then match s[n.toNat]? with
        | some b => some (.int .u8 b.toNat)
        | none => none
      else none
    | _, _ => none
  | .ixA len k agg x i => match x.ev ρ, i.ev ρ with
    | .agg cs, .int _ n => if 0 ≤ n ∧ n < len ∧ n.toNat * k + k ≤ cs.length then ofCells agg ((cs.drop (n.toNat * k)).take k) else none
    | _, _ => none
  | .lenS x => match x.ev ρ with
    | .str s => some (.int .i64 s.length)
    | _ => none
  | .lenV x => match x.ev ρ with
    | .sl _ rows => some (.int .i64 rows.length)
    | .sr _ _ n => some (.int .i64 n)
    | _ => none
  | .lenC n => some (.int .i64 n)
  | .mm mx xs => mmV mx (xs.map (AOpd.ev ρ))
  | .ext i x => match x.ev ρ with
    | .tup vs => vs[i]?
    | _ => none
  | .look zero m k ok => match m.ev ρ with
    | .mp o v => match H[o]? with
      | some (.map v' es) => if v' = v then
          match findKey (k.ev ρ) es 0 with
          | some (some (_, x)) => if ok then some (.tup [x, .bool true]) else some x
          | some none => if ok then some (.tup [zero, .bool false]) else some zero
          | none => none
        else none
      | _ => none
    | _ => none
  | _ => none
def rdOf (ρ : List AV) : AOp → List Nat
  | .load _ _ x => match x.ev ρ with
    | .ptr o _ _ => [o]
    | .vp o _ _ _ _ _ => [o]
    | _ => []
  | .conv .b2s x => match x.ev ρ with
    | .sr o _ _ => [o]
    | _ => []
  | .look _ m _ _ => match m.ev ρ with
    | .mp o _ => [o]
    | _ => []
  | _ => []
abbrev Out := Option (AV × List AObj × List Nat)
def make (H : List AObj) (id : Nat) (mk : Nat → AObj) : List AObj := H.set id (mk ((H[id]?).elim 0 AObj.ver + 1))
def verAt (H : List AObj) (id : Nat) : Nat := (H[id]?).elim 0 AObj.ver + 1
def storeCells (H : List AObj) (vs : List AV) : AV → Option (List AObj × List Nat)
  | .ptr o v off =>
    match H[o]? with
    | some (.box v' cells) =>
      if v' = v ∧ off + vs.length ≤ cells.length then some (H.set o (.box v (fillRow cells off vs)), [o]) else none
    | _ => none
  | .vp o v n k1 i off =>
    match H[o]? with
    | some (.vec v' k rows) =>
      if v' = v ∧ rows.length = n ∧ k = k1 then
        match rows[i]? with
        | some row => if off + vs.length ≤ row.length ∧ (vs.map AV.strip1).all AV.cellOk then some (H.set o (.vec v k (rows.set i (fillRow row off (vs.map AV.strip1)))), [o]) else none
        | none => none
      else none
    | _ => none
  | _ => none
def fix (H : List AObj) (v : AV) : Option (AV × List AObj × List Nat) :=
  match lend H v with
  | some (v', l) => some (v'.strip, goneAll H l, l)
  | none => none
def fixRows (ρ : List AV) (k : Nat) (H : List AObj) (rows : List (List AV)) : List (Nat × AOpd) → Option (List (List AV) × List AObj × List Nat)
  | [] => some (rows, H, [])
  | (i, x) :: r =>
    match fix H (x.ev ρ) with
    | some (v, H', l) =>
      if v.cells.length = k ∧ i < rows.length ∧ v.cells.all AV.still then
        match fixRows ρ k H' (rows.set i v.cells) r with
        | some (rows', H'', l') => some (rows', H'', l ++ l')
        | none => none
      else none
    | none => none
def appRows (H : List AObj) : AV → Option (List (List AV))
  | .str l => some (rowsOfBytes l)
  | x => rowsOf H x
def evApp (H : List AObj) (site : Option Nat) (k bytes : Nat) (s x : AV) : Out :=
  match appRows H x with
  | none => none
  | some new =>
    if !headOk k new then none else
    match s with
    | .sl full rows =>
      if new.isEmpty then some (.sl full rows, H, [])
      else if full && headOk k rows && roomy (rows.length + new.length) bytes then
        match site with
        | some id => if id < H.length then some (.sr id (verAt H id) (rows.length + new.length), make H id (.vec · k (rows ++ new)), [id]) else none
        | none => none
      else none
    | .sr o v n =>
      match H[o]? with
      | some (.vec v' k' rows) =>
        if v' = v ∧ rows.length = n ∧ k' = k ∧ roomy (n + new.length) bytes then
          if new.isEmpty then some (.sr o v n, H, []) else
          some (.sr o v (n + new.length), H.set o (.vec v k (rows ++ new)), [o])
        else none
      | _ => none
    | _ => none
def evCallv (call : Nat → List AV → List AObj → Out) (H : List AObj) (site : Option Nat) (f : AV) (args : List AV) : Out :=
  match f with
  | .fn f first caps =>
    match lendAll H (first ++ args ++ caps) with
    | none => none
    | some (args', lent) =>
      match call f (args'.map AV.strip) (goneAll H lent) with
      | none => none
      | some (v, H', wr) =>
        if lent.isEmpty then
          match v with
          | .own k rows =>
            match site with
            | some id => if id < H'.length then some (.sr id (verAt H' id) rows.length, make H' id (.vec · k rows), if wr.contains id then wr else id :: wr) else none
            | none => some (.sl false rows, H', wr)
          | v => some (v, H', wr)
        else if wr.isEmpty && decide (H'.length = H.length) && v.atomic then some (v, H, []) else none
  | _ => none
def evW (call : Nat → List AV → List AObj → Out) (H : List AObj) (ρ : List AV) (site : Option Nat) : AOp → Out
  | .alloc zs => match site with
    | some id => if id < H.length then some (.ptr id (verAt H id) 0, make H id (.box · zs), [id]) else none
    | none => none
  | .box k x => match site with
    | some id => if id < H.length ∧ (x.ev ρ).cells.length = k ∧ (x.ev ρ).cells.all AV.cellOk then some (.ptr id (verAt H id) 0, make H id (.box · (x.ev ρ).cells), [id]) else none
    | none => none
  | .store k x v => if (v.ev ρ).cells.length = k ∧ (v.ev ρ).cells.all AV.cellOk then
      match storeCells H (v.ev ρ).cells (x.ev ρ) with
      | some (H', wr) => some (.undef, H', wr)
      | none => none
    else none
  | .bsl k zs n parts => match site with
    | some id => match buildRowsC ρ k (List.replicate n zs) parts with
      | some rows => if id < H.length then some (.sr id (verAt H id) n, make H id (.vec · k rows), [id]) else none
      | none => none
    | none => match fixRows ρ k H (List.replicate n zs) parts with
      | some (rows, H', wr) => some (.sl true rows, H', wr)
      | none => none
  | .mks k bytes zs len cap => match len.ev ρ, cap.ev ρ with
    | .int _ n, .int _ c =>
      if 0 ≤ n ∧ n = c ∧ roomy n.toNat bytes then
        match site with
        | some id => if id < H.length then some (.sr id (verAt H id) n.toNat, make H id (.vec · k (List.replicate n.toNat (zs.map AV.strip1))), [id]) else none
        | none => some (.sl true (List.replicate n.toNat (zs.map AV.strip1)), H, [])
      else none
    | _, _ => none
  | .app k bytes s x => evApp H site k bytes (s.ev ρ) (x.ev ρ)
  | .callv f args => evCallv call H site (f.ev ρ) (args.map (AOpd.ev ρ))
  | .mkmap => match site with
    | some id => if id < H.length then some (.mp id (verAt H id), make H id (.map · []), [id]) else none
    | none => none
  | .ins m k v => match m.ev ρ, k.ev ρ with
    | .mp o ver, key => match H[o]? with
      | some (.map v' es) =>
        if v' = ver ∧ (eqKey key key).isSome ∧ (v.ev ρ).strip.cells.all AV.still then
          match findKey key es 0 with
          | some (some (i, _)) => some (.undef, H.set o (.map ver (es.set i (key, (v.ev ρ).strip))), [o])
          | some none => some (.undef, H.set o (.map ver (es ++ [(key, (v.ev ρ).strip)])), [o])
          | none => none
        else none
      | _ => none
    | _, _ => none
  | _ => none
def isW (site : Option Nat) (inDraw : Bool) : AOp → Bool
  | .alloc _ | .box .. => site.isSome
  | .bsl .. | .mks .. => site.isSome || !inDraw
  | .store .. | .app .. | .callv .. | .mkmap | .ins .. => true
  | _ => false
structure ASt where
  ρ : List AV
  H : List AObj
  wr : List Nat
  deriving Inhabited
def putSlot (ρ : List AV) (dst : Option Nat) (v : AV) : List AV :=
  match dst with
  | some d => ρ.set d v
  | none => ρ
def addWr (base : Nat) (wr : List Nat) : List Nat → List Nat
  | [] => wr
  | o :: r => if o < base ∧ ¬ wr.contains o then addWr base (o :: wr) r else addWr base wr r
structure Ctx where
  base : Nat
  sites : List Nat
def Ctx.site (c : Ctx) (dst : Option Nat) : Option Nat :=
  match dst with
  | none => none
  | some t => (c.sites.idxOf? t).map (c.base + ·)
def evOp (call : Nat → List AV → List AObj → Out) (c : Ctx) (inDraw : Bool) (H : List AObj) (ρ : List AV) (o : AOper) : Out :=
  if isW (c.site o.dst) inDraw o.op then evW call H ρ (c.site o.dst) o.op
  else match evR H ρ o.op with
    | some v => some (v, H, [])
    | none => none
def wanted (ρ : List AV) (o : AOper) : Bool :=
  match o.guard with
  | none => true
  | some (none, _) => false
  | some (some t, want) => match ρ[t]? with
    | some (.bool b) => b == want
    | _ => false
def guardOk (ρ : List AV) (o : AOper) : Bool :=
  match o.guard with
  | none => true
  | some (none, _) => false
  | some (some t, _) => match ρ[t]? with
    | some (.bool _) => true
    | _ => false
def evOps (call : Nat → List AV → List AObj → Out) (c : Ctx) : List AOper → ASt → Option ASt
  | [], s => some s
  | o :: r, s =>
    if guardOk s.ρ o then
      if wanted s.ρ o then
        match evOp call c false s.H s.ρ o with
        | some (v, H', wr) => evOps call c r ⟨putSlot s.ρ o.dst v, H', addWr c.base s.wr wr⟩
        | none => none
      else evOps call c r ⟨putSlot s.ρ o.dst .undef, s.H, s.wr⟩
    else none
abbrev Log := List (Nat × List Nat × Option (List Nat))
def apartL (a b : List Nat) : Bool := a.all fun x => !b.contains x
def logOk (pre : Nat → List Nat) : Log → Bool
  | [] => true
  | (i, rd, wr) :: r =>
    (r.all fun (j, rd', wr') =>
      (pre j).contains i ||
      (match wr, wr' with
       | some _, some _ => false
       | some ws, none => apartL rd' ws
       | none, some ws => apartL rd ws
       | none, none => true)) && logOk pre r
def isAlloc : AOp → Bool
  | .alloc _ => true
  | _ => false
def AOpd.slot : AOpd → List Nat
  | .tmp t => [t]
  | .const _ => []
def oslot : Option AOpd → List Nat
  | none => []
  | some x => x.slot
def AOp.slots : AOp → List Nat
  | .bad | .alloc _ | .lenC _ | .mkmap => []
  | .mov x | .box _ x | .load _ _ x | .nilck x | .isnil _ x | .un _ x | .conv _ x | .fa _ x | .fld _ _ _ x | .lenS x | .lenV x | .ext _ x => x.slot
  | .pick c a b => c.slot ++ a.slot ++ b.slot
  | .build _ ps => ps.flatMap fun p => p.2.2.slot
  | .bsl _ _ _ ps => ps.flatMap fun p => p.2.slot
  | .store _ x v => x.slot ++ v.slot
  | .bin _ _ x y => x.slot ++ y.slot
  | .mkf _ f c => f.flatMap AOpd.slot ++ c.flatMap AOpd.slot
  | .mks _ _ _ l c => l.slot ++ c.slot
  | .sliceS x lo hi => x.slot ++ oslot lo ++ oslot hi
  | .sliceV _ x lo hi mx => x.slot ++ oslot lo ++ oslot hi ++ oslot mx
  | .sliceA _ _ x lo hi mx => x.slot ++ oslot lo ++ oslot hi ++ oslot mx
  | .iaV x i _ => x.slot ++ i.slot
  | .iaA _ _ x i => x.slot ++ i.slot
  | .ixS x i => x.slot ++ i.slot
  | .ixA _ _ _ x i => x.slot ++ i.slot
  | .mm _ xs => xs.flatMap AOpd.slot
  | .app _ _ s x => s.slot ++ x.slot
  | .callv f xs => f.slot ++ xs.flatMap AOpd.slot
  | .ins m k v => m.slot ++ k.slot ++ v.slot
  | .look _ m k _ => m.slot ++ k.slot
def AOper.names (o : AOper) : List Nat :=
  o.dst.toList ++ o.op.slots ++ (match o.guard with | some (some t, _) => [t] | _ => [])
def clashOk (i : Nat) (o : AOper) (j : Nat) (p : AOper) : Bool :=
  match p.dst with
  | none => true
  | some t => !o.names.contains t || (if i < j then p.pre.contains i else o.pre.contains j)
def drawOk (ops : List AOper) : Bool :=
  ops.zipIdx.all fun (o, i) => o.pre.all (fun k => decide (k < i)) && ops.zipIdx.all fun (p, j) => i == j || clashOk i o j p
def preAlloc (c : Ctx) (H : List AObj) : List AOper → Option (List AObj)
  | [] => some H
  | o :: r =>
    match o.op, c.site o.dst with
    | .alloc zs, some id => if id < H.length ∧ o.guard.isNone ∧ o.pre.isEmpty then preAlloc c (make H id (.box · zs)) r else none
    | _, _ => preAlloc c H r
def evOpD (call : Nat → List AV → List AObj → Out) (c : Ctx) (H : List AObj) (ρ : List AV) (o : AOper) : Option (AV × List AObj × List Nat × Option (List Nat)) :=
  match o.op, c.site o.dst with
  | .alloc _, some id => some (.ptr id ((H[id]?).elim 0 AObj.ver) 0, H, [id], none)
  | op, site =>
    if isW site true op then
      match evW call H ρ site op with
      | some (v, H', wr) => if H'.length = H.length then some (v, H', [], some wr) else none
      | none => none
    else match evR H ρ op with
      | some v => some (v, H, rdOf ρ op, none)
      | none => none
def evOpsD (call : Nat → List AV → List AObj → Out) (c : Ctx) : Nat → List AOper → ASt → Option (ASt × Log)
  | _, [], s => some (s, [])
  | i, o :: r, s =>
    if guardOk s.ρ o then
      if wanted s.ρ o then
        match evOpD call c s.H s.ρ o with
        | some (v, H', rd, wr) =>
          match evOpsD call c (i + 1) r ⟨putSlot s.ρ o.dst v, H', addWr c.base s.wr (wr.getD [])⟩ with
          | some (s', log) => some (s', (i, rd, wr) :: log)
          | none => none
        | none => none
      else evOpsD call c (i + 1) r ⟨putSlot s.ρ o.dst .undef, s.H, s.wr⟩
    else none
def evRegion (call : Nat → List AV → List AObj → Out) (c : Ctx) (draw : Bool) (ops : List AOper) (s : ASt) : Option ASt :=
  if draw && drawOk ops then
    match preAlloc c s.H ops with
    | some H0 =>
      match evOpsD call c 0 ops ⟨s.ρ, H0, s.wr⟩ with
      | some (s', log) => if logOk (fun j => ((ops[j]?).map AOper.pre).getD []) log then some s' else none
      | none => none
    | none => none
  else if draw then none
  else evOps call c ops s
inductive AExit where
  | normal
  | exit (id : Nat)
  | ret
  deriving DecidableEq
def AV.isUndef : AV → Bool
  | .undef => true
  | _ => false
def evFrz (c : Ctx) (s : ASt) : List (Nat × Nat) → Option ASt
  | [] => some s
  | (k + 1, t) :: r =>
    if ((s.ρ[t]?).getD .undef).isUndef then evFrz c s r else
    match readCells s.H (k + 1) ((s.ρ[t]?).getD .undef) with
    | some cs =>
      match fix s.H (.agg cs) with
      | some (.agg cs', H', l) =>
        match storeCells H' cs' ((s.ρ[t]?).getD .undef) with
        | some (H'', l') => evFrz c ⟨s.ρ, H'', addWr c.base s.wr (l ++ l')⟩ r
        | none => none
      | _ => none
    | none => none
  | (0, t) :: r =>
    match fix s.H ((s.ρ[t]?).getD .undef) with
    | some (v, H', l) => evFrz c ⟨s.ρ.set t v, H', addWr c.base s.wr l⟩ r
    | none => none
def resV (H : List AObj) (ρ : List AV) : ARes → Option AV
  | .tmp t => some ((ρ[t]?).getD .undef)
  | .cell t k agg => match readCells H k ((ρ[t]?).getD .undef) with
    | some cs => ofCells agg cs
    | none => none
def resVs (H : List AObj) (ρ : List AV) : List ARes → Option (List AV)
  | [] => some []
  | r :: rs => match resV H ρ r with
    | none => none
    | some v => match resVs H ρ rs with
      | none => none
      | some vs => some (v :: vs)
def finV (base : Nat) (H : List AObj) : AV → Option (AV × List AObj × List Nat)
  | .sr o v n =>
    match H[o]? with
    | some (.vec v' k rows) => if v' = v ∧ rows.length = n ∧ base ≤ o ∧ rows.all (fun r => r.all AV.still) then some (.own k rows, goneAll H [o], [o]) else none
    | _ => none
  | x => fix H x
def finVs (H : List AObj) : List AV → Option (List AV × List AObj × List Nat)
  | [] => some ([], H, [])
  | v :: r => match fix H v with
    | none => none
    | some (v', H', l) => match finVs H' r with
      | none => none
      | some (r', H'', l') => some (v' :: r', H'', l ++ l')
def finish (base : Nat) (fn : AFn) (s : ASt) : Out :=
  match resVs s.H s.ρ fn.results with
  | none => none
  | some [v] => match finV base s.H v with
    | some (v', H', l) => some (v', H', addWr base s.wr l)
    | none => none
  | some vs => match finVs s.H vs with
    | some (vs', H', l) => some (.tup vs', H', addWr base s.wr l)
    | none => none
def cutBack (base : Nat) : AV × List AObj × List Nat → AV × List AObj × List Nat
  | (v, H, wr) =>
    if v.under base && wr.all (fun o => match H[o]? with | some x => x.under base | none => true) then (v, H.take base, wr) else (v, H, wr)
def enterSt (fn : AFn) (args : List AV) (H : List AObj) : ASt :=
  ⟨args ++ List.replicate (fn.ntmps - args.length) .undef, H ++ List.replicate fn.sites.length (.gone 0), []⟩
def evCode (A : AProg) : Nat → Ctx → ACode → ASt → Option (AExit × ASt)
  | 0, _, _, _ => none
  | n + 1, c, code, s =>
    let call (f : Nat) (args : List AV) (H : List AObj) : Out :=
      match (A.prim f).bind (· args) with
      | some v => some (v, H, [])
      | none =>
        match A.fn f with
        | none => none
        | some fn =>
          match evCode A n ⟨H.length, fn.sites⟩ fn.body (enterSt fn args H) with
          | some (.normal, s') | some (.ret, s') =>
            match finish H.length fn s' with
            | some r => some (cutBack H.length r)
            | none => none
          | _ => none
    match code with
    | .skip => some (.normal, s)
    | .bad => none
    | .region draw ops => match evRegion call c draw ops s with
      | some s' => some (.normal, s')
      | none => none
    | .seq a b => match evCode A n c a s with
      | some (.normal, s') => evCode A n c b s'
      | r => r
    | .cond x a b => match x.ev s.ρ with
      | .bool true => evCode A n c a s
      | .bool false => evCode A n c b s
      | _ => none
    | .block id b => match evCode A n c b s with
      | some (.exit id', s') => if id' = id then some (.normal, s') else some (.exit id', s')
      | r => r
    | .loop b => match evCode A n c b s with
      | some (.normal, s') => evCode A n c (.loop b) s'
      | r => r
    | .exit id => some (.exit id, s)
    | .ret => some (.ret, s)
    | .frz ts => match evFrz c s ts with
      | some s' => some (.normal, s')
      | none => none
def evCall (A : AProg) (n : Nat) (f : Nat) (args : List AV) (H : List AObj) : Out :=
  match (A.prim f).bind (· args) with
  | some v => some (v, H, [])
  | none =>
    match A.fn f with
    | none => none
    | some fn =>
      match evCode A n ⟨H.length, fn.sites⟩ fn.body (enterSt fn args H) with
      | some (.normal, s') | some (.ret, s') =>
        match finish H.length fn s' with
        | some r => some (cutBack H.length r)
        | none => none
      | _ => none
end Go.Proofs.AM
end
section
namespace Go.Proofs.AM
open Go
structure Loc where
  b : Nat
  st : Nat
  len : Nat
  k : Nat
  cap : Nat
structure G where
  perm : Nat → Nat → Option Value
  obj : Nat → Option Loc
  whole : Nat → Option Obj
  io : Os × Array (Nat × ByteArray)
inductive VRel (g : G) : AV → Value → Prop where
  | undef (x : Value) : VRel g .undef x
  | bool (b : Bool) : VRel g (.bool b) (.bool b)
  | int (k : IntKind) (n : Int) : VRel g (.int k n) (.int k n)
  | str (s : ByteArray) : VRel g (.str s.data.toList) (.string s)
  | fn (f : Nat) (first caps : List AV) (vf vc : Array Value)
      (hf : first.length = vf.size) (hc : caps.length = vc.size)
      (h1 : ∀ (i : Nat) a x, first[i]? = some a → vf[i]? = some x → VRel g a x)
      (h2 : ∀ (i : Nat) a x, caps[i]? = some a → vc[i]? = some x → VRel g a x) : VRel g (.fn f first caps) (.func (.func f) vf vc)
  | nilFn : VRel g .nilFn .nilFunc
  | ptr (o v off : Nat) (l : Loc) (a : Addr) (hl : g.obj o = some l) (hv : v ≤ l.st)
      (h : l.st = v → l.len = 0 → a = ⟨l.b, off, none⟩) : VRel g (.ptr o v off) (.pointer (some a))
  | vp (o v n k i off : Nat) (l : Loc) (a : Addr) (hl : g.obj o = some l) (hv : v ≤ l.st) (hn : l.st = v → n ≤ l.len)
      (h : l.st = v → l.len = n → a = ⟨l.b, i * k + off, none⟩) : VRel g (.vp o v n k i off) (.pointer (some a))
  | nilPtr : VRel g .nilPtr (.pointer none)
  | ep (row : List AV) (off b base : Nat) (hst : row.all AV.still = true)
      (hp : ∀ j, j < row.length → (g.perm b (base + j)).isSome)
      (h : ∀ (j : Nat) a x, row[j]? = some a → g.perm b (base + j) = some x → VRel g a x) : VRel g (.ep row off) (.pointer (some ⟨b, base + off, none⟩))
  | slNil (full : Bool) : VRel g (.sl full []) (.slice none 0 0)
  | sl (full : Bool) (rows : List (List AV)) (b off cap k : Nat) (hcap : rows.length ≤ cap) (hfull : full = true → cap = rows.length)
      (hk : ∀ (row : List AV), row ∈ rows → row.length = k) (hst : ∀ (row : List AV), row ∈ rows → row.all AV.still = true)
      (hp : ∀ i j, i < rows.length → j < k → (g.perm b (off + i * k + j)).isSome)
      (h : ∀ (i j : Nat) (row : List AV) a x, rows[i]? = some row → row[j]? = some a → g.perm b (off + i * k + j) = some x → VRel g a x) :
      VRel g (.sl full rows) (.slice (some ⟨b, off, none⟩) rows.length cap)
  | sr (o v n : Nat) (l : Loc) (a : Addr) (cap : Nat) (hl : g.obj o = some l) (hv : v ≤ l.st) (hn : l.st = v → n ≤ l.len)
      (h : l.st = v → l.len = n → a = ⟨l.b, 0, none⟩ ∧ cap = l.cap) : VRel g (.sr o v n) (.slice (some a) n cap)
  | mp (o v : Nat) (l : Loc) (r : Nat) (hl : g.obj o = some l) (hv : v ≤ l.st) (h : l.st = v → l.len = 0 → r = l.b) : VRel g (.mp o v) (.map (some r))
  | agg (cs : List AV) (vs : Array Value) (hs : cs.length = vs.size)
      (h : ∀ (i : Nat) a x, cs[i]? = some a → vs[i]? = some x → VRel g a x) : VRel g (.agg cs) (.agg vs)
  | tup (cs : List AV) (vs : Array Value) (hs : cs.length = vs.size)
      (h : ∀ (i : Nat) a x, cs[i]? = some a → vs[i]? = some x → VRel g a x) : VRel g (.tup cs) (.tuple vs)
def LRel (g : G) (as : List AV) (xs : List Value) : Prop :=
  as.length = xs.length ∧ ∀ (i : Nat) a x, as[i]? = some a → xs[i]? = some x → VRel g a x
structure G.le (g g' : G) : Prop where
  perm : ∀ b i x, g.perm b i = some x → g'.perm b i = some x
  obj : ∀ o l, g.obj o = some l → ∃ l', g'.obj o = some l' ∧ l.st ≤ l'.st ∧ (l'.st = l.st → l.len ≤ l'.len ∧ (l'.len = l.len → l' = l))
  whole : ∀ b x, g.whole b = some x → g'.whole b = some x
  io : g'.io = g.io
theorem G.le.refl (g : G) : g.le g := ⟨fun _ _ _ h => h, fun _ l h => ⟨l, h, Nat.le_refl _, fun _ => ⟨Nat.le_refl _, fun _ => rfl⟩⟩, fun _ _ h => h, rfl⟩
theorem G.le.trans {a b c : G} (h : a.le b) (h' : b.le c) : a.le c := by
  refine ⟨fun x i v hx => h'.perm _ _ _ (h.perm _ _ _ hx), fun o l hl => ?_, fun b x hx => h'.whole _ _ (h.whole _ _ hx), h'.io.trans h.io⟩
  obtain ⟨l1, h1, s1, e1⟩ := h.obj o l hl
  obtain ⟨l2, h2, s2, e2⟩ := h'.obj o l1 h1
  refine ⟨l2, h2, Nat.le_trans s1 s2, fun e => ?_⟩
  have x1 : l1.st = l.st := by omega
  have x2 : l2.st = l1.st := by omega
  refine ⟨Nat.le_trans (e1 x1).1 (e2 x2).1, fun e' => ?_⟩
  have y1 := (e1 x1).1
  have y2 := (e2 x2).1
  rw [(e2 x2).2 (by omega), (e1 x1).2 (by omega)]
theorem VRel.mono {g g' : G} (hg : g.le g') {a : AV} {x : Value} (h : VRel g a x) : VRel g' a x := by
  induction h with
  | undef x => exact .undef x
  | bool b => exact .bool b
  | int k n => exact .int k n
  | str s => exact .str s
  | fn f first caps vf vc hf hc h1 h2 ih1 ih2 => exact .fn f first caps vf vc hf hc ih1 ih2
  | nilFn => exact .nilFn
  | ptr o v off l a hl hv h =>
    obtain ⟨l', hl', hs, he⟩ := hg.obj o l hl
    refine .ptr o v off l' a hl' (by omega) fun e1 e2 => ?_
    have x1 : l'.st = l.st := by omega
    have := (he x1).1
    rw [(he x1).2 (by omega)]
    exact h (by omega) (by omega)
  | vp o v n k i off l a hl hv hn h =>
    obtain ⟨l', hl', hs, he⟩ := hg.obj o l hl
    refine .vp o v n k i off l' a hl' (by omega) (fun e1 => ?_) fun e1 e2 => ?_
    · have x1 : l'.st = l.st := by omega
      have := (he x1).1
      have := hn (by omega)
      omega
    · have x1 : l'.st = l.st := by omega
      have y1 := (he x1).1
      have y2 := hn (by omega)
      rw [(he x1).2 (by omega)]
      exact h (by omega) (by omega)
  | nilPtr => exact .nilPtr
  | ep row off b base hst hp h ih =>
    refine .ep row off b base hst (fun j hj => ?_) fun j a x ha hx => ?_
    · have := hp j hj
      cases hq : g.perm b (base + j) with
      | none => simp [hq] at this
      | some y => rw [hg.perm _ _ _ hq]; rfl
    · have hj : j < row.length := (List.getElem?_eq_some_iff.1 ha).1
      have := hp j hj
      cases hq : g.perm b (base + j) with
      | none => simp [hq] at this
      | some y =>
        have hy := hg.perm _ _ _ hq
        rw [hx] at hy
        injection hy with hy
        subst hy
        exact ih j a x ha hq
  | slNil full => exact .slNil full
  | sl full rows b off cap k hcap hfull hk hst hp h ih =>
    refine .sl full rows b off cap k hcap hfull hk hst (fun i j hi hj => ?_) fun i j row a x hr ha hx => ?_
    · have := hp i j hi hj
      cases hq : g.perm b (off + i * k + j) with
      | none => simp [hq] at this
      | some y => rw [hg.perm _ _ _ hq]; rfl
    · have hi : i < rows.length := (List.getElem?_eq_some_iff.1 hr).1
      have hj : j < row.length := (List.getElem?_eq_some_iff.1 ha).1
      have hrk := hk row (List.mem_of_getElem? hr)
      have := hp i j hi (by omega)
      cases hq : g.perm b (off + i * k + j) with
      | none => simp [hq] at this
      | some y =>
        have hy := hg.perm _ _ _ hq
        rw [hx] at hy
        injection hy with hy
        subst hy
        exact ih i j row a x hr ha hq
  | sr o v n l a cap hl hv hn h =>
    obtain ⟨l', hl', hs, he⟩ := hg.obj o l hl
    refine .sr o v n l' a cap hl' (by omega) (fun e1 => ?_) fun e1 e2 => ?_
    · have x1 : l'.st = l.st := by omega
      have := (he x1).1
      have := hn (by omega)
      omega
    · have x1 : l'.st = l.st := by omega
      have y1 := (he x1).1
      have y2 := hn (by omega)
      rw [(he x1).2 (by omega)]
      exact h (by omega) (by omega)
  | mp o v l r hl hv h =>
    obtain ⟨l', hl', hs, he⟩ := hg.obj o l hl
    refine .mp o v l' r hl' (by omega) fun e1 e2 => ?_
    have x1 : l'.st = l.st := by omega
    have := (he x1).1
    rw [(he x1).2 (by omega)]
    exact h (by omega) (by omega)
  | agg cs vs hs h ih => exact .agg cs vs hs ih
  | tup cs vs hs h ih => exact .tup cs vs hs ih
theorem LRel.mono {g g' : G} (hg : g.le g') {as : List AV} {xs : List Value} (h : LRel g as xs) : LRel g' as xs :=
  ⟨h.1, fun i a x ha hx => (h.2 i a x ha hx).mono hg⟩
def Soft (w : World) (b : Nat) : Prop := ∀ j, (w.cell? ⟨b, j, none⟩).isSome → w.frozen? ⟨b, j, none⟩ = false
def ObjAt (g : G) (w : World) (l : Loc) : AObj → Prop
  | .gone _ => True
  | .box _ cells => l.len = 0 ∧ Soft w l.b ∧ ∀ (j : Nat) a, cells[j]? = some a → ∃ x, w.cell? ⟨l.b, j, none⟩ = some x ∧ VRel g a x
  | .vec _ k rows => l.len = rows.length ∧ l.k = k ∧ rows.length ≤ l.cap ∧ Soft w l.b ∧ (∀ row ∈ rows, row.length = k) ∧
      (∀ j, j < l.cap * k → (w.cell? ⟨l.b, j, none⟩).isSome) ∧
      ∀ (i j : Nat) (row : List AV) a, rows[i]? = some row → row[j]? = some a → a.cellOk = true ∧ ∃ x, w.cell? ⟨l.b, i * k + j, none⟩ = some x ∧ VRel g a x
  | .map _ es => l.len = 0 ∧ ∃ entries clock, w.heap[l.b]? = some (.map entries clock) ∧ es.length = entries.size ∧
      ∀ (i : Nat) k v (e : MapEntry), es[i]? = some (k, v) → entries[i]? = some e → VRel g k e.key ∧ VRel g v e.val
def AObj.alive : AObj → Bool
  | .gone _ => false
  | _ => true
structure Backed (g : G) (H : List AObj) (o : Nat) (l : Loc) (x : AObj) : Prop where
  at_ : H[o]? = some x
  alive : x.alive = true
  loc : g.obj o = some l
  st : l.st = x.ver
structure Whole (g : G) (w : World) : Prop where
  blocks : ∀ b x, g.whole b = some x → w.heap[b]? = some x ∧ ∀ o l, g.obj o = some l → l.b ≠ b
  io : g.io = (w.os, w.output)
theorem Whole.lt {g : G} {w : World} (h : Whole g w) {b : Nat} {x : Obj} (hx : g.whole b = some x) : b < w.heap.size := by
  have := (h.blocks b x hx).1
  exact (Array.getElem?_eq_some_iff.1 this).1
theorem Whole.keep {g g' : G} {w w' : World} (h : Whole g w) (hw : g'.whole = g.whole) (hg : g'.io = g.io) (hio : w'.os = w.os ∧ w'.output = w.output) (hh : ∀ b, b < w.heap.size → (∀ o l, g.obj o = some l → l.b ≠ b) → w'.heap[b]? = w.heap[b]?)
    (ho : ∀ o l, g'.obj o = some l → w.heap.size ≤ l.b ∨ ∃ o' l', g.obj o' = some l' ∧ l'.b = l.b) : Whole g' w' := by
  refine ⟨?_, by rw [hg, hio.1, hio.2]; exact h.io⟩
  intro b x hx
  rw [hw] at hx
  obtain ⟨h1, h2⟩ := h.blocks b x hx
  refine ⟨by rw [hh b (h.lt hx) h2]; exact h1, fun o l hl e => ?_⟩
  rcases ho o l hl with hge | ⟨o', l', hl', e'⟩
  · have := h.lt hx; omega
  · exact h2 o' l' hl' (by omega)
structure WF (g : G) (H : List AObj) (w : World) : Prop where
  perm : ∀ b i x, g.perm b i = some x → w.cell? ⟨b, i, none⟩ = some x
  lt : ∀ o l, g.obj o = some l → o < H.length
  blk : ∀ o l, g.obj o = some l → l.b < w.heap.size
  st : ∀ o x l, H[o]? = some x → g.obj o = some l → l.st ≤ x.ver
  obj : ∀ o l x, Backed g H o l x → ObjAt g w l x
  priv : ∀ o l x, Backed g H o l x → ∀ j, g.perm l.b j = none
  inj : ∀ o o' l l' x x', Backed g H o l x → Backed g H o' l' x' → l.b = l'.b → o = o'
  whole : Whole g w
def Frame (g : G) (wr : List Nat) (w w' : World) : Prop :=
  w.heap.size ≤ w'.heap.size ∧
  ∀ b, b < w.heap.size → (∀ o ∈ wr, ∀ l, g.obj o = some l → l.b ≠ b) → w'.heap[b]? = w.heap[b]?
structure Step (g : G) (H : List AObj) (w : World) (g' : G) (H' : List AObj) (w' : World) (wr : List Nat) : Prop where
  le : g.le g'
  wf : WF g' H' w'
  frame : Frame g wr w w'
  same : ∀ o, o < H.length → o ∉ wr → H'[o]? = H[o]?
  len : H.length ≤ H'.length
  track : ∀ o l', g'.obj o = some l' → w.heap.size ≤ l'.b ∨ ∃ l, g.obj o = some l ∧ l.b = l'.b
  keep : ∀ o, o < H.length → o ∉ wr → g'.obj o = g.obj o
theorem cell_of_heap {w w' : World} {b : Nat} (h : w'.heap[b]? = w.heap[b]?) (j : Nat) : w'.cell? ⟨b, j, none⟩ = w.cell? ⟨b, j, none⟩ := by
  simp only [World.cell?, h]
theorem frozen_of_heap {w w' : World} {b : Nat} (h : w'.heap[b]? = w.heap[b]?) (j : Nat) : w'.frozen? ⟨b, j, none⟩ = w.frozen? ⟨b, j, none⟩ := by
  simp only [World.frozen?, h]
theorem Soft.of_heap {w w' : World} {b : Nat} (h : w'.heap[b]? = w.heap[b]?) (hs : Soft w b) : Soft w' b := fun j hj => by
  rw [frozen_of_heap h]; exact hs j (by rwa [cell_of_heap h] at hj)
theorem ObjAt.keep {g g' : G} {w w' : World} {l : Loc} {x : AObj} (hg : g.le g') (hb : w'.heap[l.b]? = w.heap[l.b]?) (h : ObjAt g w l x) : ObjAt g' w' l x := by
  cases x with
  | gone v => trivial
  | box v cells =>
    obtain ⟨h1, h2, h3⟩ := h
    refine ⟨h1, h2.of_heap hb, fun j a ha => ?_⟩
    obtain ⟨y, hy, hr⟩ := h3 j a ha
    exact ⟨y, by rw [cell_of_heap hb]; exact hy, hr.mono hg⟩
  | vec v k rows =>
    obtain ⟨h1, h2, h3, h4, h5, h6, h7⟩ := h
    refine ⟨h1, h2, h3, h4.of_heap hb, h5, fun j hj => by rw [cell_of_heap hb]; exact h6 j hj, fun i j row a hr ha => ?_⟩
    obtain ⟨hs, y, hy, hv⟩ := h7 i j row a hr ha
    exact ⟨hs, y, by rw [cell_of_heap hb]; exact hy, hv.mono hg⟩
  | map v es =>
    obtain ⟨h1, entries, clock, h2, h3, h4⟩ := h
    exact ⟨h1, entries, clock, by rw [hb]; exact h2, h3, fun i k v e hk he => ⟨(h4 i k v e hk he).1.mono hg, (h4 i k v e hk he).2.mono hg⟩⟩
end Go.Proofs.AM
end
