/- Part 29 of the proof that stands in the last text of this folder (lemmas; no statement of its own). -/
import Derived.Test.YtglokbbcckpaaaaGreatDoorK13
import Derived.Test.YtglokbbcckpaaaaGreatDoorK28
set_option linter.unusedVariables false
set_option linter.unusedSimpArgs false
section
namespace Go.AM
open Go
def Cd.inScope : Cd -> Bool
 | .none => true
 | _ => false
mutual
def inScope (T : ST) : XV -> Bool
 | .top | .tt _ | .nil => true
 | .bl c => c.inScope
 | .num _ s _ => Nat.blt s T.ns
 | .txt s _ => Nat.blt s T.ns
 | .sl id => Nat.blt id T.nl
 | .fsl id => Nat.blt id T.nl
 | .agg cs => ahqZ T cs
 | .tup cs => ahqZ T cs
 | .ep row _ => ahqZ T row
 | .ptr _ s _ => Nat.blt s T.nv
 | .gs s id => Nat.blt s T.nv && Nat.blt id T.nl
 | .own _ => false
def ahqZ (T : ST) : List XV -> Bool
 | [] => true
 | x :: r => inScope T x && ahqZ T r
end
mutual
def aenZ : XV -> XV -> Bool
 | .top, .top => true
 | .tt a, .tt b => a == b
 | .bl _, .bl _ => true
 | .num k s c, .num k' s' c' => ikEq k k' && Nat.beq s s' && ieq c c'
 | .txt s c, .txt s' c' => Nat.beq s s' && ieq c c'
 | .sl a, .sl b => Nat.beq a b
 | .fsl a, .fsl b => Nat.beq a b
 | .nil, .nil => true
 | .agg a, .agg b => akgZ a b
 | .tup a, .tup b => akgZ a b
 | .ep a i, .ep b j => Nat.beq i j && akgZ a b
 | .ptr a s i, .ptr b s' j => Nat.beq a b && Nat.beq s s' && Nat.beq i j
 | .gs s i, .gs s' j => Nat.beq s s' && Nat.beq i j
 | _, _ => false
def akgZ : List XV -> List XV -> Bool
 | [], [] => true
 | a :: r, b :: s => aenZ a b && akgZ r s
 | _, _ => false
end
inductive Sp where
 | put (x : XV)
 | shp (s : SH) (up : Option (Nat × Int))
 | grow (os : List Nat) (k : Nat) (alts : List (List SH)) (lo hi : Int) (up : Option (Nat × Int))
 deriving Inhabited
def azBZ (T : ST) (s : Nat) : Option (Nat × Int) -> ST
 | none => T
 | some (b, c) => T.le s 0 b c
def alWZ : XV -> Option Nat
 | .num _ s _ => some s
 | .txt s _ => some s
 | _ => none
def spX (T : ST) (vecs : List VF) : Sp -> ST × XV × List VF
 | .put x => (T, x.clean, vecs)
 | .shp s up => match inst s T with
  | (T1, x) => match alWZ x with
   | some a => (azBZ T1 a (match Nat.beq a 0 with | true => none | false => up), x, vecs)
   | none => (T1, x, vecs)
 | .grow os k alts lo hi up =>
  (azBZ (((T.fresh lo hi).freshV).freshL ⟨alts, T.ns, 0⟩) T.ns up, .gs T.nv T.nl,⟨T.nv, T.nl, k, os⟩ :: vecs)
def alwZ (F : FSt) : List (Nat × Sp) -> FSt
 | [] => F
 | (t, sp) :: r => match spX F.T F.vecs sp with
  | (T, x, vecs) => alwZ ⟨T, F.env.set x (aaLZ t), F.heap, vecs, F.h⟩ r
inductive HSp where
 | keep
 | any
 | box (s : Nat) (cells : List SH)
 deriving Inhabited
def hspX (T : ST) (x : XO) : HSp -> ST × XO
 | .keep => (T, x)
 | .any => (T, .any)
 | .box s cells => match akPZ cells T with
  | (T1, xs) => (T1, .box s xs)
def aghZ (T : ST) : List XO -> List HSp -> ST × List XO
 | x :: r, s :: ss => match hspX T x s with
  | (T1, y) => match aghZ T1 r ss with
   | (T2, ys) => (T2, y :: ys)
 | r, _ => (T, r)
structure HV where
 hs : List HSp
 vs : List VF
def atTZ (F : FSt) (hs : HV) (sps : List (Nat × Sp)) : FSt := match aghZ F.T F.heap hs.hs with
 | (T, heap) => alwZ ⟨T, F.env, heap, hs.vs, F.h⟩ sps
def subB (a b : List Nat) : Bool := a.all b.contains
def upOk (T : ST) (s : Nat) (c : Int) : Option (Nat × Int) -> Bool
 | none => true
 | some (b, cb) => match gapQ T gf s b with
  | some g => ile (g + c) cb
  | none => false
def aCdZ (B T : ST) (x : XV) (up : Option (Nat × Int)) : Bool := match up with
 | none => true
 | some (b, _) => Nat.blt b B.ns && match x with
  | .num _ s c => upOk T s c up
  | .txt s c => upOk T s c up
  | _ => false
def spOk (B : ST) (F : FSt) (x : XV) : Sp -> Bool
 | .put .top => true
 | .put y => inScope B y.clean && aenZ x y
 | .shp s up => leSH (gen F.T x) s && aCdZ B F.T x up
 | .grow os k alts lo hi up => os.all (Nat.ble F.h) && (match up with
  | none => true
  | some (b, _) => Nat.blt b B.ns) && match x with
  | .nil => ile lo 0 && ile 0 hi && (match up with
   | none => true
   | some (b, cb) => ile 0 (F.T.lo b + cb))
  | .fsl id => match F.T.lst.get (aaLZ id) with
   | some li => ahpZ k li.alts && ile lo (F.T.lo li.s + li.c) && ile (hiQ F.T qf li.s + li.c) hi && ajaZ li.alts alts && upOk F.T li.s li.c up
   | none => false
  | .gs s id => match F.vec s id, F.T.lst.get (aaLZ id) with
   | some v, some li => Nat.beq k v.k && subB v.os os && ile lo (F.T.lo li.s + li.c) && ile (hiQ F.T qf li.s + li.c) hi && ajaZ li.alts alts && upOk F.T li.s li.c up
   | _, _ => false
  | _ => false
def avLZ (B : ST) (F : FSt) : List (Nat × Sp) -> Bool
 | [] => true
 | (t, sp) :: r => spOk B F (F.at t) sp && avLZ B F r
def apqZ (B : ST) : XO -> Bool
 | .any => true
 | .box s cells => Nat.blt s B.nv && ahqZ B cells
def axpZ : XO -> XO -> Bool
 | .any, .any => true
 | .box s a, .box s' b => Nat.beq s s' && akgZ a b
 | _, _ => false
def arNZ (B : ST) (F : FSt) (x y : XO) : HSp -> Bool
 | .any => true
 | .keep => match y with
  | .any => true
  | y => apqZ B y && axpZ x y
 | .box s cells => Nat.blt s B.nv && (match x, y with
  | .box s' xs, .box _ _ => Nat.beq s s' && alVZ (genL F.T xs) cells
  | _, _ => false)
def aniZ (B : ST) (F : FSt) : List XO -> List XO -> List HSp -> Bool
 | [], [], [] => true
 | x :: r, y :: s, h :: hs => arNZ B F x y h && aniZ B F r s hs
 | _, _, _ => false
def vfOk (B : ST) (F : FSt) (v : VF) : Bool := Nat.blt v.s B.nv && Nat.blt v.id B.nl && (match F.vec v.s v.id with
 | some w => Nat.beq w.k v.k && subB w.os v.os && subB v.os w.os
 | none => false)
def aqOZ (B : ST) (F : FSt) (l bs : List XO) (h : HV) : Bool := aniZ B F l bs h.hs && h.vs.all (vfOk B F)
def arOZ : List Nat -> List Nat | [] => [] | a :: r => match r.contains a with | true => arOZ r | false => a :: arOZ r
def aCeZ : List (ST × XV) -> SH
 | [] => .any
 | [(T, x)] => gen T x
 | (T, x) :: r => upSH (gen T x) (aCeZ r)
def aCfZ (T : ST) (b : Nat) (x : XV) : Option Int := match x with
 | .num _ s c => match gapQ T gf s b with
  | some g => some (g + c)
  | none => none
 | .txt s c => match gapQ T gf s b with
  | some g => some (g + c)
  | none => none
 | _ => none
def avMZ (b : Nat) : List (ST × XV) -> Option Int
 | [] => none
 | [(T, x)] => aCfZ T b x
 | (T, x) :: r => match aCfZ T b x, avMZ b r with
  | some g, some h => some (imax g h)
  | _, _ => none
def aCgZ (a b : List Nat) : List Nat := a.foldr alvZ b
def aqPZ : List FSt -> Nat -> Option (List Nat × Nat)
 | [], _ => none
 | F :: r, t => match F.at t with
  | .gs s id => match F.vec s id with
   | some v => match aqPZ r t with
    | some (os, _) => some (aCgZ v.os os, v.k)
    | none => some (v.os, v.k)
   | none => none
  | _ => aqPZ r t
def aoCZ : XV -> Option Nat
 | .gs _ id => some id
 | .fsl id => some id
 | _ => none
def liOf (F : FSt) (t : Nat) : List (List SH) × Int × Int × Option (Nat × Int) := match aoCZ (F.at t) with
 | some id => match F.T.lst.get (aaLZ id) with
  | some li => (li.alts, F.T.lo li.s + li.c, hiQ F.T qf li.s + li.c, some (li.s, li.c))
  | none => ([], 0, 0, none)
 | _ => ([], 0, 0, none)
def asRZ : List FSt -> Nat -> List (List SH) × Int × Int
 | [], _ => ([], 0, 0)
 | [F], t => match liOf F t with
  | (a, lo, hi, _) => (a, lo, hi)
 | F :: r, t => match liOf F t, asRZ r t with
  | (a, lo, hi, _), (a', lo', hi') => (ajbZ a a', imin lo lo', imax hi hi')
def avNZ (b : Nat) : List FSt -> Nat -> Option Int
 | [], _ => none
 | F :: r, t => match liOf F t with
  | (_, _, _, some (s, c)) => match gapQ F.T gf s b with
   | none => none
   | some g => match r with
    | [] => some (g + c)
    | _ => match avNZ b r t with
     | some h => some (imax (g + c) h)
     | none => none
  | _ => none
def aChZ (B : FSt) (l : List FSt) (t : Nat) : Sp :=
 let xs := l.map fun F => (F.T, F.at t)
 match xs with
 | [] => .put .top
 | (_, x) :: r => match inScope B.T x.clean && r.all (fun p => aenZ p.2 x) with
  | true => .put x
  | false =>
   match (match B.at t with
    | .nil => aqPZ l t
    | .fsl _ => aqPZ l t
    | .gs _ _ => aqPZ l t
    | _ => none) with
   | some (os, k) => match asRZ l t with
    | (alts, lo, hi) => .grow os k alts lo hi (match aoCZ (B.at t) with
     | some id => match B.T.lst.get (aaLZ id) with
      | some li => match avNZ li.s l t with
       | some g => some (li.s, g)
       | none => none
      | none => none
     | _ => none)
   | none => .shp (aCeZ xs) (match B.at t with
     | .num _ s _ => match avMZ s xs with
      | some g => some (s, g)
      | none => none
     | .txt s _ => match avMZ s xs with
      | some g => some (s, g)
      | none => none
     | _ => none)
def avOZ : List (ST × XO) -> Option (Nat × List SH)
 | [] => none
 | [(T, .box s xs)] => some (s, genL T xs)
 | (T, .box s xs) :: r => match avOZ r with
  | some (s', l) => match Nat.beq s s', atQZ (genL T xs) l with
   | true, some l' => some (s, l')
   | _, _ => none
  | none => none
 | _ => none
def aEGZ (B : ST) (y : XO) (xs : List (ST × XO)) : HSp := match (match y with | .any => true | y => apqZ B y && xs.all (fun p => axpZ p.2 y)) with
 | true => .keep
 | false => match avOZ xs with
  | some (s, l) => match Nat.blt s B.nv with
   | true => .box s l
   | false => .any
  | none => .any
def ayeZ (B : ST) (l : List FSt) : Nat -> List XO -> List HSp
 | _, [] => []
 | i, y :: r => aEGZ B y (l.map fun F => (F.T, hget F.heap i)) :: ayeZ B l (i + 1) r
def azCZ (B : FSt) (W : List Nat) (l : List FSt) : Option FSt :=
 let sps := (arOZ W).map fun t => (t, aChZ B l t)
 let hs : HV := ⟨ayeZ B.T l 0 B.heap, B.vecs.filter fun v => l.all fun F => vfOk B.T F v⟩
 match l.all fun F => avLZ B.T F sps && aqOZ B.T F F.heap B.heap hs with
 | true => some (atTZ B hs sps)
 | false => none
structure Outs where
 base : FSt
 w : List Nat
 nrm : List FSt
 exs : List (Nat × FSt)
 rts : List FSt
def asSZ (c : Ctx) (x : AOpd) (b : Bool) (F : FSt) : Option (List FSt) := match F.opd x with
 | .tt b' => match b == b' with
  | true => some [F]
  | false => some []
 | .bl cd => match asMZ F.T cd b with
  | none => some []
  | some T => match x with
   | .tmp t => some [{ F with T := T, env := F.env.set (.tt b) (aaLZ t) }]
   | .const _ => some [{ F with T := T }]
 | _ => none
def atUZ (nj : Bool) (B : FSt) (W : List Nat) (l : List FSt) : Option (FSt × List Nat × List FSt) := match l with
 | [] => some (B, W, [])
 | [F] => some (F, [], [F])
 | l => match nj with
  | true => some (B, W, l)
  | false => match azCZ B W l with
   | none => none
   | some F => some (F, [], [F])
def anjZ (id : Nat) : List (Nat × FSt) -> List FSt
 | [] => []
 | (i, F) :: r => match Nat.beq i id with
  | true => F :: anjZ id r
  | false => anjZ id r
def akhZ (id : Nat) : List (Nat × FSt) -> List (Nat × FSt)
 | [] => []
 | (i, F) :: r => match Nat.beq i id with
  | true => akhZ id r
  | false => (i, F) :: akhZ id r
def aEHZ (F : FSt) (t : Nat) : Sp := match F.at t with
 | .num k s c => match kr k with
  | some (mn, mx) => .shp (.num k (F.T.lo s + c) (imax (F.T.hi s + c) (imin mx 4611686018427387904))) none
  | none => .put .top
 | .txt s c => .shp (.txt (F.T.hi s + c + 1099511627776)) none
 | .tt _ => .shp .bool none
 | .bl _ => .shp .bool none
 | .gs s id => match F.vec s id, F.T.lst.get (aaLZ id) with
  | some v, some li => .grow v.os v.k li.alts (F.T.lo li.s + li.c) (F.T.hi li.s + li.c + 1048576) none
  | _, _ => .put .top
 | .own _ => .put .top
 | x => match inScope F.T x.clean with
  | true => .put x
  | false => .put .top
def aprZ (H1 G : FSt) (t : Nat) : Option (Nat × Int) := match H1.at t, G.at t with
 | .num _ s c, .num _ s' c' => match Nat.beq s s' && ieq c 0 && ile 1 c' && Nat.blt 0 s with
  | true => some (s, hiQ G.T qf s)
  | false => none
 | _, _ => none
def aioZ (H1 G : FSt) : List Nat -> Option (Nat × Nat × Int)
 | [] => none
 | t :: r => match aprZ H1 G t with
  | some (s, B) => match ile B 1099511627776 with
   | true => some (t, s, B)
   | false => aioZ H1 G r
  | none => aioZ H1 G r
def afgZ (H1 G : FSt) (t : Nat) (sp : Sp) : Option (Option (Nat × Int)) := match sp with
 | .shp (.txt _) _ => match H1.at t, G.at t with
  | .txt s c, .txt s' c' => match gapQ G.T gf s' s, ieq c 0 with
   | some g, true => some (some (s, imax 0 (g + c')))
   | _, _ => none
  | _, _ => none
 | .grow _ _ _ _ _ _ => match H1.at t, G.at t with
  | .gs _ id, .gs _ id' => match H1.T.lst.get (aaLZ id), G.T.lst.get (aaLZ id') with
   | some li, some li' => match gapQ G.T gf li'.s li.s, ieq li.c 0 with
    | some g, true => some (some (li.s, imax 0 (g + li'.c)))
    | _, _ => none
   | _, _ => none
  | _, _ => none
 | _ => some none
def asTZ (F H1 G : FSt) (n : Int) (t : Nat) (sp : Sp) : Bool := match spOk F.T G (G.at t) sp with
 | true => true
 | false => match afgZ H1 G t sp, sp with
  | some (some (_, k)), .shp (.txt m) none => ile (match F.at t with | .txt s c => F.T.hi s + c + n * k | _ => m + 1) m
  | some (some (_, k)), .grow os k1 alts lo hi none => match G.at t, F.at t with
   | .gs s id, x0 => match G.vec s id, G.T.lst.get (aaLZ id) with
    | some v, some li => Nat.beq k1 v.k && subB v.os os && os.all (Nat.ble G.h) && ajaZ li.alts alts && ile lo (G.T.lo li.s + li.c) && (match x0 with
     | .nil => ile (n * k) hi
     | x0 => match aoCZ x0 with
      | some id0 => match F.T.lst.get (aaLZ id0) with
       | some li0 => ile (F.T.hi li0.s + li0.c + n * k) hi
       | none => false
      | none => false)
    | _, _ => false
   | _, _ => false
  | _, _ => false
def apsZ (F H1 G : FSt) (n : Int) : List (Nat × Sp) -> Bool
 | [] => true
 | (t, sp) :: r => asTZ F H1 G n t sp && apsZ F H1 G n r
def aCiZ (F H1 G : FSt) (t : Nat) (sp : Sp) : Sp := match (spOk F.T G (G.at t) sp || (match afgZ H1 G t sp, sp with
  | some (some _), .shp (.txt _) none => true
  | some (some _), .grow _ _ _ _ _ none => asTZ F H1 G 0 t sp
  | _, _ => false)) && spOk F.T F (F.at t) sp with
 | true => sp
 | false => match sp, G.at t with
  | .shp (.num k lo hi) _, _ => match kr k with
   | some (mn, mx) => match ieq lo mn with
    | true => .put .top
    | false => .shp (.num k mn mx) none
   | none => .put .top
  | .grow os k alts lo hi up, .gs s id => match G.vec s id, G.T.lst.get (aaLZ id) with
   | some v, some li => .grow (aCgZ v.os os) k (ajbZ li.alts alts) (imin lo (G.T.lo li.s + li.c)) hi up
   | _, _ => .put .top
  | .put .nil, .gs s id => match G.vec s id, G.T.lst.get (aaLZ id) with
   | some v, some li => .grow v.os v.k li.alts 0 1048576 none
   | _, _ => .put .top
  | .put (.fsl id0), .gs s id => match G.vec s id, G.T.lst.get (aaLZ id), F.T.lst.get (aaLZ id0) with
   | some v, some li, some li0 => .grow v.os v.k (ajbZ li.alts li0.alts) (F.T.lo li0.s + li0.c) (F.T.hi li0.s + li0.c + 1048576) none
   | _, _, _ => .put .top
  | .put .top, _ => .put .top
  | .put _, x => match upSH (gen F.T (F.at t)) (gen G.T x) with
   | .num k lo hi => match kr k with
    | some (mn, mx) => .shp (.num k (imin lo mn) mx) none
    | none => .put .top
   | s => .shp s none
  | _, _ => .put .top
def avPZ (F G : FSt) : List XO -> List XO -> List HSp -> List HSp
 | x :: r, y :: s, h :: hs => (match arNZ F.T G x y h && arNZ F.T F y y h with
  | true => h
  | false => match h, x, y with
   | .keep, .box s xs, .box s' ys => match Nat.beq s s', atQZ (genL G.T xs) (genL F.T ys) with
    | true, some l => .box s l
    | _, _ => .any
   | _, _, _ => .any) :: avPZ F G r s hs
 | _, _, hs => hs
def ayfZ (F G : FSt) (l bs : List XO) (h : HV) : HV := ⟨avPZ F G l bs h.hs, h.vs.filter (vfOk F.T G)⟩
def ajcZ (F H1 G : FSt) (n : Int) (T : ST) : List (Nat × Sp) -> ST
 | [] => T
 | (t, sp) :: r => match spOk F.T G (G.at t) sp, afgZ H1 G t sp, F.at t with
  | false, some (some (s, k)), .txt s0 c0 => ajcZ F H1 G n (T.le s 0 s0 (c0 + n * k)) r
  | false, some (some (s, k)), .nil => ajcZ F H1 G n (T.le s 0 0 (n * k)) r
  | false, some (some (s, k)), x0 => match aoCZ x0 with
   | some id0 => match F.T.lst.get (aaLZ id0) with
    | some li0 => ajcZ F H1 G n (T.le s 0 li0.s (li0.c + n * k)) r
    | none => ajcZ F H1 G n T r
   | none => ajcZ F H1 G n T r
  | _, _, _ => ajcZ F H1 G n T r
def axqZ (F H1 G : FSt) (n : Int) (sps : List (Nat × Sp)) (E : FSt) : FSt := { E with T := ajcZ F H1 G n E.T sps }
abbrev axrZ := FSt -> List Nat -> List FSt -> Option Outs
def atVZ (body : axrZ) (W : List Nat) (F : FSt) : Nat -> HV -> List (Nat × Sp) -> Option Outs
 | 0, _, _ => none
 | n + 1, hs, sps =>
  match avLZ F.T F sps && aqOZ F.T F F.heap F.heap hs with
  | false => none
  | true =>
   let H1 := atTZ F hs sps
   match body H1 [] [H1] with
   | none => none
   | some o => match atUZ false o.base o.w o.nrm with
    | none => none
    | some (_, _, []) => match body F [] [F] with
     | none => none
     | some o => match o.nrm with
      | [] => some ⟨F, W, [], o.exs, o.rts⟩
      | _ => none
    | some (_, _, [G]) => match aioZ H1 G W with
     | none => match n with
      | 0 => none
      | _ => atVZ body W F n (ayfZ F G G.heap F.heap hs) (sps.map fun p => (p.1, aCiZ F H1 G p.1 p.2))
     | some (t, s, B) =>
      let N := imax 0 (B - H1.T.lo s + 1)
      match apsZ F H1 G N sps && aqOZ F.T G G.heap F.heap hs with
      | true => some ⟨F, W, [], o.exs.map fun p => (p.1, axqZ F H1 G N sps p.2), o.rts.map (axqZ F H1 G N sps)⟩
      | false => atVZ body W F n (ayfZ F G G.heap F.heap hs) (sps.map fun p => (p.1, aCiZ F H1 G p.1 p.2))
    | _ => none
def aygZ : List XO -> List HSp
 | [] => []
 | _ :: r => .keep :: aygZ r
def akQZ (sites : List Nat) : List AOper -> Bool
 | [] => true
 | o :: r => (match o.op, aggZ sites 0 o.dst with
  | .alloc _, some _ => false
  | _, _ => true) && akQZ sites r
def atWZ (sites : List Nat) (o : AOper) : Nat := match isW (aggZ sites 0 o.dst) true o.op with
 | false => 0
 | true => match o.op with
  | .callv _ _ => 1
  | _ => 2
def avQZ (a b : Nat) : Bool := match a with
 | 0 => Nat.ble b 1
 | 1 => Nat.beq b 0
 | _ => false
def asUZ (keep : List Nat) (sites : List Nat) (a i : Nat) : Nat -> List AOper -> Bool
 | _, [] => true
 | j, p :: r => (!(keep.contains j) || p.pre.contains i || avQZ a (atWZ sites p)) && asUZ keep sites a i (j + 1) r
def amaZ (keep : List Nat) (sites : List Nat) : Nat -> List AOper -> Bool
 | _, [] => true
 | i, o :: r => (!(keep.contains i) || asUZ keep sites (atWZ sites o) i (i + 1) r) && amaZ keep sites (i + 1) r
def arPZ (keep : List Nat) (sites : List Nat) (ops _ : List AOper) : Bool := match keep with
 | [] => true
 | keep => amaZ keep sites 0 ops
def akRZ (call : anhZ) (split : Nat -> Bool) (nj : Bool) (sites : List Nat) (h : Nat) : ACode -> axrZ
 | .skip, B, W, l => some ⟨B, W, l, [], []⟩
 | .bad, _, _, _ => none
 | .region d ops, B, W, l => match (match d with
   | true => akQZ sites ops && arPZ (agNZ ⟨0, sites⟩ ops) sites ops ops
   | false => true) with
  | false => none
  | true => match opsX call split d sites h ops l with
   | none => none
   | some [F] => some ⟨F, [], [F], [], []⟩
   | some l' => some ⟨B, acrZ ops ++ W, l', [], []⟩
 | .seq a b, B, W, l => match akRZ call split nj sites h a B W l with
  | none => none
  | some o => match o.nrm with
   | [] => some o
   | l1 => match akRZ call split nj sites h b o.base o.w l1 with
    | none => none
    | some o2 => some { o2 with exs := o.exs ++ o2.exs, rts := o.rts ++ o2.rts }
 | .cond x a b, B, W, l => match atSZ (asSZ ⟨0, sites⟩ x true) l, atSZ (asSZ ⟨0, sites⟩ x false) l with
  | some lt, some lf =>
   match (match lt with
    | [] => some (Outs.mk B W [] [] [])
    | lt => akRZ call split nj sites h a B (x.slot ++ W) lt), (match lf with
    | [] => some (Outs.mk B W [] [] [])
    | lf => akRZ call split nj sites h b B (x.slot ++ W) lf) with
   | some oa, some ob => match atUZ nj B (x.slot ++ dsts a ++ dsts b ++ W) (oa.nrm ++ ob.nrm) with
    | none => none
    | some (B', W', l') => some ⟨B', W', l', oa.exs ++ ob.exs, oa.rts ++ ob.rts⟩
   | _, _ => none
  | _, _ => none
 | .block id c, B, W, l => match akRZ call split nj sites h c B W l with
  | none => none
  | some o => match anjZ id o.exs with
   | [] => some o
   | es => match atUZ nj B (dsts c ++ W) (o.nrm ++ es) with
    | none => none
    | some (B', W', l') => some ⟨B', W', l', akhZ id o.exs, o.rts⟩
 | .loop c, B, W, l => match l with
  | [] => some ⟨B, W, [], [], []⟩
  | l => match atUZ false B W l with
   | some (_, _, [F]) => atVZ (akRZ call split nj sites h c) (arOZ (dsts c)) F 6 ⟨aygZ F.heap, F.vecs⟩ ((arOZ (dsts c)).map fun t => (t, aEHZ F t))
   | _ => none
 | .exit id, B, W, l => some ⟨B, W, [], l.map fun F => (id, F), []⟩
 | .ret, B, W, l => some ⟨B, W, [], [], l⟩
 | .frz [], B, W, l => some ⟨B, W, l, [], []⟩
 | .frz _, _, _, _ => none
def azDZ (F : FSt) : ARes -> Option XV
 | .tmp t => some (F.at t)
 | .cell t k agg => match axlZ F k (F.at t) with
  | some cs => ofX agg cs
  | none => none
def asVZ (F : FSt) : List ARes -> Option (List XV)
 | [] => some []
 | r :: rs => match azDZ F r, asVZ F rs with
  | some x, some l => some (x :: l)
  | _, _ => none
def finX (F : FSt) (h : Nat) (x : XV) : Option (ST × XV) := match x with
 | .gs s id => match F.vec s id with
  | some v => match v.os.all (Nat.ble h) with
   | true => some (F.T, .own id)
   | false => none
  | none => none
 | .agg cs => match affZ F.T cs with
  | some (T, cs') => some (T, .agg cs')
  | none => none
 | x => aluZ F.T x
def avRZ (F : FSt) (x : XV) : Option (FSt × XV) := match x with
 | .gs s id => match F.vec s id with
  | some v => some ({ F with vecs := aerZ v.os F.vecs }, .sl id)
  | none => none
 | .agg cs => match affZ F.T cs with
  | some (T, cs') => some ({ F with T := T }, .agg cs')
  | none => none
 | x => match aluZ F.T x with
  | some (T, y) => some ({ F with T := T }, y)
  | none => none
def axsZ (F : FSt) : List XV -> Option (ST × List XV)
 | [] => some (F.T, [])
 | x :: r => match avRZ F x with
  | none => none
  | some (F1, y) => match axsZ F1 r with
   | none => none
   | some (T2, ys) => some (T2, y :: ys)
def retX (rs : List ARes) (h : Nat) (F : FSt) : Option (ST × XV) := match asVZ F rs with
 | none => none
 | some [x] => finX F h x
 | some xs => match axsZ F xs with
  | some (T, ys) => some (T, .tup ys)
  | none => none
def axtZ (rs : List ARes) (h : Nat) : List FSt -> Option (List (ST × XV))
 | [] => some []
 | F :: r => match retX rs h F, axtZ rs h r with
  | some p, some l => some (p :: l)
  | _, _ => none
def aqQZ : Nat -> List XV -> XT XV -> XT XV
 | _, [], en => en
 | i, x :: r, en => aqQZ (i + 1) r (en.set x (aaLZ i))
def anys (n : Nat) : List XO := List.replicate n .any
structure Hook where
 args : List (List SH)
 res : SH
def avSZ (hook : Nat -> Option Hook) (f : Nat) (ss : List SH) : Option SH := match hook f with
 | some k => match avGZ ss k.args with
  | true => some k.res
  | false => none
 | none => none
def axuZ (A : AProg) (mode : Nat -> Nat) (hook : Nat -> Option Hook) : Nat -> anhZ
 | 0, _, _, _, _ => none
 | n + 1, f, h, xs, T => match avSZ hook f (genL T xs) with
  | some res => some [inst res T]
  | none => match A.fn f, (A.prim f).isNone with
   | some fn, true => match Nat.ble xs.length fn.ntmps && aaSZ fn.ntmps ⟨0, fn.sites⟩ fn.body with
    | false => none
    | true =>
     let F0 : FSt := ⟨T, aqQZ 0 xs .e, anys (h + fn.sites.length), [], h⟩
     match akRZ (axuZ A mode hook n) (fun f => Nat.beq (mode f) 1) (Nat.ble 1 (mode f)) fn.sites h fn.body F0 [] [F0] with
     | none => none
     | some o => match o.exs with
      | [] => axtZ fn.results h (o.nrm ++ o.rts)
      | _ => none
   | _, _ => none
def T0 : ST := ⟨1, 0, 0, XT.set (0, 0) (aaLZ 0) .e, .e, .e, [], []⟩
def azEZ (A : AProg) (mode : Nat -> Nat) (hook : Nat -> Option Hook) (n f : Nat) (shs : List SH) : Option (List SH) := match akPZ shs T0 with
 | (T, xs) => match axuZ A mode hook n f 0 xs T with
  | none => none
  | some l => some (l.map fun p => gen p.1 p.2)
end Go.AM
end
section
namespace Go.AM
open Go
theorem XT.get_e {α : Type} : ∀ p : List Bool, (XT.e : XT α).get p = none
 | [] => rfl
 | _ :: _ => rfl
theorem XT.get_set {α : Type} (x : α) : ∀ (p q : List Bool) (t : XT α), (t.set x q).get p = if p = q then some x else t.get p
 | [], [], t => by cases t <;> rfl
 | b :: p, [], t => by cases t <;> simp [XT.set, XT.get, XT.get_e] <;> cases b <;> rfl
 | [], c :: q, t => by cases t <;> cases c <;> simp [XT.set, XT.get]
 | b :: p, c :: q, t => by
  have ih := XT.get_set x p q
  cases t with
  | e => cases b <;> cases c <;> simp [XT.set, XT.get, XT.get_e, ih]
  | n v l r => cases b <;> cases c <;> simp [XT.set, XT.get, ih]
theorem XT.get_put {α : Type} (x : α) (i j : Nat) (t : XT α) : (t.set x (aaLZ i)).get (aaLZ j) = if j = i then some x else t.get (aaLZ j) := by
 rw [XT.get_set]
 by_cases h : j = i
 ·subst h; simp
 ·rw [if_neg h, if_neg (fun e => h (amUZ j j i (Nat.le_refl _) e))]
theorem absZ {a b : Int} : ile a b = true ↔ a <= b := by
 cases a <;> cases b <;> simp [ile, Nat.ble_eq] <;> omega
theorem aqRZ {a b : Int} : ile a b = false ↔ b < a := by
 rw [<- Bool.not_eq_true, absZ]; omega
theorem ahrZ {a b : Int} : ieq a b = true ↔ a = b := by
 cases a <;> cases b <;> simp [ieq, Nat.beq_eq] <;> omega
theorem azFZ {a b : Int} : imin a b <= a /\ imin a b <= b := by
 unfold imin
 split
 ·rename_i h; rw [absZ] at h; omega
 ·rename_i h; rw [aqRZ] at h; omega
theorem arQZ {a b n : Int} (h1 : n <= a) (h2 : n <= b) : n <= imin a b := by unfold imin; split <;> assumption
theorem arRZ {a b n : Int} (h1 : a <= n) (h2 : b <= n) : imax a b <= n := by unfold imax; split <;> assumption
theorem akSZ {a b : Int} : a <= imax a b /\ b <= imax a b := by
 unfold imax
 split
 ·rename_i h; rw [absZ] at h; omega
 ·rename_i h; rw [aqRZ] at h; omega
theorem akiZ {a b : IntKind} : ikEq a b = true ↔ a = b := by simp [ikEq]
mutual
def SH.has : SH -> AV -> Prop
 | .any, _ => True
 | .bool, v => ∃ b, v = .bool b
 | .num k lo hi, v => ∃ n, v = .int k n /\ lo <= n /\ n <= hi
 | .txt hi, v => ∃ s, v = .str s /\ (s.length : Int) <= hi
 | .sl alts lo hi, v => ∃ f rows, v = .sl f rows /\ abHZ rows = true /\ lo <= (rows.length : Int) /\ (rows.length : Int) <= hi /\ ∀ row ∈ rows, aaKZ alts row
 | .agg cs, v => ∃ vs, v = .agg vs /\ hasL cs vs
 | .tup cs, v => ∃ vs, v = .tup vs /\ hasL cs vs
def hasL : List SH -> List AV -> Prop
 | [], vs => vs = []
 | s :: r, vs => ∃ v vr, vs = v :: vr /\ s.has v /\ hasL r vr
def aaKZ : List (List SH) -> List AV -> Prop
 | [], _ => False
 | a :: r, row => hasL a row ∨ aaKZ r row
end
theorem afsZ {b : List SH} {row : List AV} (hv : hasL b row) : ∀ {bs : List (List SH)}, b ∈ bs -> aaKZ bs row
 | [], h => by cases h
 | c :: r, h => by
  unfold aaKZ
  rcases List.mem_cons.1 h with rfl | h
  ·exact .inl hv
  ·exact .inr (afsZ hv h)
mutual
theorem agQZ : ∀ (a b : SH) (v : AV), leSH a b = true -> a.has v -> b.has v
 | a, .any, v, _, _ => by unfold SH.has; trivial
 | .bool, .bool, v, _, h => h
 | .num k lo hi, .num k' lo' hi', v, h, hv => by
  simp only [leSH, Bool.and_eq_true, akiZ, absZ] at h
  unfold SH.has at hv ⊢
  obtain ⟨n, rfl, h1, h2⟩ := hv
  exact ⟨n, by rw [h.1.1], by omega, by omega⟩
 | .txt hi, .txt hi', v, h, hv => by
  simp only [leSH, absZ] at h
  unfold SH.has at hv ⊢
  obtain ⟨s, rfl, h1⟩ := hv
  exact ⟨s, rfl, by omega⟩
 | .sl alts lo hi, .sl alts' lo' hi', v, h, hv => by
  simp only [leSH, Bool.and_eq_true, absZ] at h
  unfold SH.has at hv ⊢
  obtain ⟨f, rows, rfl, h1, h2, h3, h4⟩ := hv
  exact ⟨f, rows, rfl, h1, by omega, by omega, fun row hr => acsZ alts alts' row h.2 (h4 row hr)⟩
 | .agg cs, .agg cs', v, h, hv => by
  simp only [leSH] at h
  unfold SH.has at hv ⊢
  obtain ⟨vs, rfl, h1⟩ := hv
  exact ⟨vs, rfl, aeIZ cs cs' vs h h1⟩
 | .tup cs, .tup cs', v, h, hv => by
  simp only [leSH] at h
  unfold SH.has at hv ⊢
  obtain ⟨vs, rfl, h1⟩ := hv
  exact ⟨vs, rfl, aeIZ cs cs' vs h h1⟩
 | .any, .bool, _, h, _ | .any, .num .., _, h, _ | .any, .txt _, _, h, _ | .any, .sl .., _, h, _ | .any, .agg _, _, h, _ | .any, .tup _, _, h, _ => by simp [leSH] at h
 | .bool, .num .., _, h, _ | .bool, .txt _, _, h, _ | .bool, .sl .., _, h, _ | .bool, .agg _, _, h, _ | .bool, .tup _, _, h, _ => by simp [leSH] at h
 | .num .., .bool, _, h, _ | .num .., .txt _, _, h, _ | .num .., .sl .., _, h, _ | .num .., .agg _, _, h, _ | .num .., .tup _, _, h, _ => by simp [leSH] at h
 | .txt .., .bool, _, h, _ | .txt .., .num .., _, h, _ | .txt .., .sl .., _, h, _ | .txt .., .agg _, _, h, _ | .txt .., .tup _, _, h, _ => by simp [leSH] at h
 | .sl .., .bool, _, h, _ | .sl .., .num .., _, h, _ | .sl .., .txt _, _, h, _ | .sl .., .agg _, _, h, _ | .sl .., .tup _, _, h, _ => by simp [leSH] at h
 | .agg .., .bool, _, h, _ | .agg .., .num .., _, h, _ | .agg .., .txt _, _, h, _ | .agg .., .sl .., _, h, _ | .agg .., .tup _, _, h, _ => by simp [leSH] at h
 | .tup .., .bool, _, h, _ | .tup .., .num .., _, h, _ | .tup .., .txt _, _, h, _ | .tup .., .sl .., _, h, _ | .tup .., .agg _, _, h, _ => by simp [leSH] at h
theorem aeIZ : ∀ (a b : List SH) (vs : List AV), alVZ a b = true -> hasL a vs -> hasL b vs
 | [], [], _, _, h => h
 | a :: r, b :: s, vs, h, hv => by
  simp only [alVZ, Bool.and_eq_true] at h
  unfold hasL at hv ⊢
  obtain ⟨v, vr, rfl, h1, h2⟩ := hv
  exact ⟨v, vr, rfl, agQZ a b v h.1 h1, aeIZ r s vr h.2 h2⟩
 | [], _ :: _, _, h, _ => by simp [alVZ] at h
 | _ :: _, [], _, h, _ => by simp [alVZ] at h
theorem acsZ : ∀ (a b : List (List SH)) (row : List AV), ajaZ a b = true -> aaKZ a row -> aaKZ b row
 | [], _, _, _, h => by unfold aaKZ at h; exact h.elim
 | a :: r, bs, row, h, hv => by
  simp only [ajaZ, Bool.and_eq_true, List.any_eq_true] at h
  unfold aaKZ at hv
  rcases hv with hv | hv
  ·obtain ⟨b, hb, hle⟩ := h.1
   exact afsZ (aeIZ a b row hle hv) hb
  ·exact acsZ r bs row h.2 hv
end
theorem ankZ (a : List SH) (b : List (List SH)) (row : List AV) (h : avGZ a b = true) (hv : hasL a row) : aaKZ b row := by
 unfold avGZ at h
 rw [List.any_eq_true] at h
 obtain ⟨c, hc, hle⟩ := h
 exact afsZ (aeIZ a c row hle hv) hc
theorem anlZ : ∀ {a : List SH} {vs : List AV}, hasL a vs -> vs.length = a.length
 | [], vs, h => by unfold hasL at h; subst h; rfl
 | s :: r, vs, h => by
  unfold hasL at h
  obtain ⟨v, vr, rfl, _, h2⟩ := h
  simp [anlZ h2]
theorem adHZ {k : Nat} : ∀ {a : List (List SH)} {row : List AV}, ahpZ k a = true -> aaKZ a row -> row.length = k
 | [], _, _, h => by unfold aaKZ at h; exact h.elim
 | a :: r, row, h, hv => by
  simp only [ahpZ, Bool.and_eq_true, Nat.beq_eq] at h
  unfold aaKZ at hv
  rcases hv with hv | hv
  ·rw [anlZ hv]; exact h.1
  ·exact adHZ h.2 hv
structure Va where
 γ : List Int
 δ : List (List (List AV))
 ε : List (Option (Nat × Nat))
structure Va.Le (V V' : Va) : Prop where
 g : ∀ (s : Nat) (n : Int), V.γ[s]? = some n -> V'.γ[s]? = some n
 d : ∀ (s : Nat) (n : List (List AV)), V.δ[s]? = some n -> V'.δ[s]? = some n
 e : ∀ (s : Nat) (n : Option (Nat × Nat)), V.ε[s]? = some n -> V'.ε[s]? = some n
theorem Va.Le.refl {V : Va} : V.Le V := ⟨fun _ _ h => h, fun _ _ h => h, fun _ _ h => h⟩
theorem Va.Le.trans {V V' V'' : Va} (h : V.Le V') (h' : V'.Le V'') : V.Le V'' := ⟨fun s n e => h'.g s n (h.g s n e), fun s n e => h'.d s n (h.d s n e), fun s n e => h'.e s n (h.e s n e)⟩
def Va.pg (V : Va) (n : Int) : Va := { V with γ := V.γ ++ [n] }
def Va.pd (V : Va) (n : List (List AV)) : Va := { V with δ := V.δ ++ [n] }
def Va.pe (V : Va) (n : Option (Nat × Nat)) : Va := { V with ε := V.ε ++ [n] }
theorem aaRZ {α : Type} {l l' : List α} {i : Nat} {a : α} (h : l[i]? = some a) : (l ++ l')[i]? = some a := by
 rw [List.getElem?_append_left (getElem?_lt' h)]; exact h
where
 getElem?_lt' {α : Type} {l : List α} {i : Nat} {a : α} (h : l[i]? = some a) : i < l.length := by
  rcases Nat.lt_or_ge i l.length with h1 | h1
  ·exact h1
  ·rw [List.getElem?_eq_none h1] at h; cases h
theorem avTZ {α : Type} {l : List α} {i : Nat} {a : α} (h : l[i]? = some a) : i < l.length := by
 rcases Nat.lt_or_ge i l.length with h1 | h1
 ·exact h1
 ·rw [List.getElem?_eq_none h1] at h; cases h
theorem anmZ {α : Type} (l : List α) (a : α) : (l ++ [a])[l.length]? = some a := by simp
theorem aoDZ {α : Type} {l : List α} {a : α} {i : Nat} {b : α} (h : (l ++ [a])[i]? = some b) : (i = l.length /\ b = a) ∨ (i < l.length /\ l[i]? = some b) := by
 have hl := avTZ h
 simp at hl
 rcases Nat.lt_or_ge i l.length with h1 | h1
 ·rw [List.getElem?_append_left h1] at h; exact .inr ⟨h1, h⟩
 ·have : i = l.length := by omega
  subst this
  rw [anmZ] at h
  cases h
  exact .inl ⟨rfl, rfl⟩
theorem Va.le_pg {V : Va} {n : Int} : V.Le (V.pg n) := ⟨fun _ _ h => aaRZ h, fun _ _ h => h, fun _ _ h => h⟩
theorem Va.le_pd {V : Va} {n} : V.Le (V.pd n) := ⟨fun _ _ h => h, fun _ _ h => aaRZ h, fun _ _ h => h⟩
theorem Va.le_pe {V : Va} {n} : V.Le (V.pe n) := ⟨fun _ _ h => h, fun _ _ h => h, fun _ _ h => aaRZ h⟩
def Cd.ok (γ : List Int) (r : Bool) : Cd -> Prop
 | .none => True
 | .lt a ca b cb => ∃ x y, γ[a]? = some x /\ γ[b]? = some y /\ r = decide (x + ca < y + cb)
 | .le a ca b cb => ∃ x y, γ[a]? = some x /\ γ[b]? = some y /\ r = decide (x + ca <= y + cb)
 | .eq a ca b cb => ∃ x y, γ[a]? = some x /\ γ[b]? = some y /\ r = decide (x + ca = y + cb)
 | .ne a ca b cb => ∃ x y, γ[a]? = some x /\ γ[b]? = some y /\ r = !decide (x + ca = y + cb)
def gsv (B : Nat) (e : Option (Nat × Nat)) (rows : List (List AV)) (v : AV) : Prop := match e with
 | none => v = .sl true rows
 | some (o, n) => v = .sr (B + o) n rows.length
mutual
def XV.rel (V : Va) (B : Nat) : XV -> AV -> Prop
 | .top, _ => True
 | .tt b, v => v = .bool b
 | .bl c, v => ∃ b, v = .bool b /\ c.ok V.γ b
 | .num k s c, v => ∃ n, V.γ[s]? = some n /\ v = .int k (n + c)
 | .txt s c, v => ∃ l n, v = .str l /\ V.γ[s]? = some n /\ (l.length : Int) = n + c
 | .sl id, v => ∃ f rows, V.δ[id]? = some rows /\ v = .sl f rows
 | .fsl id, v => ∃ rows, V.δ[id]? = some rows /\ v = .sl true rows
 | .nil, v => v = .sl true []
 | .agg cs, v => ∃ vs, v = .agg vs /\ relL V B cs vs
 | .tup cs, v => ∃ vs, v = .tup vs /\ relL V B cs vs
 | .ep row off, v => ∃ vs, v = .ep vs off /\ relL V B row vs
 | .ptr o s off, v => ∃ o' n, V.ε[s]? = some (some (o', n)) /\ v = .ptr (B + o) n off
 | .gs s id, v => ∃ e rows, V.ε[s]? = some e /\ V.δ[id]? = some rows /\ gsv B e rows v
 | .own id, v => ∃ rows, V.δ[id]? = some rows /\ (v = .sl false rows ∨ ∃ k, v = .own k rows)
def relL (V : Va) (B : Nat) : List XV -> List AV -> Prop
 | [], vs => vs = []
 | x :: r, vs => ∃ v vr, vs = v :: vr /\ x.rel V B v /\ relL V B r vr
end
theorem Cd.ok_mono {V V' : Va} (h : V.Le V') {r : Bool} : ∀ {c : Cd}, c.ok V.γ r -> c.ok V'.γ r
 | .none, _ => trivial
 | .lt ..,⟨x, y, h1, h2, h3⟩ => ⟨x, y, h.g _ _ h1, h.g _ _ h2, h3⟩
 | .le ..,⟨x, y, h1, h2, h3⟩ => ⟨x, y, h.g _ _ h1, h.g _ _ h2, h3⟩
 | .eq ..,⟨x, y, h1, h2, h3⟩ => ⟨x, y, h.g _ _ h1, h.g _ _ h2, h3⟩
 | .ne ..,⟨x, y, h1, h2, h3⟩ => ⟨x, y, h.g _ _ h1, h.g _ _ h2, h3⟩
mutual
theorem XV.rel_mono {V V' : Va} (h : V.Le V') {B : Nat} : ∀ (x : XV) (v : AV), x.rel V B v -> x.rel V' B v
 | .top, v, _ => by unfold XV.rel; trivial
 | .tt b, v, hv => by unfold XV.rel at hv ⊢; exact hv
 | .bl c, v, hv => by unfold XV.rel at hv ⊢; obtain ⟨b, h1, h2⟩ := hv; exact ⟨b, h1, Cd.ok_mono h h2⟩
 | .num k s c, v, hv => by unfold XV.rel at hv ⊢; obtain ⟨n, h1, h2⟩ := hv; exact ⟨n, h.g _ _ h1, h2⟩
 | .txt s c, v, hv => by unfold XV.rel at hv ⊢; obtain ⟨l, n, h1, h2, h3⟩ := hv; exact ⟨l, n, h1, h.g _ _ h2, h3⟩
 | .sl id, v, hv => by unfold XV.rel at hv ⊢; obtain ⟨f, rows, h1, h2⟩ := hv; exact ⟨f, rows, h.d _ _ h1, h2⟩
 | .fsl id, v, hv => by unfold XV.rel at hv ⊢; obtain ⟨rows, h1, h2⟩ := hv; exact ⟨rows, h.d _ _ h1, h2⟩
 | .nil, v, hv => by unfold XV.rel at hv ⊢; exact hv
 | .agg cs, v, hv => by unfold XV.rel at hv ⊢; obtain ⟨vs, h1, h2⟩ := hv; exact ⟨vs, h1, acoZ h cs vs h2⟩
 | .tup cs, v, hv => by unfold XV.rel at hv ⊢; obtain ⟨vs, h1, h2⟩ := hv; exact ⟨vs, h1, acoZ h cs vs h2⟩
 | .ep row off, v, hv => by unfold XV.rel at hv ⊢; obtain ⟨vs, h1, h2⟩ := hv; exact ⟨vs, h1, acoZ h row vs h2⟩
 | .ptr o s off, v, hv => by unfold XV.rel at hv ⊢; obtain ⟨o', n, h1, h2⟩ := hv; exact ⟨o', n, h.e _ _ h1, h2⟩
 | .gs s id, v, hv => by unfold XV.rel at hv ⊢; obtain ⟨e, rows, h1, h2, h3⟩ := hv; exact ⟨e, rows, h.e _ _ h1, h.d _ _ h2, h3⟩
 | .own id, v, hv => by unfold XV.rel at hv ⊢; obtain ⟨rows, h1, h2⟩ := hv; exact ⟨rows, h.d _ _ h1, h2⟩
theorem acoZ {V V' : Va} (h : V.Le V') {B : Nat} : ∀ (x : List XV) (v : List AV), relL V B x v -> relL V' B x v
 | [], v, hv => by unfold relL at hv ⊢; exact hv
 | x :: r, v, hv => by
  unfold relL at hv ⊢
  obtain ⟨a, vr, h1, h2, h3⟩ := hv
  exact ⟨a, vr, h1, XV.rel_mono h x a h2, acoZ h r vr h3⟩
end
theorem aaTZ {V : Va} {B : Nat} : ∀ {x : List XV} {v : List AV}, relL V B x v -> v.length = x.length
 | [], v, hv => by unfold relL at hv; subst hv; rfl
 | x :: r, v, hv => by
  unfold relL at hv
  obtain ⟨a, vr, rfl, _, h3⟩ := hv
  simp [aaTZ h3]
structure ST.Ok (B : Nat) (T : ST) (V : Va) : Prop where
 ns : V.γ.length = T.ns
 nl : V.δ.length = T.nl
 nv : V.ε.length = T.nv
 zero : V.γ[0]? = some 0
 rng : ∀ s n, V.γ[s]? = some n -> T.lo s <= n /\ n <= T.hi s
 les : ∀ a e, e ∈ T.edges a -> ∃ x y, V.γ[a]? = some x /\ V.γ[e.1]? = some y /\ x <= y + e.2
 lst : ∀ id li, T.lst.get (aaLZ id) = some li -> ∃ rows n, V.δ[id]? = some rows /\ abHZ rows = true /\ V.γ[li.s]? = some n /\ (rows.length : Int) = n + li.c /\ ∀ row ∈ rows, aaKZ li.alts row
 memo : ∀ m ∈ T.memo, ∃ rows n row, V.δ[m.id]? = some rows /\ V.γ[m.s]? = some n /\ 0 <= n + m.c /\ rows[(n + m.c).toNat]? = some row /\ relL V B m.row row
 rems : ∀ a ca c s, (a, ca, c, s) ∈ T.rems -> ∃ x, V.γ[a]? = some x /\ V.γ[s]? = some ((x + ca).tmod c)
 dat : ∀ (id : Nat) (rows : List (List AV)), V.δ[id]? = some rows -> abHZ rows = true
section
variable {B : Nat} {T : ST} {V : Va}
theorem aaEZ (h : T.Ok B V) : ∀ (n : Nat) {a ca b cb}, leQ T n a ca b cb = true -> ∀ {x y : Int}, V.γ[a]? = some x -> V.γ[b]? = some y -> x + ca <= y + cb
 | 0, a, ca, b, cb, hq, x, y, hx, hy => by
  simp only [leQ, Bool.or_eq_true, Bool.and_eq_true, Nat.beq_eq, absZ] at hq
  rcases hq with ⟨rfl, hq⟩ | hq
  ·rw [hx] at hy; cases hy; omega
  ·have := (h.rng a x hx).2
   have := (h.rng b y hy).1
   omega
 | n + 1, a, ca, b, cb, hq, x, y, hx, hy => by
  simp only [leQ, Bool.or_eq_true, Bool.and_eq_true, Nat.beq_eq, absZ, List.any_eq_true] at hq
  rcases hq with (⟨rfl, hq⟩ | hq) | ⟨e, he, hq⟩
  ·rw [hx] at hy; cases hy; omega
  ·have := (h.rng a x hx).2
   have := (h.rng b y hy).1
   omega
  ·obtain ⟨x', z, h1, h2, h3⟩ := h.les a e he
   rw [hx] at h1
   cases h1
   have := aaEZ h n hq h2 hy
   omega
theorem ajdZ {α β : Type} {f : α -> Option β} : ∀ {l : List α} {b : β}, akfZ f l = some b -> ∃ a ∈ l, f a = some b
 | [], _, h => by cases h
 | a :: r, b, h => by
  unfold akfZ at h
  split at h
  ·rename_i e; cases h; exact ⟨a, by simp, e⟩
  ·obtain ⟨a', h1, h2⟩ := ajdZ h
   exact ⟨a', by simp [h1], h2⟩
theorem aiLZ (h : T.Ok B V) : ∀ (n : Nat) {a b g}, gapQ T n a b = some g -> ∀ {x y : Int}, V.γ[a]? = some x -> V.γ[b]? = some y -> x <= y + g
 | 0, a, b, g, hq, x, y, hx, hy => by
  unfold gapQ at hq
  split at hq
  ·rename_i e
   rw [Nat.beq_eq] at e
   subst e
   cases hq
   rw [hx] at hy; cases hy; omega
  ·cases hq
 | n + 1, a, b, g, hq, x, y, hx, hy => by
  unfold gapQ at hq
  split at hq
  ·rename_i e
   rw [Nat.beq_eq] at e
   subst e
   cases hq
   rw [hx] at hy; cases hy; omega
  ·obtain ⟨e, he, h1⟩ := ajdZ hq
   split at h1
   ·rename_i g' hg
    cases h1
    obtain ⟨x', z, h1, h2, h3⟩ := h.les a e he
    rw [hx] at h1
    cases h1
    have := aiLZ h n hg h2 hy
    omega
   ·cases h1
theorem afUZ (h : T.Ok B V) : ∀ (n : Nat) {s : Nat} {x : Int}, V.γ[s]? = some x -> x <= hiQ T n s
 | 0, s, x, hx => (h.rng s x hx).2
 | n + 1, s, x, hx => by
  unfold hiQ
  have key : ∀ l : List (Nat × Int), (∀ e ∈ l, e ∈ T.edges s) -> x <= l.foldr (fun e m => imin m (hiQ T n e.1 + e.2)) (T.hi s) := by
   intro l
   induction l with
   | nil => intro _; exact (h.rng s x hx).2
   | cons e r ih =>
    intro hl
    rw [List.foldr_cons]
    refine arQZ (ih fun e' he => hl e' (by simp [he])) ?_
    obtain ⟨x', z, h1, h2, h3⟩ := h.les s e (hl e (by simp))
    rw [hx] at h1
    cases h1
    have := afUZ h n h2
    omega
  exact key _ fun e he => he
theorem ST.fresh_lo {lo hi : Int} {s : Nat} : (T.fresh lo hi).lo s = if s = T.ns then lo else T.lo s := by
 unfold ST.fresh ST.lo
 dsimp only
 rw [XT.get_put]
 by_cases h : s = T.ns <;> simp [h]
theorem ST.fresh_hi {lo hi : Int} {s : Nat} : (T.fresh lo hi).hi s = if s = T.ns then hi else T.hi s := by
 unfold ST.fresh ST.hi
 dsimp only
 rw [XT.get_put]
 by_cases h : s = T.ns <;> simp [h]
theorem ST.Ok.fresh (h : T.Ok B V) {lo hi n : Int} (h1 : lo <= n) (h2 : n <= hi) : (T.fresh lo hi).Ok B (V.pg n) where
 ns := by simp [Va.pg, ST.fresh, h.ns]
 nl := h.nl
 nv := h.nv
 zero := aaRZ h.zero
 rng := fun s m hm => by
  rw [ST.fresh_lo, ST.fresh_hi]
  rcases aoDZ hm with ⟨e1, e2⟩ | ⟨e1, e2⟩
  ·rw [h.ns] at e1
   rw [if_pos e1, if_pos e1]
   subst e2
   exact ⟨h1, h2⟩
  ·have : s ≠ T.ns := by rw [h.ns] at e1; omega
   rw [if_neg this, if_neg this]
   exact h.rng s m e2
 les := fun a e he => by
  obtain ⟨x, y, h1, h2, h3⟩ := h.les a e he
  exact ⟨x, y, aaRZ h1, aaRZ h2, h3⟩
 lst := fun id li hl => by
  obtain ⟨rows, n, h1, h2, h3, h4, h5⟩ := h.lst id li hl
  exact ⟨rows, n, h1, h2, aaRZ h3, h4, h5⟩
 memo := fun m hm => by
  obtain ⟨rows, n, row, h1, h2, h3, h4, h5⟩ := h.memo m hm
  exact ⟨rows, n, row, h1, aaRZ h2, h3, h4, acoZ Va.le_pg _ _ h5⟩
 rems := fun a ca c s hm => by
  obtain ⟨x, h1, h2⟩ := h.rems a ca c s hm
  exact ⟨x, aaRZ h1, aaRZ h2⟩
 dat := h.dat
theorem ST.Ok.freshV (h : T.Ok B V) (e : Option (Nat × Nat)) : T.freshV.Ok B (V.pe e) where
 ns := h.ns
 nl := h.nl
 nv := by simp [Va.pe, ST.freshV, h.nv]
 zero := h.zero
 rng := h.rng
 les := h.les
 lst := h.lst
 memo := fun m hm => by
  obtain ⟨rows, n, row, h1, h2, h3, h4, h5⟩ := h.memo m hm
  exact ⟨rows, n, row, h1, h2, h3, h4, acoZ Va.le_pe _ _ h5⟩
 rems := h.rems
 dat := h.dat
theorem ST.Ok.freshL (h : T.Ok B V) {li : LI} {rows : List (List AV)} {n : Int} (h1 : abHZ rows = true) (h2 : V.γ[li.s]? = some n) (h3 : (rows.length : Int) = n + li.c) (h4 : ∀ row ∈ rows, aaKZ li.alts row) : (T.freshL li).Ok B (V.pd rows) where
 ns := h.ns
 nl := by simp [Va.pd, ST.freshL, h.nl]
 nv := h.nv
 zero := h.zero
 rng := h.rng
 les := h.les
 lst := fun id li' hl => by
  have hl : (T.lst.set li (aaLZ T.nl)).get (aaLZ id) = some li' := hl
  rw [XT.get_put] at hl
  by_cases e : id = T.nl
  ·rw [if_pos e] at hl
   cases hl
   subst e
   refine ⟨rows, n, ?_, h1, h2, h3, h4⟩
   rw [<- h.nl]
   exact anmZ _ _
  ·rw [if_neg e] at hl
   obtain ⟨rows, n, h1, h2, h3, h4, h5⟩ := h.lst id li' hl
   exact ⟨rows, n, aaRZ h1, h2, h3, h4, h5⟩
 memo := fun m hm => by
  obtain ⟨rows, n, row, h1, h2, h3, h4, h5⟩ := h.memo m hm
  exact ⟨rows, n, row, aaRZ h1, h2, h3, h4, acoZ Va.le_pd _ _ h5⟩
 rems := h.rems
 dat := fun id r hd => by
  rcases aoDZ hd with ⟨_, rfl⟩ | ⟨_, e2⟩
  ·exact h1
  ·exact h.dat id r e2
theorem ST.Ok.new_s (h : T.Ok B V) (n : Int) : (V.pg n).γ[T.ns]? = some n := by rw [<- h.ns]; exact anmZ _ _
theorem ST.Ok.new_l (h : T.Ok B V) (n) : (V.pd n).δ[T.nl]? = some n := by rw [<- h.nl]; exact anmZ _ _
theorem ST.Ok.new_v (h : T.Ok B V) (n) : (V.pe n).ε[T.nv]? = some n := by rw [<- h.nv]; exact anmZ _ _
theorem ST.Ok.le (h : T.Ok B V) {a b : Nat} {ca cb x y : Int} (ha : V.γ[a]? = some x) (hb : V.γ[b]? = some y) (hle : x + ca <= y + cb) : (T.le a ca b cb).Ok B V := by
 have ra := h.rng a x ha
 have rb := h.rng b y hb
 exact {
  ns := h.ns, nl := h.nl, nv := h.nv, zero := h.zero, lst := h.lst, memo := h.memo, rems := h.rems, dat := h.dat
  rng := fun s n hs => by
   have rs := h.rng s n hs
   have m1 : x <= imin (T.hi a) (T.hi b + (cb - ca)) := arQZ ra.2 (by omega)
   have m2 : imax (T.lo b) (T.lo a + (ca - cb)) <= y := arRZ rb.1 (by omega)
   unfold ST.le ST.lo ST.hi
   dsimp only
   rw [XT.get_put, XT.get_put]
   by_cases e : s = b
   ·subst e
    rw [hb] at hs
    cases hs
    rw [if_pos rfl]
    dsimp only
    refine ⟨m2, ?_⟩
    split
    ·rename_i e
     rw [Nat.beq_eq] at e
     subst e
     rw [ha] at hb
     cases hb
     exact m1
    ·exact rb.2
   ·rw [if_neg e]
    by_cases e2 : s = a
    ·subst e2
     rw [ha] at hs
     cases hs
     rw [if_pos rfl]
     exact ⟨ra.1, m1⟩
    ·rw [if_neg e2]
     exact rs
  les := fun s e he => by
   cases hc : (Nat.beq a 0 || Nat.beq b 0) with
   | true =>
    have : (T.le a ca b cb).edges s = T.edges s := by
     unfold ST.le ST.edges
     rw [hc]
    rw [this] at he
    exact h.les s e he
   | false =>
    have : (T.le a ca b cb).edges s = if s = a then (b, cb - ca) :: T.edges a else T.edges s := by
     unfold ST.le
     rw [hc]
     unfold ST.edges
     dsimp only
     rw [XT.get_put]
     by_cases e2 : s = a <;> simp [e2]
    rw [this] at he
    by_cases e2 : s = a
    ·subst e2
     rw [if_pos rfl] at he
     rcases List.mem_cons.1 he with rfl | he
     ·exact ⟨x, y, ha, hb, by dsimp only; omega⟩
     ·exact h.les s e he
    ·rw [if_neg e2] at he
     exact h.les s e he }
end
end Go.AM
end
