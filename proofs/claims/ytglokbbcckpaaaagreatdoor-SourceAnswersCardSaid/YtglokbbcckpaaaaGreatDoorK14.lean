/- Part 14 of the proof that stands in the last text of this folder (lemmas; no statement of its own). -/
import Derived.Test.YtglokbbcckpaaaaGreatDoorK13
set_option linter.unusedVariables false
set_option linter.unusedSimpArgs false
open Nat renaming reduceBEq -> NB, reduceAdd -> NA, reduceLT -> NL, reduceLeDiff -> ND, reduceEqDiff -> NE
open Bool renaming not_false -> BF
section
set_option maxRecDepth 8000
namespace Go.AM
open Go
abbrev ahFZ (g : String -> Nat) : List AOper := [⟨some 10, .mov (.tmp 0), none, []⟩,⟨some 11, .bin .quo .no (.tmp 10) (.const (.int .i64 10)), none, [0]⟩,⟨some 12, .callv (.const (.fn (g "dactyl/dactylref23.Decimal") [] [])) [(.tmp 11)], none, [1, 0]⟩,⟨some 13, .mov (.tmp 0), none, []⟩,⟨some 14, .bin .rem .no (.tmp 13) (.const (.int .i64 10)), none, [3]⟩,⟨some 15, .bin .add .no (.const (.int .i64 48)) (.tmp 14), none, [4, 3]⟩,⟨some 16, .conv (.toInt .u8) (.tmp 15), none, [5, 4, 3]⟩,⟨some 17, .bsl 1 [(.int .u8 0)] 1 [(0, (.tmp 16))], none, [6, 5, 4, 3]⟩,⟨some 18, .conv .b2s (.tmp 17), none, [7, 6, 5, 4, 3]⟩,⟨some 19, .bin .add .no (.tmp 12) (.tmp 18), none, [2, 1, 0, 8, 7, 6, 5, 4, 3]⟩,⟨some 2, .mov (.tmp 19), none, [9, 2, 1, 0, 8, 7, 6, 5, 4, 3]⟩]
def acBZ (g : String -> Nat) : AFn := ⟨20, [], [.tmp 2],.seq (.region false [⟨some 2, .mov (.const (.str [])), none, []⟩]) <| .seq (.seq (.region false [⟨some 3, .mov (.tmp 0), none, []⟩,⟨some 4, .bin .lss .no (.tmp 3) (.const (.int .i64 10)), none, [0]⟩]) <| .cond (.tmp 4) (.seq (.region false [⟨some 5, .mov (.tmp 0), none, []⟩,⟨some 6, .bin .add .no (.const (.int .i64 48)) (.tmp 5), none, [0]⟩,⟨some 7, .conv (.toInt .u8) (.tmp 6), none, [1, 0]⟩,⟨some 8, .bsl 1 [(.int .u8 0)] 1 [(0, (.tmp 7))], none, [2, 1, 0]⟩,⟨some 9, .conv .b2s (.tmp 8), none, [3, 2, 1, 0]⟩,⟨some 2, .mov (.tmp 9), none, [4, 3, 2, 1, 0]⟩]) <| .ret) (.skip)) <| .seq (.region true (ahFZ g)) <| .ret⟩
def acVZ (g : String -> Nat) : AFn := ⟨15, [], [.tmp 4],.seq (.region false [⟨some 4, .mov (.const (.int .i64 0)), none, []⟩]) <| .seq (.seq (.region false [⟨some 5, .mov (.tmp 0), none, []⟩,⟨some 6, .bin .lss .no (.tmp 5) (.const (.int .i64 0)), none, [0]⟩]) <| .cond (.tmp 6) (.region false [⟨some 7, .mov (.tmp 0), none, []⟩,⟨some 8, .bin .add .no (.tmp 7) (.const (.int .i64 1)), none, [0]⟩,⟨some 9, .un .neg (.tmp 8), none, [1, 0]⟩,⟨some 0, .mov (.tmp 9), none, [2, 1, 0]⟩]) (.skip)) <| .seq (.seq (.region false [⟨some 10, .mov (.tmp 1), none, []⟩,⟨some 11, .bin .lss .no (.tmp 10) (.const (.int .i64 1)), none, [0]⟩]) <| .cond (.tmp 11) (.seq (.region false [⟨some 4, .mov (.const (.int .i64 0)), none, []⟩]) <| .ret) (.skip)) <| .seq (.region false [⟨some 12, .mov (.tmp 0), none, []⟩,⟨some 13, .mov (.tmp 1), none, []⟩,⟨some 14, .bin .rem .no (.tmp 12) (.tmp 13), none, [0, 1]⟩,⟨some 4, .mov (.tmp 14), none, [2, 0, 1]⟩]) <| .ret⟩
def adVZ (g : String -> Nat) : AFn := ⟨21, [], [.tmp 6],.seq (.region false [⟨some 6, .mov (.const (.int .i64 0)), none, []⟩]) <| .seq (.seq (.region false [⟨some 7, .mov (.tmp 1), none, []⟩,⟨some 8, .bin .lss .no (.tmp 7) (.const (.int .i64 0)), none, [0]⟩,⟨some 9, .mov (.tmp 8), none, [1, 0]⟩,⟨some 10, .mov (.tmp 1), some (some 9, false), [2, 1, 0]⟩,⟨some 11, .mov (.tmp 0), some (some 9, false), [2, 1, 0]⟩,⟨some 12, .lenV (.tmp 11), some (some 9, false), [4, 2, 1, 0]⟩,⟨some 13, .bin .geq .no (.tmp 10) (.tmp 12), some (some 9, false), [3, 5, 4, 2, 1, 0]⟩,⟨some 14, .pick (.tmp 9) (.const (.bool true)) (.tmp 13), none, [6, 3, 5, 4, 2, 1, 0]⟩]) <| .cond (.tmp 14) (.seq (.region false [⟨some 6, .mov (.const (.int .i64 0)), none, []⟩]) <| .ret) (.skip)) <| .seq (.region false [⟨some 15, .mov (.tmp 0), none, []⟩,⟨some 16, .mov (.tmp 1), none, []⟩,⟨some 17, .iaV (.tmp 15) (.tmp 16) 1, none, [0, 1]⟩,⟨some 18, .load 1 false (.tmp 17), none, [2, 0, 1]⟩,⟨some 19, .mov (.tmp 2), none, []⟩,⟨some 20, .callv (.const (.fn (g "dactyl/dactylref01.Around") [] [])) [(.tmp 18), (.tmp 19)], none, [3, 2, 0, 1, 4]⟩,⟨some 6, .mov (.tmp 20), none, [5, 3, 2, 0, 1, 4]⟩]) <| .ret⟩
abbrev agoZ (g : String -> Nat) : List AOper := [⟨some 12, .mov (.tmp 0), none, []⟩,⟨some 13, .nilck (.tmp 12), none, [0]⟩,⟨some 14, .fa 0 (.tmp 13), none, [1, 0]⟩,⟨some 15, .load 1 false (.tmp 14), none, [2, 1, 0]⟩,⟨some 16, .mov (.tmp 0), none, []⟩,⟨some 17, .nilck (.tmp 16), none, [4]⟩,⟨some 18, .fa 1 (.tmp 17), none, [5, 4]⟩,⟨some 19, .load 1 false (.tmp 18), none, [6, 5, 4]⟩,⟨some 20, .bin .sub .no (.tmp 19) (.const (.int .i64 1)), none, [7, 6, 5, 4]⟩,⟨some 21, .mov (.tmp 1), none, []⟩,⟨some 22, .callv (.const (.fn (g "dactyl/dactylref01.At") [] [])) [(.tmp 15), (.tmp 20), (.tmp 21)], none, [3, 2, 1, 0, 8, 7, 6, 5, 4, 9]⟩,⟨some 4, .mov (.tmp 22), none, [10, 3, 2, 1, 0, 8, 7, 6, 5, 4, 9]⟩]
def abWZ (g : String -> Nat) : AFn := ⟨23, [], [.tmp 4],.seq (.region false [⟨some 4, .mov (.const (.int .i64 0)), none, []⟩]) <| .seq (.region false [⟨some 5, .mov (.tmp 0), none, []⟩,⟨some 6, .nilck (.tmp 5), none, [0]⟩,⟨some 7, .fa 1 (.tmp 6), none, [1, 0]⟩,⟨some 8, .load 1 false (.tmp 7), none, [2, 1, 0]⟩,⟨some 9, .bin .add .no (.tmp 8) (.const (.int .i64 1)), none, [3, 2, 1, 0]⟩,⟨some 10, .nilck (.tmp 5), none, [4, 3, 2, 1, 0]⟩,⟨some 11, .fa 1 (.tmp 10), none, [5, 4, 3, 2, 1, 0]⟩,⟨none, .store 1 (.tmp 11) (.tmp 9), none, [6, 5, 4, 3, 2, 1, 0]⟩]) <| .seq (.region true (agoZ g)) <| .ret⟩
def adDZ (g : String -> Nat) : AFn := ⟨15, [], [.tmp 2],.seq (.region false [⟨some 2, .mov (.const (.int .i64 0)), none, []⟩]) <| .seq (.seq (.region false [⟨some 3, .mov (.tmp 0), none, []⟩,⟨some 4, .bin .eql .no (.tmp 3) (.const (.int .i64 0)), none, [0]⟩,⟨some 5, .mov (.tmp 4), none, [1, 0]⟩,⟨some 6, .mov (.tmp 0), some (some 5, false), [2, 1, 0]⟩,⟨some 7, .bin .eql .no (.tmp 6) (.const (.int .i64 1)), some (some 5, false), [3, 2, 1, 0]⟩,⟨some 8, .pick (.tmp 5) (.const (.bool true)) (.tmp 7), none, [4, 3, 2, 1, 0]⟩]) <| .cond (.tmp 8) (.seq (.region false [⟨some 2, .mov (.const (.int .i64 0)), none, []⟩]) <| .ret) (.skip)) <| .seq (.seq (.region false [⟨some 9, .mov (.tmp 0), none, []⟩,⟨some 10, .bin .eql .no (.tmp 9) (.const (.int .i64 2)), none, [0]⟩,⟨some 11, .mov (.tmp 10), none, [1, 0]⟩,⟨some 12, .mov (.tmp 0), some (some 11, false), [2, 1, 0]⟩,⟨some 13, .bin .eql .no (.tmp 12) (.const (.int .i64 8)), some (some 11, false), [3, 2, 1, 0]⟩,⟨some 14, .pick (.tmp 11) (.const (.bool true)) (.tmp 13), none, [4, 3, 2, 1, 0]⟩]) <| .cond (.tmp 14) (.seq (.region false [⟨some 2, .mov (.const (.int .i64 1)), none, []⟩]) <| .ret) (.skip)) <| .seq (.region false [⟨some 2, .mov (.const (.int .i64 2)), none, []⟩]) <| .ret⟩
theorem wrap_u8 {n : Int} (h1 : 0 <= n) (h2 : n <= 255) : IntKind.wrap .u8 n = n := by
 unfold IntKind.wrap IntKind.bits IntKind.signed
 simp
 omega
theorem almZ {A : AProg} {g : String -> Nat} (h : Has A g "dactyl/dactylref23.Decimal" (acBZ g)) : ajpZ A g := by
 have key : ∀ (k n : Nat) (H : List AObj), n < k -> n < 1000000 -> aapZ A (g "dactyl/dactylref23.Decimal") [vi n] H = some (.str (dec n), H, []) := by
  intro k
  induction k with
  | zero => intro n H hk; omega
  | succ k ih =>
   intro n H hk hn
   refine h.call (by simp [acBZ]) (by kernel_rfl) ?_
   simp only [acBZ]
   simp only [go_sem, NB]
   refine aacZ (fun hb => ?_) (fun hb => ?_)
   ·have hlt : n < 10 := by simp at hb; omega
    have hw : IntKind.i64.wrap (48 + (n : Int)) = ((48 + n : Nat) : Int) := by rw [wrap_i64 (by omega) (by omega)]; omega
    have hu : IntKind.u8.wrap ((48 + n : Nat) : Int) = ((48 + n : Nat) : Int) := wrap_u8 (by omega) (by omega)
    have hd : dec n = [UInt8.ofNat (48 + n)] := by rw [dec, if_pos hlt]
    simp only [go_sem, ↓reduceIte, NB, NL, hw, hu, agRZ, abqZ, hd]
   ·have hge : ¬ n < 10 := by simp at hb; omega
    have hq : (n : Int).tdiv 10 = ((n / 10 : Nat) : Int) := rfl
    have hr : (n : Int).tmod 10 = ((n % 10 : Nat) : Int) := rfl
    have hwq : IntKind.i64.wrap ((n / 10 : Nat) : Int) = ((n / 10 : Nat) : Int) := wrap_i64 (by omega) (by omega)
    have hw : IntKind.i64.wrap (48 + ((n % 10 : Nat) : Int)) = ((48 + n % 10 : Nat) : Int) := by rw [wrap_i64 (by omega) (by omega)]; omega
    have hu : IntKind.u8.wrap ((48 + n % 10 : Nat) : Int) = ((48 + n % 10 : Nat) : Int) := wrap_u8 (by omega) (by omega)
    have hih := fun H => ih (n / 10) H (by omega) (by omega)
    have hd : dec n = dec (n / 10) ++ [UInt8.ofNat (48 + n % 10)] := by rw [dec, if_neg hge]
    have hl : (dec (n / 10)).length + 1 <= 4611686018427387904 := by have := apfZ 5 (n / 10) (by omega); omega
    simp only [go_sem]
    refine aaPZ (keep := [2, 6, 8]) (by rfl) (by rfl) ?_
    simp only [go_sem, ↓reduceIte, NB, NA, NL, BF, ayJZ (b := 10) (by decide), aeFZ (b := 10) (by decide), hq, hr, hwq, hw, hu, hih, agRZ, abqZ, awHZ, hl, acUZ, acEZ, aavZ, hd]
 intro n H hn
 exact key (n + 1) n H (by omega) hn
def around (n most : Int) : Int := if most < 1 then 0 else (if n < 0 then IntKind.i64.wrap (0 - IntKind.i64.wrap (n + 1)) else n).tmod most
abbrev afqZ (A : AProg) (g : String -> Nat) : Prop := ∀ (n m : Int) (H : List AObj), aapZ A (g "dactyl/dactylref01.Around") [vi n, vi m] H = some (vi (around n m), H, [])
theorem amKZ {A : AProg} {g : String -> Nat} (h : Has A g "dactyl/dactylref01.Around" (acVZ g)) : afqZ A g := by
 intro n m H
 refine h.call (by simp [acVZ]) (by kernel_rfl) ?_
 simp only [acVZ]
 simp only [go_sem, NB]
 refine aacZ (fun hb => ?_) (fun hb => ?_)
 ·have hn : n < 0 := by simpa using hb
  simp only [go_sem, NB]
  refine aacZ (fun hb => ?_) (fun hb => ?_)
  ·have hm : m < 1 := by simpa using hb
   simp only [go_sem, ↓reduceIte, around, hm]
  ·have hm : ¬ m < 1 := by simpa using hb
   simp only [go_sem, ↓reduceIte, NB, around, hm, hn, aeFZ (show m ≠ 0 by omega)]
 ·have hn : ¬ n < 0 := by simpa using hb
  simp only [go_sem, NB]
  refine aacZ (fun hb => ?_) (fun hb => ?_)
  ·have hm : m < 1 := by simpa using hb
   simp only [go_sem, ↓reduceIte, around, hm]
  ·have hm : ¬ m < 1 := by simpa using hb
   simp only [go_sem, ↓reduceIte, NB, around, hm, hn, aeFZ (show m ≠ 0 by omega)]
def atZ (l : List Int) (i most : Int) : Int := if i < 0 ∨ i ≥ l.length then 0 else around (l.getD i.toNat 0) most
theorem ayVZ {A : AProg} {g : String -> Nat} (h : Has A g "dactyl/dactylref01.At" (adVZ g)) (ha : afqZ A g) (l : List Int) (i m : Int) (H : List AObj) :
  aapZ A (g "dactyl/dactylref01.At") [.sl false (l.map aaqZ), vi i, vi m] H = some (vi (atZ l i m), H, []) := by
 refine h.call (by simp [adVZ]) (by kernel_rfl) ?_
 simp only [adVZ]
 by_cases h0 : i < 0
 ·simp only [go_sem, ↓reduceIte, NB, h0, atZ, true_or]
 ·by_cases h1 : i ≥ l.length
  ·simp only [go_sem, ↓reduceIte, NB, h0, h1, atZ, or_true]
  ·have hi : i.toNat < l.length := by omega
   have h2 : 0 <= i := by omega
   have hg : (l.map aaqZ)[i.toNat]? = some [vi (l.getD i.toNat 0)] := by
    rw [List.getElem?_map, List.getD_eq_getElem?_getD, List.getElem?_eq_getElem hi]; rfl
   simp only [go_sem, ↓reduceIte, NB, h0, h1, h2, hg, ha, atZ, or_false]
abbrev aaeZ (l : List Int) (i : Int) : List AV := [.sl false (l.map aaqZ), vi i]
abbrev abIZ (A : AProg) (g : String -> Nat) : Prop := ∀ (l : List Int) (i m : Int) (o v : Nat) (H : List AObj), H[o]? = some (.box v (aaeZ l i)) ->
 aapZ A (g "(*dactyl/dactylref23.Maker).Take") [.ptr o v 0, vi m] H = some (vi (atZ l (IntKind.i64.wrap (IntKind.i64.wrap (i + 1) - 1)) m), H.set o (.box v (aaeZ l (IntKind.i64.wrap (i + 1)))), [o])
theorem auYZ {A : AProg} {g : String -> Nat} (h : Has A g "(*dactyl/dactylref23.Maker).Take" (abWZ g)) (ha : Has A g "dactyl/dactylref01.At" (adVZ g)) (hr : afqZ A g) : abIZ A g := by
 intro l i m o v H ho
 have hlt := getElem?_lt ho
 refine h.call (by simp [abWZ]) (by kernel_rfl) ?_
 simp only [abWZ]
 simp only [go_sem, ↓reduceIte, NB, NA, ho, hlt]
 refine aaPZ (keep := []) (by rfl) (by rfl) ?_
 have hat := fun H => ayVZ ha hr l (IntKind.i64.wrap (IntKind.i64.wrap (i + 1) - 1)) m H
 simp only [go_sem, ↓reduceIte, NB, NA, ND, hlt, hat, allZ, aaaZ (aabZ aasZ _)]
end Go.AM
end
section
set_option maxRecDepth 8000
namespace Go.AM
open Go
def digs (m : Nat) : List UInt8 := if m = 0 then [] else UInt8.ofNat m :: digs (m / 256)
decreasing_by omega
def mag (n : Int) : Nat := if n < 0 then (-1 - n).toNat else n.toNat
def aEsZ (n : Int) (d : UInt8) : UInt8 := if n < 0 then 255 - d else d
def aEtZ (n : Int) : UInt8 := if n < 0 then UInt8.ofNat (127 - (digs (mag n)).length) else UInt8.ofNat (128 + (digs (mag n)).length)
def astZ (n : Int) : List UInt8 := aEtZ n :: (digs (mag n)).reverse.map (aEsZ n)
end Go.AM
end
section
set_option maxRecDepth 8000
namespace Go.AM
open Go
def auZZ (l : List Int) : List UInt8 := astZ l.length ++ l.flatMap astZ
theorem room {a b : Nat} (h : a + b <= 1000000000) : abNZ (a + b) 1 = true := by unfold abNZ; simp; omega
end Go.AM
end
section
set_option maxRecDepth 8000
namespace Go.AM
open Go
mutual
def aqjZ : Expr -> List UInt8
 | .mk op n kids => auZZ [op, n, kids.length] ++ aiFZ kids
def aiFZ : List Expr -> List UInt8
 | [] => []
 | e :: r => aqjZ e ++ aiFZ r
end
theorem amLZ : ∀ l : List Expr, aiFZ l = l.flatMap aqjZ
 | [] => rfl
 | e :: r => by rw [aiFZ, amLZ r, List.flatMap_cons]
theorem aeRZ (e : Expr) : (aaGZ e).length = 3 := by cases e; rfl
theorem abvZ : ∀ l : List Expr, aegZ l = l.map aaGZ
 | [] => rfl
 | e :: r => by rw [aegZ, abvZ r]; rfl
end Go.AM
end
section

end
section
set_option maxRecDepth 8000
namespace Go.AM
open Go
def abyZ (g : String -> Nat) : AFn := ⟨10, [], [.tmp 2],.seq (.region false [⟨some 2, .mov (.const (.str [])), none, []⟩]) <| .seq (.region false [⟨some 4, .bsl 1 [(.str [])] 12 [(0, (.const (.str [116, 104, 101, 32, 104, 97, 110, 100]))), (1, (.const (.str [97]))), (2, (.const (.str [73, 32, 97, 110, 100, 32, 121, 111, 117]))), (3, (.const (.str [84, 101, 110, 32, 49, 48]))), (4, (.const (.str [97, 110, 100]))), (5, (.const (.str [110, 111, 44, 32, 52, 50, 46]))), (6, (.const (.str [108, 97, 110, 100]))), (7, (.const (.str [67, 104, 105, 108, 100]))), (8, (.const (.str [120]))), (9, (.const (.str [99, 97, 110, 32, 105, 116]))), (10, (.const (.str [55, 32, 104, 97, 110, 100, 115]))), (11, (.const (.str [111, 102, 32, 116, 104, 101])))], none, []⟩,⟨some 3, .mov (.tmp 4), none, [0]⟩]) <| .seq (.region false [⟨some 5, .mov (.tmp 3), none, []⟩,⟨some 6, .mov (.tmp 0), none, []⟩,⟨some 7, .callv (.const (.fn (g "(*dactyl/dactylref23.Maker).Take") [] [])) [(.tmp 6), (.const (.int .i64 12))], none, [1]⟩,⟨some 8, .iaV (.tmp 5) (.tmp 7) 1, none, [0, 2, 1]⟩,⟨some 9, .load 1 false (.tmp 8), none, [3, 0, 2, 1]⟩,⟨some 2, .mov (.tmp 9), none, [4, 3, 0, 2, 1]⟩]) <| .ret⟩
abbrev agpZ (g : String -> Nat) : ACode := .seq (.seq (.region false [⟨some 14, .mov (.tmp 6), none, []⟩,⟨some 15, .mov (.tmp 5), none, []⟩,⟨some 16, .bin .lss .no (.tmp 14) (.tmp 15), none, [0, 1]⟩]) <| .cond (.tmp 16) (.skip) (.exit 0)) <| .seq (.block 1 (.region false [⟨some 19, .mov (.tmp 4), none, []⟩,⟨some 20, .mov (.tmp 3), none, []⟩,⟨some 21, .mov (.tmp 6), none, []⟩,⟨some 22, .bin .add .no (.tmp 20) (.tmp 21), none, [1, 2]⟩,⟨some 23, .bin .rem .no (.tmp 22) (.const (.int .i64 2)), none, [3, 1, 2]⟩,⟨some 24, .mov (.tmp 0), none, []⟩,⟨some 25, .callv (.const (.fn (g "(*dactyl/dactylref23.Maker).Phrase") [] [])) [(.tmp 24)], none, [5]⟩,⟨some 26, .build [(.int .i64 0), (.str [])] [(0, 1, (.tmp 23)), (1, 1, (.tmp 25))], none, [4, 3, 1, 2, 6, 5]⟩,⟨some 27, .bsl 2 [(.int .i64 0), (.str [])] 1 [(0, (.tmp 26))], none, [7, 4, 3, 1, 2, 6, 5]⟩,⟨some 28, .app 2 24 (.tmp 19) (.tmp 27), none, [0, 8, 7, 4, 3, 1, 2, 6, 5]⟩,⟨some 4, .mov (.tmp 28), none, [9, 0, 8, 7, 4, 3, 1, 2, 6, 5]⟩])) <| .region false [⟨some 17, .mov (.tmp 6), none, []⟩,⟨some 18, .bin .add .no (.tmp 17) (.const (.int .i64 1)), none, [0]⟩,⟨some 6, .mov (.tmp 18), none, [1, 0]⟩]
abbrev agqZ : List Nat := [14, 15, 16, 19, 20, 21, 22, 23, 24, 25, 26, 27, 28, 4, 17, 18, 6]
def abXZ (g : String -> Nat) : AFn := ⟨30, [28], [.tmp 2],.seq (.region false [⟨some 2, .mov (.const (.sl true [])), none, []⟩]) <| .seq (.region false [⟨some 7, .mov (.tmp 0), none, []⟩,⟨some 8, .callv (.const (.fn (g "(*dactyl/dactylref23.Maker).Take") [] [])) [(.tmp 7), (.const (.int .i64 2))], none, [0]⟩,⟨some 3, .mov (.tmp 8), none, [1, 0]⟩]) <| .seq (.region false [⟨some 4, .mov (.const (.sl true [])), none, []⟩]) <| .seq (.region false [⟨some 9, .bsl 1 [(.int .i64 0)] 5 [(0, (.const (.int .i64 1))), (1, (.const (.int .i64 1))), (2, (.const (.int .i64 1))), (3, (.const (.int .i64 2))), (4, (.const (.int .i64 3)))], none, []⟩,⟨some 10, .mov (.tmp 0), none, []⟩,⟨some 11, .callv (.const (.fn (g "(*dactyl/dactylref23.Maker).Take") [] [])) [(.tmp 10), (.const (.int .i64 5))], none, [1]⟩,⟨some 12, .iaV (.tmp 9) (.tmp 11) 1, none, [0, 2, 1]⟩,⟨some 13, .load 1 false (.tmp 12), none, [3, 0, 2, 1]⟩,⟨some 5, .mov (.tmp 13), none, [4, 3, 0, 2, 1]⟩]) <| .seq (.seq (.region false [⟨some 6, .mov (.const (.int .i64 0)), none, []⟩]) <| .block 0 (.loop (agpZ g))) <| .seq (.region false [⟨some 29, .mov (.tmp 4), none, []⟩,⟨some 2, .mov (.tmp 29), none, [0]⟩]) <| .ret⟩
abbrev afYZ (g : String -> Nat) : ACode := .seq (.seq (.region false [⟨some 11, .mov (.tmp 6), none, []⟩,⟨some 12, .mov (.tmp 5), none, []⟩,⟨some 13, .bin .lss .no (.tmp 11) (.tmp 12), none, [0, 1]⟩]) <| .cond (.tmp 13) (.skip) (.exit 0)) <| .seq (.block 1 (.region false [⟨some 16, .mov (.tmp 4), none, []⟩,⟨some 17, .mov (.tmp 3), none, []⟩,⟨some 18, .mov (.tmp 0), none, []⟩,⟨some 19, .callv (.const (.fn (g "(*dactyl/dactylref23.Maker).Take") [] [])) [(.tmp 18), (.const (.int .i64 7))], none, [2]⟩,⟨some 20, .iaV (.tmp 17) (.tmp 19) 1, none, [1, 3, 2]⟩,⟨some 21, .load 1 false (.tmp 20), none, [4, 1, 3, 2]⟩,⟨some 22, .bsl 1 [(.str [])] 1 [(0, (.tmp 21))], none, [5, 4, 1, 3, 2]⟩,⟨some 23, .app 1 16 (.tmp 16) (.tmp 22), none, [0, 6, 5, 4, 1, 3, 2]⟩,⟨some 4, .mov (.tmp 23), none, [7, 0, 6, 5, 4, 1, 3, 2]⟩])) <| .region false [⟨some 14, .mov (.tmp 6), none, []⟩,⟨some 15, .bin .add .no (.tmp 14) (.const (.int .i64 1)), none, [0]⟩,⟨some 6, .mov (.tmp 15), none, [1, 0]⟩]
abbrev afZZ : List Nat := [11, 12, 13, 16, 17, 18, 19, 20, 21, 22, 23, 4, 14, 15, 6]
def abJZ (g : String -> Nat) : AFn := ⟨25, [23], [.tmp 2],.seq (.region false [⟨some 2, .mov (.const (.sl true [])), none, []⟩]) <| .seq (.region false [⟨some 7, .bsl 1 [(.str [])] 7 [(0, (.const (.str [105, 102, 32, 120, 32, 60, 32, 51, 32, 123]))), (1, (.const (.str [32, 32, 121, 32, 61, 32, 123, 49, 44, 32, 50, 125]))), (2, (.const (.str [125]))), (3, (.const (.str []))), (4, (.const (.str [32, 32, 32, 32, 114, 101, 116, 117, 114, 110, 32, 65, 91, 105, 93, 32, 43, 32, 34, 115, 34]))), (5, (.const (.str [102, 111, 114, 32, 105, 32, 58, 61, 32, 48, 59, 32, 105, 32, 60, 32, 49, 48, 59, 32, 105, 43, 43, 32, 123, 32, 116, 111, 116, 97, 108, 32, 61, 32, 116, 111, 116, 97, 108, 32, 43, 32, 118, 97, 108, 117, 101, 115, 91, 105, 93, 32, 42, 32, 50, 32, 125]))), (6, (.const (.str [32, 97, 92, 98, 32, 126, 32, 99])))], none, []⟩,⟨some 3, .mov (.tmp 7), none, [0]⟩]) <| .seq (.region false [⟨some 4, .mov (.const (.sl true [])), none, []⟩]) <| .seq (.region false [⟨some 8, .mov (.tmp 0), none, []⟩,⟨some 9, .callv (.const (.fn (g "(*dactyl/dactylref23.Maker).Take") [] [])) [(.tmp 8), (.const (.int .i64 3))], none, [0]⟩,⟨some 10, .bin .add .no (.const (.int .i64 1)) (.tmp 9), none, [1, 0]⟩,⟨some 5, .mov (.tmp 10), none, [2, 1, 0]⟩]) <| .seq (.seq (.region false [⟨some 6, .mov (.const (.int .i64 0)), none, []⟩]) <| .block 0 (.loop (afYZ g))) <| .seq (.region false [⟨some 24, .mov (.tmp 4), none, []⟩,⟨some 2, .mov (.tmp 24), none, [0]⟩]) <| .ret⟩
abbrev acIZ (l : List Int) : Prop := ∀ a ∈ l, accZ a
theorem aqkZ {n m : Int} (hn : accZ n) (hm : 1 <= m) : 0 <= around n m /\ around n m < m := by
 obtain ⟨h1, h2⟩ := hn
 unfold around
 rw [if_neg (by omega)]
 split
 ·rw [wrap_i64 (n := n + 1) (by omega) (by omega), wrap_i64 (by omega) (by omega)]
  exact ⟨Int.tmod_nonneg _ (by omega), Int.tmod_lt_of_pos _ (by omega)⟩
 ·exact ⟨Int.tmod_nonneg _ (by omega), Int.tmod_lt_of_pos _ (by omega)⟩
theorem axWZ {l : List Int} (hl : acIZ l) (i : Int) {m : Int} (hm : 1 <= m) : 0 <= atZ l i m /\ atZ l i m < m := by
 unfold atZ
 split
 ·omega
 ·rename_i h
  refine aqkZ ?_ hm
  have hlt : i.toNat < l.length := by omega
  rw [List.getD_eq_getElem?_getD, List.getElem?_eq_getElem hlt]
  exact hl _ (List.getElem_mem hlt)
abbrev aaMZ (A : AProg) (f : Nat) (args : List AV) (P : AV -> Prop) : Prop := ∀ (l : List Int) (i : Int) (o v : Nat) (H : List AObj), acIZ l -> H[o]? = some (.box v (aaeZ l i)) ->
 ∃ val i', aapZ A f (.ptr o v 0 :: args) H = some (val, H.set o (.box v (aaeZ l i')), [o]) /\ P val
theorem aalZ {A : AProg} {f : Nat} {args : List AV} {P : AV -> Prop} (hs : aaMZ A f args P) {l : List Int} {i : Int} {o v : Nat} {H H2 : List AObj} (hl : acIZ l) (ho : H[o]? = some (.box v (aaeZ l i))) {site : Option Nat} {q : Bool}
  {k : AV × List AObj × List Nat -> Prop} {tg} (hk : ∀ val i', P val -> bnd (aaYZ site q H2 (some (val, H.set o (.box v (aaeZ l i')), [o]))) k) : amDZ (aaYZ site q H2 (aapZ A f (.ptr o v 0 :: args) H)) k tg := by
 obtain ⟨val, i', h1, h2⟩ := hs l i o v H hl ho
 rw [h1]
 exact hk val i' h2
theorem abaZ {A : AProg} {f : Nat} {args : List AV} {P : AV -> Prop} (hs : aaMZ A f args P) {l : List Int} {i : Int} {o v : Nat} {H H2 H3 : List AObj} (hl : acIZ l) (ho : H[o]? = some (.box v (aaeZ l i))) {site : Option Nat} {q : Bool}
  {k : AV × List AObj × List Nat × Option (List Nat) -> Prop} {tg} (hk : ∀ val i', P val -> bnd (ajnZ H3 (aaYZ site q H2 (some (val, H.set o (.box v (aaeZ l i')), [o])))) k) : amDZ (ajnZ H3 (aaYZ site q H2 (aapZ A f (.ptr o v 0 :: args) H))) k tg := by
 obtain ⟨val, i', h1, h2⟩ := hs l i o v H hl ho
 rw [h1]
 exact hk val i' h2
theorem Has.gen {A : AProg} {g : String -> Nat} {name : String} {fn : AFn} (h : Has A g name fn) {args : List AV} {P : AV -> Prop} (hN : args.length + 1 <= fn.ntmps) (hok : ∀ n, aaSZ fn.ntmps ⟨n, fn.sites⟩ fn.body = true)
  (hw : ∀ (l : List Int) (i : Int) (o v : Nat) (H : List AObj), acIZ l -> o < H.length -> H[o]? = some (.box v (aaeZ l i)) ->
   wc A fn.ntmps ⟨H.length, fn.sites⟩ fn.body (agcZ (.ptr o v 0 :: args)) (H ++ List.replicate fn.sites.length (.gone 0)) [] (ends H.length fn.results (fun val H' wr => (∃ i', H' = H.set o (.box v (aaeZ l i'))) /\ wr = [o] /\ P val) ⟨⟩) ⟨⟩) :
  aaMZ A (g name) args P := by
 intro l i o v H hl ho
 obtain ⟨val, H', wr, h1,⟨i', rfl⟩, rfl, h2⟩ := h.callEx (args := .ptr o v 0 :: args) (by simpa using hN) (hok _) (hw l i o v H hl (getElem?_lt ho) ho)
 exact ⟨val, i', h1, h2⟩
abbrev Below (m : Int) (v : AV) : Prop := ∃ x : Int, v = vi x /\ 0 <= x /\ x < m
theorem aakZ {A : AProg} {g : String -> Nat} (h : abIZ A g) {m : Int} (hm : 1 <= m) : aaMZ A (g "(*dactyl/dactylref23.Maker).Take") [vi m] (Below m) := by
 intro l i o v H hl ho
 exact ⟨_, _, h l i m o v H ho, _, rfl, (axWZ hl _ hm).1, (axWZ hl _ hm).2⟩
theorem tabI (ns : List Int) {x : Int} (h0 : 0 <= x) (hx : x < ns.length) : ∃ n ∈ ns, (ns.map aaqZ)[x.toNat]? = some [vi n] := by
 have hlt : x.toNat < ns.length := by omega
 exact ⟨ns[x.toNat], List.getElem_mem hlt, getElem?_map_of hlt⟩
theorem tabS (ns : List Str) {x : Int} (h0 : 0 <= x) (hx : x < ns.length) : ∃ n ∈ ns, (ns.map aadZ)[x.toNat]? = some [.str n] := by
 have hlt : x.toNat < ns.length := by omega
 exact ⟨ns[x.toNat], List.getElem_mem hlt, getElem?_map_of hlt⟩
abbrev avaZ : List Str := [[116, 104, 101, 32, 104, 97, 110, 100], [97], [73, 32, 97, 110, 100, 32, 121, 111, 117], [84, 101, 110, 32, 49, 48], [97, 110, 100], [110, 111, 44, 32, 52, 50, 46], [108, 97, 110, 100], [67, 104, 105, 108, 100], [120], [99, 97, 110, 32, 105, 116], [55, 32, 104, 97, 110, 100, 115], [111, 102, 32, 116, 104, 101]]
abbrev aonZ (v : AV) : Prop := ∃ s : Str, v = .str s /\ s.length <= 60
theorem atyZ {A : AProg} {g : String -> Nat} (h : Has A g "(*dactyl/dactylref23.Maker).Phrase" (abyZ g)) (ht : abIZ A g) : aaMZ A (g "(*dactyl/dactylref23.Maker).Phrase") [] aonZ := by
 refine h.gen (by simp [abyZ]) (fun n => by kernel_rfl) ?_
 intro l i o v H hl hlt ho
 simp only [abyZ]
 simp only [go_sem, ↓reduceIte, NB, NA, NL]
 refine aalZ (aakZ ht (m := 12) (by decide)) hl ho ?_
 rintro val i' ⟨x, rfl, h0, hx⟩
 obtain ⟨s, hs, htab⟩ := tabS avaZ h0 hx
 simp only [List.map, aadZ] at htab
 simp only [go_sem, ↓reduceIte, hlt, h0, htab, allZ, aaaZ (aabZ aasZ _)]
 refine ⟨⟨i', rfl⟩, s, rfl, ?_⟩
 have : ∀ s ∈ avaZ, s.length <= 60 := by decide
 exact this s hs
abbrev ROk (a : Run) : Prop := a.Ok /\ a.text.length <= 60
abbrev avbZ (v : AV) : Prop := ∃ r : List Run, v = .own 2 (r.map afzZ) /\ 1 <= r.length /\ r.length <= 3 /\ ∀ a ∈ r, ROk a
theorem awKZ {A : AProg} {g : String -> Nat} (h : Has A g "(*dactyl/dactylref23.Maker).Runs" (abXZ g)) (ht : abIZ A g) (hp : aaMZ A (g "(*dactyl/dactylref23.Maker).Phrase") [] aonZ) :
  aaMZ A (g "(*dactyl/dactylref23.Maker).Runs") [] avbZ := by
 refine h.gen (by simp [abXZ]) (fun n => by kernel_rfl) ?_
 intro l i o v H hl hlt ho
 simp only [abXZ]
 simp only [go_sem, ↓reduceIte, NB, NA, NL, NE]
 refine aalZ (aakZ ht (m := 2) (by decide)) hl (i := i) (by simp only [go_sem, acmZ, hlt, ho]) ?_
 rintro val i1 ⟨x, rfl, hx0, hx1⟩
 simp only [go_sem, ↓reduceIte, hlt, aciZ]
 refine aalZ (aakZ ht (m := 5) (by decide)) hl (i := i1) (by simp only [go_sem, aagZ, hlt]) ?_
 rintro val i2 ⟨y, rfl, hy0, hy1⟩
 obtain ⟨n, hn, htab⟩ := tabI [1, 1, 1, 2, 3] hy0 hy1
 simp only [List.map, aaqZ] at htab
 have hn3 : 1 <= n /\ n <= 3 := by
  have : ∀ n ∈ ([1, 1, 1, 2, 3] : List Int), 1 <= n /\ n <= 3 := by decide
  exact this n hn
 simp only [go_sem, ↓reduceIte, hlt, aahZ, hy0, htab]
 refine aaWZ (id := 0) (W := agqZ) (fun j ρ1 H1 wr => wr = [o] /\ ρ1 6 = vi j /\ ∃ i' o1, ∃ r : List Run, H1 = H.set o (.box v (aaeZ l i')) ++ [o1] /\ GSl H.length 2 (r.map afzZ) (ρ1 4) o1 /\ r.length = j /\ ∀ a ∈ r, ROk a) n.toNat
  (fun ρ1 H1 wr => wr = [o] /\ ∃ i' o1, ∃ r : List Run, H1 = H.set o (.box v (aaeZ l i')) ++ [o1] /\ GSl H.length 2 (r.map afzZ) (ρ1 4) o1 /\ r.length = n.toNat /\ ∀ a ∈ r, ROk a)
  (by kernel_rfl) (by rfl) ⟨by simp only [go_sem], by simp only [go_sem], i2, _, [], rfl, by simp only [go_sem, NB]; exact .nil _, rfl, by simp⟩ ?_ ?_
 ·rintro j ρ1 H1 wr1 hjl ⟨rfl, e6, i', o1, r, rfl, hg, hrl, hro⟩ hf
  have e0 : ρ1 0 = .ptr o v 0 := by rw [hf 0 (by decide)]; simp only [go_sem, NB]
  have e3 : ρ1 3 = vi x := by rw [hf 3 (by decide)]; simp only [go_sem, NB]
  have e5 : ρ1 5 = vi n := by rw [hf 5 (by decide)]; simp only [go_sem, NB]
  simp only [go_sem, NB, e5, e6]
  refine aacZ (fun hb => ?_) (fun hb => ?_)
  ·have hlt2 : j < n.toNat := by simp at hb; omega
   have hw : IntKind.i64.wrap (x + j) = x + j := wrap_i64 (by omega) (by omega)
   simp only [go_sem, ↓reduceIte, NB, NA, NL, ND, NE, e0, e3, e6, aeFZ (b := 2) (by decide), hw]
   refine aalZ hp hl (i := i') (by simp only [go_sem, aagZ, hlt]) ?_
   rintro val i3 ⟨s, rfl, hs⟩
   obtain ⟨v', o', hg', happ⟩ := hg.app (new := [[vi ((x + j).tmod 2), .str s]]) (bytes := 24) (by simp) (by rfl) (by rw [List.length_map, hrl]; simp; omega)
   rw [show r.map afzZ ++ [[vi ((x + j).tmod 2), .str s]] = (r ++ [Run.mk ((x + j).tmod 2) s]).map afzZ by simp [afzZ]] at hg'
   have hm1 := Int.tmod_lt_of_pos (x + j) (b := 2) (by decide)
   have hm0 := Int.tmod_nonneg 2 (a := x + j) (by omega)
   simp only [go_sem, ↓reduceIte, NA, hlt, aahZ, happ]
   rw [abhZ (by omega)]
   refine ⟨hlt2, rfl, i3, o', r ++ [Run.mk ((x + j).tmod 2) s], rfl, hg', by simp [hrl], ?_⟩
   intro a ha
   rcases List.mem_append.1 ha with ha | ha
   ·exact hro a ha
   ·have : a = Run.mk ((x + j).tmod 2) s := by simpa using ha
    subst this
    exact ⟨⟨⟨by show -9223372036854775808 <= (x + j).tmod 2; omega, by show (x + j).tmod 2 <= 9223372036854775807; omega⟩, by show s.length <= 1000; omega⟩, hs⟩
  ·have hlt2 : j = n.toNat := by simp at hb; omega
   subst hlt2
   simp only [go_sem, NB]
   exact ⟨i', o1, r, rfl, hg, hrl, hro⟩
 ·rintro ρ2 H2 wr2 ⟨rfl, i', o1, r, rfl, hg, hrl, hro⟩ hf
  have hne : r.map afzZ ≠ [] := by
   intro h
   have := congrArg List.length h
   simp only [List.length_map, hrl, List.length_nil] at this
   omega
  obtain ⟨ver, e4, rfl⟩ := hg.inv hne
  simp only [go_sem, ↓reduceIte, e4, hlt, aatZ (aabZ aeLZ _), aaaZ (aabZ aeLZ _), aaaZ (aabZ aasZ _), aajZ]
  exact ⟨⟨i', rfl⟩, r, rfl, by omega, by omega, hro⟩
abbrev avcZ (v : AV) : Prop := ∃ r : List Str, v = .own 1 (r.map aadZ) /\ 1 <= r.length /\ r.length <= 3 /\ ∀ s ∈ r, s.length <= 60
abbrev listing : List Str := [[105, 102, 32, 120, 32, 60, 32, 51, 32, 123], [32, 32, 121, 32, 61, 32, 123, 49, 44, 32, 50, 125], [125], [], [32, 32, 32, 32, 114, 101, 116, 117, 114, 110, 32, 65, 91, 105, 93, 32, 43, 32, 34, 115, 34], [102, 111, 114, 32, 105, 32, 58, 61, 32, 48, 59, 32, 105, 32, 60, 32, 49, 48, 59, 32, 105, 43, 43, 32, 123, 32, 116, 111, 116, 97, 108, 32, 61, 32, 116, 111, 116, 97, 108, 32, 43, 32, 118, 97, 108, 117, 101, 115, 91, 105, 93, 32, 42, 32, 50, 32, 125], [32, 97, 92, 98, 32, 126, 32, 99]]
theorem avdZ {A : AProg} {g : String -> Nat} (h : Has A g "(*dactyl/dactylref23.Maker).Lines" (abJZ g)) (ht : abIZ A g) :
  aaMZ A (g "(*dactyl/dactylref23.Maker).Lines") [] avcZ := by
 refine h.gen (by simp [abJZ]) (fun n => by kernel_rfl) ?_
 intro l i o v H hl hlt ho
 simp only [abJZ]
 simp only [go_sem, ↓reduceIte, NB, NA, NL, NE]
 refine aalZ (aakZ ht (m := 3) (by decide)) hl (i := i) (by simp only [go_sem, acmZ, hlt, ho]) ?_
 rintro val i1 ⟨x, rfl, hx0, hx1⟩
 have hwx : IntKind.i64.wrap (1 + x) = 1 + x := wrap_i64 (by omega) (by omega)
 simp only [go_sem, ↓reduceIte, hlt, aciZ, hwx]
 refine aaWZ (id := 0) (W := afZZ) (fun j ρ1 H1 wr => wr = [o] /\ ρ1 6 = vi j /\ ∃ i' o1, ∃ r : List Str, H1 = H.set o (.box v (aaeZ l i')) ++ [o1] /\ GSl H.length 1 (r.map aadZ) (ρ1 4) o1 /\ r.length = j /\ ∀ a ∈ r, a.length <= 60) (1 + x).toNat
  (fun ρ1 H1 wr => wr = [o] /\ ∃ i' o1, ∃ r : List Str, H1 = H.set o (.box v (aaeZ l i')) ++ [o1] /\ GSl H.length 1 (r.map aadZ) (ρ1 4) o1 /\ r.length = (1 + x).toNat /\ ∀ a ∈ r, a.length <= 60)
  (by kernel_rfl) (by rfl) ⟨by simp only [go_sem], by simp only [go_sem], i1, _, [], rfl, by simp only [go_sem, NB]; exact .nil _, rfl, by simp⟩ ?_ ?_
 ·rintro j ρ1 H1 wr1 hjl ⟨rfl, e6, i', o1, r, rfl, hg, hrl, hro⟩ hf
  have e0 : ρ1 0 = .ptr o v 0 := by rw [hf 0 (by decide)]; simp only [go_sem, NB]
  have e3 : ρ1 3 = .sl true (listing.map aadZ) := by rw [hf 3 (by decide)]; simp only [go_sem, NB, listing, aadZ]
  have e5 : ρ1 5 = vi (1 + x) := by rw [hf 5 (by decide)]; simp only [go_sem, NB]
  simp only [go_sem, NB, e5, e6]
  refine aacZ (fun hb => ?_) (fun hb => ?_)
  ·have hlt2 : j < (1 + x).toNat := by simp at hb; omega
   simp only [go_sem, ↓reduceIte, NB, NL, NE, e0, e3, e6]
   refine aalZ (aakZ ht (m := 7) (by decide)) hl (i := i') (by simp only [go_sem, aagZ, hlt]) ?_
   rintro val i3 ⟨y, rfl, hy0, hy1⟩
   obtain ⟨s, hs, htab⟩ := tabS listing hy0 hy1
   have hsl : s.length <= 60 := by
    have : ∀ s ∈ listing, s.length <= 60 := by decide
    exact this s hs
   obtain ⟨v', o', hg', happ⟩ := hg.app (new := [[.str s]]) (bytes := 16) (by simp) (by rfl) (by rw [List.length_map, hrl]; simp; omega)
   rw [show r.map aadZ ++ [[.str s]] = (r ++ [s]).map aadZ by simp [aadZ]] at hg'
   simp only [List.map, aadZ] at htab
   simp only [go_sem, ↓reduceIte, hlt, aahZ, aadZ, happ, hy0, htab]
   rw [abhZ (by omega)]
   refine ⟨hlt2, rfl, i3, o', r ++ [s], rfl, hg', by simp [hrl], ?_⟩
   intro a ha
   rcases List.mem_append.1 ha with ha | ha
   ·exact hro a ha
   ·have : a = s := by simpa using ha
    subst this
    exact hsl
  ·have hlt2 : j = (1 + x).toNat := by simp at hb; omega
   subst hlt2
   simp only [go_sem, NB]
   exact ⟨i', o1, r, rfl, hg, hrl, hro⟩
 ·rintro ρ2 H2 wr2 ⟨rfl, i', o1, r, rfl, hg, hrl, hro⟩ hf
  have hne : r.map aadZ ≠ [] := by
   intro h
   have := congrArg List.length h
   simp only [List.length_map, hrl, List.length_nil] at this
   omega
  obtain ⟨ver, e4, rfl⟩ := hg.inv hne
  simp only [go_sem, ↓reduceIte, e4, hlt, aatZ (aabZ abuZ _), aaaZ (aabZ abuZ _), aaaZ (aabZ aasZ _), aajZ]
  exact ⟨⟨i', rfl⟩, r, rfl, by omega, by omega, hro⟩
end Go.AM
end
