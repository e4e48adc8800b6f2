/- Part 19 of the proof that stands in the last text of this folder (lemmas; no statement of its own). -/
import Derived.Test.YtglokbbcckpaaaaGreatDoorK18
set_option linter.unusedVariables false
set_option linter.unusedSimpArgs false
open Nat renaming reduceBEq -> NB, reduceAdd -> NA, reduceLT -> NL, reduceLeDiff -> ND, reduceEqDiff -> NE
open Int renaming reduceLE -> ID, reduceToNat -> IT, reduceAdd -> IA, reduceNeg -> IM
open Bool renaming not_true -> BT, not_false -> BF
section
set_option maxRecDepth 8000
namespace Go.AM
open Go
abbrev aibZ (g : String -> Nat) : ACode := .seq (.seq (.region false [⟨some 7, .mov (.tmp 6), none, []⟩,⟨some 8, .mov (.tmp 0), none, []⟩,⟨some 9, .lenV (.tmp 8), none, [1]⟩,⟨some 10, .bin .lss .no (.tmp 7) (.tmp 9), none, [0, 2, 1]⟩]) <| .cond (.tmp 10) (.skip) (.exit 0)) <| .seq (.block 1 (.seq (.seq (.region false [⟨some 13, .mov (.tmp 6), none, []⟩,⟨some 14, .bin .gtr .no (.tmp 13) (.const (.int .i64 0)), none, [0]⟩]) <| .cond (.tmp 14) (.region false [⟨some 15, .mov (.tmp 5), none, []⟩,⟨some 16, .mov (.tmp 1), none, []⟩,⟨some 17, .bin .add .no (.tmp 15) (.tmp 16), none, [0, 1]⟩,⟨some 5, .mov (.tmp 17), none, [2, 0, 1]⟩]) (.skip)) <| .region false [⟨some 18, .mov (.tmp 5), none, []⟩,⟨some 19, .mov (.tmp 0), none, []⟩,⟨some 20, .mov (.tmp 6), none, []⟩,⟨some 21, .iaV (.tmp 19) (.tmp 20) 1, none, [1, 2]⟩,⟨some 22, .load 1 false (.tmp 21), none, [3, 1, 2]⟩,⟨some 23, .bin .add .no (.tmp 18) (.tmp 22), none, [0, 4, 3, 1, 2]⟩,⟨some 5, .mov (.tmp 23), none, [5, 0, 4, 3, 1, 2]⟩])) <| .region false [⟨some 11, .mov (.tmp 6), none, []⟩,⟨some 12, .bin .add .no (.tmp 11) (.const (.int .i64 1)), none, [0]⟩,⟨some 6, .mov (.tmp 12), none, [1, 0]⟩]
abbrev aicZ : List Nat := [7, 8, 9, 10, 13, 14, 15, 16, 17, 5, 18, 19, 20, 21, 22, 23, 5, 11, 12, 6]
def acWZ (g : String -> Nat) : AFn := ⟨25, [], [.tmp 4],.seq (.region false [⟨some 4, .mov (.const (.str [])), none, []⟩]) <| .seq (.region false [⟨some 5, .mov (.const (.str [])), none, []⟩]) <| .seq (.seq (.region false [⟨some 6, .mov (.const (.int .i64 0)), none, []⟩]) <| .block 0 (.loop (aibZ g))) <| .seq (.region false [⟨some 24, .mov (.tmp 5), none, []⟩,⟨some 4, .mov (.tmp 24), none, [0]⟩]) <| .ret⟩
def jn (sep : Str) : List Str -> Str
 | [] => []
 | [s] => s
 | s :: t :: r => s ++ sep ++ jn sep (t :: r)
theorem avmZ {sep x : Str} : ∀ {l : List Str}, l ≠ [] -> jn sep (l ++ [x]) = jn sep l ++ sep ++ x
 | [], h => absurd rfl h
 | [s], _ => rfl
 | s :: t :: r, _ => by
  have := avmZ (sep := sep) (x := x) (l := t :: r) (by simp)
  simp only [List.cons_append, jn] at this ⊢
  rw [this]
  simp
theorem avnZ {sep : Str} {l : List Str} {i : Nat} (h : i < l.length) : jn sep (l.take (i + 1)) = (if i = 0 then [] else jn sep (l.take i) ++ sep) ++ l[i] := by
 rw [List.take_add_one, List.getElem?_eq_getElem h]
 split
 ·rename_i e; subst e; simp [jn]
 ·rename_i e
  have : l.take i ≠ [] := by
   intro e'
   have hl := List.length_take_of_le (Nat.le_of_lt h)
   rw [e'] at hl
   simp at hl
   omega
  exact avmZ this
theorem aoqZ {sep : Str} {l : List Str} : ∀ (k i : Nat), i + k <= l.length -> (jn sep (l.take i)).length <= (jn sep (l.take (i + k))).length
 | 0, i, _ => Nat.le_refl _
 | k + 1, i, h => by
  have h1 := aoqZ (sep := sep) (l := l) k i (by omega)
  rw [show i + (k + 1) = (i + k) + 1 by omega, avnZ (by omega : i + k < l.length)]
  split
  ·rename_i e
   have : i = 0 := by omega
   subst this
   simp [jn]
  ·simp only [List.length_append]; omega
theorem arxZ {A : AProg} {g : String -> Nat} (h : Has A g "dactyl/dactylref25.joined" (acWZ g)) (l : List Str) (sep : Str) (hl : l.length <= 1000000000) (hs : (jn sep l).length <= 1000000000000) (H : List AObj) :
  aapZ A (g "dactyl/dactylref25.joined") [.sl false (l.map aadZ), .str sep] H = some (.str (jn sep l), H, []) := by
 refine h.call (by simp [acWZ]) (by kernel_rfl) ?_
 simp only [acWZ]
 simp only [go_sem, ↓aafZ]
 refine aaWZ (id := 0) (W := aicZ) (fun i ρ1 H1 wr => wr = [] /\ H1 = H /\ ρ1 6 = vi i /\ ρ1 5 = .str (jn sep (l.take i))) l.length
  (fun ρ1 H1 wr => wr = [] /\ H1 = H /\ ρ1 5 = .str (jn sep l))
  (by kernel_rfl) (by rfl) (by refine ⟨rfl, ?_, rfl, rfl⟩; simp) ?_ ?_
 ·rintro i ρ1 H1 wr1 hil ⟨rfl, rfl, e6, e5⟩ hf
  have e0 : ρ1 0 = .sl false (l.map aadZ) := by rw [hf 0 (by rfl)]; rfl
  have e1 : ρ1 1 = .str sep := by rw [hf 1 (by rfl)]; rfl
  simp only [go_sem, ↓aafZ, NB, e6, e0, List.length_map]
  refine aacZ (fun hb => ?_) (fun hb => ?_)
  ·have hlt : i < l.length := by simpa using hb
   have hg : (l.map aadZ)[i]? = some [.str l[i]] := by rw [List.getElem?_map, List.getElem?_eq_getElem hlt]; rfl
   have hn0 : (0 : Int) <= (i : Int) := by omega
   have hto : ((i : Int)).toNat = i := by omega
   have hw6 : IntKind.i64.wrap ((i : Int) + 1) = ((i + 1 : Nat) : Int) := by rw [wrap_i64 (by omega) (by omega)]; omega
   have hj := avnZ (sep := sep) hlt
   have hle := aoqZ (sep := sep) (l := l) (l.length - (i + 1)) (i + 1) (by omega)
   rw [show i + 1 + (l.length - (i + 1)) = l.length by omega, List.take_length] at hle
   by_cases hz : i = 0
   ·subst hz
    have hgt : decide (((0 : Nat) : Int) > 0) = false := by simp
    rw [if_pos rfl] at hj
    have hlen : (([] : Str)).length + (l[0]).length <= 4611686018427387904 := by rw [hj] at hle; simp at hle ⊢; omega
    have hb2 : binV .add .no (.str []) (.str l[0]) = some (.str ([] ++ l[0])) := if_pos hlen
    have e5' : ρ1 5 = .str [] := by rw [e5]; simp [jn]
    simp only [go_sem, ↓aafZ, ↓reduceIte, NB, ID, IT, IA, e5', e0, e6, hb2, hg]
    exact ⟨hlt, by rfl, by rw [hj]; rfl⟩
   ·have hgt : decide (((i : Nat) : Int) > 0) = true := by simp; omega
    rw [if_neg hz] at hj
    rw [hj] at hle
    simp only [List.length_append] at hle
    have hlen1 : (jn sep (l.take i)).length + sep.length <= 4611686018427387904 := by omega
    have hlen2 : (jn sep (l.take i) ++ sep).length + (l[i]).length <= 4611686018427387904 := by simp only [List.length_append]; omega
    have hb1 : binV .add .no (.str (jn sep (l.take i))) (.str sep) = some (.str (jn sep (l.take i) ++ sep)) := if_pos hlen1
    have hb2 : binV .add .no (.str (jn sep (l.take i) ++ sep)) (.str l[i]) = some (.str (jn sep (l.take i) ++ sep ++ l[i])) := if_pos hlen2
    simp only [go_sem, ↓aafZ, ↓reduceIte, NB, hgt, e5, e1, e0, e6, hb1, hb2, hg, hn0, hto, hw6]
    first | exact ⟨hlt, by rw [hj]⟩
  ·have hi : i = l.length := by simp at hb; omega
   subst hi
   rw [List.take_length] at e5
   simp only [go_sem, NB]
   exact e5
 ·rintro ρ' H' wr' ⟨rfl, rfl, e5⟩ hf
  simp only [go_sem, ↓aafZ, e5]
end Go.AM
end
section
set_option maxRecDepth 8000
namespace Go.AM
open Go
def aeiZ (g : String -> Nat) : AFn := ⟨14, [13], [.tmp 4],.seq (.region false [⟨some 4, .mov (.const (.sl true [])), none, []⟩]) <| .seq (.region false [⟨some 5, .mov (.const (.sl true [])), none, []⟩]) <| .seq (.region false [⟨some 6, .mov (.tmp 5), none, []⟩,⟨some 7, .mov (.tmp 0), none, []⟩,⟨some 8, .mov (.tmp 0), none, []⟩,⟨some 9, .lenV (.tmp 8), none, [2]⟩,⟨some 10, .mov (.tmp 1), none, []⟩,⟨some 11, .mm false [(.tmp 9), (.tmp 10)], none, [3, 2, 4]⟩,⟨some 12, .sliceV 1 (.tmp 7) none (some (.tmp 11)) none, none, [1, 5, 3, 2, 4]⟩,⟨some 13, .app 1 8 (.tmp 6) (.tmp 12), none, [0, 6, 1, 5, 3, 2, 4]⟩,⟨some 4, .mov (.tmp 13), none, [7, 0, 6, 1, 5, 3, 2, 4]⟩]) <| .ret⟩
theorem atGZ {A : AProg} {g : String -> Nat} (h : Has A g "dactyl/dactylref01.Take" (aeiZ g)) (l : List Int) (m : Nat) (hm : m <= 1000000) (H : List AObj) :
  aapZ A (g "dactyl/dactylref01.Take") [.sl false (l.map aaqZ), vi m] H = some (if (l.take m).isEmpty then .sl false [] else .own 1 ((l.take m).map aaqZ), H, []) := by
 refine h.call (by simp [aeiZ]) (by kernel_rfl) ?_
 simp only [aeiZ]
 have hmn : (if (m : Int) < (l.length : Int) then (m : Int) else (l.length : Int)) = ((min m l.length : Nat) : Int) := by split <;> omega
 have hmn' : (if m < l.length then (m : Int) else (l.length : Int)) = ((min m l.length : Nat) : Int) := by split <;> omega
 have hb : acdZ l.length none (some (vi ((min m l.length : Nat) : Int))) none = some (0, min m l.length, l.length) := by
  have h1 : (0 : Int) <= ((min m l.length : Nat) : Int) /\ ((min m l.length : Nat) : Int) <= (l.length : Nat) := by omega
  simp only [acdZ, adPZ]
  rw [if_pos h1]
  simp
 have hh : abkZ 1 (l.map aaqZ) = true := by cases l <;> rfl
 have ht : (l.map aaqZ).take (min m l.length) = (l.take m).map aaqZ := by
  rw [<- List.map_take]
  congr 1
  rcases Nat.le_total m l.length with h | h
  ·rw [Nat.min_eq_left h]
  ·rw [Nat.min_eq_right h, List.take_length, List.take_of_length_le h]
 simp only [go_sem, ↓aafZ, ↓reduceIte, NB, NL, BF, List.length_map, hmn', hb, hh, ht, List.drop_zero]
 cases he : l.take m with
 | nil =>
  simp only [go_sem, ↓aafZ, ↓reduceIte, BT, List.map_nil, List.isEmpty_nil]
 | cons a r =>
  have hk : (a :: r).length <= m := by rw [<- he]; simp; omega
  have hr : abNZ (r.length + 1) 8 = true := by unfold abNZ; simp at hk ⊢; omega
  have hs : ((aaqZ a).all AV.still && (r.map aaqZ).all fun r => r.all AV.still) = true := by simpa using aatZ (aabZ aasZ (a :: r))
  simp only [go_sem, ↓aafZ, ↓reduceIte, BT, List.map_cons, List.isEmpty_cons, List.length_cons, List.length_map, hr, show (aaqZ a).length = 1 from rfl, hs, Bool.false_eq_true, aaVZ]
  have hu : (abLZ H.length (aaqZ a) && acTZ H.length (r.map aaqZ)) = true := aaaZ (aabZ aasZ (a :: r))
  rw [if_pos hu]
  exact ⟨rfl, rfl, rfl⟩
end Go.AM
end
section
set_option maxRecDepth 8000
namespace Go.AM
open Go
abbrev aidZ (g : String -> Nat) : ACode := .seq (.seq (.region false [⟨some 7, .mov (.tmp 6), none, []⟩,⟨some 8, .fa 3 (.tmp 2), none, []⟩,⟨some 9, .load 1 false (.tmp 8), none, [1]⟩,⟨some 10, .lenV (.tmp 9), none, [2, 1]⟩,⟨some 11, .bin .lss .no (.tmp 7) (.tmp 10), none, [0, 3, 2, 1]⟩]) <| .cond (.tmp 11) (.skip) (.exit 0)) <| .seq (.block 1 (.seq (.region false [⟨some 14, .fa 3 (.tmp 2), none, []⟩,⟨some 15, .load 1 false (.tmp 14), none, [0]⟩,⟨some 16, .mov (.tmp 6), none, []⟩,⟨some 17, .iaV (.tmp 15) (.tmp 16) 1, none, [1, 0, 2]⟩,⟨some 18, .load 1 false (.tmp 17), none, [3, 1, 0, 2]⟩,⟨some 19, .bin .geq .no (.tmp 18) (.const (.int .i64 0)), none, [4, 3, 1, 0, 2]⟩,⟨some 20, .mov (.tmp 19), none, [5, 4, 3, 1, 0, 2]⟩,⟨some 21, .fa 3 (.tmp 2), some (some 20, true), [6, 5, 4, 3, 1, 0, 2]⟩,⟨some 22, .load 1 false (.tmp 21), some (some 20, true), [7, 6, 5, 4, 3, 1, 0, 2]⟩,⟨some 23, .mov (.tmp 6), some (some 20, true), [6, 5, 4, 3, 1, 0, 2]⟩,⟨some 24, .iaV (.tmp 22) (.tmp 23) 1, some (some 20, true), [8, 7, 9, 6, 5, 4, 3, 1, 0, 2]⟩,⟨some 25, .load 1 false (.tmp 24), some (some 20, true), [10, 8, 7, 9, 6, 5, 4, 3, 1, 0, 2]⟩,⟨some 26, .mov (.tmp 1), some (some 20, true), [6, 5, 4, 3, 1, 0, 2]⟩,⟨some 27, .lenV (.tmp 26), some (some 20, true), [12, 6, 5, 4, 3, 1, 0, 2]⟩,⟨some 28, .bin .lss .no (.tmp 25) (.tmp 27), some (some 20, true), [11, 10, 8, 7, 9, 13, 12, 6, 5, 4, 3, 1, 0, 2]⟩,⟨some 29, .pick (.tmp 20) (.tmp 28) (.const (.bool false)), none, [14, 11, 10, 8, 7, 9, 13, 12, 6, 5, 4, 3, 1, 0, 2]⟩]) <| .cond (.tmp 29) (.region false [⟨some 30, .mov (.tmp 5), none, []⟩,⟨some 31, .mov (.tmp 1), none, []⟩,⟨some 32, .fa 3 (.tmp 2), none, []⟩,⟨some 33, .load 1 false (.tmp 32), none, [2]⟩,⟨some 34, .mov (.tmp 6), none, []⟩,⟨some 35, .iaV (.tmp 33) (.tmp 34) 1, none, [3, 2, 4]⟩,⟨some 36, .load 1 false (.tmp 35), none, [5, 3, 2, 4]⟩,⟨some 37, .iaV (.tmp 31) (.tmp 36) 1, none, [1, 6, 5, 3, 2, 4]⟩,⟨some 38, .load 1 false (.tmp 37), none, [7, 1, 6, 5, 3, 2, 4]⟩,⟨some 39, .bsl 1 [(.str [])] 1 [(0, (.tmp 38))], none, [8, 7, 1, 6, 5, 3, 2, 4]⟩,⟨some 40, .app 1 16 (.tmp 30) (.tmp 39), none, [0, 9, 8, 7, 1, 6, 5, 3, 2, 4]⟩,⟨some 5, .mov (.tmp 40), none, [10, 0, 9, 8, 7, 1, 6, 5, 3, 2, 4]⟩]) (.skip))) <| .region false [⟨some 12, .mov (.tmp 6), none, []⟩,⟨some 13, .bin .add .no (.tmp 12) (.const (.int .i64 1)), none, [0]⟩,⟨some 6, .mov (.tmp 13), none, [1, 0]⟩]
abbrev aieZ : List Nat := [7, 8, 9, 10, 11, 14, 15, 16, 17, 18, 19, 20, 21, 22, 23, 24, 25, 26, 27, 28, 29, 30, 31, 32, 33, 34, 35, 36, 37, 38, 39, 40, 5, 12, 13, 6]
def acXZ (g : String -> Nat) : AFn := ⟨42, [2, 40], [.tmp 4],.seq (.region false [⟨some 2, .box 7 (.tmp 0), none, []⟩,⟨some 4, .mov (.const (.sl true [])), none, []⟩]) <| .seq (.region false [⟨some 5, .mov (.const (.sl true [])), none, []⟩]) <| .seq (.seq (.region false [⟨some 6, .mov (.const (.int .i64 0)), none, []⟩]) <| .block 0 (.loop (aidZ g))) <| .seq (.region false [⟨some 41, .mov (.tmp 5), none, []⟩,⟨some 4, .mov (.tmp 41), none, [0]⟩]) <| .ret⟩
def needed (needs : List Int) (vals : List Str) : List Str := needs.filterMap fun (n : Int) => if 0 <= n /\ n < (vals.length : Int) then vals[n.toNat]? else none
theorem amRZ {needs : List Int} {vals : List Str} {i : Nat} (h : i < needs.length) :
  needed (needs.take (i + 1)) vals = needed (needs.take i) vals ++ (if 0 <= needs[i] /\ needs[i] < (vals.length : Int) then [vals.getD needs[i].toNat []] else []) := by
 unfold needed
 rw [List.take_add_one, List.getElem?_eq_getElem h, List.filterMap_append]
 congr 1
 simp only [Option.toList_some, List.filterMap_cons, List.filterMap_nil]
 by_cases hc : 0 <= needs[i] /\ needs[i] < (vals.length : Int)
 ·have hlt : needs[i].toNat < vals.length := by omega
  rw [if_pos hc, if_pos hc, List.getElem?_eq_getElem hlt, List.getD_eq_getElem?_getD, List.getElem?_eq_getElem hlt]
  rfl
 ·rw [if_neg hc, if_neg hc]
theorem agOZ {vals : List Str} : ∀ (needs : List Int), (needed needs vals).length <= needs.length := fun needs => by
 unfold needed
 exact List.length_filterMap_le _ _
def apjZ (rows : List (List AV)) : AV := match rows with | [] => .sl false [] | r => .own 1 r
theorem aryZ {A : AProg} {g : String -> Nat} (h : Has A g "dactyl/dactylref25.Needed" (acXZ g)) (q : Question) (vals : List Str) (hn : q.needs.length <= 1000000) (hv : vals.length <= 1000000000) (H : List AObj) :
  aapZ A (g "dactyl/dactylref25.Needed") [.agg (encQ q), .sl false (vals.map aadZ)] H = some (apjZ ((needed q.needs vals).map aadZ), H, []) := by
 refine h.call (by simp [acXZ]) (by kernel_rfl) ?_
 simp only [acXZ]
 simp only [go_sem, ↓aafZ, ↓reduceIte, NA, NL, encQ]
 refine aaWZ (id := 0) (W := aieZ) (fun i ρ1 H1 wr => wr = [] /\ ρ1 6 = vi i /\ ∃ o1, H1 = H ++ [.box 1 (encQ q), o1] /\ GSl (H.length + 1) 1 ((needed (q.needs.take i) vals).map aadZ) (ρ1 5) o1 /\ (needed (q.needs.take i) vals = [] -> ρ1 5 = .sl true [])) q.needs.length
  (fun ρ1 H1 wr => wr = [] /\ ∃ o1, H1 = H ++ [.box 1 (encQ q), o1] /\ GSl (H.length + 1) 1 ((needed q.needs vals).map aadZ) (ρ1 5) o1 /\ (needed q.needs vals = [] -> ρ1 5 = .sl true []))
  (by kernel_rfl) (by rfl) ⟨rfl, rfl, _, rfl, .nil _, fun _ => rfl⟩ ?_ ?_
 ·rintro i ρ1 H1 wr1 hil ⟨rfl, e6, o1, rfl, hg, hnil⟩ hf
  have e1 : ρ1 1 = .sl false (vals.map aadZ) := by rw [hf 1 (by rfl)]; rfl
  have e2 : ρ1 2 = .ptr H.length 1 0 := by rw [hf 2 (by rfl)]; rfl
  simp only [go_sem, ↓aafZ, ↓reduceIte, NB, NA, ND, e6, e2, encQ, List.length_map]
  refine aacZ (fun hb => ?_) (fun hb => ?_)
  ·have hlt : i < q.needs.length := by simpa using hb
   have hgi : (q.needs.map aaqZ)[i]? = some [vi q.needs[i]] := by rw [List.getElem?_map, List.getElem?_eq_getElem hlt]; rfl
   have hn0 : (0 : Int) <= (i : Int) := by omega
   have hto : ((i : Int)).toNat = i := by omega
   have hw6 : IntKind.i64.wrap ((i : Int) + 1) = ((i + 1 : Nat) : Int) := by rw [wrap_i64 (by omega) (by omega)]; omega
   have hj := amRZ (vals := vals) hlt
   by_cases hlo : 0 <= q.needs[i]
   ·have hge : decide (q.needs[i] ≥ 0) = true := by simp; omega
    by_cases hhi : q.needs[i] < (vals.length : Int)
    ·have hlt2 : decide (q.needs[i] < (vals.length : Int)) = true := by simpa using hhi
     have hv : q.needs[i].toNat < vals.length := by omega
     have hgv : (vals.map aadZ)[q.needs[i].toNat]? = some [.str (vals.getD q.needs[i].toNat [])] := by rw [List.getElem?_map, List.getD_eq_getElem?_getD, List.getElem?_eq_getElem hv]; rfl
     have hl := agOZ (vals := vals) (q.needs.take i)
     obtain ⟨v', o', hg', happ⟩ := hg.app (new := [[.str (vals.getD q.needs[i].toNat [])]]) (bytes := 16) (by simp) (by rfl) (by simp at hl ⊢; omega)
     simp only [go_sem, ↓aafZ, ↓reduceIte, NB, NA, NL, ND, NE, e6, e2, e1, hgi, hn0, hto, hlt2, hlo, beq_self_eq_true, hgv, happ, hw6, List.length_map]
     refine ⟨hlt, o', rfl, ?_⟩
     rw [hj, if_pos ⟨hlo, hhi⟩, List.map_append]
     exact ⟨hg', fun h => by simp at h⟩
    ·have hlt2 : decide (q.needs[i] < (vals.length : Int)) = false := by simpa using hhi
     simp only [go_sem, ↓aafZ, ↓reduceIte, NB, NA, ND, e6, e2, e1, hgi, hn0, hto, hge, hlt2, beq_self_eq_true, hw6, List.length_map]
     exact ⟨hlt, o1, rfl, by rw [hj, if_neg (fun h => hhi h.2), List.append_nil]; exact ⟨hg, hnil⟩⟩
   ·have hge : decide (q.needs[i] ≥ 0) = false := by simp; omega
    simp only [go_sem, ↓aafZ, ↓reduceIte, NB, NA, ND, BT, e6, e2, hgi, hn0, hto, hge, Bool.false_beq, hw6]
    exact ⟨hlt, o1, rfl, by rw [hj, if_neg (fun h => hlo h.1), List.append_nil]; exact ⟨hg, hnil⟩⟩
  ·have hi : i = q.needs.length := by simp at hb; omega
   subst hi
   rw [List.take_length] at hg hnil
   simp only [go_sem, NB]
   exact ⟨o1, rfl, hg, hnil⟩
 ·rintro ρ' H' wr' ⟨rfl, o1, rfl, hg, hnil⟩ hf
  cases hg' : needed q.needs vals with
  | nil =>
   have e5 := hnil hg'
   simp only [go_sem, ↓aafZ, e5, apjZ, List.map_nil]
  | cons a r =>
   rw [hg'] at hg
   obtain ⟨ver, ev, rfl⟩ := hg.inv (by simp)
   have hd : abHZ ((a :: r).map aadZ) = true := aabZ abuZ (a :: r)
   have hs : ((aadZ a).all AV.still && (r.map aadZ).all fun r => r.all AV.still) = true := by simpa using aatZ hd
   have hu : (abLZ H.length (aadZ a) && acTZ H.length (r.map aadZ)) = true := aaaZ hd
   simp only [go_sem, ↓aafZ, ↓reduceIte, ev, apjZ, List.map_cons, hs, aaVZ]
   rw [if_pos hu]
   exact ⟨rfl, rfl, rfl⟩
end Go.AM
end
section
set_option maxRecDepth 8000
namespace Go.AM
open Go
abbrev ahGZ (g : String -> Nat) : ACode := .seq (.seq (.region false [⟨some 18, .mov (.tmp 10), none, []⟩,⟨some 19, .mov (.tmp 1), none, []⟩,⟨some 20, .lenV (.tmp 19), none, [1]⟩,⟨some 21, .bin .lss .no (.tmp 18) (.tmp 20), none, [0, 2, 1]⟩]) <| .cond (.tmp 21) (.skip) (.exit 2)) <| .seq (.block 3 (.seq (.region false [⟨some 24, .mov (.tmp 1), none, []⟩,⟨some 25, .mov (.tmp 10), none, []⟩,⟨some 26, .iaV (.tmp 24) (.tmp 25) 1, none, [0, 1]⟩,⟨some 27, .load 1 false (.tmp 26), none, [2, 0, 1]⟩,⟨some 28, .mov (.tmp 8), none, []⟩,⟨some 29, .bin .eql .no (.tmp 27) (.tmp 28), none, [3, 2, 0, 1, 4]⟩]) <| .cond (.tmp 29) (.region false [⟨some 30, .mov (.tmp 0), none, []⟩,⟨some 31, .mov (.tmp 8), none, []⟩,⟨some 32, .iaV (.tmp 30) (.tmp 31) 1, none, [0, 1]⟩,⟨some 33, .load 1 false (.tmp 32), none, [2, 0, 1]⟩,⟨some 9, .mov (.tmp 33), none, [3, 2, 0, 1]⟩]) (.skip))) <| .region false [⟨some 22, .mov (.tmp 10), none, []⟩,⟨some 23, .bin .add .no (.tmp 22) (.const (.int .i64 1)), none, [0]⟩,⟨some 10, .mov (.tmp 23), none, [1, 0]⟩]
abbrev ahHZ : List Nat := [18, 19, 20, 21, 24, 25, 26, 27, 28, 29, 30, 31, 32, 33, 9, 22, 23, 10]
abbrev ahIZ (g : String -> Nat) : ACode := .seq (.seq (.region false [⟨some 11, .mov (.tmp 8), none, []⟩,⟨some 12, .mov (.tmp 0), none, []⟩,⟨some 13, .lenV (.tmp 12), none, [1]⟩,⟨some 14, .bin .lss .no (.tmp 11) (.tmp 13), none, [0, 2, 1]⟩]) <| .cond (.tmp 14) (.skip) (.exit 0)) <| .seq (.block 1 (.seq (.region false [⟨some 17, .mov (.tmp 2), none, []⟩,⟨some 9, .mov (.tmp 17), none, [0]⟩]) <| .seq (.seq (.region false [⟨some 10, .mov (.const (.int .i64 0)), none, []⟩]) <| .block 2 (.loop (ahGZ g))) <| .region false [⟨some 34, .mov (.tmp 7), none, []⟩,⟨some 35, .mov (.tmp 9), none, []⟩,⟨some 36, .bsl 1 [(.str [])] 1 [(0, (.tmp 35))], none, [1]⟩,⟨some 37, .app 1 16 (.tmp 34) (.tmp 36), none, [0, 2, 1]⟩,⟨some 7, .mov (.tmp 37), none, [3, 0, 2, 1]⟩])) <| .region false [⟨some 15, .mov (.tmp 8), none, []⟩,⟨some 16, .bin .add .no (.tmp 15) (.const (.int .i64 1)), none, [0]⟩,⟨some 8, .mov (.tmp 16), none, [1, 0]⟩]
abbrev ahJZ : List Nat := [11, 12, 13, 14, 17, 9, 10, 18, 19, 20, 21, 24, 25, 26, 27, 28, 29, 30, 31, 32, 33, 9, 22, 23, 10, 34, 35, 36, 37, 7, 15, 16, 8]
def acCZ (g : String -> Nat) : AFn := ⟨39, [37], [.tmp 6],.seq (.region false [⟨some 6, .mov (.const (.sl true [])), none, []⟩]) <| .seq (.region false [⟨some 7, .mov (.const (.sl true [])), none, []⟩]) <| .seq (.seq (.region false [⟨some 8, .mov (.const (.int .i64 0)), none, []⟩]) <| .block 0 (.loop (ahIZ g))) <| .seq (.region false [⟨some 38, .mov (.tmp 7), none, []⟩,⟨some 6, .mov (.tmp 38), none, [0]⟩]) <| .ret⟩
def aaJZ (vals : List Str) (needs : List Int) (other : Str) : List Str := vals.mapIdx fun i s => if needs.any (fun n => n == (i : Int)) then s else other
theorem aqrZ {A : AProg} {g : String -> Nat} (h : Has A g "dactyl/dactyllaw25.without" (acCZ g)) (vals : List Str) (needs : List Int) (other : Str) (hn : needs.length <= 1000000) (hv : vals.length <= 1000000) (H : List AObj) :
  aapZ A (g "dactyl/dactyllaw25.without") [.sl false (vals.map aadZ), .sl false (needs.map aaqZ), .str other] H = some (apjZ ((aaJZ vals needs other).map aadZ), H, []) := by
 refine h.call (by simp [acCZ]) (by kernel_rfl) ?_
 simp only [acCZ]
 simp only [go_sem, ↓aafZ]
 refine aaWZ (id := 0) (W := ahJZ) (fun i ρ1 H1 wr => wr = [] /\ ρ1 8 = vi i /\ ∃ o1, H1 = H ++ [o1] /\ GSl H.length 1 (((aaJZ vals needs other).take i).map aadZ) (ρ1 7) o1 /\ (i = 0 -> ρ1 7 = .sl true [])) vals.length
  (fun ρ1 H1 wr => wr = [] /\ ∃ o1, H1 = H ++ [o1] /\ GSl H.length 1 ((aaJZ vals needs other).map aadZ) (ρ1 7) o1 /\ (vals.length = 0 -> ρ1 7 = .sl true []))
  (by kernel_rfl) (by rfl) ⟨rfl, rfl, _, rfl, .nil _, fun _ => rfl⟩ ?_ ?_
 ·rintro i ρ1 H1 wr1 hil ⟨rfl, e8, o1, rfl, hg, hnil⟩ hf
  have e0 : ρ1 0 = .sl false (vals.map aadZ) := by rw [hf 0 (by rfl)]; rfl
  have e1 : ρ1 1 = .sl false (needs.map aaqZ) := by rw [hf 1 (by rfl)]; rfl
  have e2 : ρ1 2 = .str other := by rw [hf 2 (by rfl)]; rfl
  simp only [go_sem, ↓aafZ, NB, e8, e0, List.length_map]
  refine aacZ (fun hb => ?_) (fun hb => ?_)
  ·have hlt : i < vals.length := by simpa using hb
   have hgi : (vals.map aadZ)[i]? = some [.str vals[i]] := by rw [List.getElem?_map, List.getElem?_eq_getElem hlt]; rfl
   have hn0 : (0 : Int) <= (i : Int) := by omega
   have hto : ((i : Int)).toNat = i := by omega
   have hw6 : IntKind.i64.wrap ((i : Int) + 1) = ((i + 1 : Nat) : Int) := by rw [wrap_i64 (by omega) (by omega)]; omega
   simp only [go_sem, ↓aafZ, NB, e2]
   refine aaWZ (id := 2) (W := ahHZ) (fun k ρ2 H2 wr => wr = [] /\ H2 = H ++ [o1] /\ ρ2 10 = vi k /\ ρ2 9 = .str (if (needs.take k).any (fun n => n == (i : Int)) then vals[i] else other)) needs.length
    (fun ρ2 H2 wr => wr = [] /\ H2 = H ++ [o1] /\ ρ2 9 = .str (if needs.any (fun n => n == (i : Int)) then vals[i] else other))
    (by kernel_rfl) (by rfl) ⟨rfl, rfl, rfl, by rfl⟩ ?_ ?_
   ·rintro k ρ2 H2 wr2 hkl ⟨rfl, rfl, k10, k9⟩ hf2
    have k0 : ρ2 0 = .sl false (vals.map aadZ) := by rw [hf2 0 (by rfl)]; exact e0
    have k1 : ρ2 1 = .sl false (needs.map aaqZ) := by rw [hf2 1 (by rfl)]; exact e1
    have k8 : ρ2 8 = vi i := by rw [hf2 8 (by rfl)]; exact e8
    simp only [go_sem, ↓aafZ, NB, k10, k1, List.length_map]
    refine aacZ (fun hb => ?_) (fun hb => ?_)
    ·have hlk : k < needs.length := by simpa using hb
     have hgk : (needs.map aaqZ)[k]? = some [vi needs[k]] := by rw [List.getElem?_map, List.getElem?_eq_getElem hlk]; rfl
     have hk0 : (0 : Int) <= (k : Int) := by omega
     have hkt : ((k : Int)).toNat = k := by omega
     have hw10 : IntKind.i64.wrap ((k : Int) + 1) = ((k + 1 : Nat) : Int) := by rw [wrap_i64 (by omega) (by omega)]; omega
     have hany : (needs.take (k + 1)).any (fun n => n == (i : Int)) = ((needs.take k).any (fun n => n == (i : Int)) || needs[k] == (i : Int)) := by
      rw [List.take_add_one, List.getElem?_eq_getElem hlk, List.any_append]; simp
     by_cases hc : needs[k] = (i : Int)
     ·have hbc : (needs[k] == (i : Int)) = true := by simpa using hc
      simp only [go_sem, ↓aafZ, ↓reduceIte, NB, k10, k1, k8, k0, hgk, hk0, hkt, hbc, hgi, hn0, hto, hw10]
      exact ⟨hlk, by rw [hany, hbc, Bool.or_true]; rfl⟩
     ·have hbc : (needs[k] == (i : Int)) = false := by simpa using hc
      simp only [go_sem, ↓aafZ, ↓reduceIte, NB, k10, k1, k8, hgk, hk0, hkt, hbc, hw10]
      exact ⟨hlk, by rw [hany, hbc, Bool.or_false]; exact k9⟩
    ·have hi : k = needs.length := by simp at hb; omega
     subst hi
     rw [List.take_length] at k9
     simp only [go_sem, NB]
     exact k9
   ·rintro ρ2 H2 wr2 ⟨rfl, rfl, k9⟩ hf2
    have k7 : ρ2 7 = ρ1 7 := by rw [hf2 7 (by rfl)]; rfl
    have k8 : ρ2 8 = vi i := by rw [hf2 8 (by rfl)]; exact e8
    have hlen : (aaJZ vals needs other).length = vals.length := by simp [aaJZ]
    obtain ⟨v', o', hg', happ⟩ := hg.app (new := [[.str (if needs.any (fun n => n == (i : Int)) then vals[i] else other)]]) (bytes := 16) (by simp) (by rfl) (by simp only [List.length_map, List.length_take, List.length_cons, List.length_nil]; omega)
    rw [<- k7] at happ
    simp only [go_sem, ↓aafZ, ↓reduceIte, NB, NL, NE, reduceCtorEq, k9, k8, happ, hw6]
    refine ⟨hlt, o', rfl, ?_, fun h => by first | omega | (simp at h)⟩
    rw [List.take_add_one, List.getElem?_eq_getElem (show i < (aaJZ vals needs other).length by omega), List.map_append]
    have : (aaJZ vals needs other)[i]'(by omega) = if needs.any (fun n => n == (i : Int)) then vals[i] else other := by simp [aaJZ]
    simp only [Option.toList_some, List.map_cons, List.map_nil, this]
    exact hg'
  ·have hi : i = vals.length := by simp at hb; omega
   subst hi
   have hlen : (aaJZ vals needs other).length = vals.length := by simp [aaJZ]
   rw [<- hlen, List.take_length] at hg
   simp only [go_sem, NB]
   exact ⟨o1, rfl, hg, hnil⟩
 ·rintro ρ' H' wr' ⟨rfl, o1, rfl, hg, hnil⟩ hf
  cases hg' : aaJZ vals needs other with
  | nil =>
   have hlen : (aaJZ vals needs other).length = vals.length := by simp [aaJZ]
   rw [hg'] at hlen
   have e7 := hnil hlen.symm
   simp only [go_sem, ↓aafZ, e7, apjZ, List.map_nil]
  | cons a r =>
   rw [hg'] at hg
   obtain ⟨ver, ev, rfl⟩ := hg.inv (by simp)
   have hd : abHZ ((a :: r).map aadZ) = true := aabZ abuZ (a :: r)
   have hs : ((aadZ a).all AV.still && (r.map aadZ).all fun r => r.all AV.still) = true := by simpa using aatZ hd
   have hu : (abLZ H.length (aadZ a) && acTZ H.length (r.map aadZ)) = true := aaaZ hd
   simp only [go_sem, ↓aafZ, ↓reduceIte, ev, apjZ, List.map_cons, hs, aaVZ]
   rw [if_pos hu]
   exact ⟨rfl, rfl, rfl⟩
end Go.AM
end
section
set_option maxRecDepth 8000
namespace Go.AM
open Go
abbrev aeSZ (g : String -> Nat) : ACode := .seq (.region false [⟨some 9, .bin .lss .no (.tmp 8) (.tmp 7), none, []⟩]) <| .seq (.cond (.tmp 9) (.skip) (.exit 0)) <| .seq (.block 1 (.seq (.region false [⟨some 10, .mov (.tmp 8), none, []⟩,⟨some 5, .mov (.tmp 10), none, [0]⟩]) <| .seq (.region false [⟨some 11, .mov (.tmp 1), none, []⟩,⟨some 12, .mov (.tmp 0), none, []⟩,⟨some 13, .mov (.tmp 5), none, []⟩,⟨some 14, .iaV (.tmp 12) (.tmp 13) 1, none, [1, 2]⟩,⟨some 15, .load 1 false (.tmp 14), none, [3, 1, 2]⟩,⟨some 16, .bin .eql .no (.tmp 11) (.tmp 15), none, [0, 4, 3, 1, 2]⟩]) <| .cond (.tmp 16) (.seq (.region false [⟨some 17, .mov (.tmp 5), none, []⟩,⟨some 4, .mov (.tmp 17), none, [0]⟩]) <| .ret) (.skip))) <| .region false [⟨some 18, .bin .add .no (.tmp 8) (.const (.int .i64 1)), none, []⟩,⟨some 8, .mov (.tmp 18), none, [0]⟩]
abbrev aeTZ : List Nat := [9, 10, 5, 11, 12, 13, 14, 15, 16, 17, 4, 18, 8]
def abiZ (g : String -> Nat) : AFn := ⟨19, [], [.tmp 4],.seq (.region false [⟨some 4, .mov (.const (.int .i64 0)), none, []⟩]) <| .seq (.seq (.region false [⟨some 6, .mov (.tmp 0), none, []⟩,⟨some 7, .lenV (.tmp 6), none, [0]⟩,⟨some 8, .mov (.const (.int .i64 0)), none, []⟩]) <| .block 0 (.loop (aeSZ g))) <| .seq (.region false [⟨some 4, .mov (.const (.int .i64 (-1))), none, []⟩]) <| .ret⟩
def aaUZ (g : String -> Nat) : AFn := ⟨9, [], [.tmp 4],.seq (.region false [⟨some 4, .mov (.const (.bool false)), none, []⟩]) <| .seq (.region false [⟨some 5, .mov (.tmp 0), none, []⟩,⟨some 6, .mov (.tmp 1), none, []⟩,⟨some 7, .callv (.const (.fn (g "slices.Index[[]string,string]") [] [])) [(.tmp 5), (.tmp 6)], none, [0, 1]⟩,⟨some 8, .bin .geq .no (.tmp 7) (.const (.int .i64 0)), none, [2, 0, 1]⟩,⟨some 4, .mov (.tmp 8), none, [3, 2, 0, 1]⟩]) <| .ret⟩
def aeyZ (g : String -> Nat) : AFn := ⟨7, [], [.tmp 3],.seq (.region false [⟨some 3, .mov (.const (.bool false)), none, []⟩]) <| .seq (.region false [⟨some 4, .load 1 false (.tmp 1), none, []⟩,⟨some 5, .mov (.tmp 0), none, []⟩,⟨some 6, .callv (.const (.fn (g "slices.Contains[[]string,string]") [] [])) [(.tmp 4), (.tmp 5)], none, [0, 1]⟩,⟨some 3, .mov (.tmp 6), none, [2, 0, 1]⟩]) <| .ret⟩
abbrev aesZ (g : String -> Nat) : ACode := .seq (.region false [⟨some 9, .bin .lss .no (.tmp 8) (.tmp 7), none, []⟩]) <| .seq (.cond (.tmp 9) (.skip) (.exit 0)) <| .seq (.block 1 (.seq (.region false [⟨some 10, .mov (.tmp 8), none, []⟩,⟨some 5, .mov (.tmp 10), none, [0]⟩]) <| .seq (.region false [⟨some 11, .mov (.tmp 1), none, []⟩,⟨some 12, .mov (.tmp 0), none, []⟩,⟨some 13, .mov (.tmp 5), none, []⟩,⟨some 14, .iaV (.tmp 12) (.tmp 13) 1, none, [1, 2]⟩,⟨some 15, .load 1 false (.tmp 14), none, [3, 1, 2]⟩,⟨some 16, .callv (.tmp 11) [(.tmp 15)], none, [0, 4, 3, 1, 2]⟩]) <| .cond (.tmp 16) (.seq (.region false [⟨some 17, .mov (.tmp 5), none, []⟩,⟨some 4, .mov (.tmp 17), none, [0]⟩]) <| .ret) (.skip))) <| .region false [⟨some 18, .bin .add .no (.tmp 8) (.const (.int .i64 1)), none, []⟩,⟨some 8, .mov (.tmp 18), none, [0]⟩]
abbrev aetZ : List Nat := [9, 10, 5, 11, 12, 13, 14, 15, 16, 17, 4, 18, 8]
def aaQZ (g : String -> Nat) : AFn := ⟨19, [], [.tmp 4],.seq (.region false [⟨some 4, .mov (.const (.int .i64 0)), none, []⟩]) <| .seq (.seq (.region false [⟨some 6, .mov (.tmp 0), none, []⟩,⟨some 7, .lenV (.tmp 6), none, [0]⟩,⟨some 8, .mov (.const (.int .i64 0)), none, []⟩]) <| .block 0 (.loop (aesZ g))) <| .seq (.region false [⟨some 4, .mov (.const (.int .i64 (-1))), none, []⟩]) <| .ret⟩
def idxI (p : Str -> Bool) (l : List Str) : Int := match l.findIdx? p with
 | some i => (i : Int)
 | none => -1
theorem arzZ {p : Str -> Bool} {l : List Str} {i : Nat} (h : i < l.length) (hp : p l[i] = true) (hn : ∀ j (hj : j < i), p (l[j]'(by omega)) = false) : idxI p l = i := by
 unfold idxI
 rw [List.findIdx?_eq_some_iff_getElem.2 ⟨h, hp, fun j hj => by rw [hn j hj]; simp⟩]
theorem amSZ {p : Str -> Bool} {l : List Str} (hn : ∀ j (hj : j < l.length), p l[j] = false) : idxI p l = -1 := by
 unfold idxI
 rw [List.findIdx?_eq_none_iff.2 fun x hx => by
  obtain ⟨j, hj, rfl⟩ := List.getElem_of_mem hx
  exact hn j hj]
theorem azcZ {p : Str -> Bool} {l : List Str} : decide (idxI p l ≥ 0) = l.any p := by
 unfold idxI
 cases h : l.findIdx? p with
 | some i =>
  obtain ⟨h1, h2, _⟩ := List.findIdx?_eq_some_iff_getElem.1 h
  have : l.any p = true := List.any_eq_true.2 ⟨_, List.getElem_mem h1, h2⟩
  rw [this]
  simp
 | none =>
  have : l.any p = false := by
   rw [Bool.eq_false_iff]
   intro hc
   obtain ⟨x, hx, hp⟩ := List.any_eq_true.1 hc
   rw [List.findIdx?_eq_none_iff.1 h x hx] at hp
   cases hp
  rw [this]
  simp
theorem arAZ {A : AProg} {g : String -> Nat} (h : Has A g "slices.Index[[]string,string]" (abiZ g)) (l : List Str) (s : Str) (hl : l.length <= 1000000000) (H : List AObj) :
  aapZ A (g "slices.Index[[]string,string]") [.sl false (l.map aadZ), .str s] H = some (vi (idxI (fun x => s == x) l), H, []) := by
 refine h.call (by simp [abiZ]) (by kernel_rfl) ?_
 simp only [abiZ]
 simp only [go_sem, ↓aafZ, NB, IM, List.length_map]
 refine aaWZ (id := 0) (W := aeTZ) (fun i ρ1 H1 wr => wr = [] /\ H1 = H /\ ρ1 8 = vi i /\ ∀ j (hj : j < i) (hl : j < l.length), (s == l[j]) = false) l.length
  (fun ρ1 H1 wr => wr = [] /\ H1 = H /\ ∀ j (hl : j < l.length), (s == l[j]) = false)
  (by kernel_rfl) (by rfl) ⟨rfl, by simp, rfl, fun j hj => by omega⟩ ?_ ?_
 ·rintro i ρ1 H1 wr1 hil ⟨rfl, rfl, e8, hn⟩ hf
  have e0 : ρ1 0 = .sl false (l.map aadZ) := by rw [hf 0 (by rfl)]; rfl
  have e1 : ρ1 1 = .str s := by rw [hf 1 (by rfl)]; rfl
  have e7 : ρ1 7 = vi l.length := by rw [hf 7 (by rfl)]; rfl
  simp only [go_sem, ↓aafZ, IM, e8, e7]
  refine aacZ (fun hb => ?_) (fun hb => ?_)
  ·have hlt : i < l.length := by simpa using hb
   have hg : (l.map aadZ)[i]? = some [.str l[i]] := getElem?_map_of hlt
   have hn0 : (0 : Int) <= (i : Int) := by omega
   have hto : ((i : Int)).toNat = i := by omega
   have hw9 : IntKind.i64.wrap ((i : Int) + 1) = ((i + 1 : Nat) : Int) := by rw [wrap_i64 (by omega) (by omega)]; omega
   cases hc : (s == l[i]) with
   | true =>
    simp only [go_sem, ↓aafZ, ↓reduceIte, NB, IM, e0, e1, e8, hg, hn0, hto, hc]
    exact (arzZ (p := fun x => s == x) hlt hc fun j hj => hn j hj (by omega)).symm ▸ rfl
   | false =>
    simp only [go_sem, ↓aafZ, ↓reduceIte, NB, IM, e0, e1, e8, hg, hn0, hto, hc, hw9]
    refine ⟨hlt, fun j hj hjl => ?_⟩
    by_cases e : j = i
    ·subst e; exact hc
    ·exact hn j (by omega) hjl
  ·have hi : i = l.length := by simp at hb; omega
   subst hi
   simp only [go_sem, IM]
   exact fun j hj => hn j hj hj
 ·rintro ρ' H' wr' ⟨rfl, rfl, hn⟩ hf
  simp only [go_sem, ↓aafZ, IM, amSZ (p := fun x => s == x) hn]
theorem anPZ {A : AProg} {g : String -> Nat} (h : Has A g "slices.Contains[[]string,string]" (aaUZ g)) (hi : ∀ (l : List Str) (s : Str), l.length <= 1000000000 -> ∀ H, aapZ A (g "slices.Index[[]string,string]") [.sl false (l.map aadZ), .str s] H = some (vi (idxI (fun x => s == x) l), H, []))
  (l : List Str) (s : Str) (hl : l.length <= 1000000000) (H : List AObj) :
  aapZ A (g "slices.Contains[[]string,string]") [.sl false (l.map aadZ), .str s] H = some (.bool (l.any fun x => s == x), H, []) := by
 refine h.call (by simp [aaUZ]) (by kernel_rfl) ?_
 simp only [aaUZ]
 simp only [go_sem, ↓aafZ, ↓reduceIte, NB, hi l s hl, azcZ]
theorem aqsZ {A : AProg} {g : String -> Nat} (h : Has A g "dactyl/source.Answer$1" (aeyZ g)) (hc : ∀ (l : List Str) (s : Str), l.length <= 1000000000 -> ∀ H, aapZ A (g "slices.Contains[[]string,string]") [.sl false (l.map aadZ), .str s] H = some (.bool (l.any fun x => s == x), H, []))
  {l : List Str} {s : Str} (hl : l.length <= 1000000000) {H : List AObj} {o v id : Nat} {cell : AV} {ob : AObj} (ho : H[o]? = some (.box v [cell])) (hid : H[id]? = some ob) (hg : GSl id 1 (l.map aadZ) cell ob) :
  aapZ A (g "dactyl/source.Answer$1") [.str s, .ptr o v 0] H = some (.bool (l.any fun x => s == x), H, []) := by
 refine h.call (by simp [aeyZ]) (by kernel_rfl) ?_
 simp only [aeyZ]
 generalize hr : l.map aadZ = rows at hg
 cases hg with
 | nil =>
  have hl0 : l = [] := by simpa using hr
  subst hl0
  simp only [go_sem, ↓aafZ, ↓reduceIte, NB, ho, show aapZ A (g "slices.Contains[[]string,string]") [.sl false [], .str s] H = some (.bool false, H, []) from hc [] s (by simp) H, List.append_nil, List.any_nil]
 | obj ver rows =>
  subst hr
  have hst := aatZ (aabZ abuZ l)
  have hc' := hc l s hl (H.set id (.gone ver))
  simp only [go_sem, ↓aafZ, ↓reduceIte, NB, ho, hid, hst, hc', List.append_nil, List.isEmpty_nil, List.isEmpty_cons, List.length_set]
end Go.AM
end
