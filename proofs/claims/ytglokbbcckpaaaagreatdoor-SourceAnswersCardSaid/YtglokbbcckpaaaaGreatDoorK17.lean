/- Part 17 of the proof that stands in the last text of this folder (lemmas; no statement of its own). -/
import Derived.Test.YtglokbbcckpaaaaGreatDoorK13
import Derived.Test.YtglokbbcckpaaaaGreatDoorK14
import Derived.Test.YtglokbbcckpaaaaGreatDoorK16
set_option linter.unusedVariables false
set_option linter.unusedSimpArgs false
open Nat renaming reduceBEq -> NB, reduceAdd -> NA, reduceLT -> NL, reduceLeDiff -> ND, reduceEqDiff -> NE
open Int renaming reduceBEq -> IB
open Bool renaming not_false -> BF
section
set_option maxRecDepth 8000
namespace Go.AM
open Go
abbrev ajZZ (g : String -> Nat) : List AOper := [⟨some 12, .mov (.tmp 0), none, []⟩,⟨some 13, .mov (.tmp 5), none, []⟩,⟨some 14, .iaV (.tmp 12) (.tmp 13) 4, none, [0, 1]⟩,⟨some 15, .load 4 true (.tmp 14), none, [2, 0, 1]⟩,⟨some 16, .load 4 true (.tmp 3), none, []⟩,⟨some 17, .bin .eql (.cells [.int, .int, .int, .int]) (.tmp 15) (.tmp 16), none, [3, 2, 0, 1, 4]⟩]
abbrev agdZ : List Nat := []
abbrev akaZ (g : String -> Nat) : ACode := .seq (.seq (.region false [⟨some 6, .mov (.tmp 5), none, []⟩,⟨some 7, .mov (.tmp 0), none, []⟩,⟨some 8, .lenV (.tmp 7), none, [1]⟩,⟨some 9, .bin .lss .no (.tmp 6) (.tmp 8), none, [0, 2, 1]⟩]) <| .cond (.tmp 9) (.skip) (.exit 0)) <| .seq (.block 1 (.seq (.region true (ajZZ g)) <| .cond (.tmp 17) (.seq (.region false [⟨some 4, .mov (.const (.bool true)), none, []⟩]) <| .ret) (.skip))) <| .region false [⟨some 10, .mov (.tmp 5), none, []⟩,⟨some 11, .bin .add .no (.tmp 10) (.const (.int .i64 1)), none, [0]⟩,⟨some 5, .mov (.tmp 11), none, [1, 0]⟩]
abbrev akbZ : List Nat := [6, 7, 8, 9, 12, 13, 14, 15, 16, 17, 4, 10, 11, 5]
def aexZ (g : String -> Nat) : AFn := ⟨18, [3], [.tmp 4],.seq (.region false [⟨some 3, .box 4 (.tmp 1), none, []⟩,⟨some 4, .mov (.const (.bool false)), none, []⟩]) <| .seq (.seq (.region false [⟨some 5, .mov (.const (.int .i64 0)), none, []⟩]) <| .block 0 (.loop (akaZ g))) <| .seq (.region false [⟨some 4, .mov (.const (.bool false)), none, []⟩]) <| .ret⟩
abbrev acJZ (g : String -> Nat) : ACode := .seq (.seq (.region false [⟨some 16, .mov (.tmp 6), none, []⟩,⟨some 17, .mov (.tmp 1), none, []⟩,⟨some 18, .bin .lss .no (.tmp 16) (.tmp 17), none, [0, 1]⟩]) <| .cond (.tmp 18) (.skip) (.exit 0)) <| .seq (.block 1 (.seq (.region false [⟨some 21, .mov (.tmp 0), none, []⟩,⟨some 22, .callv (.const (.fn (g "(*dactyl/dactylref23.Maker).Take") [] [])) [(.tmp 21), (.const (.int .i64 2))], none, [0]⟩,⟨some 23, .bin .eql .no (.tmp 22) (.const (.int .i64 0)), none, [1, 0]⟩]) <| .cond (.tmp 23) (.region false [⟨some 24, .fa 3 (.tmp 5), none, []⟩,⟨some 25, .load 1 false (.tmp 24), none, [0]⟩,⟨some 26, .mov (.tmp 6), none, []⟩,⟨some 27, .bsl 1 [(.int .i64 0)] 1 [(0, (.tmp 26))], none, [2]⟩,⟨some 28, .app 1 8 (.tmp 25) (.tmp 27), none, [1, 0, 3, 2]⟩,⟨some 29, .fa 3 (.tmp 5), none, [4, 1, 0, 3, 2]⟩,⟨none, .store 1 (.tmp 29) (.tmp 28), none, [5, 4, 1, 0, 3, 2]⟩]) (.skip))) <| .region false [⟨some 19, .mov (.tmp 6), none, []⟩,⟨some 20, .bin .add .no (.tmp 19) (.const (.int .i64 1)), none, [0]⟩,⟨some 6, .mov (.tmp 20), none, [1, 0]⟩]
abbrev acKZ : List Nat := [16, 17, 18, 21, 22, 23, 24, 25, 26, 27, 28, 29, 19, 20, 6]
abbrev afdZ (g : String -> Nat) : List AOper := [⟨some 45, .fa 2 (.tmp 5), none, []⟩,⟨some 46, .load 1 false (.tmp 45), none, [0]⟩,⟨some 47, .mov (.tmp 0), none, []⟩,⟨some 48, .callv (.const (.fn (g "(*dactyl/dactylref23.Maker).Phrase") [] [])) [(.tmp 47)], none, [2]⟩,⟨some 49, .bsl 1 [(.str [])] 4 [(0, (.const (.str [121, 101, 115]))), (1, (.const (.str [110, 111]))), (2, (.tmp 48)), (3, (.const (.str [52, 50])))], none, [3, 2]⟩,⟨some 50, .mov (.tmp 8), none, []⟩,⟨some 51, .mov (.tmp 0), none, []⟩,⟨some 52, .callv (.const (.fn (g "(*dactyl/dactylref23.Maker).Take") [] [])) [(.tmp 51), (.const (.int .i64 2))], none, [6, 3, 2]⟩,⟨some 53, .bin .add .no (.tmp 50) (.tmp 52), none, [5, 7, 6, 3, 2]⟩,⟨some 54, .bin .rem .no (.tmp 53) (.const (.int .i64 4)), none, [8, 5, 7, 6, 3, 2]⟩,⟨some 55, .iaV (.tmp 49) (.tmp 54) 1, none, [4, 9, 8, 5, 7, 6, 3, 2]⟩,⟨some 56, .load 1 false (.tmp 55), none, [10, 4, 9, 8, 5, 7, 6, 3, 2]⟩,⟨some 57, .bsl 1 [(.str [])] 1 [(0, (.tmp 56))], none, [11, 10, 4, 9, 8, 5, 7, 6, 3, 2]⟩,⟨some 58, .app 1 16 (.tmp 46) (.tmp 57), none, [1, 0, 12, 11, 10, 4, 9, 8, 5, 7, 6, 3, 2]⟩,⟨some 59, .fa 2 (.tmp 5), none, [13, 1, 0, 12, 11, 10, 4, 9, 8, 5, 7, 6, 3, 2]⟩,⟨none, .store 1 (.tmp 59) (.tmp 58), none, [14, 13, 1, 0, 12, 11, 10, 4, 9, 8, 5, 7, 6, 3, 2]⟩]
abbrev acLZ : List Nat := [1, 3, 7]
abbrev afeZ (g : String -> Nat) : List AOper := [⟨some 60, .fa 6 (.tmp 5), none, []⟩,⟨some 61, .load 1 false (.tmp 60), none, [0]⟩,⟨some 62, .bsl 1 [(.str [])] 3 [(0, (.const (.str []))), (1, (.const (.str [105, 116, 32, 108, 111, 111, 107, 115, 32, 115, 111]))), (2, (.const (.str [97, 32, 115, 108, 105, 112])))], none, []⟩,⟨some 63, .mov (.tmp 0), none, []⟩,⟨some 64, .callv (.const (.fn (g "(*dactyl/dactylref23.Maker).Take") [] [])) [(.tmp 63), (.const (.int .i64 3))], none, [3]⟩,⟨some 65, .iaV (.tmp 62) (.tmp 64) 1, none, [2, 4, 3]⟩,⟨some 66, .load 1 false (.tmp 65), none, [5, 2, 4, 3]⟩,⟨some 67, .bsl 1 [(.str [])] 1 [(0, (.tmp 66))], none, [6, 5, 2, 4, 3]⟩,⟨some 68, .app 1 16 (.tmp 61) (.tmp 67), none, [1, 0, 7, 6, 5, 2, 4, 3]⟩,⟨some 69, .fa 6 (.tmp 5), none, [8, 1, 0, 7, 6, 5, 2, 4, 3]⟩,⟨none, .store 1 (.tmp 69) (.tmp 68), none, [9, 8, 1, 0, 7, 6, 5, 2, 4, 3]⟩]
abbrev acMZ : List Nat := [1, 4]
abbrev acNZ (g : String -> Nat) : ACode := .seq (.seq (.region false [⟨some 40, .mov (.tmp 8), none, []⟩,⟨some 41, .mov (.tmp 7), none, []⟩,⟨some 42, .bin .lss .no (.tmp 40) (.tmp 41), none, [0, 1]⟩]) <| .cond (.tmp 42) (.skip) (.exit 3)) <| .seq (.block 4 (.seq (.region true (afdZ g)) <| .region true (afeZ g))) <| .region false [⟨some 43, .mov (.tmp 8), none, []⟩,⟨some 44, .bin .add .no (.tmp 43) (.const (.int .i64 1)), none, [0]⟩,⟨some 8, .mov (.tmp 44), none, [1, 0]⟩]
abbrev acOZ : List Nat := [40, 41, 42, 45, 46, 47, 48, 49, 50, 51, 52, 53, 54, 55, 56, 57, 58, 59, 60, 61, 62, 63, 64, 65, 66, 67, 68, 69, 43, 44, 8]
def acPZ (g : String -> Nat) : ACode := .block 2 (.seq (.region false [⟨some 36, .bin .eql .no (.tmp 31) (.const (.int .i64 0)), none, []⟩,⟨some 35, .mov (.tmp 36), none, [0]⟩]) <| .cond (.tmp 35) (.seq (.region false [⟨some 37, .mov (.tmp 0), none, []⟩,⟨some 38, .callv (.const (.fn (g "(*dactyl/dactylref23.Maker).Take") [] [])) [(.tmp 37), (.const (.int .i64 3))], none, [0]⟩,⟨some 39, .bin .add .no (.const (.int .i64 2)) (.tmp 38), none, [1, 0]⟩,⟨some 7, .mov (.tmp 39), none, [2, 1, 0]⟩]) <| .seq (.seq (.region false [⟨some 8, .mov (.const (.int .i64 0)), none, []⟩]) <| .block 3 (.loop (acNZ g))) <| .region false [⟨some 70, .mov (.tmp 0), none, []⟩,⟨some 71, .mov (.tmp 7), none, []⟩,⟨some 72, .callv (.const (.fn (g "(*dactyl/dactylref23.Maker).Take") [] [])) [(.tmp 70), (.tmp 71)], none, [0, 1]⟩,⟨some 73, .callv (.const (.fn (g "dactyl/dactylref23.Decimal") [] [])) [(.tmp 72)], none, [2, 0, 1]⟩,⟨some 74, .fa 4 (.tmp 5), none, [3, 2, 0, 1]⟩,⟨none, .store 1 (.tmp 74) (.tmp 73), none, [4, 3, 2, 0, 1]⟩]) (.seq (.region false [⟨some 76, .bin .eql .no (.tmp 31) (.const (.int .i64 1)), none, []⟩,⟨some 75, .mov (.tmp 76), none, [0]⟩]) <| .cond (.tmp 75) (.region false [⟨some 77, .mov (.tmp 0), none, []⟩,⟨some 78, .callv (.const (.fn (g "(*dactyl/dactylref23.Maker).Take") [] [])) [(.tmp 77), (.const (.int .i64 200))], none, [0]⟩,⟨some 79, .callv (.const (.fn (g "dactyl/dactylref23.Decimal") [] [])) [(.tmp 78)], none, [1, 0]⟩,⟨some 80, .fa 4 (.tmp 5), none, [2, 1, 0]⟩,⟨none, .store 1 (.tmp 80) (.tmp 79), none, [3, 2, 1, 0]⟩]) (.region false [⟨some 32, .mov (.tmp 0), none, []⟩,⟨some 33, .callv (.const (.fn (g "(*dactyl/dactylref23.Maker).Phrase") [] [])) [(.tmp 32)], none, [0]⟩,⟨some 34, .fa 4 (.tmp 5), none, [1, 0]⟩,⟨none, .store 1 (.tmp 34) (.tmp 33), none, [2, 1, 0]⟩])))
def aboZ (g : String -> Nat) : AFn := ⟨82, [4, 5, 28, 58, 68], [.cell 4 7 true],.seq (.region false [⟨some 4, .alloc [(.int .i64 0), (.sl true []), (.sl true []), (.sl true []), (.str []), (.int .i64 0), (.sl true [])], none, []⟩]) <| .seq (.region false [⟨some 9, .mov (.tmp 0), none, []⟩,⟨some 10, .callv (.const (.fn (g "(*dactyl/dactylref23.Maker).Take") [] [])) [(.tmp 9), (.const (.int .i64 3))], none, [0]⟩,⟨some 11, .mov (.tmp 0), none, []⟩,⟨some 12, .callv (.const (.fn (g "(*dactyl/dactylref23.Maker).Runs") [] [])) [(.tmp 11)], none, [2, 1, 0]⟩,⟨some 13, .mov (.tmp 0), none, []⟩,⟨some 14, .callv (.const (.fn (g "(*dactyl/dactylref23.Maker).Take") [] [])) [(.tmp 13), (.const (.int .i64 9))], none, [4, 3, 2, 1, 0]⟩,⟨some 15, .build [(.int .i64 0), (.sl true []), (.sl true []), (.sl true []), (.str []), (.int .i64 0), (.sl true [])] [(0, 1, (.tmp 10)), (1, 1, (.tmp 12)), (5, 1, (.tmp 14))], none, [5, 4, 3, 2, 1, 0]⟩,⟨some 5, .alloc [(.int .i64 0), (.sl true []), (.sl true []), (.sl true []), (.str []), (.int .i64 0), (.sl true [])], none, []⟩,⟨none, .store 7 (.tmp 5) (.tmp 15), none, [6, 5, 4, 3, 2, 1, 0, 7]⟩]) <| .seq (.seq (.region false [⟨some 6, .mov (.const (.int .i64 0)), none, []⟩]) <| .block 0 (.loop (acJZ g))) <| .seq (.seq (.region false [⟨some 30, .fa 0 (.tmp 5), none, []⟩,⟨some 31, .load 1 false (.tmp 30), none, [0]⟩]) <| acPZ g) <| .seq (.region false [⟨some 81, .load 7 true (.tmp 5), none, []⟩,⟨none, .store 7 (.tmp 4) (.tmp 81), none, [0]⟩]) <| .ret⟩
theorem anOZ {a b : Fact} : aeBZ [.int, .int, .int, .int] (aaAZ a) (aaAZ b) = some (eqv a b) := by
 rw [awJZ]; simp only [aaAZ, aeBZ, apGZ, if_true, beqI]
 cases eqv a.kind b.kind <;> cases eqv a.block b.block <;> cases eqv a.a b.a <;> cases eqv a.b b.b <;> rfl
theorem avhZ {ts : List Tag} {x y : List AV} {b : Bool} (h : aeBZ ts x y = some b) : binV .eql (.cells ts) (.agg x) (.agg y) = some (.bool b) := by
 simp [binV, aeZZ, h]
theorem awQZ {A : AProg} {g : String -> Nat} (h : Has A g "dactyl/dactylref23.has" (aexZ g)) (l : List Fact) (hl : l.length <= 1000) (f : Fact) : ∃ b : Bool, ∀ H, aapZ A (g "dactyl/dactylref23.has") [.sl false (l.map aaAZ), .agg (aaAZ f)] H = some (.bool b, H, []) := by
 refine ⟨l.any fun a => eqv a f, fun H => ?_⟩
 refine h.call (by simp [aexZ]) (by kernel_rfl) ?_
 simp only [aexZ]
 simp only [go_sem, ↓reduceIte, NA, NL, aaAZ]
 refine asrZ (W := akbZ) (fun i ρ1 H1 wr => wr = [] /\ ρ1 5 = vi i /\ H1 = H ++ [.box 1 (aaAZ f)] /\ (l.any fun a => eqv a f) = ((l.drop i).any fun a => eqv a f)) l.length (by kernel_rfl) (by rfl) ⟨rfl, by simp only [go_sem], by simp only [go_sem, aaAZ], rfl⟩ ?_
 rintro i ρ1 H1 wr1 hil ⟨rfl, h5, rfl, hi⟩ hf
 have f0 : ρ1 0 = .sl false (l.map aaAZ) := by rw [hf 0 (by decide)]; simp only [go_sem, NB]
 have f3 : ρ1 3 = .ptr H.length 1 0 := by rw [hf 3 (by decide)]; simp only [go_sem, NB]
 simp only [go_sem, NB, f0, h5]
 refine aacZ (fun hb => ?_) (fun hb => ?_)
 ·have hlt : i < l.length := by simpa using hb
  rw [List.drop_eq_getElem_cons hlt, List.any_cons] at hi
  simp only [go_sem]
  refine aaPZ (keep := agdZ) (by rfl) (by rfl) ?_
  have h4 : ∀ a : Fact, (aaAZ a).length = 4 := fun _ => rfl
  have ht : ∀ a : Fact, List.take 4 (aaAZ a) = aaAZ a := fun _ => rfl
  simp only [go_sem, ↓reduceIte, NB, NA, agdZ, f0, f3, h5, hlt, getElem?_map_of hlt, h4, ht, avhZ anOZ]
  refine aacZ (fun hb2 => ?_) (fun hb2 => ?_)
  ·rw [hb2, Bool.true_or] at hi
   simp only [go_sem, hi]
  ·rw [hb2, Bool.false_or] at hi
   simp only [go_sem, NB, h5]
   rw [abhZ (by omega)]
   exact ⟨hlt, rfl, hi⟩
 ·have hlt : i = l.length := by
   have : ¬ i < l.length := by simpa using hb
   omega
  subst hlt
  rw [List.drop_eq_nil_of_le (Nat.le_refl _), List.any_nil] at hi
  simp only [go_sem, hi]
theorem amOZ {n : Int} (h0 : 0 <= n) (h1 : n <= 1000000) : accZ n := by constructor <;> omega
structure MQuestion (q : Question) : Prop where
 ok : q.Ok
 lens : q.options.length <= 4 /\ q.reasons.length <= 4 /\ q.needs.length <= 10 /\ q.stem.length <= 3
 stem : ∀ r ∈ q.stem, r.text.length <= 60
abbrev aiIZ (v : AV) : Prop := ∃ q : Question, v = .agg (encQ q) /\ MQuestion q
theorem ayYZ {A : AProg} {g : String -> Nat} (ht : abIZ A g) {H : List AObj} {Q : AExit -> SEnv -> List AObj -> List Nat -> Prop} {tg} {l : List Int} (hl : acIZ l) {o v : Nat} (hlt : o < H.length)
  {i : Int} {o0 o2 o3 o4 : AObj} {vq : Nat} {c0 c1 c2 c4 c5 c6 : AV} {m : Nat} (hm : m <= 10) {ρ : SEnv} (e0 : ρ 0 = .ptr o v 0) (e1 : ρ 1 = vi m) (e5 : ρ 5 = .ptr (H.length + 1) vq 0) (e6 : ρ 6 = vi 0)
  (hQ : ∀ ρ' i' o2 w (r : List Int), (∀ t, acKZ.contains t = false -> ρ' t = ρ t) -> r.length <= 10 -> (∀ a ∈ r, accZ a) -> GSl (H.length + 2) 1 (r.map aaqZ) w o2 ->
   Q (.exit 0) ρ' (H.set o (.box v (aaeZ l i')) ++ [o0, .box vq [c0, c1, c2, w, c4, c5, c6], o2, o3, o4]) [o]) :
  wl A 82 ⟨H.length, [4, 5, 28, 58, 68]⟩ (acJZ g) ρ (H.set o (.box v (aaeZ l i)) ++ [o0, .box vq [c0, c1, c2, .sl true [], c4, c5, c6], o2, o3, o4]) [o] Q tg := by
 refine aaWZ (W := acKZ) (fun j ρ1 H1 wr => wr = [o] /\ ρ1 6 = vi j /\ ∃ i' o2 w, ∃ r : List Int, H1 = H.set o (.box v (aaeZ l i')) ++ [o0, .box vq [c0, c1, c2, w, c4, c5, c6], o2, o3, o4] /\ GSl (H.length + 2) 1 (r.map aaqZ) w o2 /\ r.length <= j /\ ∀ a ∈ r, accZ a) m
  (fun ρ1 H1 wr => wr = [o] /\ ∃ i' o2 w, ∃ r : List Int, H1 = H.set o (.box v (aaeZ l i')) ++ [o0, .box vq [c0, c1, c2, w, c4, c5, c6], o2, o3, o4] /\ GSl (H.length + 2) 1 (r.map aaqZ) w o2 /\ r.length <= 10 /\ ∀ a ∈ r, accZ a)
  (by kernel_rfl) (by rfl) ⟨rfl, e6, i, o2, .sl true [], [], rfl, .nil _, Nat.le_refl _, by simp⟩ ?_ (by
   rintro ρ' H' wr' ⟨rfl, i', o2, w, r, rfl, hg, hr1, hr2⟩ hf
   exact hQ ρ' i' o2 w r hf hr1 hr2 hg)
 rintro j ρ1 H1 wr1 hjl ⟨rfl, e6, i', o2, w, r, rfl, hg, hrl, hro⟩ hf
 have f0 : ρ1 0 = .ptr o v 0 := (hf 0 (by decide)).trans e0
 have f1 : ρ1 1 = vi m := (hf 1 (by decide)).trans e1
 have f5 : ρ1 5 = .ptr (H.length + 1) vq 0 := (hf 5 (by decide)).trans e5
 simp only [go_sem, NB, f1, e6]
 refine aacZ (fun hb => ?_) (fun hb => ?_)
 ·have hlt2 : j < m := by simpa using hb
  simp only [go_sem, ↓reduceIte, NB, NE, f0]
  refine aalZ (aakZ ht (m := 2) (by decide)) hl (i := i') (by simp only [go_sem, aagZ, hlt]) ?_
  rintro val i3 ⟨x, rfl, hx0, hx1⟩
  simp only [go_sem, ↓reduceIte, hlt, aahZ]
  refine aacZ (fun hb2 => ?_) (fun hb2 => ?_)
  ·obtain ⟨v', o', hg', happ⟩ := hg.app (new := [[vi j]]) (bytes := 8) (by simp) (by rfl) (by simp only [List.length_map, List.length_cons, List.length_nil]; omega)
   rw [show r.map aaqZ ++ [[vi j]] = (r ++ [(j : Int)]).map aaqZ by simp [aaqZ]] at hg'
   simp only [go_sem, ↓reduceIte, NB, NA, NL, ND, NE, f5, e6, happ, hg'.cellOk, hg'.strip1]
   rw [abhZ (by omega)]
   refine ⟨hlt2, rfl, i3, o', v', r ++ [(j : Int)], rfl, hg', by simp; omega, ?_⟩
   intro a ha
   rcases List.mem_append.1 ha with ha | ha
   ·exact hro a ha
   ·have : a = (j : Int) := by simpa using ha
    subst this
    exact amOZ (by omega) (by omega)
  ·simp only [go_sem, NB, e6]
   rw [abhZ (by omega)]
   exact ⟨hlt2, rfl, i3, o2, w, r, rfl, hg, by omega, hro⟩
 ·have hlt2 : j = m := by
   have : ¬ j < m := by simpa using hb
   omega
  subst hlt2
  simp only [go_sem]
  exact ⟨i', o2, w, r, rfl, hg, by omega, hro⟩
theorem aviZ {A : AProg} {g : String -> Nat} (ht : abIZ A g) (hp : aaMZ A (g "(*dactyl/dactylref23.Maker).Phrase") [] aonZ) {H : List AObj} {Q : AExit -> SEnv -> List AObj -> List Nat -> Prop} {tg} {l : List Int} (hl : acIZ l) {o v : Nat} (hlt : o < H.length)
  {i : Int} {o0 o2 o3 o4 : AObj} {vq : Nat} {c0 c1 c3 c4 c5 : AV} {n : Int} (hn0 : 2 <= n) (hn1 : n <= 4) {ρ : SEnv} (e0 : ρ 0 = .ptr o v 0) (e5 : ρ 5 = .ptr (H.length + 1) vq 0) (e7 : ρ 7 = vi n) (e8 : ρ 8 = vi 0)
  (hQ : ∀ ρ' i' o3 o4 w w' (r r' : List Str), (∀ t, acOZ.contains t = false -> ρ' t = ρ t) -> r.length <= 4 -> (∀ a ∈ r, a.length <= 60) -> r'.length <= 4 -> (∀ a ∈ r', a.length <= 60) ->
   GSl (H.length + 3) 1 (r.map aadZ) w o3 -> GSl (H.length + 4) 1 (r'.map aadZ) w' o4 ->
   Q (.exit 3) ρ' (H.set o (.box v (aaeZ l i')) ++ [o0, .box vq [c0, c1, w, c3, c4, c5, w'], o2, o3, o4]) [o]) :
  wl A 82 ⟨H.length, [4, 5, 28, 58, 68]⟩ (acNZ g) ρ (H.set o (.box v (aaeZ l i)) ++ [o0, .box vq [c0, c1, .sl true [], c3, c4, c5, .sl true []], o2, o3, o4]) [o] Q tg := by
 refine aaWZ (W := acOZ) (fun j ρ1 H1 wr => wr = [o] /\ ρ1 8 = vi j /\ ∃ i' o3 o4 w w', ∃ r r' : List Str, H1 = H.set o (.box v (aaeZ l i')) ++ [o0, .box vq [c0, c1, w, c3, c4, c5, w'], o2, o3, o4] /\
   GSl (H.length + 3) 1 (r.map aadZ) w o3 /\ GSl (H.length + 4) 1 (r'.map aadZ) w' o4 /\ r.length = j /\ r'.length = j /\ (∀ a ∈ r, a.length <= 60) /\ ∀ a ∈ r', a.length <= 60) n.toNat
  (fun ρ1 H1 wr => wr = [o] /\ ∃ i' o3 o4 w w', ∃ r r' : List Str, H1 = H.set o (.box v (aaeZ l i')) ++ [o0, .box vq [c0, c1, w, c3, c4, c5, w'], o2, o3, o4] /\
   GSl (H.length + 3) 1 (r.map aadZ) w o3 /\ GSl (H.length + 4) 1 (r'.map aadZ) w' o4 /\ r.length <= 4 /\ r'.length <= 4 /\ (∀ a ∈ r, a.length <= 60) /\ ∀ a ∈ r', a.length <= 60)
  (by kernel_rfl) (by rfl) ⟨rfl, e8, i, o3, o4, .sl true [], .sl true [], [], [], rfl, .nil _, .nil _, rfl, rfl, by simp, by simp⟩ ?_ (by
   rintro ρ' H' wr' ⟨rfl, i', o3, o4, w, w', r, r', rfl, hg, hg', h1, h2, h3, h4⟩ hf
   exact hQ ρ' i' o3 o4 w w' r r' hf h1 h3 h2 h4 hg hg')
 rintro j ρ1 H1 wr1 hjl ⟨rfl, e8, i', o3, o4, w, w', r, r', rfl, hg, hh, hrl, hrl', hro, hro'⟩ hf
 have f0 : ρ1 0 = .ptr o v 0 := (hf 0 (by decide)).trans e0
 have f5 : ρ1 5 = .ptr (H.length + 1) vq 0 := (hf 5 (by decide)).trans e5
 have f7 : ρ1 7 = vi n := (hf 7 (by decide)).trans e7
 simp only [go_sem, NB, f7, e8]
 refine aacZ (fun hb => ?_) (fun hb => ?_)
 ·have hlt2 : j < n.toNat := by simp at hb; omega
  have hne : (H.length + 1 == o) = false := by simp; omega
  simp only [go_sem]
  refine aaPZ (keep := acLZ) (by rfl) (by rfl) ?_
  simp only [go_sem, ↓reduceIte, NB, NA, NL, ND, NE, acLZ, f0, f5, e8]
  refine abaZ hp hl (i := i') (by simp only [go_sem, aagZ, hlt]) ?_
  rintro val i3 ⟨s, rfl, hs⟩
  simp only [go_sem, ↓reduceIte, NA, hlt, aahZ]
  refine abaZ (aakZ ht (m := 2) (by decide)) hl (i := i3) (by simp only [go_sem, aagZ, hlt]) ?_
  rintro val i4 ⟨y, rfl, hy0, hy1⟩
  have hwy : IntKind.i64.wrap ((j : Int) + y) = j + y := wrap_i64 (by omega) (by omega)
  have hr0 := Int.tmod_nonneg 4 (a := j + y) (by omega)
  have hr1 := Int.tmod_lt_of_pos (j + y) (b := 4) (by decide)
  obtain ⟨t, htm, htab⟩ := tabS [[121, 101, 115], [110, 111], s, [52, 50]] hr0 hr1
  simp only [List.map, aadZ] at htab
  have htl : t.length <= 60 := by
   simp only [List.mem_cons, List.not_mem_nil, or_false] at htm
   rcases htm with rfl | rfl | rfl | rfl
   ·simp
   ·simp
   ·exact hs
   ·simp
  obtain ⟨v', o', hg', happ⟩ := hg.app (new := [[.str t]]) (bytes := 16) (by simp) (by rfl) (by simp only [List.length_map, List.length_cons, List.length_nil]; omega)
  rw [show r.map aadZ ++ [[.str t]] = (r ++ [t]).map aadZ by simp [aadZ]] at hg'
  simp only [go_sem, ↓reduceIte, NB, NA, ND, BF, hlt, aahZ, hwy, aeFZ (b := 4) (by decide), hr0, htab, happ, hg'.cellOk, hg'.strip1, acUZ, acEZ, hne, aavZ]
  refine aaPZ (keep := acMZ) (by rfl) (by rfl) ?_
  simp only [go_sem, ↓reduceIte, NB, NA, NL, NE, acMZ, f0, f5]
  refine abaZ (aakZ ht (m := 3) (by decide)) hl (i := i4) (by simp only [go_sem, aagZ, hlt]) ?_
  rintro val i5 ⟨z, rfl, hz0, hz1⟩
  obtain ⟨u, hum, htab2⟩ := tabS [[], [105, 116, 32, 108, 111, 111, 107, 115, 32, 115, 111], [97, 32, 115, 108, 105, 112]] hz0 hz1
  simp only [List.map, aadZ] at htab2
  have hul : u.length <= 60 := by
   simp only [List.mem_cons, List.not_mem_nil, or_false] at hum
   rcases hum with rfl | rfl | rfl <;> simp
  obtain ⟨v2, o2', hh', happ2⟩ := hh.app (new := [[.str u]]) (bytes := 16) (by simp) (by rfl) (by simp only [List.length_map, List.length_cons, List.length_nil]; omega)
  rw [show r'.map aadZ ++ [[.str u]] = (r' ++ [u]).map aadZ by simp [aadZ]] at hh'
  simp only [go_sem, ↓reduceIte, NB, NA, BF, e8, hlt, aahZ, hz0, htab2, happ2, hh'.cellOk, hh'.strip1, acUZ, acEZ, hne, aavZ]
  rw [abhZ (by omega)]
  refine ⟨hlt2, rfl, i5, o', o2', v', v2, r ++ [t], r' ++ [u], rfl, hg', hh', by simp [hrl], by simp [hrl'], ?_, ?_⟩
  ·intro a ha
   rcases List.mem_append.1 ha with ha | ha
   ·exact hro a ha
   ·have : a = t := by simpa using ha
    subst this
    exact htl
  ·intro a ha
   rcases List.mem_append.1 ha with ha | ha
   ·exact hro' a ha
   ·have : a = u := by simpa using ha
    subst this
    exact hul
 ·have hlt2 : j = n.toNat := by simp at hb; omega
  subst hlt2
  simp only [go_sem]
  exact ⟨i', o3, o4, w, w', r, r', rfl, hg, hh, by omega, by omega, hro, hro'⟩
theorem agAZ : ∀ (H : List AObj) (a b : List Nat), aaOZ H (a ++ b) = aaOZ (aaOZ H a) b
 | H, [], b => rfl
 | H, o :: r, b => by simp only [List.cons_append, aaOZ]; exact agAZ _ r b
theorem aiaZ (n : Nat) : ∀ (wr a b : List Nat), aaCZ n wr (a ++ b) = aaCZ n (aaCZ n wr a) b
 | wr, [], b => rfl
 | wr, o :: r, b => by
  simp only [List.cons_append, aaCZ]
  split <;> exact aiaZ n _ r b
set_option maxHeartbeats 3200000 in
theorem aqnZ {A : AProg} {g : String -> Nat} (h : Has A g "(*dactyl/dactylref23.Maker).Question" (aboZ g)) (ht : abIZ A g) (hp : aaMZ A (g "(*dactyl/dactylref23.Maker).Phrase") [] aonZ)
  (hr : aaMZ A (g "(*dactyl/dactylref23.Maker).Runs") [] avbZ) (hd : ajpZ A g) {m : Nat} (hm : m <= 10) : aaMZ A (g "(*dactyl/dactylref23.Maker).Question") [vi m] aiIZ := by
 refine h.gen (by simp [aboZ]) (fun n => by kernel_rfl) ?_
 intro l i o v H hl hlt ho
 simp only [aboZ]
 simp only [go_sem, ↓reduceIte, NB, NA, NL, ND, NE]
 refine aalZ (aakZ ht (m := 3) (by decide)) hl (i := i) (by simp only [go_sem, acmZ, hlt, ho]) ?_
 rintro val i1 ⟨k, rfl, hk0, hk1⟩
 simp only [go_sem, ↓reduceIte, NA, ND, hlt, aciZ]
 refine aalZ hr hl (i := i1) (by simp only [go_sem, aagZ, hlt]) ?_
 rintro val i2 ⟨st, rfl, hs1, hs2, hs3⟩
 simp only [go_sem, ↓reduceIte, NA, ND, hlt, aahZ]
 refine aalZ (aakZ ht (m := 9) (by decide)) hl (i := i2) (by simp only [go_sem, aagZ, hlt]) ?_
 rintro val i3 ⟨p, rfl, hp0, hp1⟩
 simp only [go_sem, ↓reduceIte, NA, NL, hlt, aahZ]
 refine ayYZ ht hl hlt (m := m) hm (by simp only [go_sem, NB]) (by simp only [go_sem, NB]) (by simp only [go_sem, NB]) (by simp only [go_sem]) ?_
 intro ρ2 i4 o2 w nd hf2 hn1 hn2 hg
 have g0 : ρ2 0 = .ptr o v 0 := by rw [hf2 0 (by decide)]; simp only [go_sem, NB]
 have g4 : ρ2 4 = .ptr H.length 1 0 := by rw [hf2 4 (by decide)]; simp only [go_sem, NB]
 have g5 : ρ2 5 = .ptr (H.length + 1) 1 0 := by rw [hf2 5 (by decide)]; simp only [go_sem, NB]
 obtain ⟨f1, l1, o2', hl1, hl2, hl3⟩ := hg.lend (aabZ aasZ _)
 have fin : ∀ (op rs : List Str) (key : Str), op.length <= 4 -> (∀ a ∈ op, a.length <= 60) -> rs.length <= 4 -> (∀ a ∈ rs, a.length <= 60) -> key.length <= 1000 ->
   aiIZ (.agg [vi k, .sl false (st.map afzZ), .sl false (op.map aadZ), .sl false (nd.map aaqZ), .str key, vi p, .sl false (rs.map aadZ)]) := fun op rs key h1 h2 h3 h4 h5 =>
  ⟨⟨k, st, op, nd, key, p, rs⟩, rfl,⟨⟨amOZ hk0 (by show k <= 1000000; omega), by show st.length <= 16; omega, fun a h => (hs3 a h).1, by show op.length <= 16; omega, fun s hs => by have := h2 s hs; show s.length <= 1000; omega, by show nd.length <= 16; omega, hn2, h5, amOZ hp0 (by show p <= 1000000; omega), by show rs.length <= 16; omega, fun s hs => by have := h4 s hs; show s.length <= 1000; omega⟩,⟨h1, h3, hn1, hs2⟩, fun a h => (hs3 a h).2⟩⟩
 have hcs : k = 0 ∨ k = 1 ∨ k = 2 := by omega
 simp only [go_sem, ↓reduceIte, NA, ND, g5]
 simp only [acPZ]
 rcases hcs with rfl | rfl | rfl
 ·simp only [go_sem, ↓reduceIte, NB, NE, g0]
  refine aalZ (aakZ ht (m := 3) (by decide)) hl (i := i4) (by simp only [go_sem, aagZ, hlt]) ?_
  rintro val i5 ⟨x, rfl, hx0, hx1⟩
  have hwx : IntKind.i64.wrap (2 + x) = 2 + x := wrap_i64 (by omega) (by omega)
  simp only [go_sem, ↓reduceIte, hlt, aahZ, hwx]
  refine aviZ ht hp hl hlt (n := 2 + x) (by omega) (by omega) (by simp only [go_sem, NB, g0]) (by simp only [go_sem, NB, g5]) (by simp only [go_sem, NB]) (by simp only [go_sem]) ?_
  intro ρ3 i6 o3 o4 w1 w2 op rs hf3 a1 a2 a3 a4 hgo hgr
  have k0 : ρ3 0 = .ptr o v 0 := by rw [hf3 0 (by decide)]; simp only [go_sem, NB, g0]
  have k4 : ρ3 4 = .ptr H.length 1 0 := by rw [hf3 4 (by decide)]; simp only [go_sem, NB, g4]
  have k5 : ρ3 5 = .ptr (H.length + 1) 1 0 := by rw [hf3 5 (by decide)]; simp only [go_sem, NB, g5]
  have k7 : ρ3 7 = vi (2 + x) := by rw [hf3 7 (by decide)]; simp only [go_sem, NB]
  obtain ⟨f2, l2, o3', m1, m2, m3⟩ := hgo.lend (aabZ abuZ _)
  obtain ⟨f3, l3, o4', n1, n2, n3⟩ := hgr.lend (aabZ abuZ _)
  simp only [go_sem, ↓reduceIte, NB, NE, k0, k7]
  refine aalZ (aakZ ht (m := 2 + x) (by omega)) hl (i := i6) (by simp only [go_sem, aagZ, hlt]) ?_
  rintro val i7 ⟨y, rfl, hy0, hy1⟩
  obtain ⟨yn, rfl⟩ := Int.eq_ofNat_of_zero_le hy0
  have hdy := fun H => hd yn H (by omega)
  have hdl := apfZ 5 yn (by omega)
  simp only [go_sem, ↓reduceIte, NA, ND, k4, k5, hlt, aahZ, hdy, hg.cellOk, hgo.cellOk, hgr.cellOk, hl1, hl2, hl3, m1, m2, m3, n1, n2, n3, agAZ, aiaZ, aajZ, aaaZ (aabZ aeLZ _), aaaZ (aabZ abuZ _), aaaZ (aabZ aasZ _)]
  exact ⟨⟨i7, rfl⟩, fin op rs (dec yn) a1 a2 a3 a4 (by omega)⟩
 ·simp only [go_sem, ↓reduceIte, NB, NE, IB, g0]
  refine aalZ (aakZ ht (m := 200) (by decide)) hl (i := i4) (by simp only [go_sem, aagZ, hlt]) ?_
  rintro val i7 ⟨y, rfl, hy0, hy1⟩
  obtain ⟨yn, rfl⟩ := Int.eq_ofNat_of_zero_le hy0
  have hdy := fun H => hd yn H (by omega)
  have hdl := apfZ 5 yn (by omega)
  simp only [go_sem, ↓reduceIte, NA, ND, g4, g5, hlt, aahZ, hdy, hg.cellOk, hl1, hl2, hl3, aajZ, aaaZ (aabZ aeLZ _), aaaZ (aabZ aasZ _)]
  exact ⟨⟨i7, rfl⟩, fin [] [] (dec yn) (by simp) (by simp) (by simp) (by simp) (by omega)⟩
 ·simp only [go_sem, ↓reduceIte, NB, NE, IB, g0]
  refine aalZ hp hl (i := i4) (by simp only [go_sem, aagZ, hlt]) ?_
  rintro val i7 ⟨s, rfl, hsl⟩
  simp only [go_sem, ↓reduceIte, NA, ND, g4, g5, hlt, aahZ, hg.cellOk, hl1, hl2, hl3, aajZ, aaaZ (aabZ aeLZ _), aaaZ (aabZ aasZ _)]
  exact ⟨⟨i7, rfl⟩, fin [] [] s (by simp) (by simp) (by simp) (by simp) (by omega)⟩
end Go.AM
end
section

end
section
set_option maxRecDepth 8000
namespace Go.AM
open Go
theorem atDZ {n m c : Int} (hn : accZ n) (hm : 1 <= m) (hm2 : m <= 1000) (hc0 : 0 <= c) (hc : c <= 10) : IntKind.i64.wrap (around n m - c) = around n m - c /\ accZ (around n m - c) := by
 obtain ⟨h1, h2⟩ := aqkZ hn hm
 exact ⟨wrap_i64 (by omega) (by omega), by omega, by omega⟩
theorem asyZ {α : Type} {P : α -> Prop} {l : List α} {a : α} (h : ∀ x ∈ l, P x) (ha : P a) : ∀ x ∈ l ++ [a], P x := by
 intro x hx
 rcases List.mem_append.1 hx with hx | hx
 ·exact h x hx
 ·have : x = a := by simpa using hx
  subst this
  exact ha
structure QSlack (q : Question) : Prop where
 opts : q.options.length <= 15
 needs : q.needs.length <= 15
 stem : ∀ r ∈ q.stem, r.text.length <= 60
end Go.AM
end
section
set_option maxRecDepth 8000
namespace Go.AM
open Go
structure BSlack (b : Block) : Prop where
 runs : b.runs.length <= 15
 kids : ∀ op n ks, b.expr = .mk op n ks -> ks.length <= 15
 size : aqiZ b.expr <= 999
 sumA : b.sumA.length <= 15
 grid : b.grid.length <= 15
 hands : b.hands.length <= 15
 lines : b.lines.length <= 15
 fit : Fit b
theorem MBlock.bslack {b : Block} (h : MBlock b) : BSlack b := by
 obtain ⟨h1, h2, h3, h4⟩ := h.slack
 obtain ⟨k1, k2, k3, k4⟩ := h.lens
 exact ⟨by omega, fun op n ks e => by have := h4 op n ks e; omega, by omega, by omega, by omega, by omega, by omega, h.fit⟩
end Go.AM
end
