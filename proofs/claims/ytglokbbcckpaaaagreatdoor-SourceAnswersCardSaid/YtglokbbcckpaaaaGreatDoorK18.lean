/- Part 18 of the proof that stands in the last text of this folder (lemmas; no statement of its own). -/
import Derived.Test.YtglokbbcckpaaaaGreatDoorK16
import Derived.Test.YtglokbbcckpaaaaGreatDoorK17
set_option linter.unusedVariables false
set_option linter.unusedSimpArgs false
open Nat renaming reduceBEq -> NB, reduceAdd -> NA, reduceLT -> NL, reduceLeDiff -> ND, reduceEqDiff -> NE
open Bool renaming not_true -> BT, not_false -> BF
section
set_option maxRecDepth 8000
namespace Go.AM
open Go
abbrev afIZ (g : String -> Nat) : ACode := .seq (.seq (.region false [⟨some 63, .mov (.tmp 12), none, []⟩,⟨some 64, .mov (.tmp 11), none, []⟩,⟨some 65, .bin .lss .no (.tmp 63) (.tmp 64), none, [0, 1]⟩]) <| .cond (.tmp 65) (.skip) (.exit 4)) <| .seq (.block 5 (.seq (.region false [⟨some 68, .mov (.tmp 3), none, []⟩,⟨some 69, .load 13 true (.tmp 10), none, []⟩,⟨some 70, .mov (.tmp 9), none, []⟩,⟨some 71, .callv (.const (.fn (g "(*dactyl/dactylref23.Maker).Fact") [] [])) [(.tmp 68), (.tmp 69), (.tmp 70)], none, [0, 1, 2]⟩,⟨some 13, .alloc [(.int .i64 0), (.int .i64 0), (.int .i64 0), (.int .i64 0)], none, []⟩,⟨none, .store 4 (.tmp 13) (.tmp 71), none, [3, 0, 1, 2, 4]⟩]) <| .seq (.region false [⟨some 72, .fa 2 (.tmp 7), none, []⟩,⟨some 73, .load 1 false (.tmp 72), none, [0]⟩,⟨some 74, .load 4 true (.tmp 13), none, []⟩,⟨some 75, .callv (.const (.fn (g "dactyl/dactylref23.has") [] [])) [(.tmp 73), (.tmp 74)], none, [1, 0, 2]⟩,⟨some 76, .un .not (.tmp 75), none, [3, 1, 0, 2]⟩]) <| .cond (.tmp 76) (.region false [⟨some 77, .fa 2 (.tmp 7), none, []⟩,⟨some 78, .load 1 false (.tmp 77), none, [0]⟩,⟨some 79, .load 4 true (.tmp 13), none, []⟩,⟨some 80, .bsl 4 [(.int .i64 0), (.int .i64 0), (.int .i64 0), (.int .i64 0)] 1 [(0, (.tmp 79))], none, [2]⟩,⟨some 81, .app 4 32 (.tmp 78) (.tmp 80), none, [1, 0, 3, 2]⟩,⟨some 82, .fa 2 (.tmp 7), none, [4, 1, 0, 3, 2]⟩,⟨none, .store 1 (.tmp 82) (.tmp 81), none, [5, 4, 1, 0, 3, 2]⟩]) (.skip))) <| .region false [⟨some 66, .mov (.tmp 12), none, []⟩,⟨some 67, .bin .add .no (.tmp 66) (.const (.int .i64 1)), none, [0]⟩,⟨some 12, .mov (.tmp 67), none, [1, 0]⟩]
abbrev afJZ : List Nat := [63, 64, 65, 68, 69, 70, 71, 13, 72, 73, 74, 75, 76, 77, 78, 79, 80, 81, 82, 66, 67, 12]
abbrev afKZ (g : String -> Nat) : ACode := .seq (.seq (.region false [⟨some 45, .mov (.tmp 9), none, []⟩,⟨some 46, .mov (.tmp 8), none, []⟩,⟨some 47, .bin .lss .no (.tmp 45) (.tmp 46), none, [0, 1]⟩]) <| .cond (.tmp 47) (.skip) (.exit 2)) <| .seq (.block 3 (.seq (.region false [⟨some 50, .mov (.tmp 3), none, []⟩,⟨some 51, .mov (.tmp 3), none, []⟩,⟨some 52, .callv (.const (.fn (g "(*dactyl/dactylref23.Maker).Take") [] [])) [(.tmp 51), (.const (.int .i64 7))], none, [1]⟩,⟨some 53, .callv (.const (.fn (g "(*dactyl/dactylref23.Maker).Block") [] [])) [(.tmp 50), (.tmp 52)], none, [0, 2, 1]⟩,⟨some 10, .alloc [(.int .i64 0), (.sl true []), (.int .i64 0), (.int .i64 0), (.sl true []), (.int .i64 0), (.sl true []), (.sl true []), (.int .i64 0), (.int .i64 0), (.sl true []), (.sl true []), (.sl true [])], none, []⟩,⟨none, .store 13 (.tmp 10) (.tmp 53), none, [3, 0, 2, 1, 4]⟩]) <| .seq (.region false [⟨some 54, .fa 1 (.tmp 7), none, []⟩,⟨some 55, .load 1 false (.tmp 54), none, [0]⟩,⟨some 56, .load 13 true (.tmp 10), none, []⟩,⟨some 57, .bsl 13 [(.int .i64 0), (.sl false []), (.int .i64 0), (.int .i64 0), (.sl false []), (.int .i64 0), (.sl false []), (.sl false []), (.int .i64 0), (.int .i64 0), (.sl false []), (.sl false []), (.sl false [])] 1 [(0, (.tmp 56))], none, [2]⟩,⟨some 58, .app 13 216 (.tmp 55) (.tmp 57), none, [1, 0, 3, 2]⟩,⟨some 59, .fa 1 (.tmp 7), none, [4, 1, 0, 3, 2]⟩,⟨none, .store 1 (.tmp 59) (.tmp 58), none, [5, 4, 1, 0, 3, 2]⟩]) <| .seq (.region false [⟨some 60, .mov (.tmp 3), none, []⟩,⟨some 61, .callv (.const (.fn (g "(*dactyl/dactylref23.Maker).Take") [] [])) [(.tmp 60), (.const (.int .i64 2))], none, [0]⟩,⟨some 62, .bin .add .no (.const (.int .i64 1)) (.tmp 61), none, [1, 0]⟩,⟨some 11, .mov (.tmp 62), none, [2, 1, 0]⟩]) <| .seq (.region false [⟨some 12, .mov (.const (.int .i64 0)), none, []⟩]) <| .block 4 (.loop (afIZ g)))) <| .region false [⟨some 48, .mov (.tmp 9), none, []⟩,⟨some 49, .bin .add .no (.tmp 48) (.const (.int .i64 1)), none, [0]⟩,⟨some 9, .mov (.tmp 49), none, [1, 0]⟩]
abbrev afLZ : List Nat := [45, 46, 47, 50, 51, 52, 53, 10, 54, 55, 56, 57, 58, 59, 60, 61, 62, 11, 12, 63, 64, 65, 68, 69, 70, 71, 13, 72, 73, 74, 75, 76, 77, 78, 79, 80, 81, 82, 66, 67, 12, 48, 49, 9]
abbrev ajqZ (g : String -> Nat) : List AOper := [⟨some 90, .fa 3 (.tmp 7), none, []⟩,⟨some 91, .load 1 false (.tmp 90), none, [0]⟩,⟨some 92, .mov (.tmp 3), none, []⟩,⟨some 93, .fa 2 (.tmp 7), none, []⟩,⟨some 94, .load 1 false (.tmp 93), none, [3]⟩,⟨some 95, .lenV (.tmp 94), none, [4, 3]⟩,⟨some 96, .callv (.const (.fn (g "(*dactyl/dactylref23.Maker).Question") [] [])) [(.tmp 92), (.tmp 95)], none, [2, 5, 4, 3]⟩,⟨some 97, .bsl 7 [(.int .i64 0), (.sl false []), (.sl false []), (.sl false []), (.str []), (.int .i64 0), (.sl false [])] 1 [(0, (.tmp 96))], none, [6, 2, 5, 4, 3]⟩,⟨some 98, .app 7 128 (.tmp 91) (.tmp 97), none, [1, 0, 7, 6, 2, 5, 4, 3]⟩,⟨some 99, .fa 3 (.tmp 7), none, [8, 1, 0, 7, 6, 2, 5, 4, 3]⟩,⟨none, .store 1 (.tmp 99) (.tmp 98), none, [9, 8, 1, 0, 7, 6, 2, 5, 4, 3]⟩]
abbrev afMZ : List Nat := [1, 6]
abbrev afNZ (g : String -> Nat) : ACode := .seq (.seq (.region false [⟨some 85, .mov (.tmp 15), none, []⟩,⟨some 86, .mov (.tmp 14), none, []⟩,⟨some 87, .bin .lss .no (.tmp 85) (.tmp 86), none, [0, 1]⟩]) <| .cond (.tmp 87) (.skip) (.exit 6)) <| .seq (.block 7 (.region true (ajqZ g))) <| .region false [⟨some 88, .mov (.tmp 15), none, []⟩,⟨some 89, .bin .add .no (.tmp 88) (.const (.int .i64 1)), none, [0]⟩,⟨some 15, .mov (.tmp 89), none, [1, 0]⟩]
abbrev afOZ : List Nat := [85, 86, 87, 90, 91, 92, 93, 94, 95, 96, 97, 98, 99, 88, 89, 15]
abbrev afPZ (g : String -> Nat) : ACode := .seq (.seq (.region false [⟨some 32, .mov (.tmp 6), none, []⟩,⟨some 33, .mov (.tmp 5), none, []⟩,⟨some 34, .bin .lss .no (.tmp 32) (.tmp 33), none, [0, 1]⟩]) <| .cond (.tmp 34) (.skip) (.exit 0)) <| .seq (.block 1 (.seq (.region false [⟨some 37, .bsl 1 [(.str [])] 3 [(0, (.const (.str [102, 105, 114, 115, 116]))), (1, (.const (.str [113, 50]))), (2, (.const (.str [108, 97, 115, 116])))], none, []⟩,⟨some 38, .mov (.tmp 6), none, []⟩,⟨some 39, .iaV (.tmp 37) (.tmp 38) 1, none, [0, 1]⟩,⟨some 40, .load 1 false (.tmp 39), none, [2, 0, 1]⟩,⟨some 41, .build [(.str []), (.sl true []), (.sl true []), (.sl true [])] [(0, 1, (.tmp 40))], none, [3, 2, 0, 1]⟩,⟨some 7, .alloc [(.str []), (.sl true []), (.sl true []), (.sl true [])], none, []⟩,⟨none, .store 4 (.tmp 7) (.tmp 41), none, [4, 3, 2, 0, 1, 5]⟩]) <| .seq (.region false [⟨some 42, .mov (.tmp 3), none, []⟩,⟨some 43, .callv (.const (.fn (g "(*dactyl/dactylref23.Maker).Take") [] [])) [(.tmp 42), (.const (.int .i64 3))], none, [0]⟩,⟨some 44, .bin .add .no (.const (.int .i64 1)) (.tmp 43), none, [1, 0]⟩,⟨some 8, .mov (.tmp 44), none, [2, 1, 0]⟩]) <| .seq (.seq (.region false [⟨some 9, .mov (.const (.int .i64 0)), none, []⟩]) <| .block 2 (.loop (afKZ g))) <| .seq (.region false [⟨some 83, .mov (.tmp 3), none, []⟩,⟨some 84, .callv (.const (.fn (g "(*dactyl/dactylref23.Maker).Take") [] [])) [(.tmp 83), (.const (.int .i64 3))], none, [0]⟩,⟨some 14, .mov (.tmp 84), none, [1, 0]⟩]) <| .seq (.seq (.region false [⟨some 15, .mov (.const (.int .i64 0)), none, []⟩]) <| .block 6 (.loop (afNZ g))) <| .region false [⟨some 100, .fa 1 (.tmp 4), none, []⟩,⟨some 101, .load 1 false (.tmp 100), none, [0]⟩,⟨some 102, .load 4 true (.tmp 7), none, []⟩,⟨some 103, .bsl 4 [(.str []), (.sl false []), (.sl false []), (.sl false [])] 1 [(0, (.tmp 102))], none, [2]⟩,⟨some 104, .app 4 88 (.tmp 101) (.tmp 103), none, [1, 0, 3, 2]⟩,⟨some 105, .fa 1 (.tmp 4), none, [4, 1, 0, 3, 2]⟩,⟨none, .store 1 (.tmp 105) (.tmp 104), none, [5, 4, 1, 0, 3, 2]⟩])) <| .region false [⟨some 35, .mov (.tmp 6), none, []⟩,⟨some 36, .bin .add .no (.tmp 35) (.const (.int .i64 1)), none, [0]⟩,⟨some 6, .mov (.tmp 36), none, [1, 0]⟩]
abbrev afQZ : List Nat := [32, 33, 34, 37, 38, 39, 40, 41, 7, 42, 43, 44, 8, 9, 45, 46, 47, 50, 51, 52, 53, 10, 54, 55, 56, 57, 58, 59, 60, 61, 62, 11, 12, 63, 64, 65, 68, 69, 70, 71, 13, 72, 73, 74, 75, 76, 77, 78, 79, 80, 81, 82, 66, 67, 12, 48, 49, 9, 83, 84, 14, 15, 85, 86, 87, 90, 91, 92, 93, 94, 95, 96, 97, 98, 99, 88, 89, 15, 100, 101, 102, 103, 104, 105, 35, 36, 6]
def aehZ (g : String -> Nat) : AFn := ⟨107, [2, 22, 4, 7, 10, 58, 13, 81, 98, 104], [.cell 2 2 true],.seq (.region false [⟨some 2, .alloc [(.str []), (.sl true [])], none, []⟩]) <| .seq (.region false [⟨some 16, .mov (.tmp 0), none, []⟩,⟨some 17, .mov (.tmp 0), none, []⟩,⟨some 18, .lenV (.tmp 17), none, [1]⟩,⟨some 19, .mm false [(.tmp 18), (.const (.int .i64 400))], none, [2, 1]⟩,⟨some 20, .sliceV 1 (.tmp 16) none (some (.tmp 19)) none, none, [0, 3, 2, 1]⟩,⟨some 21, .build [(.sl true []), (.int .i64 0)] [(0, 1, (.tmp 20))], none, [4, 0, 3, 2, 1]⟩,⟨some 22, .box 2 (.tmp 21), none, [5, 4, 0, 3, 2, 1]⟩,⟨some 3, .mov (.tmp 22), none, [6, 5, 4, 0, 3, 2, 1]⟩]) <| .seq (.region false [⟨some 23, .bsl 1 [(.str [])] 3 [(0, (.const (.str [84, 101, 115, 116]))), (1, (.const (.str [89, 101, 97, 114, 32, 55, 44, 32, 112, 97, 114, 116, 32, 50]))), (2, (.const (.str [65])))], none, []⟩,⟨some 24, .mov (.tmp 3), none, []⟩,⟨some 25, .callv (.const (.fn (g "(*dactyl/dactylref23.Maker).Take") [] [])) [(.tmp 24), (.const (.int .i64 3))], none, [1]⟩,⟨some 26, .iaV (.tmp 23) (.tmp 25) 1, none, [0, 2, 1]⟩,⟨some 27, .load 1 false (.tmp 26), none, [3, 0, 2, 1]⟩,⟨some 28, .build [(.str []), (.sl true [])] [(0, 1, (.tmp 27))], none, [4, 3, 0, 2, 1]⟩,⟨some 4, .alloc [(.str []), (.sl true [])], none, []⟩,⟨none, .store 2 (.tmp 4) (.tmp 28), none, [5, 4, 3, 0, 2, 1, 6]⟩]) <| .seq (.region false [⟨some 29, .mov (.tmp 3), none, []⟩,⟨some 30, .callv (.const (.fn (g "(*dactyl/dactylref23.Maker).Take") [] [])) [(.tmp 29), (.const (.int .i64 3))], none, [0]⟩,⟨some 31, .bin .add .no (.const (.int .i64 1)) (.tmp 30), none, [1, 0]⟩,⟨some 5, .mov (.tmp 31), none, [2, 1, 0]⟩]) <| .seq (.seq (.region false [⟨some 6, .mov (.const (.int .i64 0)), none, []⟩]) <| .block 0 (.loop (afPZ g))) <| .seq (.region false [⟨some 106, .load 2 true (.tmp 4), none, []⟩,⟨none, .store 2 (.tmp 2) (.tmp 106), none, [0]⟩]) <| .ret⟩
structure ISlack (x : Item) : Prop where
 blocks : x.blocks.length <= 3
 facts : x.facts.length <= 6
 ask : x.ask.length <= 2
 block : ∀ b ∈ x.blocks, BSlack b
 question : ∀ q ∈ x.ask, QSlack q
structure XSlack (x : Exam) : Prop where
 title : x.title.length <= 100
 items : x.items.length <= 3
 item : ∀ i ∈ x.items, ISlack i
abbrev axYZ (v : AV) : Prop := ∃ x : Exam, v = auXZ x /\ x.Ok /\ XSlack x
theorem MQuestion.qslack {q : Question} (h : MQuestion q) : QSlack q := by
 obtain ⟨h1, h2, h3, h4⟩ := h.lens
 exact ⟨by omega, by omega, h.stem⟩
theorem avjZ {A : AProg} {f : Nat} {args : List AV} {P : AV -> Prop} (hs : aiHZ A f args P) {l : List Int} {i : Int} {o v : Nat} {H H2 : List AObj} (hl : acIZ l) (ho : H[o]? = some (.box v (aaeZ l i))) {site : Option Nat} {q : Bool}
  {k : AV × List AObj × List Nat -> Prop} {tg} (hk : ∀ val i' wr, (wr = [] ∨ wr = [o]) -> P val -> bnd (aaYZ site q H2 (some (val, H.set o (.box v (aaeZ l i')), wr))) k) : amDZ (aaYZ site q H2 (aapZ A f (.ptr o v 0 :: args) H)) k tg := by
 obtain ⟨val, i', wr, h1, h2, h3⟩ := hs l i o v H hl ho
 rw [h1]
 exact hk val i' wr h2 h3
theorem aopZ (b : Block) : List.take 13 (aawZ b) = aawZ b := List.take_of_length_le (by rw [ajXZ]; exact Nat.le_refl _)
theorem aszZ (f : Fact) : (aaAZ f).length = 4 := rfl
theorem aqoZ (f : Fact) : List.take 4 (aaAZ f) = aaAZ f := List.take_of_length_le (Nat.le_refl _)
theorem avkZ {A : AProg} {g : String -> Nat} (hh : ∀ (l : List Fact), l.length <= 1000 -> ∀ f : Fact, ∃ b : Bool, ∀ H, aapZ A (g "dactyl/dactylref23.has") [.sl false (l.map aaAZ), .agg (aaAZ f)] H = some (.bool b, H, []))
  {id : Nat} {rows : List (List AV)} {fs : List Fact} (hr : rows = fs.map aaAZ) (hfs : fs.length <= 1000) {w : AV} {o : AObj} (hg : GSl id 4 rows w o) (f : Fact) : ∃ b : Bool, ∀ H site, H[id]? = some o ->
   abrZ (aapZ A) H site (.fn (g "dactyl/dactylref23.has") [] []) [w, .agg (aaAZ f)] = some (.bool b, H, []) := by
 obtain ⟨b, hb⟩ := hh fs hfs f
 refine ⟨b, fun H site ho => ?_⟩
 cases hg with
 | nil =>
  have hb2 := hb H
  rw [<- hr] at hb2
  simp only [go_sem, ↓reduceIte, aaFZ (acHZ _), aaoZ (acHZ _), hb2]
 | obj ver =>
  have hst : (rows.all fun r => r.all AV.still) = true := by rw [hr]; exact aatZ (aabZ acHZ _)
  rw [<- hr] at hb
  simp only [go_sem, ↓reduceIte, aaFZ (acHZ _), aaoZ (acHZ _), ho, hst, hb]
abbrev asAZ : List Nat := [2, 22, 4, 7, 10, 58, 13, 81, 98, 104]
set_option maxHeartbeats 3200000 in
theorem ayZZ {A : AProg} {g : String -> Nat} (hf : ∀ {b : Block}, MBlock b -> ∀ {a : Int}, 0 <= a -> a <= 1000 -> aiHZ A (g "(*dactyl/dactylref23.Maker).Fact") [.agg (aawZ b), vi a] aqmZ)
  (hh : ∀ (l : List Fact), l.length <= 1000 -> ∀ f : Fact, ∃ b : Bool, ∀ H, aapZ A (g "dactyl/dactylref23.has") [.sl false (l.map aaAZ), .agg (aaAZ f)] H = some (.bool b, H, []))
  {H : List AObj} {Q : AExit -> SEnv -> List AObj -> List Nat -> Prop} {tg} {l : List Int} (hl : acIZ l)
  {i : Int} {o0 o2 o5 o6 o7 o8 o9 : AObj} {v7 v10 : Nat} {c0 c1 c2 c3 : AV} {b : Block} (hb : MBlock b) {k : Nat} (hk : k <= 10) {n : Int} (hn0 : 0 <= n) (hn : n <= 2) {fs : List Fact} (hfl : fs.length <= 10) (hfo : ∀ f ∈ fs, f.Ok)
  (hg : GSl (H.length + 7) 4 (fs.map aaAZ) c2 o7) {ρ : SEnv} (e3 : ρ 3 = .ptr (H.length + 1) 1 0) (e7 : ρ 7 = .ptr (H.length + 3) v7 0) (e9 : ρ 9 = vi k) (e10 : ρ 10 = .ptr (H.length + 4) v10 0) (e11 : ρ 11 = vi n) (e12 : ρ 12 = vi 0)
  (hQ : ∀ ρ' i' o6 o7 c2 (fs' : List Fact), (∀ t, afJZ.contains t = false -> ρ' t = ρ t) -> fs'.length <= fs.length + 2 -> (∀ f ∈ fs', f.Ok) -> GSl (H.length + 7) 4 (fs'.map aaAZ) c2 o7 ->
   Q (.exit 4) ρ' (H ++ [o0, .box 1 (aaeZ l i'), o2, .box v7 [c0, c1, c2, c3], .box v10 (aawZ b), o5, o6, o7, o8, o9]) []) :
  wl A 107 ⟨H.length, asAZ⟩ (afIZ g) ρ (H ++ [o0, .box 1 (aaeZ l i), o2, .box v7 [c0, c1, c2, c3], .box v10 (aawZ b), o5, o6, o7, o8, o9]) [] Q tg := by
 refine aaWZ (W := afJZ) (fun j ρ1 H1 wr => wr = [] /\ ρ1 12 = vi j /\ ∃ i' o6 o7 c2, ∃ fs' : List Fact, H1 = H ++ [o0, .box 1 (aaeZ l i'), o2, .box v7 [c0, c1, c2, c3], .box v10 (aawZ b), o5, o6, o7, o8, o9] /\ GSl (H.length + 7) 4 (fs'.map aaAZ) c2 o7 /\ fs'.length <= fs.length + j /\ ∀ f ∈ fs', f.Ok) n.toNat
  (fun ρ1 H1 wr => wr = [] /\ ∃ i' o6 o7 c2, ∃ fs' : List Fact, H1 = H ++ [o0, .box 1 (aaeZ l i'), o2, .box v7 [c0, c1, c2, c3], .box v10 (aawZ b), o5, o6, o7, o8, o9] /\ GSl (H.length + 7) 4 (fs'.map aaAZ) c2 o7 /\ fs'.length <= fs.length + 2 /\ ∀ f ∈ fs', f.Ok)
  (by kernel_rfl) (by rfl) ⟨rfl, e12, i, o6, o7, c2, fs, rfl, hg, Nat.le_refl _, hfo⟩ ?_ (by
   rintro ρ' H' wr' ⟨rfl, i', o6, o7, c2, fs', rfl, hg, h1, h2⟩ hf
   exact hQ ρ' i' o6 o7 c2 fs' hf h1 h2 hg)
 rintro j ρ1 H1 wr1 hjl ⟨rfl, e12, i', o6, o7, c2, fs', rfl, hg, hrl, hro⟩ hfr
 have f3 : ρ1 3 = .ptr (H.length + 1) 1 0 := (hfr 3 (by decide)).trans e3
 have f7 : ρ1 7 = .ptr (H.length + 3) v7 0 := (hfr 7 (by decide)).trans e7
 have f9 : ρ1 9 = vi k := (hfr 9 (by decide)).trans e9
 have f10 : ρ1 10 = .ptr (H.length + 4) v10 0 := (hfr 10 (by decide)).trans e10
 have f11 : ρ1 11 = vi n := (hfr 11 (by decide)).trans e11
 simp only [go_sem, ↓aafZ, NB, f11, e12]
 refine aacZ (fun hb1 => ?_) (fun hb1 => ?_)
 ·have hlt2 : j < n.toNat := by simp at hb1; omega
  simp only [go_sem, ↓aafZ, ↓reduceIte, NB, NE, f3, f9, f10, ajXZ, aopZ, aaFZ (adCZ _), aaoZ (adCZ _)]
  refine avjZ (hf hb (a := (k : Int)) (by omega) (by omega)) hl (i := i') (by simp only [go_sem]) ?_
  rintro val i3 wr1 hwr ⟨f, rfl, hfok⟩
  have hw : aaCZ H.length [] wr1 = [] := by rcases hwr with rfl | rfl <;> simp only [go_sem]
  obtain ⟨bb, hcall⟩ := avkZ hh rfl (by omega) hg f
  simp only [go_sem, ↓aafZ, ↓reduceIte, NB, NA, NL, ND, NE, hcall, hw, f7, aszZ, aqoZ, abOZ (acHZ _)]
  refine aacZ (fun hb2 => ?_) (fun hb2 => ?_)
  ·obtain ⟨v', o', hg', happ⟩ := hg.app (new := [aaAZ f]) (bytes := 32) (by simp) (by rfl) (by simp only [List.length_map, List.length_cons, List.length_nil]; omega)
   rw [show fs'.map aaAZ ++ [aaAZ f] = (fs' ++ [f]).map aaAZ by simp] at hg'
   simp only [go_sem, ↓aafZ, ↓reduceIte, NB, NA, NL, ND, NE, f7, e12, aszZ, aqoZ, aaFZ (acHZ _), aaoZ (acHZ _), abFZ (acHZ _), happ, hg'.cellOk, hg'.strip1]
   rw [abhZ (by omega)]
   exact ⟨hlt2, rfl, i3, _, o', v', fs' ++ [f], rfl, hg', by simp; omega, asyZ hro hfok⟩
  ·simp only [go_sem, ↓aafZ, NB, e12]
   rw [abhZ (by omega)]
   exact ⟨hlt2, rfl, i3, _, o7, c2, fs', rfl, hg, by omega, hro⟩
 ·have hlt2 : j = n.toNat := by simp at hb1; omega
  subst hlt2
  simp only [go_sem]
  exact ⟨i', o6, o7, c2, fs', rfl, hg, by omega, hro⟩
set_option maxHeartbeats 3200000 in
theorem awRZ {A : AProg} {g : String -> Nat} (ht : abIZ A g) (hbk : ∀ {k : Int}, 0 <= k -> k < 7 -> aaMZ A (g "(*dactyl/dactylref23.Maker).Block") [vi k] (arvZ k))
  (hf : ∀ {b : Block}, MBlock b -> ∀ {a : Int}, 0 <= a -> a <= 1000 -> aiHZ A (g "(*dactyl/dactylref23.Maker).Fact") [.agg (aawZ b), vi a] aqmZ)
  (hh : ∀ (l : List Fact), l.length <= 1000 -> ∀ f : Fact, ∃ b : Bool, ∀ H, aapZ A (g "dactyl/dactylref23.has") [.sl false (l.map aaAZ), .agg (aaAZ f)] H = some (.bool b, H, []))
  {H : List AObj} {Q : AExit -> SEnv -> List AObj -> List Nat -> Prop} {tg} {l : List Int} (hl : acIZ l)
  {i : Int} {o0 o2 o4 o5 o6 o7 o8 o9 : AObj} {v7 : Nat} {c0 c3 : AV} {n : Int} (hn0 : 0 <= n) (hn : n <= 3)
  {ρ : SEnv} (e3 : ρ 3 = .ptr (H.length + 1) 1 0) (e7 : ρ 7 = .ptr (H.length + 3) v7 0) (e8 : ρ 8 = vi n) (e9 : ρ 9 = vi 0)
  (hQ : ∀ ρ' i' o4 o5 o6 o7 c1 c2 (bs : List Block) (fs : List Fact), (∀ t, afLZ.contains t = false -> ρ' t = ρ t) -> bs.length <= 3 -> (∀ b ∈ bs, MBlock b) -> fs.length <= 6 -> (∀ f ∈ fs, f.Ok) ->
   GSl (H.length + 5) 13 (bs.map aawZ) c1 o5 -> GSl (H.length + 7) 4 (fs.map aaAZ) c2 o7 ->
   Q (.exit 2) ρ' (H ++ [o0, .box 1 (aaeZ l i'), o2, .box v7 [c0, c1, c2, c3], o4, o5, o6, o7, o8, o9]) []) :
  wl A 107 ⟨H.length, asAZ⟩ (afKZ g) ρ (H ++ [o0, .box 1 (aaeZ l i), o2, .box v7 [c0, .sl true [], .sl true [], c3], o4, o5, o6, o7, o8, o9]) [] Q tg := by
 refine aaWZ (W := afLZ) (fun j ρ1 H1 wr => wr = [] /\ ρ1 9 = vi j /\ ∃ i' o4 o5 o6 o7 c1 c2, ∃ bs : List Block, ∃ fs : List Fact, H1 = H ++ [o0, .box 1 (aaeZ l i'), o2, .box v7 [c0, c1, c2, c3], o4, o5, o6, o7, o8, o9] /\
   GSl (H.length + 5) 13 (bs.map aawZ) c1 o5 /\ GSl (H.length + 7) 4 (fs.map aaAZ) c2 o7 /\ bs.length = j /\ (∀ b ∈ bs, MBlock b) /\ fs.length <= 2 * j /\ ∀ f ∈ fs, f.Ok) n.toNat
  (fun ρ1 H1 wr => wr = [] /\ ∃ i' o4 o5 o6 o7 c1 c2, ∃ bs : List Block, ∃ fs : List Fact, H1 = H ++ [o0, .box 1 (aaeZ l i'), o2, .box v7 [c0, c1, c2, c3], o4, o5, o6, o7, o8, o9] /\
   GSl (H.length + 5) 13 (bs.map aawZ) c1 o5 /\ GSl (H.length + 7) 4 (fs.map aaAZ) c2 o7 /\ bs.length <= 3 /\ (∀ b ∈ bs, MBlock b) /\ fs.length <= 6 /\ ∀ f ∈ fs, f.Ok)
  (by kernel_rfl) (by rfl) ⟨rfl, e9, i, o4, o5, o6, o7, .sl true [], .sl true [], [], [], rfl, .nil _, .nil _, rfl, by simp, by simp, by simp⟩ ?_ (by
   rintro ρ' H' wr' ⟨rfl, i', o4, o5, o6, o7, c1, c2, bs, fs, rfl, hg, hg2, h1, h2, h3, h4⟩ hf
   exact hQ ρ' i' o4 o5 o6 o7 c1 c2 bs fs hf h1 h2 h3 h4 hg hg2)
 rintro j ρ1 H1 wr1 hjl ⟨rfl, e9, i', o4, o5, o6, o7, c1, c2, bs, fs, rfl, hg, hg2, hbl, hbo, hfl, hfo⟩ hfr
 have f3 : ρ1 3 = .ptr (H.length + 1) 1 0 := (hfr 3 (by decide)).trans e3
 have f7 : ρ1 7 = .ptr (H.length + 3) v7 0 := (hfr 7 (by decide)).trans e7
 have f8 : ρ1 8 = vi n := (hfr 8 (by decide)).trans e8
 simp only [go_sem, ↓aafZ, NB, f8, e9]
 refine aacZ (fun hb1 => ?_) (fun hb1 => ?_)
 ·have hlt2 : j < n.toNat := by simp at hb1; omega
  simp only [go_sem, ↓aafZ, ↓reduceIte, NB, NE, f3]
  refine aalZ (aakZ ht (m := 7) (by decide)) hl (i := i') (by simp only [go_sem]) ?_
  rintro val i3 ⟨x, rfl, hx0, hx1⟩
  simp only [go_sem, ↓aafZ, ↓reduceIte, NB, NE]
  refine aalZ (hbk hx0 hx1) hl (i := i3) (by simp only [go_sem]) ?_
  rintro val i4 ⟨b, rfl, hbk1, hmb⟩
  obtain ⟨v', o', hg', happ⟩ := hg.app (new := [aawZ b]) (bytes := 216) (by simp) (by rw [amHZ, ajXZ]; rfl) (by simp only [List.length_map, List.length_cons, List.length_nil]; omega)
  rw [show bs.map aawZ ++ [aawZ b] = (bs ++ [b]).map aawZ by simp] at hg'
  simp only [go_sem, ↓aafZ, ↓reduceIte, NB, NA, NL, ND, NE, f3, f7, ajXZ, aopZ, abOZ (adCZ _), aaFZ (adCZ _), aaoZ (adCZ _), abFZ (adCZ _), happ, hg'.cellOk, hg'.strip1]
  refine aalZ (aakZ ht (m := 2) (by decide)) hl (i := i4) (by simp only [go_sem]) ?_
  rintro val i5 ⟨y, rfl, hy0, hy1⟩
  have hwy : IntKind.i64.wrap (1 + y) = 1 + y := wrap_i64 (by omega) (by omega)
  simp only [go_sem, ↓aafZ, ↓reduceIte, hwy]
  refine ayZZ hf hh hl hmb (k := j) (by omega) (n := 1 + y) (by omega) (by omega) (fs := fs) (by omega) hfo hg2 (by simp only [go_sem, NB, f3]) (by simp only [go_sem, NB, f7]) (by simp only [go_sem, NB, e9]) (by simp only [go_sem, NB]) (by simp only [go_sem, NB]) (by simp only [go_sem]) ?_
  intro ρ2 i6 o6' o7' c2' fs' hf2 hfl' hfo' hg2'
  have g9 : ρ2 9 = vi j := by rw [hf2 9 (by decide)]; simp only [go_sem, NB, e9]
  simp only [go_sem, ↓aafZ, g9]
  rw [abhZ (by omega)]
  exact ⟨hlt2, rfl, i6, _, o', o6', o7', v', c2', bs ++ [b], fs', rfl, hg', hg2', by simp [hbl], asyZ hbo hmb, by omega, hfo'⟩
 ·have hlt2 : j = n.toNat := by simp at hb1; omega
  subst hlt2
  simp only [go_sem]
  exact ⟨i', o4, o5, o6, o7, c1, c2, bs, fs, rfl, hg, hg2, by omega, hbo, by omega, hfo⟩
theorem aEuZ (q : Question) : (encQ q).length = 7 := rfl
set_option maxHeartbeats 3200000 in
theorem aBAZ {A : AProg} {g : String -> Nat} (hqg : ∀ {m : Nat}, m <= 10 -> aaMZ A (g "(*dactyl/dactylref23.Maker).Question") [vi m] aiIZ)
  {H : List AObj} {Q : AExit -> SEnv -> List AObj -> List Nat -> Prop} {tg} {l : List Int} (hl : acIZ l)
  {i : Int} {o0 o2 o4 o5 o6 o7 o8 o9 : AObj} {v7 : Nat} {c0 c1 c2 : AV} {fs : List Fact} (hfl : fs.length <= 6) (hg2 : GSl (H.length + 7) 4 (fs.map aaAZ) c2 o7) {n : Int} (hn0 : 0 <= n) (hn : n <= 2)
  {ρ : SEnv} (e3 : ρ 3 = .ptr (H.length + 1) 1 0) (e7 : ρ 7 = .ptr (H.length + 3) v7 0) (e14 : ρ 14 = vi n) (e15 : ρ 15 = vi 0)
  (hQ : ∀ ρ' i' o8 c3 (qs : List Question), (∀ t, afOZ.contains t = false -> ρ' t = ρ t) -> qs.length <= 2 -> (∀ q ∈ qs, MQuestion q) -> GSl (H.length + 8) 7 (qs.map encQ) c3 o8 ->
   Q (.exit 6) ρ' (H ++ [o0, .box 1 (aaeZ l i'), o2, .box v7 [c0, c1, c2, c3], o4, o5, o6, o7, o8, o9]) []) :
  wl A 107 ⟨H.length, asAZ⟩ (afNZ g) ρ (H ++ [o0, .box 1 (aaeZ l i), o2, .box v7 [c0, c1, c2, .sl true []], o4, o5, o6, o7, o8, o9]) [] Q tg := by
 refine aaWZ (W := afOZ) (fun j ρ1 H1 wr => wr = [] /\ ρ1 15 = vi j /\ ∃ i' o8 c3, ∃ qs : List Question, H1 = H ++ [o0, .box 1 (aaeZ l i'), o2, .box v7 [c0, c1, c2, c3], o4, o5, o6, o7, o8, o9] /\
   GSl (H.length + 8) 7 (qs.map encQ) c3 o8 /\ qs.length = j /\ ∀ q ∈ qs, MQuestion q) n.toNat
  (fun ρ1 H1 wr => wr = [] /\ ∃ i' o8 c3, ∃ qs : List Question, H1 = H ++ [o0, .box 1 (aaeZ l i'), o2, .box v7 [c0, c1, c2, c3], o4, o5, o6, o7, o8, o9] /\
   GSl (H.length + 8) 7 (qs.map encQ) c3 o8 /\ qs.length <= 2 /\ ∀ q ∈ qs, MQuestion q)
  (by kernel_rfl) (by rfl) ⟨rfl, e15, i, o8, .sl true [], [], rfl, .nil _, rfl, by simp⟩ ?_ (by
   rintro ρ' H' wr' ⟨rfl, i', o8, c3, qs, rfl, hg, h1, h2⟩ hf
   exact hQ ρ' i' o8 c3 qs hf h1 h2 hg)
 rintro j ρ1 H1 wr1 hjl ⟨rfl, e15, i', o8, c3, qs, rfl, hg, hql, hqo⟩ hfr
 have f3 : ρ1 3 = .ptr (H.length + 1) 1 0 := (hfr 3 (by decide)).trans e3
 have f7 : ρ1 7 = .ptr (H.length + 3) v7 0 := (hfr 7 (by decide)).trans e7
 have f14 : ρ1 14 = vi n := (hfr 14 (by decide)).trans e14
 simp only [go_sem, ↓aafZ, NB, f14, e15]
 refine aacZ (fun hb1 => ?_) (fun hb1 => ?_)
 ·have hlt2 : j < n.toNat := by simp at hb1; omega
  simp only [go_sem]
  refine aaPZ (keep := afMZ) (by rfl) (by rfl) ?_
  simp only [go_sem, ↓aafZ, ↓reduceIte, NB, NA, ND, NE, afMZ, f3, f7, hg2.len]
  refine abaZ (hqg (m := fs.length) (by omega)) hl (i := i') (by simp only [go_sem]) ?_
  rintro val i3 ⟨q, rfl, hmq⟩
  obtain ⟨v', o', hg', happ⟩ := hg.app (new := [encQ q]) (bytes := 128) (by simp) (by rfl) (by simp only [List.length_map, List.length_cons, List.length_nil]; omega)
  rw [show qs.map encQ ++ [encQ q] = (qs ++ [q]).map encQ by simp] at hg'
  simp only [go_sem, ↓aafZ, ↓reduceIte, NB, NA, NL, NE, BF, f7, e15, aEuZ, aaoZ (adLZ _), abFZ (adLZ _), happ, hg'.cellOk, hg'.strip1, acUZ, acEZ, aavZ]
  rw [abhZ (by omega)]
  exact ⟨hlt2, rfl, i3, o', v', qs ++ [q], rfl, hg', by simp [hql], asyZ hqo hmq⟩
 ·have hlt2 : j = n.toNat := by simp at hb1; omega
  subst hlt2
  simp only [go_sem]
  exact ⟨i', o8, c3, qs, rfl, hg, by omega, hqo⟩
structure Gens (A : AProg) (g : String -> Nat) : Prop where
 take : abIZ A g
 block : ∀ {k : Int}, 0 <= k -> k < 7 -> aaMZ A (g "(*dactyl/dactylref23.Maker).Block") [vi k] (arvZ k)
 fact : ∀ {b : Block}, MBlock b -> ∀ {a : Int}, 0 <= a -> a <= 1000 -> aiHZ A (g "(*dactyl/dactylref23.Maker).Fact") [.agg (aawZ b), vi a] aqmZ
 has : ∀ (l : List Fact), l.length <= 1000 -> ∀ f : Fact, ∃ b : Bool, ∀ H, aapZ A (g "dactyl/dactylref23.has") [.sl false (l.map aaAZ), .agg (aaAZ f)] H = some (.bool b, H, [])
 question : ∀ {m : Nat}, m <= 10 -> aaMZ A (g "(*dactyl/dactylref23.Maker).Question") [vi m] aiIZ
abbrev azaZ (x : Item) : Prop := x.Ok /\ ISlack x
set_option maxHeartbeats 6400000 in
theorem azbZ {A : AProg} {g : String -> Nat} (G : Gens A g)
  {H : List AObj} {Q : AExit -> SEnv -> List AObj -> List Nat -> Prop} {tg} {l : List Int} (hl : acIZ l)
  {i : Int} {o0 o3 o4 o5 o6 o7 o8 o9 : AObj} {v4 : Nat} {c0 : AV} {n : Int} (hn0 : 0 <= n) (hn : n <= 3)
  {ρ : SEnv} (e3 : ρ 3 = .ptr (H.length + 1) 1 0) (e4 : ρ 4 = .ptr (H.length + 2) v4 0) (e5 : ρ 5 = vi n) (e6 : ρ 6 = vi 0)
  (hQ : ∀ ρ' i' o3 o4 o5 o6 o7 o8 o9 c1 (xs : List Item), (∀ t, afQZ.contains t = false -> ρ' t = ρ t) -> xs.length <= 3 -> (∀ x ∈ xs, azaZ x) -> GSl (H.length + 9) 4 (xs.map acjZ) c1 o9 ->
   Q (.exit 0) ρ' (H ++ [o0, .box 1 (aaeZ l i'), .box v4 [c0, c1], o3, o4, o5, o6, o7, o8, o9]) []) :
  wl A 107 ⟨H.length, asAZ⟩ (afPZ g) ρ (H ++ [o0, .box 1 (aaeZ l i), .box v4 [c0, .sl true []], o3, o4, o5, o6, o7, o8, o9]) [] Q tg := by
 refine aaWZ (W := afQZ) (fun j ρ1 H1 wr => wr = [] /\ ρ1 6 = vi j /\ ∃ i' o3 o4 o5 o6 o7 o8 o9 c1, ∃ xs : List Item, H1 = H ++ [o0, .box 1 (aaeZ l i'), .box v4 [c0, c1], o3, o4, o5, o6, o7, o8, o9] /\
   GSl (H.length + 9) 4 (xs.map acjZ) c1 o9 /\ xs.length = j /\ ∀ x ∈ xs, azaZ x) n.toNat
  (fun ρ1 H1 wr => wr = [] /\ ∃ i' o3 o4 o5 o6 o7 o8 o9 c1, ∃ xs : List Item, H1 = H ++ [o0, .box 1 (aaeZ l i'), .box v4 [c0, c1], o3, o4, o5, o6, o7, o8, o9] /\
   GSl (H.length + 9) 4 (xs.map acjZ) c1 o9 /\ xs.length <= 3 /\ ∀ x ∈ xs, azaZ x)
  (by kernel_rfl) (by rfl) ⟨rfl, e6, i, o3, o4, o5, o6, o7, o8, o9, .sl true [], [], rfl, .nil _, rfl, by simp⟩ ?_ (by
   rintro ρ' H' wr' ⟨rfl, i', o3, o4, o5, o6, o7, o8, o9, c1, xs, rfl, hg, h1, h2⟩ hf
   exact hQ ρ' i' o3 o4 o5 o6 o7 o8 o9 c1 xs hf h1 h2 hg)
 rintro j ρ1 H1 wr1 hjl ⟨rfl, e6, i', o3, o4, o5, o6, o7, o8, o9, c1, xs, rfl, hg, hxl, hxo⟩ hfr
 have f3 : ρ1 3 = .ptr (H.length + 1) 1 0 := (hfr 3 (by decide)).trans e3
 have f4 : ρ1 4 = .ptr (H.length + 2) v4 0 := (hfr 4 (by decide)).trans e4
 have f5 : ρ1 5 = vi n := (hfr 5 (by decide)).trans e5
 simp only [go_sem, ↓aafZ, NB, f5, e6]
 refine aacZ (fun hb1 => ?_) (fun hb1 => ?_)
 ·have hlt2 : j < n.toNat := by simp at hb1; omega
  obtain ⟨nm, hnm, htab⟩ := tabS [[102, 105, 114, 115, 116], [113, 50], [108, 97, 115, 116]] (x := (j : Int)) (by omega) (by simp; omega)
  simp only [List.map, aadZ, Int.toNat_natCast] at htab
  have hnl : nm.length <= 60 := by
   simp only [List.mem_cons, List.not_mem_nil, or_false] at hnm
   rcases hnm with rfl | rfl | rfl <;> simp
  simp only [go_sem, ↓aafZ, ↓reduceIte, NB, NA, NL, ND, NE, f3, e6, htab]
  refine aalZ (aakZ G.take (m := 3) (by decide)) hl (i := i') (by simp only [go_sem]) ?_
  rintro val i3 ⟨x, rfl, hx0, hx1⟩
  have hwx : IntKind.i64.wrap (1 + x) = 1 + x := wrap_i64 (by omega) (by omega)
  simp only [go_sem, ↓aafZ, ↓reduceIte, hwx]
  refine awRZ G.take G.block G.fact G.has hl (n := 1 + x) (by omega) (by omega) (by simp only [go_sem, NB, f3]) (by simp only [go_sem, NB]) (by simp only [go_sem, NB]) (by simp only [go_sem]) ?_
  intro ρ2 i4 p4 p5 p6 p7 d1 d2 bs fs hf2 hbl hbo hfl hfo hgb hgf
  have g3 : ρ2 3 = .ptr (H.length + 1) 1 0 := by rw [hf2 3 (by decide)]; simp only [go_sem, NB, f3]
  have g4 : ρ2 4 = .ptr (H.length + 2) v4 0 := by rw [hf2 4 (by decide)]; simp only [go_sem, NB, f4]
  have g6 : ρ2 6 = vi j := by rw [hf2 6 (by decide)]; simp only [go_sem, NB, e6]
  have g7 : ρ2 7 = .ptr (H.length + 3) (o3.ver + 1) 0 := by rw [hf2 7 (by decide)]; simp only [go_sem, NB]
  simp only [go_sem, ↓aafZ, ↓reduceIte, NE, g3]
  refine aalZ (aakZ G.take (m := 3) (by decide)) hl (i := i4) (by simp only [go_sem]) ?_
  rintro val i5 ⟨y, rfl, hy0, hy1⟩
  simp only [go_sem, ↓aafZ, ↓reduceIte]
  refine aBAZ G.question hl hfl hgf (n := y) (by omega) (by omega) (by simp only [go_sem, NB, g3]) (by simp only [go_sem, NB, g7]) (by simp only [go_sem, NB]) (by simp only [go_sem]) ?_
  intro ρ3 i6 p8 d3 qs hf3 hql hqo hgq
  have k4 : ρ3 4 = .ptr (H.length + 2) v4 0 := by rw [hf3 4 (by decide)]; simp only [go_sem, NB, g4]
  have k6 : ρ3 6 = vi j := by rw [hf3 6 (by decide)]; simp only [go_sem, NB, g6]
  have k7 : ρ3 7 = .ptr (H.length + 3) (o3.ver + 1) 0 := by rw [hf3 7 (by decide)]; simp only [go_sem, NB, g7]
  obtain ⟨b1, b2, b3, b4, b5, b6⟩ := hgb.lend (aabZ adCZ _)
  obtain ⟨q1, q2, q3, q4, q5, q6⟩ := hgq.lend (aabZ adLZ _)
  obtain ⟨r1, r2, r3, r4, r5, r6⟩ := hgf.lend (aabZ acHZ _)
  obtain ⟨v', o', hg', happ⟩ := hg.app (new := [[.str nm, .sl false (bs.map aawZ), .sl false (fs.map aaAZ), .sl false (qs.map encQ)]]) (bytes := 88) (by simp) (by rfl) (by simp only [List.length_map, List.length_cons, List.length_nil]; omega)
  rw [show xs.map acjZ ++ [[.str nm, .sl false (bs.map aawZ), .sl false (fs.map aaAZ), .sl false (qs.map encQ)]] = (xs ++ [Item.mk nm bs fs qs]).map acjZ by simp [acjZ]] at hg'
  simp only [go_sem, ↓aafZ, ↓reduceIte, NB, NA, NL, NE, k4, k6, k7, b4, b5, b6, q4, q5, q6, r4, r5, r6, agAZ, aiaZ, happ, hg'.cellOk, hg'.strip1]
  rw [abhZ (by omega)]
  refine ⟨hlt2, rfl, i6, _, _, _, _, _, _, o', v', xs ++ [Item.mk nm bs fs qs], rfl, hg', by simp [hxl], asyZ hxo ⟨⟨by show nm.length <= 1000; omega, by show bs.length <= 16; omega, fun b hb => (hbo b hb).ok, by show fs.length <= 16; omega, hfo, by show qs.length <= 16; omega, fun q hq => (hqo q hq).ok⟩,
   ⟨hbl, hfl, hql, fun b hb => (hbo b hb).bslack, fun q hq => (hqo q hq).qslack⟩⟩⟩
 ·have hlt2 : j = n.toNat := by simp at hb1; omega
  subst hlt2
  simp only [go_sem]
  exact ⟨i', o3, o4, o5, o6, o7, o8, o9, c1, xs, rfl, hg, by omega, hxo⟩
set_option maxHeartbeats 6400000 in
theorem avlZ {A : AProg} {g : String -> Nat} (h : Has A g "dactyl/dactylref23.Exam" (aehZ g)) (G : Gens A g) {l : List Int} (hl : acIZ l) (H : List AObj) :
  ∃ v H' wr, aapZ A (g "dactyl/dactylref23.Exam") [.sl false (l.map aaqZ)] H = some (v, H', wr) /\ (H' = H /\ wr = [] /\ axYZ v) := by
 refine h.callEx (by simp [aehZ]) (by kernel_rfl) ?_
 have hb : acdZ l.length none (some (.int .i64 (if (400 : Int) < l.length then 400 else l.length))) none = some (0, min l.length 400, l.length) := by
  by_cases hc : (400 : Int) < l.length
  ·rw [if_pos hc]
   simp only [acdZ, adPZ]
   rw [if_pos ⟨by decide, by omega⟩]
   simp
   omega
  ·rw [if_neg hc]
   simp only [acdZ, adPZ]
   rw [if_pos ⟨by omega, by omega⟩]
   simp
   omega
 have hh : abkZ 1 (l.map aaqZ) = true := by cases l <;> rfl
 have htk : List.take (min l.length 400) (l.map aaqZ) = (l.take (min l.length 400)).map aaqZ := List.map_take.symm
 have hl2 : acIZ (l.take (min l.length 400)) := fun a ha => hl a (List.mem_of_mem_take ha)
 generalize l.take (min l.length 400) = l2 at htk hl2
 simp only [aehZ]
 simp only [go_sem, ↓aafZ, ↓reduceIte, NB, NA, NL, ND, NE, BF, hb, hh, htk]
 refine aalZ (aakZ G.take (m := 3) (by decide)) hl2 (i := 0) (by simp only [go_sem]) ?_
 rintro val i1 ⟨x, rfl, hx0, hx1⟩
 obtain ⟨nm, hnm, htab⟩ := tabS [[84, 101, 115, 116], [89, 101, 97, 114, 32, 55, 44, 32, 112, 97, 114, 116, 32, 50], [65]] hx0 hx1
 simp only [List.map, aadZ] at htab
 have hnl : nm.length <= 60 := by
  simp only [List.mem_cons, List.not_mem_nil, or_false] at hnm
  rcases hnm with rfl | rfl | rfl <;> simp
 simp only [go_sem, ↓aafZ, ↓reduceIte, NB, NA, NL, ND, NE, hx0, htab]
 refine aalZ (aakZ G.take (m := 3) (by decide)) hl2 (i := i1) (by simp only [go_sem]) ?_
 rintro val i2 ⟨y, rfl, hy0, hy1⟩
 have hwy : IntKind.i64.wrap (1 + y) = 1 + y := wrap_i64 (by omega) (by omega)
 simp only [go_sem, ↓aafZ, ↓reduceIte, hwy]
 refine azbZ G hl2 (n := 1 + y) (by omega) (by omega) (by simp only [go_sem, NB]) (by simp only [go_sem, NB]) (by simp only [go_sem, NB]) (by simp only [go_sem]) ?_
 intro ρ2 i3 o3 o4 o5 o6 o7 o8 o9 c1 xs hf2 hxl hxo hg
 have g2 : ρ2 2 = .ptr H.length 1 0 := by rw [hf2 2 (by decide)]; simp only [go_sem, NB]
 have g4 : ρ2 4 = .ptr (H.length + 2) 1 0 := by rw [hf2 4 (by decide)]; simp only [go_sem, NB]
 obtain ⟨b1, b2, b3, b4, b5, b6⟩ := hg.lend (aabZ ajWZ _)
 simp only [go_sem, ↓aafZ, ↓reduceIte, NB, NA, g2, g4, hg.cellOk, b4, b5, b6, aaaZ (aabZ ajWZ _)]
 exact ⟨Exam.mk nm xs, rfl,⟨by show nm.length <= 1000; omega, by show xs.length <= 16; omega, fun i hi => (hxo i hi).1⟩,⟨by show nm.length <= 100; omega, hxl, fun i hi => (hxo i hi).2⟩⟩
end Go.AM
end
section
set_option maxRecDepth 8000
namespace Go.AM
open Go
def adEZ (g : String -> Nat) : AFn := ⟨13, [], [.tmp 4],.seq (.region false [⟨some 4, .mov (.const (.str [])), none, []⟩]) <| .seq (.seq (.region false [⟨some 5, .mov (.tmp 0), none, []⟩,⟨some 6, .lenS (.tmp 5), none, [0]⟩,⟨some 7, .mov (.tmp 1), none, []⟩,⟨some 8, .bin .gtr .no (.tmp 6) (.tmp 7), none, [1, 0, 2]⟩]) <| .cond (.tmp 8) (.seq (.region false [⟨some 9, .mov (.tmp 0), none, []⟩,⟨some 10, .mov (.tmp 1), none, []⟩,⟨some 11, .sliceS (.tmp 9) none (some (.tmp 10)), none, [0, 1]⟩,⟨some 4, .mov (.tmp 11), none, [2, 0, 1]⟩]) <| .ret) (.skip)) <| .seq (.region false [⟨some 12, .mov (.tmp 0), none, []⟩,⟨some 4, .mov (.tmp 12), none, [0]⟩]) <| .ret⟩
def ageZ (g : String -> Nat) : AFn := ⟨11, [2], [.tmp 4],.seq (.region false [⟨some 2, .box 7 (.tmp 0), none, []⟩,⟨some 4, .mov (.const (.int .i64 0)), none, []⟩]) <| .seq (.seq (.region false [⟨some 5, .mov (.tmp 1), none, []⟩,⟨some 6, .fa 4 (.tmp 2), none, []⟩,⟨some 7, .load 1 false (.tmp 6), none, [1]⟩,⟨some 8, .bin .neq .no (.tmp 5) (.tmp 7), none, [0, 2, 1]⟩]) <| .cond (.tmp 8) (.seq (.region false [⟨some 4, .mov (.const (.int .i64 0)), none, []⟩]) <| .ret) (.skip)) <| .seq (.region false [⟨some 9, .fa 5 (.tmp 2), none, []⟩,⟨some 10, .load 1 false (.tmp 9), none, [0]⟩,⟨some 4, .mov (.tmp 10), none, [1, 0]⟩]) <| .ret⟩
def adFZ (g : String -> Nat) : AFn := ⟨11, [2], [.tmp 4],.seq (.region false [⟨some 2, .box 7 (.tmp 0), none, []⟩,⟨some 4, .mov (.const (.int .i64 0)), none, []⟩]) <| .seq (.seq (.region false [⟨some 5, .mov (.tmp 1), none, []⟩,⟨some 6, .fa 4 (.tmp 2), none, []⟩,⟨some 7, .load 1 false (.tmp 6), none, [1]⟩,⟨some 8, .bin .eql .no (.tmp 5) (.tmp 7), none, [0, 2, 1]⟩]) <| .cond (.tmp 8) (.seq (.region false [⟨some 9, .fa 5 (.tmp 2), none, []⟩,⟨some 10, .load 1 false (.tmp 9), none, [0]⟩,⟨some 4, .mov (.tmp 10), none, [1, 0]⟩]) <| .ret) (.skip)) <| .seq (.region false [⟨some 4, .mov (.const (.int .i64 0)), none, []⟩]) <| .ret⟩
theorem atEZ {A : AProg} {g : String -> Nat} (h : Has A g "dactyl/dactylref01.Short" (adEZ g)) (s : Str) (m : Nat) (H : List AObj) :
  aapZ A (g "dactyl/dactylref01.Short") [.str s, vi m] H = some (.str (s.take m), H, []) := by
 refine h.call (by simp [adEZ]) (by kernel_rfl) ?_
 simp only [adEZ]
 simp only [go_sem, NB]
 refine aacZ (fun hb => ?_) (fun hb => ?_)
 ·have hm : m < s.length := by simpa using hb
  have hb : acdZ s.length none (some (vi (m : Int))) none = some (0, m, s.length) := by
   have h1 : (m : Int) <= (s.length : Nat) := by omega
   simp [acdZ, adPZ, Nat.le_of_lt hm]
  simp only [go_sem, NB, hb, List.drop_zero]
 ·have hm : s.length <= m := by simp at hb; omega
  simp only [go_sem, NB, List.take_of_length_le hm]
def aloZ (q : Question) (a : Str) : Int := if a = q.key then q.points else 0
theorem atFZ {A : AProg} {g : String -> Nat} (h : Has A g "dactyl/source.Score" (ageZ g)) (q : Question) (a : Str) (H : List AObj) :
  aapZ A (g "dactyl/source.Score") [.agg (encQ q), .str a] H = some (vi (aloZ q a), H, []) := by
 refine h.call (by simp [ageZ]) (by kernel_rfl) ?_
 simp only [ageZ]
 simp only [go_sem, ↓reduceIte, NB, NA, NL, ND, encQ]
 refine aacZ (fun hb => ?_) (fun hb => ?_)
 ·have : ¬ a = q.key := by simpa using hb
  simp only [go_sem, ↓reduceIte, aloZ, this]
 ·have : a = q.key := by simpa using hb
  simp only [go_sem, ↓reduceIte, NB, NA, ND, aloZ, this]
theorem aqpZ {A : AProg} {g : String -> Nat} (h : Has A g "dactyl/dactylref25.Score" (adFZ g)) (q : Question) (a : Str) (H : List AObj) :
  aapZ A (g "dactyl/dactylref25.Score") [.agg (encQ q), .str a] H = some (vi (aloZ q a), H, []) := by
 refine h.call (by simp [adFZ]) (by kernel_rfl) ?_
 simp only [adFZ]
 simp only [go_sem, ↓reduceIte, NB, NA, NL, ND, encQ]
 refine aacZ (fun hb => ?_) (fun hb => ?_)
 ·have : a = q.key := by simpa using hb
  simp only [go_sem, ↓reduceIte, NB, NA, ND, aloZ, this]
 ·have : ¬ a = q.key := by simpa using hb
  simp only [go_sem, ↓reduceIte, aloZ, this]
end Go.AM
end
section
set_option maxRecDepth 8000
namespace Go.AM
open Go
abbrev amPZ (g : String -> Nat) : ACode := .seq (.region false [⟨some 10, .bin .lss .no (.tmp 9) (.tmp 8), none, []⟩]) <| .seq (.cond (.tmp 10) (.skip) (.exit 0)) <| .seq (.block 1 (.seq (.region false [⟨some 11, .mov (.tmp 9), none, []⟩,⟨some 5, .mov (.tmp 11), none, [0]⟩]) <| .seq (.region false [⟨some 12, .mov (.tmp 0), none, []⟩,⟨some 13, .mov (.tmp 5), none, []⟩,⟨some 14, .ixS (.tmp 12) (.tmp 13), none, [0, 1]⟩,⟨some 6, .mov (.tmp 14), none, [2, 0, 1]⟩]) <| .seq (.region false [⟨some 15, .mov (.tmp 6), none, []⟩,⟨some 16, .bin .geq .no (.tmp 15) (.const (.int .u8 48)), none, [0]⟩,⟨some 17, .mov (.tmp 16), none, [1, 0]⟩,⟨some 18, .mov (.tmp 6), some (some 17, true), [2, 1, 0]⟩,⟨some 19, .bin .leq .no (.tmp 18) (.const (.int .u8 57)), some (some 17, true), [3, 2, 1, 0]⟩,⟨some 20, .pick (.tmp 17) (.tmp 19) (.const (.bool false)), none, [4, 3, 2, 1, 0]⟩]) <| .cond (.tmp 20) (.region false [⟨some 21, .mov (.tmp 4), none, []⟩,⟨some 22, .bin .mul .no (.const (.int .i64 10)) (.tmp 21), none, [0]⟩,⟨some 23, .mov (.tmp 6), none, []⟩,⟨some 24, .bin .sub .no (.tmp 23) (.const (.int .u8 48)), none, [2]⟩,⟨some 25, .conv (.toInt .i64) (.tmp 24), none, [3, 2]⟩,⟨some 26, .bin .add .no (.tmp 22) (.tmp 25), none, [1, 0, 4, 3, 2]⟩,⟨some 27, .bin .rem .no (.tmp 26) (.const (.int .i64 1000)), none, [5, 1, 0, 4, 3, 2]⟩,⟨some 4, .mov (.tmp 27), none, [6, 5, 1, 0, 4, 3, 2]⟩]) (.region false [⟨some 28, .mov (.tmp 3), none, []⟩,⟨some 29, .mov (.tmp 4), none, []⟩,⟨some 30, .bin .add .no (.tmp 28) (.tmp 29), none, [0, 1]⟩,⟨some 3, .mov (.tmp 30), none, [2, 0, 1]⟩,⟨some 4, .mov (.const (.int .i64 0)), none, [3, 2, 0, 1]⟩]))) <| .region false [⟨some 31, .bin .add .no (.tmp 9) (.const (.int .i64 1)), none, []⟩,⟨some 9, .mov (.tmp 31), none, [0]⟩]
abbrev amQZ : List Nat := [10, 11, 5, 12, 13, 14, 6, 15, 16, 17, 18, 19, 20, 21, 22, 23, 24, 25, 26, 27, 4, 28, 29, 30, 3, 4, 31, 9]
def agfZ (g : String -> Nat) : AFn := ⟨35, [], [.tmp 2],.seq (.region false [⟨some 2, .mov (.const (.int .i64 0)), none, []⟩]) <| .seq (.region false [⟨some 3, .mov (.const (.int .i64 0)), none, []⟩,⟨some 4, .mov (.const (.int .i64 0)), none, [0]⟩]) <| .seq (.seq (.region false [⟨some 7, .mov (.tmp 0), none, []⟩,⟨some 8, .lenS (.tmp 7), none, [0]⟩,⟨some 9, .mov (.const (.int .i64 0)), none, []⟩]) <| .block 0 (.loop (amPZ g))) <| .seq (.region false [⟨some 32, .mov (.tmp 3), none, []⟩,⟨some 33, .mov (.tmp 4), none, []⟩,⟨some 34, .bin .add .no (.tmp 32) (.tmp 33), none, [0, 1]⟩,⟨some 2, .mov (.tmp 34), none, [2, 0, 1]⟩]) <| .ret⟩
abbrev aiSZ (g : String -> Nat) : ACode := .seq (.seq (.region false [⟨some 6, .mov (.tmp 5), none, []⟩,⟨some 7, .mov (.tmp 0), none, []⟩,⟨some 8, .lenS (.tmp 7), none, [1]⟩,⟨some 9, .bin .lss .no (.tmp 6) (.tmp 8), none, [0, 2, 1]⟩]) <| .cond (.tmp 9) (.skip) (.exit 0)) <| .seq (.block 1 (.seq (.region false [⟨some 12, .mov (.tmp 0), none, []⟩,⟨some 13, .mov (.tmp 5), none, []⟩,⟨some 14, .ixS (.tmp 12) (.tmp 13), none, [0, 1]⟩,⟨some 15, .bin .geq .no (.tmp 14) (.const (.int .u8 48)), none, [2, 0, 1]⟩,⟨some 16, .mov (.tmp 15), none, [3, 2, 0, 1]⟩,⟨some 17, .mov (.tmp 0), some (some 16, true), [4, 3, 2, 0, 1]⟩,⟨some 18, .mov (.tmp 5), some (some 16, true), [4, 3, 2, 0, 1]⟩,⟨some 19, .ixS (.tmp 17) (.tmp 18), some (some 16, true), [5, 6, 4, 3, 2, 0, 1]⟩,⟨some 20, .bin .leq .no (.tmp 19) (.const (.int .u8 57)), some (some 16, true), [7, 5, 6, 4, 3, 2, 0, 1]⟩,⟨some 21, .pick (.tmp 16) (.tmp 20) (.const (.bool false)), none, [8, 7, 5, 6, 4, 3, 2, 0, 1]⟩]) <| .cond (.tmp 21) (.region false [⟨some 22, .mov (.tmp 4), none, []⟩,⟨some 23, .bin .mul .no (.const (.int .i64 10)) (.tmp 22), none, [0]⟩,⟨some 24, .mov (.tmp 0), none, []⟩,⟨some 25, .mov (.tmp 5), none, []⟩,⟨some 26, .ixS (.tmp 24) (.tmp 25), none, [2, 3]⟩,⟨some 27, .bin .sub .no (.tmp 26) (.const (.int .u8 48)), none, [4, 2, 3]⟩,⟨some 28, .conv (.toInt .i64) (.tmp 27), none, [5, 4, 2, 3]⟩,⟨some 29, .bin .add .no (.tmp 23) (.tmp 28), none, [1, 0, 6, 5, 4, 2, 3]⟩,⟨some 30, .bin .rem .no (.tmp 29) (.const (.int .i64 1000)), none, [7, 1, 0, 6, 5, 4, 2, 3]⟩,⟨some 4, .mov (.tmp 30), none, [8, 7, 1, 0, 6, 5, 4, 2, 3]⟩]) (.seq (.region false [⟨some 31, .mov (.tmp 3), none, []⟩,⟨some 32, .mov (.tmp 4), none, []⟩,⟨some 33, .bin .add .no (.tmp 31) (.tmp 32), none, [0, 1]⟩,⟨some 3, .mov (.tmp 33), none, [2, 0, 1]⟩]) <| .region false [⟨some 4, .mov (.const (.int .i64 0)), none, []⟩]))) <| .region false [⟨some 10, .mov (.tmp 5), none, []⟩,⟨some 11, .bin .add .no (.tmp 10) (.const (.int .i64 1)), none, [0]⟩,⟨some 5, .mov (.tmp 11), none, [1, 0]⟩]
abbrev aiTZ : List Nat := [6, 7, 8, 9, 12, 13, 14, 15, 16, 17, 18, 19, 20, 21, 22, 23, 24, 25, 26, 27, 28, 29, 30, 4, 31, 32, 33, 3, 4, 10, 11, 5]
def adGZ (g : String -> Nat) : AFn := ⟨38, [], [.tmp 2],.seq (.region false [⟨some 2, .mov (.const (.int .i64 0)), none, []⟩]) <| .seq (.region false [⟨some 3, .mov (.const (.int .i64 0)), none, []⟩]) <| .seq (.region false [⟨some 4, .mov (.const (.int .i64 0)), none, []⟩]) <| .seq (.seq (.region false [⟨some 5, .mov (.const (.int .i64 0)), none, []⟩]) <| .block 0 (.loop (aiSZ g))) <| .seq (.region false [⟨some 34, .mov (.tmp 3), none, []⟩,⟨some 35, .mov (.tmp 4), none, []⟩,⟨some 36, .bin .add .no (.tmp 34) (.tmp 35), none, [0, 1]⟩,⟨some 37, .bin .rem .no (.tmp 36) (.const (.int .i64 1000)), none, [2, 0, 1]⟩,⟨some 2, .mov (.tmp 37), none, [3, 2, 0, 1]⟩]) <| .ret⟩
def ahlZ (p : Nat × Nat) (c : UInt8) : Nat × Nat := if 48 <= c.toNat /\ c.toNat <= 57 then (p.1, (10 * p.2 + (c.toNat - 48)) % 1000) else (p.1 + p.2, 0)
def sums (s : Str) : Nat × Nat := s.foldl ahlZ (0, 0)
def adNZ (s : Str) : Nat := (sums s).1 + (sums s).2
theorem afRZ {s : Str} {i : Nat} (h : i < s.length) : sums (s.take (i + 1)) = ahlZ (sums (s.take i)) s[i] := by
 unfold sums
 rw [List.take_add_one, List.getElem?_eq_getElem h, List.foldl_append]
 rfl
theorem akGZ : ∀ (i : Nat) (s : Str), i <= s.length -> (sums (s.take i)).1 <= 1000 * i /\ (sums (s.take i)).2 < 1000
 | 0, s, _ => by simp [sums]
 | i + 1, s, h => by
  have ih := akGZ i s (by omega)
  rw [afRZ (by omega : i < s.length)]
  unfold ahlZ
  split
  ·exact ⟨by simp; omega, by simp; omega⟩
  ·exact ⟨by simp; omega, by simp⟩
theorem akHZ {A : AProg} {g : String -> Nat} (h : Has A g "dactyl/source.count" (agfZ g)) (s : Str) (hs : s.length <= 1000000000) (H : List AObj) :
  aapZ A (g "dactyl/source.count") [.str s] H = some (vi (adNZ s), H, []) := by
 refine h.call (by simp [agfZ]) (by kernel_rfl) ?_
 simp only [agfZ]
 simp only [go_sem, ↓aafZ, NB]
 refine aaWZ (id := 0) (W := amQZ) (fun i ρ1 H1 wr => wr = [] /\ H1 = H /\ ρ1 9 = vi i /\ ρ1 3 = vi (sums (s.take i)).1 /\ ρ1 4 = vi (sums (s.take i)).2) s.length
  (fun ρ1 H1 wr => wr = [] /\ H1 = H /\ ρ1 3 = vi (sums s).1 /\ ρ1 4 = vi (sums s).2)
  (by kernel_rfl) (by rfl) (by refine ⟨rfl, ?_, rfl, rfl, rfl⟩; simp) ?_ ?_
 ·rintro i ρ1 H1 wr1 hil ⟨rfl, rfl, e9, e3, e4⟩ hf
  have e0 : ρ1 0 = .str s := by rw [hf 0 (by rfl)]; rfl
  have e8 : ρ1 8 = vi s.length := by rw [hf 8 (by rfl)]; rfl
  have hb := akGZ i s hil
  simp only [go_sem, ↓aafZ, e9, e8]
  refine aacZ (fun hb => ?_) (fun hb => ?_)
  ·have hlt : i < s.length := by simpa using hb
   have hg : s[i]? = some s[i] := List.getElem?_eq_getElem hlt
   have hn0 : (0 : Int) <= (i : Int) := by omega
   have hto : ((i : Int)).toNat = i := by omega
   have hc := s[i].toNat_lt
   have hw9 : IntKind.i64.wrap ((i : Int) + 1) = ((i + 1 : Nat) : Int) := by rw [wrap_i64 (by omega) (by omega)]; omega
   have hadd : IntKind.i64.wrap (((sums (s.take i)).1 : Int) + ((sums (s.take i)).2 : Int)) = (((sums (s.take i)).1 + (sums (s.take i)).2 : Nat) : Int) := by rw [wrap_i64 (by omega) (by omega)]; omega
   by_cases hlo : 48 <= s[i].toNat
   ·have h48 : decide ((s[i].toNat : Int) ≥ 48) = true := by simp; omega
    by_cases hhi : s[i].toNat <= 57
    ·have h57 : decide ((s[i].toNat : Int) <= 57) = true := by simp; omega
     have hst : sums (s.take (i + 1)) = ((sums (s.take i)).1, (10 * (sums (s.take i)).2 + (s[i].toNat - 48)) % 1000) := by rw [afRZ hlt, ahlZ, if_pos ⟨hlo, hhi⟩]
     have hm : IntKind.i64.wrap (10 * ((sums (s.take i)).2 : Int)) = ((10 * (sums (s.take i)).2 : Nat) : Int) := by rw [wrap_i64 (by omega) (by omega)]; omega
     have hd : IntKind.u8.wrap ((s[i].toNat : Int) - 48) = ((s[i].toNat - 48 : Nat) : Int) := by rw [wrap_u8 (by omega) (by omega)]; omega
     have hd2 : IntKind.i64.wrap ((s[i].toNat - 48 : Nat) : Int) = ((s[i].toNat - 48 : Nat) : Int) := wrap_i64 (by omega) (by omega)
     have hs2 : IntKind.i64.wrap (((10 * (sums (s.take i)).2 : Nat) : Int) + ((s[i].toNat - 48 : Nat) : Int)) = ((10 * (sums (s.take i)).2 + (s[i].toNat - 48) : Nat) : Int) := by rw [wrap_i64 (by omega) (by omega)]; omega
     have hr : (((10 * (sums (s.take i)).2 + (s[i].toNat - 48) : Nat) : Int)).tmod 1000 = (((10 * (sums (s.take i)).2 + (s[i].toNat - 48)) % 1000 : Nat) : Int) := rfl
     simp only [go_sem, ↓aafZ, ↓reduceIte, NB, e0, e9, hg, hn0, hto, h48, h57, beq_self_eq_true, e4, hm, hd, agRZ, hd2, hs2, aeFZ (b := 1000) (by decide), hr, hw9]
     exact ⟨hlt, by rw [hst]; exact e3, by rw [hst]⟩
    ·have h57 : decide ((s[i].toNat : Int) <= 57) = false := by simp; omega
     have hst : sums (s.take (i + 1)) = ((sums (s.take i)).1 + (sums (s.take i)).2, 0) := by rw [afRZ hlt, ahlZ, if_neg (fun h => hhi h.2)]
     simp only [go_sem, ↓aafZ, ↓reduceIte, NB, e0, e9, hg, hn0, hto, h48, h57, beq_self_eq_true, e3, e4, hadd, hw9]
     exact ⟨hlt, by rw [hst], by rw [hst]; rfl⟩
   ·have h48 : decide ((s[i].toNat : Int) ≥ 48) = false := by simp; omega
    have hst : sums (s.take (i + 1)) = ((sums (s.take i)).1 + (sums (s.take i)).2, 0) := by rw [afRZ hlt, ahlZ, if_neg (fun h => hlo h.1)]
    simp only [go_sem, ↓aafZ, ↓reduceIte, NB, BT, e0, e9, hg, hn0, hto, h48, Bool.false_beq, BT, e3, e4, hadd, hw9]
    exact ⟨hlt, by rw [hst], by rw [hst]; rfl⟩
  ·have hi : i = s.length := by simp at hb; omega
   subst hi
   rw [List.take_length] at e3 e4
   simp only [go_sem, NB]
   exact ⟨e3, e4⟩
 ·rintro ρ' H' wr' ⟨rfl, rfl, e3, e4⟩ hf
  have hb := akGZ s.length s (Nat.le_refl _)
  rw [List.take_length] at hb
  have hw : IntKind.i64.wrap (((sums s).1 : Int) + ((sums s).2 : Int)) = ((adNZ s : Nat) : Int) := by rw [wrap_i64 (by omega) (by omega)]; simp [adNZ]
  simp only [go_sem, ↓aafZ, NB, e3, e4, hw]
theorem aqqZ {A : AProg} {g : String -> Nat} (h : Has A g "dactyl/dactylref25.count" (adGZ g)) (s : Str) (hs : s.length <= 1000000000) (H : List AObj) :
  aapZ A (g "dactyl/dactylref25.count") [.str s] H = some (vi (adNZ s % 1000 : Nat), H, []) := by
 refine h.call (by simp [adGZ]) (by kernel_rfl) ?_
 simp only [adGZ]
 simp only [go_sem, ↓aafZ]
 refine aaWZ (id := 0) (W := aiTZ) (fun i ρ1 H1 wr => wr = [] /\ H1 = H /\ ρ1 5 = vi i /\ ρ1 3 = vi (sums (s.take i)).1 /\ ρ1 4 = vi (sums (s.take i)).2) s.length
  (fun ρ1 H1 wr => wr = [] /\ H1 = H /\ ρ1 3 = vi (sums s).1 /\ ρ1 4 = vi (sums s).2)
  (by kernel_rfl) (by rfl) (by refine ⟨rfl, ?_, rfl, rfl, rfl⟩; simp) ?_ ?_
 ·rintro i ρ1 H1 wr1 hil ⟨rfl, rfl, e9, e3, e4⟩ hf
  have e0 : ρ1 0 = .str s := by rw [hf 0 (by rfl)]; rfl
  have hb := akGZ i s hil
  simp only [go_sem, ↓aafZ, NB, e9, e0]
  refine aacZ (fun hb => ?_) (fun hb => ?_)
  ·have hlt : i < s.length := by simpa using hb
   have hg : s[i]? = some s[i] := List.getElem?_eq_getElem hlt
   have hn0 : (0 : Int) <= (i : Int) := by omega
   have hto : ((i : Int)).toNat = i := by omega
   have hc := s[i].toNat_lt
   have hw9 : IntKind.i64.wrap ((i : Int) + 1) = ((i + 1 : Nat) : Int) := by rw [wrap_i64 (by omega) (by omega)]; omega
   have hadd : IntKind.i64.wrap (((sums (s.take i)).1 : Int) + ((sums (s.take i)).2 : Int)) = (((sums (s.take i)).1 + (sums (s.take i)).2 : Nat) : Int) := by rw [wrap_i64 (by omega) (by omega)]; omega
   by_cases hlo : 48 <= s[i].toNat
   ·have h48 : decide ((s[i].toNat : Int) ≥ 48) = true := by simp; omega
    by_cases hhi : s[i].toNat <= 57
    ·have h57 : decide ((s[i].toNat : Int) <= 57) = true := by simp; omega
     have hst : sums (s.take (i + 1)) = ((sums (s.take i)).1, (10 * (sums (s.take i)).2 + (s[i].toNat - 48)) % 1000) := by rw [afRZ hlt, ahlZ, if_pos ⟨hlo, hhi⟩]
     have hm : IntKind.i64.wrap (10 * ((sums (s.take i)).2 : Int)) = ((10 * (sums (s.take i)).2 : Nat) : Int) := by rw [wrap_i64 (by omega) (by omega)]; omega
     have hd : IntKind.u8.wrap ((s[i].toNat : Int) - 48) = ((s[i].toNat - 48 : Nat) : Int) := by rw [wrap_u8 (by omega) (by omega)]; omega
     have hd2 : IntKind.i64.wrap ((s[i].toNat - 48 : Nat) : Int) = ((s[i].toNat - 48 : Nat) : Int) := wrap_i64 (by omega) (by omega)
     have hs2 : IntKind.i64.wrap (((10 * (sums (s.take i)).2 : Nat) : Int) + ((s[i].toNat - 48 : Nat) : Int)) = ((10 * (sums (s.take i)).2 + (s[i].toNat - 48) : Nat) : Int) := by rw [wrap_i64 (by omega) (by omega)]; omega
     have hr : (((10 * (sums (s.take i)).2 + (s[i].toNat - 48) : Nat) : Int)).tmod 1000 = (((10 * (sums (s.take i)).2 + (s[i].toNat - 48)) % 1000 : Nat) : Int) := rfl
     simp only [go_sem, ↓aafZ, ↓reduceIte, NB, e0, e9, hg, hn0, hto, h48, h57, beq_self_eq_true, e4, hm, hd, agRZ, hd2, hs2, aeFZ (b := 1000) (by decide), hr, hw9]
     exact ⟨hlt, by rw [hst]; exact e3, by rw [hst]⟩
    ·have h57 : decide ((s[i].toNat : Int) <= 57) = false := by simp; omega
     have hst : sums (s.take (i + 1)) = ((sums (s.take i)).1 + (sums (s.take i)).2, 0) := by rw [afRZ hlt, ahlZ, if_neg (fun h => hhi h.2)]
     simp only [go_sem, ↓aafZ, ↓reduceIte, NB, e0, e9, hg, hn0, hto, h48, h57, beq_self_eq_true, e3, e4, hadd, hw9]
     exact ⟨hlt, by rw [hst], by rw [hst]; rfl⟩
   ·have h48 : decide ((s[i].toNat : Int) ≥ 48) = false := by simp; omega
    have hst : sums (s.take (i + 1)) = ((sums (s.take i)).1 + (sums (s.take i)).2, 0) := by rw [afRZ hlt, ahlZ, if_neg (fun h => hlo h.1)]
    simp only [go_sem, ↓aafZ, ↓reduceIte, NB, BT, e0, e9, hg, hn0, hto, h48, Bool.false_beq, BT, e3, e4, hadd, hw9]
    exact ⟨hlt, by rw [hst], by rw [hst]; rfl⟩
  ·have hi : i = s.length := by simp at hb; omega
   subst hi
   rw [List.take_length] at e3 e4
   simp only [go_sem, NB]
   exact ⟨e3, e4⟩
 ·rintro ρ' H' wr' ⟨rfl, rfl, e3, e4⟩ hf
  have hb := akGZ s.length s (Nat.le_refl _)
  rw [List.take_length] at hb
  have hw : IntKind.i64.wrap (((sums s).1 : Int) + ((sums s).2 : Int)) = ((adNZ s : Nat) : Int) := by rw [wrap_i64 (by omega) (by omega)]; simp [adNZ]
  have hr : ((adNZ s : Nat) : Int).tmod 1000 = ((adNZ s % 1000 : Nat) : Int) := rfl
  simp only [go_sem, ↓aafZ, NB, e3, e4, hw, aeFZ (b := 1000) (by decide), hr]
end Go.AM
end
