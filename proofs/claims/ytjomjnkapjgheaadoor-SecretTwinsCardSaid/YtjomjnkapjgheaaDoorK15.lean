/- Part 15 of the proof that stands in the last text of this folder (lemmas; no statement of its own). -/
import Derived.Test.YtjomjnkapjgheaaDoorK14
section
open Nat renaming reduceBEq → NB, reduceAdd → NA, reduceSub → NS, reduceMul → NM, reduceLT → NL, reduceLeDiff → ND, reduceEqDiff → NE
open Int renaming reduceLT → IL, reduceLE → ID, reduceToNat → IT, reduceEq → IE, reduceBEq → IB, reduceBNe → IN, reduceAdd → IA, reduceSub → IS, reduceNeg → IM
open Bool renaming not_true → BT, not_false → BF
set_option linter.unusedVariables false
set_option maxRecDepth 8000
namespace Go.Proofs.AM
open Go
abbrev dactylref31_Twin_d0 (g : String → Nat) : List AOper := [⟨some 40, .fa 5 (.tmp 10), none, []⟩,⟨some 41, .load 1 false (.tmp 40), none, [0]⟩,⟨some 42, .bin .add .no (.tmp 41) (.const (.int .i64 1)), none, [1, 0]⟩,⟨some 43, .mov (.tmp 1), none, []⟩,⟨some 44, .callv (.const (.fn (g "dactyl/dactylref31.rest") [] [])) [(.tmp 43), (.const (.int .i64 100))], none, [3]⟩,⟨some 45, .bin .add .no (.tmp 42) (.tmp 44), none, [2, 1, 0, 4, 3]⟩,⟨some 46, .callv (.const (.fn (g "dactyl/dactylref31.rest") [] [])) [(.tmp 45), (.const (.int .i64 101))], none, [5, 2, 1, 0, 4, 3]⟩,⟨some 47, .fa 5 (.tmp 10), none, [6, 5, 2, 1, 0, 4, 3]⟩,⟨none, .store 1 (.tmp 47) (.tmp 46), none, [7, 6, 5, 2, 1, 0, 4, 3]⟩]
abbrev dactylref31_Twin_k0 : List Nat := [1, 4]
def dactylref31_Twin_b4 (g : String → Nat) : ACode := .block 4 (.seq (.region false [⟨some 52, .bin .eql .no (.tmp 50) (.const (.int .i64 0)), none, []⟩,⟨some 51, .mov (.tmp 52), none, [0]⟩]) <| .cond (.tmp 51) (.region false [⟨some 53, .mov (.tmp 1), none, []⟩,⟨some 54, .fa 2 (.tmp 10), none, []⟩,⟨some 55, .load 1 false (.tmp 54), none, [1]⟩,⟨some 56, .lenV (.tmp 55), none, [2, 1]⟩,⟨some 57, .mm true [(.const (.int .i64 1)), (.tmp 56)], none, [3, 2, 1]⟩,⟨some 58, .callv (.const (.fn (g "dactyl/dactylref31.rest") [] [])) [(.tmp 53), (.tmp 57)], none, [0, 4, 3, 2, 1]⟩,⟨some 59, .callv (.const (.fn (g "dactyl/dactylref23.Decimal") [] [])) [(.tmp 58)], none, [5, 0, 4, 3, 2, 1]⟩,⟨some 60, .fa 4 (.tmp 10), none, [6, 5, 0, 4, 3, 2, 1]⟩,⟨none, .store 1 (.tmp 60) (.tmp 59), none, [7, 6, 5, 0, 4, 3, 2, 1]⟩]) (.seq (.region false [⟨some 62, .bin .eql .no (.tmp 50) (.const (.int .i64 1)), none, []⟩,⟨some 61, .mov (.tmp 62), none, [0]⟩]) <| .cond (.tmp 61) (.region false [⟨some 63, .mov (.tmp 1), none, []⟩,⟨some 64, .callv (.const (.fn (g "dactyl/dactylref31.rest") [] [])) [(.tmp 63), (.const (.int .i64 1000))], none, [0]⟩,⟨some 65, .callv (.const (.fn (g "dactyl/dactylref23.Decimal") [] [])) [(.tmp 64)], none, [1, 0]⟩,⟨some 66, .fa 4 (.tmp 10), none, [2, 1, 0]⟩,⟨none, .store 1 (.tmp 66) (.tmp 65), none, [3, 2, 1, 0]⟩]) (.seq (.region false [⟨some 68, .bin .eql .no (.tmp 50) (.const (.int .i64 2)), none, []⟩,⟨some 67, .mov (.tmp 68), none, [0]⟩]) <| .cond (.tmp 67) (.region false [⟨some 69, .mov (.tmp 1), none, []⟩,⟨some 70, .callv (.const (.fn (g "dactyl/dactylref31.rest") [] [])) [(.tmp 69), (.const (.int .i64 1000))], none, [0]⟩,⟨some 71, .callv (.const (.fn (g "dactyl/dactylref23.Decimal") [] [])) [(.tmp 70)], none, [1, 0]⟩,⟨some 72, .bin .add .no (.const (.str [107])) (.tmp 71), none, [2, 1, 0]⟩,⟨some 73, .fa 4 (.tmp 10), none, [3, 2, 1, 0]⟩,⟨none, .store 1 (.tmp 73) (.tmp 72), none, [4, 3, 2, 1, 0]⟩]) (.skip))))
abbrev dactylref31_Twin_l2 (g : String → Nat) : ACode := .seq (.seq (.region false [⟨some 74, .mov (.tmp 12), none, []⟩,⟨some 75, .fa 6 (.tmp 10), none, []⟩,⟨some 76, .load 1 false (.tmp 75), none, [1]⟩,⟨some 77, .lenV (.tmp 76), none, [2, 1]⟩,⟨some 78, .bin .lss .no (.tmp 74) (.tmp 77), none, [0, 3, 2, 1]⟩]) <| .cond (.tmp 78) (.skip) (.exit 5)) <| .seq (.block 6 (.region false [⟨some 81, .mov (.tmp 11), none, []⟩,⟨some 82, .mov (.tmp 1), none, []⟩,⟨some 83, .mov (.tmp 12), none, []⟩,⟨some 84, .bin .add .no (.tmp 82) (.tmp 83), none, [1, 2]⟩,⟨some 85, .callv (.const (.fn (g "dactyl/dactylref31.rest") [] [])) [(.tmp 84), (.const (.int .i64 1000))], none, [3, 1, 2]⟩,⟨some 86, .callv (.const (.fn (g "dactyl/dactylref23.Decimal") [] [])) [(.tmp 85)], none, [4, 3, 1, 2]⟩,⟨some 87, .bin .add .no (.const (.str [114])) (.tmp 86), none, [5, 4, 3, 1, 2]⟩,⟨some 88, .bsl 1 [(.str [])] 1 [(0, (.tmp 87))], none, [6, 5, 4, 3, 1, 2]⟩,⟨some 89, .app 1 16 (.tmp 81) (.tmp 88), none, [0, 7, 6, 5, 4, 3, 1, 2]⟩,⟨some 11, .mov (.tmp 89), none, [8, 0, 7, 6, 5, 4, 3, 1, 2]⟩])) <| .region false [⟨some 79, .mov (.tmp 12), none, []⟩,⟨some 80, .bin .add .no (.tmp 79) (.const (.int .i64 1)), none, [0]⟩,⟨some 12, .mov (.tmp 80), none, [1, 0]⟩]
abbrev dactylref31_Twin_w2 : List Nat := [74, 75, 76, 77, 78, 81, 82, 83, 84, 85, 86, 87, 88, 89, 11, 79, 80, 12]
abbrev dactylref31_Twin_l1 (g : String → Nat) : ACode := .seq (.seq (.region false [⟨some 28, .mov (.tmp 9), none, []⟩,⟨some 29, .fa 3 (.tmp 7), none, []⟩,⟨some 30, .load 1 false (.tmp 29), none, [1]⟩,⟨some 31, .lenV (.tmp 30), none, [2, 1]⟩,⟨some 32, .bin .lss .no (.tmp 28) (.tmp 31), none, [0, 3, 2, 1]⟩]) <| .cond (.tmp 32) (.skip) (.exit 2)) <| .seq (.block 3 (.seq (.region false [⟨some 35, .fa 3 (.tmp 7), none, []⟩,⟨some 36, .load 1 false (.tmp 35), none, [0]⟩,⟨some 37, .mov (.tmp 9), none, []⟩,⟨some 38, .iaV (.tmp 36) (.tmp 37) 7, none, [1, 0, 2]⟩,⟨some 39, .load 7 true (.tmp 38), none, [3, 1, 0, 2]⟩,⟨some 10, .alloc [(.int .i64 0), (.sl true []), (.sl true []), (.sl true []), (.str []), (.int .i64 0), (.sl true [])], none, []⟩,⟨none, .store 7 (.tmp 10) (.tmp 39), none, [4, 3, 1, 0, 2, 5]⟩]) <| .seq (.region true (dactylref31_Twin_d0 g)) <| .seq (.region false [⟨some 48, .fa 4 (.tmp 10), none, []⟩,⟨none, .store 1 (.tmp 48) (.const (.str [])), none, [0]⟩]) <| .seq (.seq (.region false [⟨some 49, .fa 0 (.tmp 10), none, []⟩,⟨some 50, .load 1 false (.tmp 49), none, [0]⟩]) <| dactylref31_Twin_b4 g) <| .seq (.region false [⟨some 11, .mov (.const (.sl true [])), none, []⟩]) <| .seq (.seq (.region false [⟨some 12, .mov (.const (.int .i64 0)), none, []⟩]) <| .block 5 (.loop (dactylref31_Twin_l2 g))) <| .seq (.region false [⟨some 90, .mov (.tmp 11), none, []⟩,⟨some 91, .fa 6 (.tmp 10), none, [0]⟩,⟨none, .store 1 (.tmp 91) (.tmp 90), none, [1, 0]⟩]) <| .region false [⟨some 92, .mov (.tmp 8), none, []⟩,⟨some 93, .load 7 true (.tmp 10), none, []⟩,⟨some 94, .bsl 7 [(.int .i64 0), (.sl false []), (.sl false []), (.sl false []), (.str []), (.int .i64 0), (.sl false [])] 1 [(0, (.tmp 93))], none, [1]⟩,⟨some 95, .app 7 128 (.tmp 92) (.tmp 94), none, [0, 2, 1]⟩,⟨some 8, .mov (.tmp 95), none, [3, 0, 2, 1]⟩])) <| .region false [⟨some 33, .mov (.tmp 9), none, []⟩,⟨some 34, .bin .add .no (.tmp 33) (.const (.int .i64 1)), none, [0]⟩,⟨some 9, .mov (.tmp 34), none, [1, 0]⟩]
abbrev dactylref31_Twin_w1 : List Nat := [28, 29, 30, 31, 32, 35, 36, 37, 38, 39, 10, 40, 41, 42, 43, 44, 45, 46, 47, 48, 49, 50, 52, 51, 53, 54, 55, 56, 57, 58, 59, 60, 62, 61, 63, 64, 65, 66, 68, 67, 69, 70, 71, 72, 73, 11, 12, 74, 75, 76, 77, 78, 81, 82, 83, 84, 85, 86, 87, 88, 89, 11, 79, 80, 12, 90, 91, 92, 93, 94, 95, 8, 33, 34, 9]
abbrev dactylref31_Twin_l0 (g : String → Nat) : ACode := .seq (.seq (.region false [⟨some 16, .mov (.tmp 6), none, []⟩,⟨some 17, .fa 1 (.tmp 2), none, []⟩,⟨some 18, .load 1 false (.tmp 17), none, [1]⟩,⟨some 19, .lenV (.tmp 18), none, [2, 1]⟩,⟨some 20, .bin .lss .no (.tmp 16) (.tmp 19), none, [0, 3, 2, 1]⟩]) <| .cond (.tmp 20) (.skip) (.exit 0)) <| .seq (.block 1 (.seq (.region false [⟨some 23, .fa 1 (.tmp 2), none, []⟩,⟨some 24, .load 1 false (.tmp 23), none, [0]⟩,⟨some 25, .mov (.tmp 6), none, []⟩,⟨some 26, .iaV (.tmp 24) (.tmp 25) 4, none, [1, 0, 2]⟩,⟨some 27, .load 4 true (.tmp 26), none, [3, 1, 0, 2]⟩,⟨some 7, .alloc [(.str []), (.sl true []), (.sl true []), (.sl true [])], none, []⟩,⟨none, .store 4 (.tmp 7) (.tmp 27), none, [4, 3, 1, 0, 2, 5]⟩]) <| .seq (.region false [⟨some 8, .mov (.const (.sl true [])), none, []⟩]) <| .seq (.seq (.region false [⟨some 9, .mov (.const (.int .i64 0)), none, []⟩]) <| .block 2 (.loop (dactylref31_Twin_l1 g))) <| .seq (.region false [⟨some 96, .mov (.tmp 8), none, []⟩,⟨some 97, .fa 3 (.tmp 7), none, [0]⟩,⟨none, .store 1 (.tmp 97) (.tmp 96), none, [1, 0]⟩]) <| .region false [⟨some 98, .fa 1 (.tmp 5), none, []⟩,⟨some 99, .load 1 false (.tmp 98), none, [0]⟩,⟨some 100, .load 4 true (.tmp 7), none, []⟩,⟨some 101, .bsl 4 [(.str []), (.sl false []), (.sl false []), (.sl false [])] 1 [(0, (.tmp 100))], none, [2]⟩,⟨some 102, .app 4 88 (.tmp 99) (.tmp 101), none, [1, 0, 3, 2]⟩,⟨some 103, .fa 1 (.tmp 5), none, [4, 1, 0, 3, 2]⟩,⟨none, .store 1 (.tmp 103) (.tmp 102), none, [5, 4, 1, 0, 3, 2]⟩])) <| .region false [⟨some 21, .mov (.tmp 6), none, []⟩,⟨some 22, .bin .add .no (.tmp 21) (.const (.int .i64 1)), none, [0]⟩,⟨some 6, .mov (.tmp 22), none, [1, 0]⟩]
abbrev dactylref31_Twin_w0 : List Nat := [16, 17, 18, 19, 20, 23, 24, 25, 26, 27, 7, 8, 9, 28, 29, 30, 31, 32, 35, 36, 37, 38, 39, 10, 40, 41, 42, 43, 44, 45, 46, 47, 48, 49, 50, 52, 51, 53, 54, 55, 56, 57, 58, 59, 60, 62, 61, 63, 64, 65, 66, 68, 67, 69, 70, 71, 72, 73, 11, 12, 74, 75, 76, 77, 78, 81, 82, 83, 84, 85, 86, 87, 88, 89, 11, 79, 80, 12, 90, 91, 92, 93, 94, 95, 8, 33, 34, 9, 96, 97, 98, 99, 100, 101, 102, 103, 21, 22, 6]
def dactylref31_Twin (g : String → Nat) : AFn := ⟨105, [2, 4, 5, 7, 10, 89, 95, 102], [.cell 4 2 true],
  .seq (.region false [⟨some 2, .box 2 (.tmp 0), none, []⟩,
    ⟨some 4, .alloc [(.str []), (.sl true [])], none, []⟩]) <|
  .seq (.region false [⟨some 13, .fa 0 (.tmp 2), none, []⟩,
    ⟨some 14, .load 1 false (.tmp 13), none, [0]⟩,
    ⟨some 15, .build [(.str []), (.sl true [])] [(0, 1, (.tmp 14))], none, [1, 0]⟩,
    ⟨some 5, .alloc [(.str []), (.sl true [])], none, []⟩,
    ⟨none, .store 2 (.tmp 5) (.tmp 15), none, [2, 1, 0, 3]⟩]) <|
  .seq (.seq (.region false [⟨some 6, .mov (.const (.int .i64 0)), none, []⟩]) <|
  .block 0 (.loop (dactylref31_Twin_l0 g))) <|
  .seq (.region false [⟨some 104, .load 2 true (.tmp 5), none, []⟩,
    ⟨none, .store 2 (.tmp 4) (.tmp 104), none, [0]⟩]) <|
  .ret⟩
abbrev SpecDecimal (A : AProg) (g : String → Nat) : Prop := ∀ (n : Nat) (H : List AObj), n < 1000000 → callI A (g "dactyl/dactylref23.Decimal") [vi n] H = some (.str (dec n), H, [])
theorem twin31_reasons {A : AProg} {g : String → Nat} (hr : SpecRest A (g "dactyl/dactylref31.rest")) (hi : SpecDecimal A g) {H0 : List AObj} {Q : AExit → SEnv → List AObj → List Nat → Prop} {tg}
    {n : Int} {vq : Nat} {o0 o1 o2 o3 o5 o6 o7 : AObj} {c0 c1 c2 c3 c4 c5 : AV} {l : List Str} (hl : l.length ≤ 16) {ρ : SEnv}
    (h1 : ρ 1 = vi n) (h10 : ρ 10 = .ptr (H0.length + 4) vq 0) (h11 : ρ 11 = .sl true []) (h12 : ρ 12 = vi 0)
    (hQ : ∀ ρ' o5, (∀ t, dactylref31_Twin_w2.contains t = false → ρ' t = ρ t) → GSl (H0.length + 5) 1 ((l.mapIdx fun j _ => twinReason n j).map encStr) (ρ' 11) o5 →
      Q (.exit 5) ρ' (H0 ++ [o0, o1, o2, o3, .box vq [c0, c1, c2, c3, c4, c5, .sl false (l.map encStr)], o5, o6, o7]) []) :
    wl A 105 ⟨H0.length, [2, 4, 5, 7, 10, 89, 95, 102]⟩ (dactylref31_Twin_l2 g) ρ (H0 ++ [o0, o1, o2, o3, .box vq [c0, c1, c2, c3, c4, c5, .sl false (l.map encStr)], o5, o6, o7]) [] Q tg := by
  refine wl_for2 (W := dactylref31_Twin_w2) (fun i ρ1 H wr => wr = [] ∧ ρ1 12 = vi i ∧ ∃ o5, H = H0 ++ [o0, o1, o2, o3, .box vq [c0, c1, c2, c3, c4, c5, .sl false (l.map encStr)], o5, o6, o7] ∧
    GSl (H0.length + 5) 1 ((firsts (fun j _ => twinReason n j) l i).map encStr) (ρ1 11) o5) l.length
    (fun ρ1 H wr => wr = [] ∧ ∃ o5, H = H0 ++ [o0, o1, o2, o3, .box vq [c0, c1, c2, c3, c4, c5, .sl false (l.map encStr)], o5, o6, o7] ∧ GSl (H0.length + 5) 1 ((l.mapIdx fun j _ => twinReason n j).map encStr) (ρ1 11) o5)
    (by kernel_rfl) (by rfl) ⟨rfl, h12, o5, rfl, by rw [h11]; exact .nil _⟩ ?_ (by
      rintro ρ' H' wr' ⟨rfl, o5, rfl, hg⟩ hf
      exact hQ ρ' o5 hf hg)
  rintro i ρ1 H1 wr1 hil ⟨rfl, hi12, o5, rfl, hg⟩ hf
  have f1 : ρ1 1 = vi n := (hf 1 (by decide)).trans h1
  have f10 : ρ1 10 = .ptr (H0.length + 4) vq 0 := (hf 10 (by decide)).trans h10
  have hd : ∀ m, 1 + (dec (restN m 1000)).length ≤ 4611686018427387904 := fun m => dec_small (restN_small (by decide) (by decide))
  have hs : ∀ m, restN m 1000 < 1000000 := fun m => restN_small (by decide) (by decide)
  simp only [go_sem, ↓reduceIte, NB, NA, f10, hi12]
  refine branch_intro (fun hb => ?_) (fun hb => ?_)
  · have hlt : i < l.length := by simpa using hb
    obtain ⟨v', o', hg', happ⟩ := hg.app (new := [[.str (twinReason n i)]]) (bytes := 16) (by simp) (by rfl) (by rw [List.length_map, firsts_length hil]; simp; omega)
    have hsu : (firsts (fun j _ => twinReason n j) l i).map encStr ++ [[.str (twinReason n i)]] = (firsts (fun j _ => twinReason n j) l (i + 1)).map encStr := map_firsts_succ hlt rfl
    rw [hsu] at hg'
    simp only [twinReason] at happ
    simp only [go_sem, ↓reduceIte, NB, NA, NL, NE, IL, f1, hi12, hr, hs, hi, bin_addS, hd, happ]
    rw [wrap_succ (by omega)]
    exact ⟨hlt, rfl, o', rfl, hg'⟩
  · have hlt : i = l.length := by
      have : ¬ i < l.length := by simpa using hb
      omega
    subst hlt
    rw [firsts_all] at hg
    simp only [go_sem, NB]
    exact ⟨o5, rfl, hg⟩
theorem twin31_asks {A : AProg} {g : String → Nat} (hr : SpecRest A (g "dactyl/dactylref31.rest")) (hi : SpecDecimal A g) {H0 : List AObj} {Q : AExit → SEnv → List AObj → List Nat → Prop} {tg}
    {n : Int} {vt : Nat} {o0 o1 o2 o4 o5 o6 o7 : AObj} {c0 c1 c2 : AV} {l : List Question} (hl : l.length ≤ 16) (hq : ∀ q ∈ l, q.Ok) {ρ : SEnv}
    (h1 : ρ 1 = vi n) (h7 : ρ 7 = .ptr (H0.length + 3) vt 0) (h8 : ρ 8 = .sl true []) (h9 : ρ 9 = vi 0)
    (hQ : ∀ ρ' o4 o5 o6, (∀ t, dactylref31_Twin_w1.contains t = false → ρ' t = ρ t) → GSl (H0.length + 6) 7 ((l.map (twinQ n)).map encQ) (ρ' 8) o6 →
      Q (.exit 2) ρ' (H0 ++ [o0, o1, o2, .box vt [c0, c1, c2, .sl false (l.map encQ)], o4, o5, o6, o7]) []) :
    wl A 105 ⟨H0.length, [2, 4, 5, 7, 10, 89, 95, 102]⟩ (dactylref31_Twin_l1 g) ρ (H0 ++ [o0, o1, o2, .box vt [c0, c1, c2, .sl false (l.map encQ)], o4, o5, o6, o7]) [] Q tg := by
  refine wl_for2 (W := dactylref31_Twin_w1) (fun i ρ1 H wr => wr = [] ∧ ρ1 9 = vi i ∧ ∃ o4 o5 o6, H = H0 ++ [o0, o1, o2, .box vt [c0, c1, c2, .sl false (l.map encQ)], o4, o5, o6, o7] ∧
    GSl (H0.length + 6) 7 ((firsts (fun _ => twinQ n) l i).map encQ) (ρ1 8) o6) l.length
    (fun ρ1 H wr => wr = [] ∧ ∃ o4 o5 o6, H = H0 ++ [o0, o1, o2, .box vt [c0, c1, c2, .sl false (l.map encQ)], o4, o5, o6, o7] ∧ GSl (H0.length + 6) 7 ((l.map (twinQ n)).map encQ) (ρ1 8) o6)
    (by kernel_rfl) (by rfl) ⟨rfl, h9, o4, o5, o6, rfl, by rw [h8]; exact .nil _⟩ ?_ (by
      rintro ρ' H' wr' ⟨rfl, o4, o5, o6, rfl, hg⟩ hf
      exact hQ ρ' o4 o5 o6 hf hg)
  rintro i ρ1 H1 wr1 hil ⟨rfl, hi9, o4, o5, o6, rfl, hg⟩ hf
  have f1 : ρ1 1 = vi n := (hf 1 (by decide)).trans h1
  have f7 : ρ1 7 = .ptr (H0.length + 3) vt 0 := (hf 7 (by decide)).trans h7
  simp only [go_sem, ↓reduceIte, NB, NA, f7, hi9]
  refine branch_intro (fun hb => ?_) (fun hb => ?_)
  · have hlt : i < l.length := by simpa using hb
    have hqi := hq l[i] (List.getElem_mem hlt)
    have hlo := hqi.lenO
    have hs : ∀ m, restN m 1000 < 1000000 := fun m => restN_small (by decide) (by decide)
    have hd : ∀ m, 1 + (dec (restN m 1000)).length ≤ 4611686018427387904 := fun m => dec_small (hs m)
    simp only [go_sem, ↓reduceIte, NB, NA, NL, NE, f7, hi9, getElem?_map_of hlt, encQ]
    refine wc_draw' (keep := [1, 4]) (by rfl) (by rfl) ?_
    simp only [go_sem, ↓reduceIte, NB, NA, ND, NE, IL, BF, f1, hr, logOk, apartL, orderOk_intro]
    refine wc_cut (W := [52, 51, 53, 54, 55, 56, 57, 58, 59, 60, 62, 61, 63, 64, 65, 66, 68, 67, 69, 70, 71, 72, 73])
      (fun _ H wr => wr = [] ∧ H = H0 ++ [o0, o1, o2, .box vt [c0, c1, c2, .sl false (l.map encQ)], .box (o4.ver + 1) [vi l[i].kind, .sl false (l[i].stem.map encRun), .sl false (l[i].options.map encStr), .sl false (l[i].needs.map encInt), .str (twinKey n l[i]), vi (twinPoints n l[i].points), .sl false (l[i].reasons.map encStr)], o5, o6, o7]) (by rfl) ?_ ?_
    · simp only [dactylref31_Twin_b4]
      simp only [go_sem]
      have hopt : (if (l[i].options.length : Int) > 1 then (l[i].options.length : Int) else 1) = ((max 1 l[i].options.length : Nat) : Int) := by
        split <;> omega
      have hr0 : ∀ H, callI A (g "dactyl/dactylref31.rest") [vi n, vi ((max 1 l[i].options.length : Nat) : Int)] H = some (vi (restN n ((max 1 l[i].options.length : Nat) : Int)), H, []) := fun H => hr _ _ _ (by omega) (by omega)
      have hs0 : restN n ((max 1 l[i].options.length : Nat) : Int) < 1000000 := restN_small (by omega) (by omega)
      refine branch_intro (fun hb => ?_) (fun hb => ?_)
      · have hk : l[i].kind = 0 := by simpa using hb
        simp only [go_sem, ↓reduceIte, NB, NA, ND, NE, f1, hopt, hr0, hs0, hi, twinKey, hk, twinPoints]
      · have hk : l[i].kind ≠ 0 := by simpa using hb
        simp only [go_sem, NB]
        refine branch_intro (fun hb => ?_) (fun hb => ?_)
        · have hk1 : l[i].kind = 1 := by simpa using hb
          simp only [go_sem, ↓reduceIte, NB, NA, ND, NE, IL, IE, IB, f1, hr, hs, hi, twinKey, hk1, twinPoints]
        · have hk1 : l[i].kind ≠ 1 := by simpa using hb
          simp only [go_sem, NB]
          refine branch_intro (fun hb => ?_) (fun hb => ?_)
          · have hk2 : l[i].kind = 2 := by simpa using hb
            simp only [go_sem, ↓reduceIte, NB, NA, ND, NE, IL, IE, IB, f1, hr, hs, hi, bin_addS, hd, twinKey, hk2, twinPoints]
          · have hk2 : l[i].kind ≠ 2 := by simpa using hb
            simp only [go_sem, ↓reduceIte, twinKey, hk, hk1, hk2, twinPoints]
    · rintro ρ2 H2 wr2 ⟨rfl, rfl⟩ hf2
      have e1 : ρ2 1 = vi n := by rw [hf2 1 (by decide)]; simp only [go_sem, NB, f1]
      have e8 : ρ2 8 = ρ1 8 := by rw [hf2 8 (by decide)]; simp only [go_sem, NB]
      have e9 : ρ2 9 = vi i := by rw [hf2 9 (by decide)]; simp only [go_sem, NB, hi9]
      have e10 : ρ2 10 = .ptr (H0.length + 4) (o4.ver + 1) 0 := by rw [hf2 10 (by decide)]; simp only [go_sem, NB]
      simp only [go_sem]
      refine twin31_reasons hr hi (l := l[i].reasons) (n := n) hqi.lenR (by simp only [go_sem, NB, e1]) (by simp only [go_sem, NB, e10]) (by simp only [go_sem, NB]) (by simp only [go_sem]) ?_
      intro ρ3 o5' hf3 hg3
      have g8 : ρ3 8 = ρ1 8 := by rw [hf3 8 (by decide)]; simp only [go_sem, NB, e8]
      have g9 : ρ3 9 = vi i := by rw [hf3 9 (by decide)]; simp only [go_sem, NB, e9]
      have g10 : ρ3 10 = .ptr (H0.length + 4) (o4.ver + 1) 0 := by rw [hf3 10 (by decide)]; simp only [go_sem, NB, e10]
      obtain ⟨f', lf, o5'', hl1, hl2, hl3⟩ := hg3.lend (dataLL_map data_str _)
      obtain ⟨v', o', hg', happ⟩ := hg.app (new := [encQ (twinQ n l[i])]) (bytes := 128) (by simp) (by rfl) (by rw [List.length_map, firsts_length hil]; simp; omega)
      have hsu : (firsts (fun _ => twinQ n) l i).map encQ ++ [encQ (twinQ n l[i])] = (firsts (fun _ => twinQ n) l (i + 1)).map encQ := map_firsts_succ (f := fun _ => twinQ n) hlt rfl
      rw [hsu] at hg'
      simp only [encQ, twinQ] at happ
      simp only [go_sem, ↓reduceIte, NB, NA, NL, NE, g8, g9, g10, hg3.cellOk, hg3.strip1, hl1, hl2, hl3, happ]
      rw [wrap_succ (by omega)]
      exact ⟨hlt, rfl, _, _, _, rfl, hg'⟩
  · have hlt : i = l.length := by
      have : ¬ i < l.length := by simpa using hb
      omega
    subst hlt
    rw [firsts_all, mapIdx_const] at hg
    simp only [go_sem, NB]
    exact ⟨o4, o5, o6, rfl, hg⟩
theorem twin31_items {A : AProg} {g : String → Nat} (hr : SpecRest A (g "dactyl/dactylref31.rest")) (hi : SpecDecimal A g) {H0 : List AObj} {Q : AExit → SEnv → List AObj → List Nat → Prop} {tg}
    {n : Int} {vx vo : Nat} {t0 t1 : AV} {o1 o3 o4 o5 o6 o7 : AObj} {l : List Item} (hl : l.length ≤ 16) (hq : ∀ x ∈ l, x.Ok) {ρ : SEnv}
    (h1 : ρ 1 = vi n) (h2 : ρ 2 = .ptr H0.length vx 0) (h5 : ρ 5 = .ptr (H0.length + 2) vo 0) (h6 : ρ 6 = vi 0)
    (hQ : ∀ ρ' v o3 o4 o5 o6 o7, (∀ t, dactylref31_Twin_w0.contains t = false → ρ' t = ρ t) → GSl (H0.length + 7) 4 ((l.map (twinItem n)).map encItem) v o7 →
      Q (.exit 0) ρ' (H0 ++ [.box vx [t0, .sl false (l.map encItem)], o1, .box vo [t1, v], o3, o4, o5, o6, o7]) []) :
    wl A 105 ⟨H0.length, [2, 4, 5, 7, 10, 89, 95, 102]⟩ (dactylref31_Twin_l0 g) ρ (H0 ++ [.box vx [t0, .sl false (l.map encItem)], o1, .box vo [t1, .sl true []], o3, o4, o5, o6, o7]) [] Q tg := by
  refine wl_for2 (W := dactylref31_Twin_w0) (fun i ρ1 H wr => wr = [] ∧ ρ1 6 = vi i ∧ ∃ v o3 o4 o5 o6 o7, H = H0 ++ [.box vx [t0, .sl false (l.map encItem)], o1, .box vo [t1, v], o3, o4, o5, o6, o7] ∧
    GSl (H0.length + 7) 4 ((firsts (fun _ => twinItem n) l i).map encItem) v o7) l.length
    (fun ρ1 H wr => wr = [] ∧ ∃ v o3 o4 o5 o6 o7, H = H0 ++ [.box vx [t0, .sl false (l.map encItem)], o1, .box vo [t1, v], o3, o4, o5, o6, o7] ∧ GSl (H0.length + 7) 4 ((l.map (twinItem n)).map encItem) v o7)
    (by kernel_rfl) (by rfl) ⟨rfl, h6, .sl true [], o3, o4, o5, o6, o7, rfl, .nil _⟩ ?_ (by
      rintro ρ' H' wr' ⟨rfl, v, o3, o4, o5, o6, o7, rfl, hg⟩ hf
      exact hQ ρ' v o3 o4 o5 o6 o7 hf hg)
  rintro i ρ1 H1 wr1 hil ⟨rfl, hi6, v, o3, o4, o5, o6, o7, rfl, hg⟩ hf
  have f1 : ρ1 1 = vi n := (hf 1 (by decide)).trans h1
  have f2 : ρ1 2 = .ptr H0.length vx 0 := (hf 2 (by decide)).trans h2
  have f5 : ρ1 5 = .ptr (H0.length + 2) vo 0 := (hf 5 (by decide)).trans h5
  simp only [go_sem, ↓reduceIte, NB, NA, f2, hi6]
  refine branch_intro (fun hb => ?_) (fun hb => ?_)
  · have hlt : i < l.length := by simpa using hb
    have hqi := hq l[i] (List.getElem_mem hlt)
    simp only [go_sem, ↓reduceIte, NB, NA, NL, NE, f2, hi6, getElem?_map_of hlt, encItem]
    refine twin31_asks hr hi (l := l[i].ask) (n := n) hqi.lenA hqi.ask (by simp only [go_sem, NB, f1]) (by simp only [go_sem, NB]) (by simp only [go_sem, NB]) (by simp only [go_sem]) ?_
    intro ρ3 o4' o5' o6' hf3 hg3
    have g2 : ρ3 2 = .ptr H0.length vx 0 := by rw [hf3 2 (by decide)]; simp only [go_sem, NB, f2]
    have g5 : ρ3 5 = .ptr (H0.length + 2) vo 0 := by rw [hf3 5 (by decide)]; simp only [go_sem, NB, f5]
    have g6 : ρ3 6 = vi i := by rw [hf3 6 (by decide)]; simp only [go_sem, NB, hi6]
    have g7 : ρ3 7 = .ptr (H0.length + 3) (o3.ver + 1) 0 := by rw [hf3 7 (by decide)]; simp only [go_sem, NB]
    obtain ⟨f', lf, o6'', hl1, hl2, hl3⟩ := hg3.lend (dataLL_map data_q _)
    obtain ⟨v', o', hg', happ⟩ := hg.app (new := [encItem (twinItem n l[i])]) (bytes := 88) (by simp) (by rfl) (by rw [List.length_map, firsts_length hil]; simp; omega)
    have hsu : (firsts (fun _ => twinItem n) l i).map encItem ++ [encItem (twinItem n l[i])] = (firsts (fun _ => twinItem n) l (i + 1)).map encItem := map_firsts_succ (f := fun _ => twinItem n) hlt rfl
    rw [hsu] at hg'
    simp only [encItem, twinItem] at happ
    simp only [go_sem, ↓reduceIte, NB, NA, NL, NE, g5, g6, g7, hg3.cellOk, hg3.strip1, hl1, hl2, hl3, happ, hg'.cellOk, hg'.strip1]
    rw [wrap_succ (by omega)]
    exact ⟨hlt, rfl, _, _, _, _, _, _, rfl, hg'⟩
  · have hlt : i = l.length := by
      have : ¬ i < l.length := by simpa using hb
      omega
    subst hlt
    rw [firsts_all, mapIdx_const] at hg
    simp only [go_sem]
    exact ⟨v, o3, o4, o5, o6, o7, rfl, hg⟩
theorem twin31_spec {A : AProg} {g : String → Nat} (h : Has A g "dactyl/dactylref31.Twin" (dactylref31_Twin g)) (hr : SpecRest A (g "dactyl/dactylref31.rest")) (hi : SpecDecimal A g) (x : Exam) (hx : x.Ok) (n : Int) (H : List AObj) :
    callI A (g "dactyl/dactylref31.Twin") [encExam x, vi n] H = some (encExam (twinExam n x), H, []) := by
  refine h.call (by simp [dactylref31_Twin]) (by kernel_rfl) ?_
  simp only [dactylref31_Twin]
  simp only [go_sem, ↓reduceIte, NB, NA, NL, ND, NE, encExam]
  refine twin31_items hr hi (l := x.items) (n := n) hx.lenI hx.items (by simp only [go_sem, NB]) (by simp only [go_sem, NB]) (by simp only [go_sem, NB]) (by simp only [go_sem]) ?_
  intro ρ2 v o3 o4 o5 o6 o7 hf2 hg
  have g4 : ρ2 4 = .ptr (H.length + 1) 1 0 := by rw [hf2 4 (by decide)]; simp only [go_sem, NB]
  have g5 : ρ2 5 = .ptr (H.length + 2) 1 0 := by rw [hf2 5 (by decide)]; simp only [go_sem, NB]
  obtain ⟨f', lf, o7', hl1, hl2, hl3⟩ := hg.lend (dataLL_map data_item _)
  simp only [go_sem, ↓reduceIte, NB, NA, g4, g5, hg.cellOk, hl1, hl2, hl3, underLL_of_data (dataLL_map data_item _), twinExam]
end Go.Proofs.AM
end
