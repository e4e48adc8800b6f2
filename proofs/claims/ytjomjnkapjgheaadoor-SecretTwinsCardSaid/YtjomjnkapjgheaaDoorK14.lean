/- Part 14 of the proof that stands in the last text of this folder (lemmas; no statement of its own). -/
import Derived.Test.YtjomjnkapjgheaaDoorK13
section
open Nat renaming reduceBEq → NB, reduceAdd → NA, reduceSub → NS, reduceMul → NM, reduceLT → NL, reduceLeDiff → ND, reduceEqDiff → NE
open Int renaming reduceLT → IL, reduceLE → ID, reduceToNat → IT, reduceEq → IE, reduceBEq → IB, reduceBNe → IN, reduceAdd → IA, reduceSub → IS, reduceNeg → IM
open Bool renaming not_true → BT, not_false → BF
set_option linter.unusedVariables false
set_option maxRecDepth 8000
namespace Go.Proofs.AM
open Go
abbrev secret_Twin_d0 (g : String → Nat) : List AOper := [⟨some 35, .mov (.tmp 8), none, []⟩,⟨some 36, .mov (.tmp 8), none, []⟩,⟨some 37, .nilck (.tmp 36), none, [1]⟩,⟨some 38, .fa 5 (.tmp 37), none, [2, 1]⟩,⟨some 39, .load 1 false (.tmp 38), none, [3, 2, 1]⟩,⟨some 40, .bin .add .no (.tmp 39) (.const (.int .i64 1)), none, [4, 3, 2, 1]⟩,⟨some 41, .mov (.tmp 1), none, []⟩,⟨some 42, .callv (.const (.fn (g "dactyl/secret.rest") [] [])) [(.tmp 41), (.const (.int .i64 100))], none, [6]⟩,⟨some 43, .bin .add .no (.tmp 40) (.tmp 42), none, [5, 4, 3, 2, 1, 7, 6]⟩,⟨some 44, .callv (.const (.fn (g "dactyl/secret.rest") [] [])) [(.tmp 43), (.const (.int .i64 101))], none, [8, 5, 4, 3, 2, 1, 7, 6]⟩,⟨some 45, .nilck (.tmp 35), none, [0, 9, 8, 5, 4, 3, 2, 1, 7, 6]⟩,⟨some 46, .fa 5 (.tmp 45), none, [10, 0, 9, 8, 5, 4, 3, 2, 1, 7, 6]⟩,⟨none, .store 1 (.tmp 46) (.tmp 44), none, [11, 10, 0, 9, 8, 5, 4, 3, 2, 1, 7, 6]⟩]
abbrev secret_Twin_k0 : List Nat := [4, 7]
def secret_Twin_b4 (g : String → Nat) : ACode := .block 4 (.seq (.region false [⟨some 55, .bin .eql .no (.tmp 50) (.const (.int .i64 0)), none, []⟩,⟨some 54, .mov (.tmp 55), none, [0]⟩]) <| .cond (.tmp 54) (.region false [⟨some 56, .mov (.tmp 8), none, []⟩,⟨some 57, .mov (.tmp 1), none, []⟩,⟨some 58, .mov (.tmp 8), none, []⟩,⟨some 59, .nilck (.tmp 58), none, [2]⟩,⟨some 60, .fa 2 (.tmp 59), none, [3, 2]⟩,⟨some 61, .load 1 false (.tmp 60), none, [4, 3, 2]⟩,⟨some 62, .lenV (.tmp 61), none, [5, 4, 3, 2]⟩,⟨some 63, .mm true [(.const (.int .i64 1)), (.tmp 62)], none, [6, 5, 4, 3, 2]⟩,⟨some 64, .callv (.const (.fn (g "dactyl/secret.rest") [] [])) [(.tmp 57), (.tmp 63)], none, [1, 7, 6, 5, 4, 3, 2]⟩,⟨some 65, .callv (.const (.fn (g "strconv.Itoa") [] [])) [(.tmp 64)], none, [8, 1, 7, 6, 5, 4, 3, 2]⟩,⟨some 66, .nilck (.tmp 56), none, [0, 9, 8, 1, 7, 6, 5, 4, 3, 2]⟩,⟨some 67, .fa 4 (.tmp 66), none, [10, 0, 9, 8, 1, 7, 6, 5, 4, 3, 2]⟩,⟨none, .store 1 (.tmp 67) (.tmp 65), none, [11, 10, 0, 9, 8, 1, 7, 6, 5, 4, 3, 2]⟩]) (.seq (.region false [⟨some 69, .bin .eql .no (.tmp 50) (.const (.int .i64 1)), none, []⟩,⟨some 68, .mov (.tmp 69), none, [0]⟩]) <| .cond (.tmp 68) (.region false [⟨some 70, .mov (.tmp 8), none, []⟩,⟨some 71, .mov (.tmp 1), none, []⟩,⟨some 72, .callv (.const (.fn (g "dactyl/secret.rest") [] [])) [(.tmp 71), (.const (.int .i64 1000))], none, [1]⟩,⟨some 73, .callv (.const (.fn (g "strconv.Itoa") [] [])) [(.tmp 72)], none, [2, 1]⟩,⟨some 74, .nilck (.tmp 70), none, [0, 3, 2, 1]⟩,⟨some 75, .fa 4 (.tmp 74), none, [4, 0, 3, 2, 1]⟩,⟨none, .store 1 (.tmp 75) (.tmp 73), none, [5, 4, 0, 3, 2, 1]⟩]) (.seq (.region false [⟨some 77, .bin .eql .no (.tmp 50) (.const (.int .i64 2)), none, []⟩,⟨some 76, .mov (.tmp 77), none, [0]⟩]) <| .cond (.tmp 76) (.region false [⟨some 78, .mov (.tmp 8), none, []⟩,⟨some 79, .mov (.tmp 1), none, []⟩,⟨some 80, .callv (.const (.fn (g "dactyl/secret.rest") [] [])) [(.tmp 79), (.const (.int .i64 1000))], none, [1]⟩,⟨some 81, .callv (.const (.fn (g "strconv.Itoa") [] [])) [(.tmp 80)], none, [2, 1]⟩,⟨some 82, .bin .add .no (.const (.str [107])) (.tmp 81), none, [3, 2, 1]⟩,⟨some 83, .nilck (.tmp 78), none, [0, 4, 3, 2, 1]⟩,⟨some 84, .fa 4 (.tmp 83), none, [5, 0, 4, 3, 2, 1]⟩,⟨none, .store 1 (.tmp 84) (.tmp 82), none, [6, 5, 0, 4, 3, 2, 1]⟩]) (.region false [⟨some 51, .mov (.tmp 8), none, []⟩,⟨some 52, .nilck (.tmp 51), none, [0]⟩,⟨some 53, .fa 4 (.tmp 52), none, [1, 0]⟩,⟨none, .store 1 (.tmp 53) (.const (.str [])), none, [2, 1, 0]⟩]))))
abbrev secret_Twin_d1 (g : String → Nat) : List AOper := [⟨some 101, .mov (.tmp 8), none, []⟩,⟨some 102, .nilck (.tmp 101), none, [0]⟩,⟨some 103, .fa 6 (.tmp 102), none, [1, 0]⟩,⟨some 104, .load 1 false (.tmp 103), none, [2, 1, 0]⟩,⟨some 105, .mov (.tmp 9), none, []⟩,⟨some 106, .mov (.tmp 1), none, []⟩,⟨some 107, .mov (.tmp 9), none, []⟩,⟨some 108, .bin .add .no (.tmp 106) (.tmp 107), none, [5, 6]⟩,⟨some 109, .callv (.const (.fn (g "dactyl/secret.rest") [] [])) [(.tmp 108), (.const (.int .i64 1000))], none, [7, 5, 6]⟩,⟨some 110, .callv (.const (.fn (g "strconv.Itoa") [] [])) [(.tmp 109)], none, [8, 7, 5, 6]⟩,⟨some 111, .bin .add .no (.const (.str [114])) (.tmp 110), none, [9, 8, 7, 5, 6]⟩,⟨some 112, .iaV (.tmp 104) (.tmp 105) 1, none, [3, 2, 1, 0, 4, 10, 9, 8, 7, 5, 6]⟩,⟨none, .store 1 (.tmp 112) (.tmp 111), none, [11, 3, 2, 1, 0, 4, 10, 9, 8, 7, 5, 6]⟩]
abbrev secret_Twin_k1 : List Nat := [3, 8, 9]
abbrev secret_Twin_l2 (g : String → Nat) : ACode := .seq (.region false [⟨some 99, .bin .lss .no (.tmp 98) (.tmp 97), none, []⟩]) <| .seq (.cond (.tmp 99) (.skip) (.exit 5)) <| .seq (.block 6 (.seq (.region false [⟨some 100, .mov (.tmp 98), none, []⟩,⟨some 9, .mov (.tmp 100), none, [0]⟩]) <| .region true (secret_Twin_d1 g))) <| .region false [⟨some 113, .bin .add .no (.tmp 98) (.const (.int .i64 1)), none, []⟩,⟨some 98, .mov (.tmp 113), none, [0]⟩]
abbrev secret_Twin_w2 : List Nat := [99, 100, 9, 101, 102, 103, 104, 105, 106, 107, 108, 109, 110, 111, 112, 113, 98]
abbrev secret_Twin_l1 (g : String → Nat) : ACode := .seq (.region false [⟨some 30, .bin .lss .no (.tmp 29) (.tmp 28), none, []⟩]) <| .seq (.cond (.tmp 30) (.skip) (.exit 2)) <| .seq (.block 3 (.seq (.region false [⟨some 31, .mov (.tmp 29), none, []⟩,⟨some 7, .mov (.tmp 31), none, [0]⟩]) <| .seq (.region false [⟨some 32, .mov (.tmp 6), none, []⟩,⟨some 33, .mov (.tmp 7), none, []⟩,⟨some 34, .iaV (.tmp 32) (.tmp 33) 7, none, [0, 1]⟩,⟨some 8, .mov (.tmp 34), none, [2, 0, 1]⟩]) <| .seq (.region true (secret_Twin_d0 g)) <| .seq (.seq (.region false [⟨some 47, .mov (.tmp 8), none, []⟩,⟨some 48, .nilck (.tmp 47), none, [0]⟩,⟨some 49, .fa 0 (.tmp 48), none, [1, 0]⟩,⟨some 50, .load 1 false (.tmp 49), none, [2, 1, 0]⟩]) <| secret_Twin_b4 g) <| .seq (.region false [⟨some 85, .mov (.tmp 8), none, []⟩,⟨some 86, .mov (.tmp 8), none, []⟩,⟨some 87, .nilck (.tmp 86), none, [1]⟩,⟨some 88, .fa 6 (.tmp 87), none, [2, 1]⟩,⟨some 89, .load 1 false (.tmp 88), none, [3, 2, 1]⟩,⟨some 90, .callv (.const (.fn (g "slices.Clone[[]string,string]") [] [])) [(.tmp 89)], none, [4, 3, 2, 1]⟩,⟨some 91, .nilck (.tmp 85), none, [0, 5, 4, 3, 2, 1]⟩,⟨some 92, .fa 6 (.tmp 91), none, [6, 0, 5, 4, 3, 2, 1]⟩,⟨none, .store 1 (.tmp 92) (.tmp 90), none, [7, 6, 0, 5, 4, 3, 2, 1]⟩]) <| .seq (.region false [⟨some 93, .mov (.tmp 8), none, []⟩,⟨some 94, .nilck (.tmp 93), none, [0]⟩,⟨some 95, .fa 6 (.tmp 94), none, [1, 0]⟩,⟨some 96, .load 1 false (.tmp 95), none, [2, 1, 0]⟩,⟨some 97, .lenV (.tmp 96), none, [3, 2, 1, 0]⟩,⟨some 98, .mov (.const (.int .i64 0)), none, []⟩]) <| .block 5 (.loop (secret_Twin_l2 g)))) <| .seq (.frz [(1, 92)]) <| .region false [⟨some 114, .bin .add .no (.tmp 29) (.const (.int .i64 1)), none, []⟩,⟨some 29, .mov (.tmp 114), none, [0]⟩]
abbrev secret_Twin_w1 : List Nat := [30, 31, 7, 32, 33, 34, 8, 35, 36, 37, 38, 39, 40, 41, 42, 43, 44, 45, 46, 47, 48, 49, 50, 55, 54, 56, 57, 58, 59, 60, 61, 62, 63, 64, 65, 66, 67, 69, 68, 70, 71, 72, 73, 74, 75, 77, 76, 78, 79, 80, 81, 82, 83, 84, 51, 52, 53, 85, 86, 87, 88, 89, 90, 91, 92, 93, 94, 95, 96, 97, 98, 99, 100, 9, 101, 102, 103, 104, 105, 106, 107, 108, 109, 110, 111, 112, 113, 98, 92, 114, 29]
abbrev secret_Twin_l0 (g : String → Nat) : ACode := .seq (.region false [⟨some 18, .bin .lss .no (.tmp 17) (.tmp 16), none, []⟩]) <| .seq (.cond (.tmp 18) (.skip) (.exit 0)) <| .seq (.block 1 (.seq (.region false [⟨some 19, .mov (.tmp 17), none, []⟩,⟨some 5, .mov (.tmp 19), none, [0]⟩]) <| .seq (.region false [⟨some 20, .fa 1 (.tmp 2), none, []⟩,⟨some 21, .load 1 false (.tmp 20), none, [0]⟩,⟨some 22, .mov (.tmp 5), none, []⟩,⟨some 23, .iaV (.tmp 21) (.tmp 22) 4, none, [1, 0, 2]⟩,⟨some 24, .fa 3 (.tmp 23), none, [3, 1, 0, 2]⟩,⟨some 25, .load 1 false (.tmp 24), none, [4, 3, 1, 0, 2]⟩,⟨some 26, .callv (.const (.fn (g "slices.Clone[[]dactyl/api.Question,dactyl/api.Question]") [] [])) [(.tmp 25)], none, [5, 4, 3, 1, 0, 2]⟩,⟨some 6, .mov (.tmp 26), none, [6, 5, 4, 3, 1, 0, 2]⟩]) <| .seq (.seq (.region false [⟨some 27, .mov (.tmp 6), none, []⟩,⟨some 28, .lenV (.tmp 27), none, [0]⟩,⟨some 29, .mov (.const (.int .i64 0)), none, []⟩]) <| .block 2 (.loop (secret_Twin_l1 g))) <| .seq (.frz [(0, 6)]) <| .region false [⟨some 115, .fa 1 (.tmp 2), none, []⟩,⟨some 116, .load 1 false (.tmp 115), none, [0]⟩,⟨some 117, .mov (.tmp 5), none, []⟩,⟨some 118, .mov (.tmp 6), none, []⟩,⟨some 119, .iaV (.tmp 116) (.tmp 117) 4, none, [1, 0, 2, 3]⟩,⟨some 120, .fa 3 (.tmp 119), none, [4, 1, 0, 2, 3]⟩,⟨none, .store 1 (.tmp 120) (.tmp 118), none, [5, 4, 1, 0, 2, 3]⟩])) <| .region false [⟨some 121, .bin .add .no (.tmp 17) (.const (.int .i64 1)), none, []⟩,⟨some 17, .mov (.tmp 121), none, [0]⟩]
abbrev secret_Twin_w0 : List Nat := [18, 19, 5, 20, 21, 22, 23, 24, 25, 26, 6, 27, 28, 29, 30, 31, 7, 32, 33, 34, 8, 35, 36, 37, 38, 39, 40, 41, 42, 43, 44, 45, 46, 47, 48, 49, 50, 55, 54, 56, 57, 58, 59, 60, 61, 62, 63, 64, 65, 66, 67, 69, 68, 70, 71, 72, 73, 74, 75, 77, 76, 78, 79, 80, 81, 82, 83, 84, 51, 52, 53, 85, 86, 87, 88, 89, 90, 91, 92, 93, 94, 95, 96, 97, 98, 99, 100, 9, 101, 102, 103, 104, 105, 106, 107, 108, 109, 110, 111, 112, 113, 98, 92, 114, 29, 6, 115, 116, 117, 118, 119, 120, 121, 17]
def secret_Twin (g : String → Nat) : AFn := ⟨123, [2, 4, 12, 26, 90], [.cell 4 2 true],
  .seq (.region false [⟨some 2, .box 2 (.tmp 0), none, []⟩,
    ⟨some 4, .alloc [(.str []), (.sl true [])], none, []⟩]) <|
  .seq (.region false [⟨some 10, .fa 1 (.tmp 2), none, []⟩,
    ⟨some 11, .load 1 false (.tmp 10), none, [0]⟩,
    ⟨some 12, .callv (.const (.fn (g "slices.Clone[[]dactyl/api.Item,dactyl/api.Item]") [] [])) [(.tmp 11)], none, [1, 0]⟩,
    ⟨some 13, .fa 1 (.tmp 2), none, [2, 1, 0]⟩,
    ⟨none, .store 1 (.tmp 13) (.tmp 12), none, [3, 2, 1, 0]⟩]) <|
  .seq (.seq (.region false [⟨some 14, .fa 1 (.tmp 2), none, []⟩,
    ⟨some 15, .load 1 false (.tmp 14), none, [0]⟩,
    ⟨some 16, .lenV (.tmp 15), none, [1, 0]⟩,
    ⟨some 17, .mov (.const (.int .i64 0)), none, []⟩]) <|
  .block 0 (.loop (secret_Twin_l0 g))) <|
  .seq (.region false [⟨some 122, .load 2 true (.tmp 2), none, []⟩,
    ⟨none, .store 2 (.tmp 4) (.tmp 122), none, [0]⟩]) <|
  .ret⟩
def twinReason (n : Int) (j : Nat) : Str := 114 :: dec (restN (IntKind.i64.wrap (n + j)) 1000)
def twinKey (n : Int) (q : Question) : Str :=
  if q.kind = 0 then dec (restN n (max 1 q.options.length : Nat)) else if q.kind = 1 then dec (restN n 1000) else if q.kind = 2 then 107 :: dec (restN n 1000) else []
def twinPoints (n p : Int) : Int := restN (IntKind.i64.wrap (IntKind.i64.wrap (p + 1) + restN n 100)) 101
def twinQ (n : Int) (q : Question) : Question := { q with points := twinPoints n q.points, key := twinKey n q, reasons := q.reasons.mapIdx fun j _ => twinReason n j }
def twinItem (n : Int) (x : Item) : Item := { x with ask := x.ask.map (twinQ n) }
def twinExam (n : Int) (x : Exam) : Exam := { x with items := x.items.map (twinItem n) }
theorem twin_reasons {A : AProg} {g : String → Nat} (hr : SpecRest A (g "dactyl/secret.rest")) (hi : SpecItoa A g) {H0 : List AObj} {Q : AExit → SEnv → List AObj → List Nat → Prop} {tg}
    {n : Int} {k na va vr : Nat} {o0 o1 o2 : AObj} {asks : List (List AV)} {c0 c1 c2 c3 c4 c5 : AV} {l : List Str} (hl : l.length < 4611686018427387904) (hna : asks.length = na) (hk : k < na)
    (hrow : asks[k]? = some [c0, c1, c2, c3, c4, c5, .sr (H0.length + 4) vr l.length]) {ρ : SEnv}
    (h1 : ρ 1 = vi n) (h8 : ρ 8 = .vp (H0.length + 3) va na 7 k 0) (h97 : ρ 97 = vi l.length) (h98 : ρ 98 = vi 0)
    (hQ : ∀ ρ', (∀ t, secret_Twin_w2.contains t = false → ρ' t = ρ t) → Q (.exit 5) ρ' (H0 ++ [o0, o1, o2, .vec va 7 asks, .vec vr 1 ((l.mapIdx fun j _ => twinReason n j).map encStr)]) []) :
    wl A 123 ⟨H0.length, [2, 4, 12, 26, 90]⟩ (secret_Twin_l2 g) ρ (H0 ++ [o0, o1, o2, .vec va 7 asks, .vec vr 1 (l.map encStr)]) [] Q tg := by
  refine wl_for (W := secret_Twin_w2) (fun i ρ1 H wr => wr = [] ∧ ρ1 98 = vi i ∧ H = H0 ++ [o0, o1, o2, .vec va 7 asks, .vec vr 1 ((upto (fun j _ => twinReason n j) l i).map encStr)]) l.length (by kernel_rfl) (by rfl) ⟨rfl, h98, by rw [upto_zero]⟩ ?_
  rintro i ρ1 H1 wr1 hil ⟨rfl, hi98, rfl⟩ hf
  have f1 : ρ1 1 = vi n := (hf 1 (by decide)).trans h1
  have f8 : ρ1 8 = .vp (H0.length + 3) va na 7 k 0 := (hf 8 (by decide)).trans h8
  have f97 : ρ1 97 = vi l.length := (hf 97 (by decide)).trans h97
  have hd : ∀ m, 1 + (dec (restN m 1000)).length ≤ 4611686018427387904 := fun m => dec_small (restN_small (by decide) (by decide))
  simp only [go_sem, f97, hi98]
  refine branch_intro (fun hb => ?_) (fun hb => ?_)
  · have hlt : i < l.length := by simpa using hb
    have hset : ((upto (fun j _ => twinReason n j) l i).map encStr).set i [.str (114 :: dec (restN (IntKind.i64.wrap (n + i)) 1000))] = (upto (fun j _ => twinReason n j) l (i + 1)).map encStr := map_upto_set hlt rfl
    simp only [go_sem, NB, hi98]
    rw [wc_draw (H0 := H0 ++ [o0, o1, o2, .vec va 7 asks, .vec vr 1 ((upto (fun j _ => twinReason n j) l i).map encStr)]) (keep := [3, 8, 9]) (by rfl) (by rfl)]
    simp only [go_sem, ↓reduceIte, NB, NA, NE, IL, ID, BF, f1, f8, hi98, hna, hrow, hr, hi, restN_small, bin_addS, hd, hlt, map_upto_get hlt, encStr, hset, logOk, apartL, orderOk_intro]
    rw [wrap_succ (by omega)]
  · have hlt : i = l.length := by
      have : ¬ i < l.length := by simpa using hb
      omega
    subst hlt
    rw [upto_all]
    exact hQ _ fun t ht => (upd_other fun e => by subst e; exact absurd ht (by decide)).trans (hf t ht)
theorem clone_ev {A : AProg} {f k bytes : Nat} (h : SpecClone A f k bytes) {α : Type} {enc : α → List AV} (hk : ∀ a, (enc a).length = k) (hd : ∀ a, dataL (enc a) = true) (l : List α) (H : List AObj)
    (hl : l.length * (bytes + 1) ≤ 1099511627776) : callI A f [.sl false (l.map enc)] H = some (match l with | [] => .sl false [] | _ => .own k (l.map enc), H, []) := by
  cases l with
  | nil => exact h.nil H
  | cons a r => exact h.cons _ _ H (hk a) (dataLL_map hd (a :: r)) (by simpa using hl)
theorem twin_asks {A : AProg} {g : String → Nat} (hr : SpecRest A (g "dactyl/secret.rest")) (hi : SpecItoa A g) (hc : SpecClone A (g "slices.Clone[[]string,string]") 1 16) {H0 : List AObj} {Q : AExit → SEnv → List AObj → List Nat → Prop} {tg}
    {n : Int} {va : Nat} {o0 o1 o2 o4 : AObj} {l : List Question} (hl : l.length < 4611686018427387904) (hq : ∀ q ∈ l, q.reasons.length < 1073741824 ∧ q.options.length < 1000000) {ρ : SEnv}
    (h1 : ρ 1 = vi n) (h6 : ρ 6 = .sr (H0.length + 3) va l.length) (h28 : ρ 28 = vi l.length) (h29 : ρ 29 = vi 0)
    (hQ : ∀ ρ' o4, (∀ t, secret_Twin_w1.contains t = false → ρ' t = ρ t) → Q (.exit 2) ρ' (H0 ++ [o0, o1, o2, .vec va 7 ((l.map (twinQ n)).map encQ), o4]) []) :
    wl A 123 ⟨H0.length, [2, 4, 12, 26, 90]⟩ (secret_Twin_l1 g) ρ (H0 ++ [o0, o1, o2, .vec va 7 (l.map encQ), o4]) [] Q tg := by
  refine wl_for (W := secret_Twin_w1) (fun i ρ1 H wr => wr = [] ∧ ρ1 29 = vi i ∧ ∃ o4, H = H0 ++ [o0, o1, o2, .vec va 7 ((upto (fun _ => twinQ n) l i).map encQ), o4]) l.length (by kernel_rfl) (by rfl) ⟨rfl, h29, o4, by rw [upto_zero]⟩ ?_
  rintro i ρ1 H1 wr1 hil ⟨rfl, hi29, o4, rfl⟩ hf
  have f1 : ρ1 1 = vi n := (hf 1 (by decide)).trans h1
  have f6 : ρ1 6 = .sr (H0.length + 3) va l.length := (hf 6 (by decide)).trans h6
  have f28 : ρ1 28 = vi l.length := (hf 28 (by decide)).trans h28
  simp only [go_sem, f28, hi29]
  refine branch_intro (fun hb => ?_) (fun hb => ?_)
  · have hlt : i < l.length := by simpa using hb
    simp only [go_sem, ↓reduceIte, NB, f6, hi29, hlt]
    refine wc_draw' (keep := [4, 7]) (by rfl) (by rfl) ?_
    simp only [go_sem, ↓reduceIte, NB, NA, ND, NE, IL, BF, f1, hlt, map_upto_get hlt, encQ, hr, logOk, apartL, orderOk_intro]
    have hqi := hq l[i] (List.getElem_mem hlt)
    have hd : ∀ m, 1 + (dec (restN m 1000)).length ≤ 4611686018427387904 := fun m => dec_small (restN_small (by decide) (by decide))
    refine wc_cut (W := [55, 54, 56, 57, 58, 59, 60, 61, 62, 63, 64, 65, 66, 67, 69, 68, 70, 71, 72, 73, 74, 75, 77, 76, 78, 79, 80, 81, 82, 83, 84, 51, 52, 53])
      (fun _ H wr => wr = [] ∧ H = H0 ++ [o0, o1, o2, .vec va 7 (((upto (fun _ => twinQ n) l i).map encQ).set i
        [vi l[i].kind, .sl false (l[i].stem.map encRun), .sl false (l[i].options.map encStr), .sl false (l[i].needs.map encInt), .str (twinKey n l[i]), vi (twinPoints n l[i].points), .sl false (l[i].reasons.map encStr)]), o4]) (by rfl) ?_ ?_
    · simp only [secret_Twin_b4]
      simp only [go_sem]
      have hopt : (if (l[i].options.length : Int) > 1 then (l[i].options.length : Int) else 1) = ((max 1 l[i].options.length : Nat) : Int) := by
        split <;> omega
      have hr0 : ∀ H, callI A (g "dactyl/secret.rest") [vi n, vi ((max 1 l[i].options.length : Nat) : Int)] H = some (vi (restN n ((max 1 l[i].options.length : Nat) : Int)), H, []) := fun H => hr _ _ _ (by omega) (by omega)
      have hs0 : restN n ((max 1 l[i].options.length : Nat) : Int) < 1000000 := restN_small (by omega) (by omega)
      have hs : ∀ m, restN m 1000 < 1000000 := fun m => restN_small (by decide) (by decide)
      refine branch_intro (fun hb => ?_) (fun hb => ?_)
      · have hk : l[i].kind = 0 := by simpa using hb
        simp only [go_sem, ↓reduceIte, NB, NA, ND, NE, hlt, f1, hopt, hr0, hs0, hi, twinKey, hk, twinPoints]
      · have hk : l[i].kind ≠ 0 := by simpa using hb
        simp only [go_sem, NB]
        refine branch_intro (fun hb => ?_) (fun hb => ?_)
        · have hk1 : l[i].kind = 1 := by simpa using hb
          simp only [go_sem, ↓reduceIte, NB, NA, ND, NE, IL, IE, IB, hlt, f1, hr, hs, hi, twinKey, hk1, twinPoints]
        · have hk1 : l[i].kind ≠ 1 := by simpa using hb
          simp only [go_sem, NB]
          refine branch_intro (fun hb => ?_) (fun hb => ?_)
          · have hk2 : l[i].kind = 2 := by simpa using hb
            simp only [go_sem, ↓reduceIte, NB, NA, ND, NE, IL, IE, IB, hlt, f1, hr, hs, hi, bin_addS, hd, twinKey, hk2, twinPoints]
          · have hk2 : l[i].kind ≠ 2 := by simpa using hb
            simp only [go_sem, ↓reduceIte, NB, NA, ND, hlt, twinKey, hk, hk1, hk2, twinPoints]
    · rintro ρ2 H2 wr2 ⟨rfl, rfl⟩ hf2
      have e1 : ρ2 1 = vi n := by rw [hf2 1 (by decide)]; simp only [go_sem, NB, f1]
      have e8 : ρ2 8 = .vp (H0.length + 3) va l.length 7 i 0 := by rw [hf2 8 (by decide)]; simp only [go_sem, NB]
      have e29 : ρ2 29 = vi i := by rw [hf2 29 (by decide)]; simp only [go_sem, NB, hi29]
      have hlen : l[i].reasons.length = l[i].reasons.length := rfl
      cases hrs : l[i].reasons with
      | nil =>
        simp only [go_sem, ↓reduceIte, NB, NA, NE, hlt, e8, hc.nil]
        refine wl_step (by kernel_rfl) ?_
        simp only [go_sem, ↓reduceIte, NB, NA, hlt, e29]
        rw [wrap_succ (by omega)]
        refine ⟨rfl, o4, ?_⟩
        rw [map_upto_set hlt]
        simp only [encQ, twinQ, hrs, List.mapIdx_nil, List.map_nil]
      | cons s rs =>
        have hcl := fun H => hc.cons (encStr s) (rs.map encStr) H rfl (dataLL_map data_str (s :: rs)) (by have := hqi.1; rw [hrs] at this; simp at this ⊢; omega)
        simp only [go_sem, ↓reduceIte, NB, NA, NL, NE, hlt, e8, hcl]
        refine twin_reasons hr hi (l := s :: rs) (n := n) (k := i) (na := l.length) (va := va) (by have := hqi.1; rw [hrs] at this; omega) (by simp only [go_sem]) hlt (List.getElem?_set_self (by simp only [go_sem, hlt])) (by simp only [go_sem, NB, e1]) (by simp only [go_sem, NB, e8]) (by simp only [go_sem, NB]) (by simp only [go_sem]) ?_
        intro ρ3 hf3
        have g92 : ρ3 92 = .vp (H0.length + 3) va l.length 7 i 6 := by rw [hf3 92 (by decide)]; simp only [go_sem, NB]
        have g29 : ρ3 29 = vi i := by rw [hf3 29 (by decide)]; simp only [go_sem, NB, e29]
        simp only [go_sem, ↓reduceIte, NA, hlt, g92, g29, List.length_mapIdx, allStill_rows (dataLL_map data_str _), frzCells]
        rw [wrap_succ (by omega)]
        refine ⟨rfl, .gone (o4.ver + 1), ?_⟩
        rw [map_upto_set hlt]
        simp only [encQ, twinQ, hrs]
  · have hlt : i = l.length := by
      have : ¬ i < l.length := by simpa using hb
      omega
    subst hlt
    rw [upto_all]
    rw [mapIdx_const]
    exact hQ _ _ fun t ht => (upd_other fun e => by subst e; exact absurd ht (by decide)).trans (hf t ht)
theorem twin_items {A : AProg} {g : String → Nat} (hr : SpecRest A (g "dactyl/secret.rest")) (hi : SpecItoa A g) (hc : SpecClone A (g "slices.Clone[[]string,string]") 1 16)
    (hc2 : SpecClone A (g "slices.Clone[[]dactyl/api.Question,dactyl/api.Question]") 7 128) {H0 : List AObj} {Q : AExit → SEnv → List AObj → List Nat → Prop} {tg}
    {n : Int} {vx vi2 : Nat} {t0 : AV} {o1 o3 o4 : AObj} {l : List Item} (hl : l.length < 4611686018427387904) (hq : ∀ x ∈ l, x.ask.length < 1073741824 ∧ ∀ q ∈ x.ask, q.reasons.length < 1073741824 ∧ q.options.length < 1000000) {ρ : SEnv}
    (h1 : ρ 1 = vi n) (h2 : ρ 2 = .ptr H0.length vx 0) (h16 : ρ 16 = vi l.length) (h17 : ρ 17 = vi 0)
    (hQ : ∀ ρ' o3 o4, (∀ t, secret_Twin_w0.contains t = false → ρ' t = ρ t) → Q (.exit 0) ρ' (H0 ++ [.box vx [t0, .sr (H0.length + 2) vi2 l.length], o1, .vec vi2 4 ((l.map (twinItem n)).map encItem), o3, o4]) []) :
    wl A 123 ⟨H0.length, [2, 4, 12, 26, 90]⟩ (secret_Twin_l0 g) ρ (H0 ++ [.box vx [t0, .sr (H0.length + 2) vi2 l.length], o1, .vec vi2 4 (l.map encItem), o3, o4]) [] Q tg := by
  refine wl_for (W := secret_Twin_w0) (fun i ρ1 H wr => wr = [] ∧ ρ1 17 = vi i ∧ ∃ o3 o4, H = H0 ++ [.box vx [t0, .sr (H0.length + 2) vi2 l.length], o1, .vec vi2 4 ((upto (fun _ => twinItem n) l i).map encItem), o3, o4]) l.length (by kernel_rfl) (by rfl)
    ⟨rfl, h17, o3, o4, by rw [upto_zero]⟩ ?_
  rintro i ρ1 H1 wr1 hil ⟨rfl, hi17, o3, o4, rfl⟩ hf
  have f1 : ρ1 1 = vi n := (hf 1 (by decide)).trans h1
  have f2 : ρ1 2 = .ptr H0.length vx 0 := (hf 2 (by decide)).trans h2
  have f16 : ρ1 16 = vi l.length := (hf 16 (by decide)).trans h16
  simp only [go_sem, f16, hi17]
  refine branch_intro (fun hb => ?_) (fun hb => ?_)
  · have hlt : i < l.length := by simpa using hb
    have hqi := hq l[i] (List.getElem_mem hlt)
    cases has : l[i].ask with
    | nil =>
      simp only [go_sem, ↓reduceIte, NB, NA, NE, f2, hi17, hlt, map_upto_get hlt, encItem, has, hc2.nil]
      refine wl_step (by kernel_rfl) ?_
      simp only [go_sem, ↓reduceIte, NB, NA, f2, hi17, hlt, map_upto_get hlt, encItem, has]
      rw [wrap_succ (by omega)]
      refine ⟨rfl, o3, o4, ?_⟩
      rw [map_upto_set hlt]
      simp only [encItem, twinItem, has, List.map_nil]
    | cons q r =>
      have hcl := fun H => hc2.cons (encQ q) (r.map encQ) H rfl (dataLL_map data_q (q :: r)) (by have := hqi.1; rw [has] at this; simp at this ⊢; omega)
      simp only [go_sem, ↓reduceIte, NB, NA, NL, NE, f2, hi17, hlt, map_upto_get hlt, encItem, has, hcl]
      refine twin_asks hr hi hc (l := q :: r) (n := n) (va := o3.ver + 1) (by have := hqi.1; rw [has] at this; omega) (by have := hqi.2; rw [has] at this; exact this) (by simp only [go_sem, NB, f1]) (by simp only [go_sem, NB]) (by simp only [go_sem, NB]) (by simp only [go_sem]) ?_
      intro ρ2 o5 hf2
      have g2 : ρ2 2 = .ptr H0.length vx 0 := by rw [hf2 2 (by decide)]; simp only [go_sem, NB, f2]
      have g5 : ρ2 5 = vi i := by rw [hf2 5 (by decide)]; simp only [go_sem, NB]
      have g6 : ρ2 6 = .sr (H0.length + 3) (o3.ver + 1) (r.length + 1) := by rw [hf2 6 (by decide)]; simp only [go_sem, NB]
      have g17 : ρ2 17 = vi i := by rw [hf2 17 (by decide)]; simp only [go_sem, NB, hi17]
      simp only [go_sem, ↓reduceIte, NB, NA, g2, g5, g6, g17, hlt, map_upto_get hlt, allStill_of_data (data_q _), allStill_rows (dataLL_map data_q _), encItem]
      rw [wrap_succ (by omega)]
      refine ⟨rfl, .gone (o3.ver + 1), o5, ?_⟩
      rw [map_upto_set hlt]
      simp only [encItem, twinItem, has, List.map_cons]
  · have hlt : i = l.length := by
      have : ¬ i < l.length := by simpa using hb
      omega
    subst hlt
    rw [upto_all, mapIdx_const]
    exact hQ _ _ _ fun t ht => (upd_other fun e => by subst e; exact absurd ht (by decide)).trans (hf t ht)
structure FitQ (q : Question) : Prop where
  reasons : q.reasons.length < 1000000
  options : q.options.length < 1000000
structure FitTwin (x : Exam) : Prop where
  items : x.items.length < 1000000
  ask : ∀ i ∈ x.items, i.ask.length < 1000000
  q : ∀ i ∈ x.items, ∀ q ∈ i.ask, FitQ q
theorem twin_spec {A : AProg} {g : String → Nat} (h : Has A g "dactyl/secret.Twin" (secret_Twin g)) (hr : SpecRest A (g "dactyl/secret.rest")) (hi : SpecItoa A g)
    (hc : SpecClone A (g "slices.Clone[[]string,string]") 1 16) (hc2 : SpecClone A (g "slices.Clone[[]dactyl/api.Question,dactyl/api.Question]") 7 128)
    (hc3 : SpecClone A (g "slices.Clone[[]dactyl/api.Item,dactyl/api.Item]") 4 88) (x : Exam) (hx : FitTwin x) (n : Int) (H : List AObj) :
    callI A (g "dactyl/secret.Twin") [encExam x, vi n] H = some (encExam (twinExam n x), H, []) := by
  refine h.call (by simp [secret_Twin]) (by kernel_rfl) ?_
  simp only [secret_Twin]
  cases has : x.items with
  | nil =>
    simp only [go_sem, ↓reduceIte, NB, NA, NL, NE, encExam, has, hc3.nil]
    refine wl_step (by kernel_rfl) ?_
    simp only [go_sem, ↓reduceIte, NB, NA, twinExam, has]
  | cons y r =>
    have hcl := fun H => hc3.cons (encItem y) (r.map encItem) H rfl (dataLL_map data_item (y :: r)) (by have := hx.items; rw [has] at this; simp at this ⊢; omega)
    simp only [go_sem, ↓reduceIte, NB, NA, NL, NE, encExam, has, hcl]
    refine twin_items hr hi hc hc2 (l := y :: r) (n := n) (by have := hx.items; rw [has] at this; omega)
      (fun z hz => ⟨by have := hx.ask z (by rw [has]; exact hz); omega, fun q hq => ⟨by have := (hx.q z (by rw [has]; exact hz) q hq).reasons; omega, (hx.q z (by rw [has]; exact hz) q hq).options⟩⟩) (by simp only [go_sem, NB]) (by simp only [go_sem, NB]) (by simp only [go_sem, NB]) (by simp only [go_sem]) ?_
    intro ρ2 o3 o4 hf2
    have g2 : ρ2 2 = .ptr H.length 1 0 := by rw [hf2 2 (by decide)]; simp only [go_sem, NB]
    have g4 : ρ2 4 = .ptr (H.length + 1) 1 0 := by rw [hf2 4 (by decide)]; simp only [go_sem, NB]
    simp only [go_sem, ↓reduceIte, NB, NA, g2, g4, allStill_of_data (data_item _), allStill_rows (dataLL_map data_item _), underL_of_data (data_item _), underLL_of_data (dataLL_map data_item _), twinExam, has]
end Go.Proofs.AM
end
section
open Nat renaming reduceBEq → NB, reduceAdd → NA, reduceSub → NS, reduceMul → NM, reduceLT → NL, reduceLeDiff → ND, reduceEqDiff → NE
open Int renaming reduceLT → IL, reduceLE → ID, reduceToNat → IT, reduceEq → IE, reduceBEq → IB, reduceBNe → IN, reduceAdd → IA, reduceSub → IS, reduceNeg → IM
open Bool renaming not_true → BT, not_false → BF
set_option linter.unusedVariables false
set_option maxRecDepth 8000
namespace Go.Proofs.AM
open Go
inductive GSl (id k : Nat) : List (List AV) → AV → AObj → Prop
  | nil (o : AObj) : GSl id k [] (.sl true []) o
  | obj (ver : Nat) (rows : List (List AV)) : GSl id k rows (.sr id ver rows.length) (.vec ver k rows)
section
variable {id k : Nat} {rows : List (List AV)} {v : AV} {o : AObj}
theorem GSl.cellOk (h : GSl id k rows v o) : v.cellOk = true := by cases h <;> rfl
theorem GSl.strip1 (h : GSl id k rows v o) : v.cells = [v] := by cases h <;> rfl
theorem getElem?_lt {α : Type} {l : List α} {i : Nat} {a : α} (h : l[i]? = some a) : i < l.length := by
  rcases Nat.lt_or_ge i l.length with h1 | h1
  · exact h1
  · rw [List.getElem?_eq_none h1] at h; cases h
theorem set_same {α : Type} {l : List α} {i : Nat} {a : α} (h : l[i]? = some a) : l.set i a = l := by
  apply List.ext_getElem?
  intro j
  by_cases e : i = j
  · subst e; rw [List.getElem?_set_self (getElem?_lt h), h]
  · rw [List.getElem?_set_ne e]
theorem GSl.app (h : GSl id k rows v o) {new : List (List AV)} {bytes : Nat} (hn : new ≠ []) (hk : headOk k new = true) (hr : (rows.length + new.length) * (bytes + 1) ≤ 1099511627776) :
    ∃ v' o', GSl id k (rows ++ new) v' o' ∧ ∀ H f, H[id]? = some o → evApp H (some id) k bytes v (.sl f new) = some (v', H.set id o', [id]) := by
  obtain ⟨a, l, rfl⟩ := List.exists_cons_of_ne_nil hn
  have hroom : roomy (rows.length + (a :: l).length) bytes = true := by unfold roomy; simpa using hr
  cases h with
  | nil =>
    refine ⟨.sr id (o.ver + 1) (a :: l).length, .vec (o.ver + 1) k (a :: l), GSl.obj _ _, fun H f ho => ?_⟩
    unfold evApp
    simp only [appRows, rowsOf, hk]
    simp only [List.isEmpty_cons, headOk, BT, Bool.false_eq_true, if_false, Bool.true_and, List.length_nil, Nat.zero_add]
    simp only [List.length_nil, Nat.zero_add] at hroom
    rw [if_pos (by rw [hroom]), if_pos (getElem?_lt ho)]
    simp only [verAt, make, ho, Option.elim_some, List.nil_append]
  | obj ver =>
    refine ⟨.sr id ver (rows ++ a :: l).length, .vec ver k (rows ++ a :: l), GSl.obj _ _, fun H f ho => ?_⟩
    unfold evApp
    simp only [appRows, rowsOf, hk]
    simp only [BT, Bool.false_eq_true, if_false, ho, hroom, and_self, if_true, List.isEmpty_cons, List.length_append]
theorem GSl.lend (h : GSl id k rows v o) (hd : dataLL rows = true) : ∃ f l o', (∀ H, H[id]? = some o → lend1 H v = some (.sl f rows, l)) ∧ (∀ H, H[id]? = some o → goneAll H l = H.set id o') ∧ (∀ b wr, b ≤ id → addWr b wr l = wr) := by
  cases h with
  | nil => exact ⟨true, [], o, fun H _ => rfl, fun H ho => by rw [set_same ho]; rfl, fun _ _ _ => rfl⟩
  | obj ver =>
    refine ⟨false, [id], .gone ver, fun H ho => ?_, fun H ho => ?_, fun b wr hb => ?_⟩
    · show (match H[id]? with
        | some (.vec v' _ rows') => if v' = ver ∧ rows'.length = rows.length ∧ rows'.all (fun r => r.all AV.still) then some (AV.sl false rows', [id]) else none
        | _ => none) = _
      rw [ho]
      simp only [allStill_rows hd, and_self, if_true]
    · simp only [goneAll, ho]
      rfl
    · unfold addWr
      rw [if_neg (by omega)]
      rfl
end
section
variable {α β : Type} {f : Nat → α → β} {l : List α} {i : Nat}
def firsts (f : Nat → α → β) (l : List α) (i : Nat) : List β := (l.mapIdx f).take i
theorem firsts_zero : firsts f l 0 = [] := rfl
theorem firsts_succ (h : i < l.length) : firsts f l i ++ [f i l[i]] = firsts f l (i + 1) := by
  unfold firsts
  rw [List.take_add_one, List.getElem?_mapIdx, List.getElem?_eq_getElem h]
  rfl
theorem firsts_all : firsts f l l.length = l.mapIdx f := by
  unfold firsts
  exact List.take_of_length_le (by simp)
theorem firsts_length (h : i ≤ l.length) : (firsts f l i).length = i := by
  unfold firsts
  simp [h]
theorem map_firsts_succ {γ : Type} {enc : β → γ} (h : i < l.length) {x : γ} (hx : x = enc (f i l[i])) : (firsts f l i).map enc ++ [x] = (firsts f l (i + 1)).map enc := by
  rw [hx, ← firsts_succ h, List.map_append]; rfl
end
end Go.Proofs.AM
end
