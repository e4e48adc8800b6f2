/- Part 16 of the proof that stands in the last text of this folder (lemmas; no statement of its own). -/
import Derived.Test.YtglokbbcckpaaaaGreatDoorK15
set_option linter.unusedVariables false
set_option linter.unusedSimpArgs false
open Nat renaming reduceBEq -> NB, reduceAdd -> NA, reduceLT -> NL, reduceLeDiff -> ND, reduceEqDiff -> NE
open Int renaming reduceLE -> ID, reduceToNat -> IT, reduceBEq -> IB, reduceNeg -> IM
open Bool renaming not_false -> BF
section
set_option maxRecDepth 8000
namespace Go.AM
open Go
abbrev aduZ (g : String -> Nat) : ACode := .seq (.seq (.region false [⟨some 32, .mov (.tmp 11), none, []⟩,⟨some 33, .mov (.tmp 10), none, []⟩,⟨some 34, .bin .lss .no (.tmp 32) (.tmp 33), none, [0, 1]⟩]) <| .cond (.tmp 34) (.skip) (.exit 4)) <| .seq (.block 5 (.seq (.region false [⟨some 37, .mov (.tmp 0), none, []⟩,⟨some 38, .callv (.const (.fn (g "(*dactyl/dactylref23.Maker).Take") [] [])) [(.tmp 37), (.const (.int .i64 21))], none, [0]⟩,⟨some 39, .bin .add .no (.const (.int .i64 14)) (.tmp 38), none, [1, 0]⟩,⟨some 40, .mov (.tmp 0), none, []⟩,⟨some 41, .callv (.const (.fn (g "(*dactyl/dactylref23.Maker).Take") [] [])) [(.tmp 40), (.const (.int .i64 5))], none, [3, 1, 0]⟩,⟨some 42, .bsl 1 [(.int .i64 0)] 5 [(0, (.const (.int .i64 0))), (1, (.const (.int .i64 0))), (2, (.const (.int .i64 0))), (3, (.const (.int .i64 (-1)))), (4, (.const (.int .i64 1)))], none, []⟩,⟨some 43, .mov (.tmp 0), none, []⟩,⟨some 44, .callv (.const (.fn (g "(*dactyl/dactylref23.Maker).Take") [] [])) [(.tmp 43), (.const (.int .i64 5))], none, [6, 4, 3, 1, 0]⟩,⟨some 45, .iaV (.tmp 42) (.tmp 44) 1, none, [5, 7, 6, 4, 3, 1, 0]⟩,⟨some 46, .load 1 false (.tmp 45), none, [8, 5, 7, 6, 4, 3, 1, 0]⟩,⟨some 47, .build [(.int .i64 0), (.int .i64 0), (.int .i64 0)] [(0, 1, (.tmp 39)), (1, 1, (.tmp 41)), (2, 1, (.tmp 46))], none, [2, 9, 8, 5, 7, 6, 4, 3, 1, 0]⟩,⟨some 12, .alloc [(.int .i64 0), (.int .i64 0), (.int .i64 0)], none, []⟩,⟨none, .store 3 (.tmp 12) (.tmp 47), none, [10, 2, 9, 8, 5, 7, 6, 4, 3, 1, 0, 11]⟩]) <| .seq (.seq (.region false [⟨some 48, .mov (.tmp 0), none, []⟩,⟨some 49, .callv (.const (.fn (g "(*dactyl/dactylref23.Maker).Take") [] [])) [(.tmp 48), (.const (.int .i64 6))], none, [0]⟩,⟨some 50, .bin .eql .no (.tmp 49) (.const (.int .i64 0)), none, [1, 0]⟩]) <| .cond (.tmp 50) (.region false [⟨some 51, .fa 1 (.tmp 12), none, []⟩,⟨some 52, .load 1 false (.tmp 51), none, [0]⟩,⟨some 53, .build [(.int .i64 0), (.int .i64 0), (.int .i64 0)] [(0, 1, (.const (.int .i64 (-1)))), (1, 1, (.tmp 52))], none, [1, 0]⟩,⟨none, .store 3 (.tmp 12) (.tmp 53), none, [2, 1, 0]⟩]) (.skip)) <| .region false [⟨some 54, .mov (.tmp 9), none, []⟩,⟨some 55, .load 3 true (.tmp 12), none, []⟩,⟨some 56, .bsl 3 [(.int .i64 0), (.int .i64 0), (.int .i64 0)] 1 [(0, (.tmp 55))], none, [1]⟩,⟨some 57, .app 3 24 (.tmp 54) (.tmp 56), none, [0, 2, 1]⟩,⟨some 9, .mov (.tmp 57), none, [3, 0, 2, 1]⟩])) <| .region false [⟨some 35, .mov (.tmp 11), none, []⟩,⟨some 36, .bin .add .no (.tmp 35) (.const (.int .i64 1)), none, [0]⟩,⟨some 11, .mov (.tmp 36), none, [1, 0]⟩]
abbrev advZ : List Nat := [32, 33, 34, 37, 38, 39, 40, 41, 42, 43, 44, 45, 46, 47, 12, 48, 49, 50, 51, 52, 53, 54, 55, 56, 57, 9, 35, 36, 11]
abbrev adwZ (g : String -> Nat) : ACode := .seq (.seq (.region false [⟨some 24, .mov (.tmp 8), none, []⟩,⟨some 25, .mov (.tmp 5), none, []⟩,⟨some 26, .bin .lss .no (.tmp 24) (.tmp 25), none, [0, 1]⟩]) <| .cond (.tmp 26) (.skip) (.exit 2)) <| .seq (.block 3 (.seq (.region false [⟨some 9, .mov (.const (.sl true [])), none, []⟩]) <| .seq (.region false [⟨some 29, .mov (.tmp 0), none, []⟩,⟨some 30, .callv (.const (.fn (g "(*dactyl/dactylref23.Maker).Take") [] [])) [(.tmp 29), (.const (.int .i64 4))], none, [0]⟩,⟨some 31, .bin .add .no (.const (.int .i64 1)) (.tmp 30), none, [1, 0]⟩,⟨some 10, .mov (.tmp 31), none, [2, 1, 0]⟩]) <| .seq (.seq (.region false [⟨some 11, .mov (.const (.int .i64 0)), none, []⟩]) <| .block 4 (.loop (aduZ g))) <| .region false [⟨some 58, .mov (.tmp 7), none, []⟩,⟨some 59, .mov (.tmp 9), none, []⟩,⟨some 60, .bsl 1 [(.sl false [])] 1 [(0, (.tmp 59))], none, [1]⟩,⟨some 61, .app 1 24 (.tmp 58) (.tmp 60), none, [0, 2, 1]⟩,⟨some 7, .mov (.tmp 61), none, [3, 0, 2, 1]⟩])) <| .region false [⟨some 27, .mov (.tmp 8), none, []⟩,⟨some 28, .bin .add .no (.tmp 27) (.const (.int .i64 1)), none, [0]⟩,⟨some 8, .mov (.tmp 28), none, [1, 0]⟩]
abbrev adxZ : List Nat := [24, 25, 26, 9, 29, 30, 31, 10, 11, 32, 33, 34, 37, 38, 39, 40, 41, 42, 43, 44, 45, 46, 47, 12, 48, 49, 50, 51, 52, 53, 54, 55, 56, 57, 9, 35, 36, 11, 58, 59, 60, 61, 7, 27, 28, 8]
abbrev afGZ (g : String -> Nat) : ACode := .seq (.seq (.region false [⟨some 19, .mov (.tmp 6), none, []⟩,⟨some 20, .mov (.tmp 4), none, []⟩,⟨some 21, .bin .lss .no (.tmp 19) (.tmp 20), none, [0, 1]⟩]) <| .cond (.tmp 21) (.skip) (.exit 0)) <| .seq (.block 1 (.seq (.region false [⟨some 7, .mov (.const (.sl true [])), none, []⟩]) <| .seq (.seq (.region false [⟨some 8, .mov (.const (.int .i64 0)), none, []⟩]) <| .block 2 (.loop (adwZ g))) <| .region false [⟨some 62, .fa 0 (.tmp 3), none, []⟩,⟨some 63, .load 1 false (.tmp 62), none, [0]⟩,⟨some 64, .mov (.tmp 7), none, []⟩,⟨some 65, .bsl 1 [(.sl false [])] 1 [(0, (.tmp 64))], none, [2]⟩,⟨some 66, .app 1 24 (.tmp 63) (.tmp 65), none, [1, 0, 3, 2]⟩,⟨some 67, .fa 0 (.tmp 3), none, [4, 1, 0, 3, 2]⟩,⟨none, .store 1 (.tmp 67) (.tmp 66), none, [5, 4, 1, 0, 3, 2]⟩])) <| .region false [⟨some 22, .mov (.tmp 6), none, []⟩,⟨some 23, .bin .add .no (.tmp 22) (.const (.int .i64 1)), none, [0]⟩,⟨some 6, .mov (.tmp 23), none, [1, 0]⟩]
abbrev afHZ : List Nat := [19, 20, 21, 7, 8, 24, 25, 26, 9, 29, 30, 31, 10, 11, 32, 33, 34, 37, 38, 39, 40, 41, 42, 43, 44, 45, 46, 47, 12, 48, 49, 50, 51, 52, 53, 54, 55, 56, 57, 9, 35, 36, 11, 58, 59, 60, 61, 7, 27, 28, 8, 62, 63, 64, 65, 66, 67, 22, 23, 6]
def abAZ (g : String -> Nat) : AFn := ⟨69, [2, 3, 12, 57, 61, 66], [.cell 2 1 true],.seq (.region false [⟨some 2, .alloc [(.sl true [])], none, []⟩]) <| .seq (.region false [⟨some 3, .alloc [(.sl true [])], none, []⟩]) <| .seq (.region false [⟨some 13, .mov (.tmp 0), none, []⟩,⟨some 14, .callv (.const (.fn (g "(*dactyl/dactylref23.Maker).Take") [] [])) [(.tmp 13), (.const (.int .i64 2))], none, [0]⟩,⟨some 15, .bin .add .no (.const (.int .i64 1)) (.tmp 14), none, [1, 0]⟩,⟨some 4, .mov (.tmp 15), none, [2, 1, 0]⟩]) <| .seq (.region false [⟨some 16, .mov (.tmp 0), none, []⟩,⟨some 17, .callv (.const (.fn (g "(*dactyl/dactylref23.Maker).Take") [] [])) [(.tmp 16), (.const (.int .i64 3))], none, [0]⟩,⟨some 18, .bin .add .no (.const (.int .i64 1)) (.tmp 17), none, [1, 0]⟩,⟨some 5, .mov (.tmp 18), none, [2, 1, 0]⟩]) <| .seq (.seq (.region false [⟨some 6, .mov (.const (.int .i64 0)), none, []⟩]) <| .block 0 (.loop (afGZ g))) <| .seq (.region false [⟨some 68, .load 1 true (.tmp 3), none, []⟩,⟨none, .store 1 (.tmp 2) (.tmp 68), none, [0]⟩]) <| .ret⟩
abbrev MBar (b : List Note) : Prop := 1 <= b.length /\ b.length <= 4 /\ ∀ n ∈ b, n.Ok
abbrev atAZ (h : List (List Note)) : Prop := 1 <= h.length /\ h.length <= 3 /\ ∀ b ∈ h, MBar b
abbrev asvZ (v : AV) : Prop := ∃ m : List (List (List Note)), v = .agg [.sl false (m.map agnZ)] /\ 1 <= m.length /\ m.length <= 2 /\ ∀ h ∈ m, atAZ h
theorem GSl.lendF {id k : Nat} {rows : List (List AV)} {v : AV} {o : AObj} (h : GSl id k rows v o) (hne : rows ≠ []) (hd : abHZ rows = true) :
  ∃ l o', (∀ H, H[id]? = some o -> ajDZ H v = some (.sl false rows, l)) /\ (∀ H, H[id]? = some o -> Go.AM.lend H v = some (.sl false rows, l)) /\ (∀ H, H[id]? = some o -> aaOZ H l = H.set id o') /\ (∀ b wr, b <= id -> aaCZ b wr l = wr) := by
 obtain ⟨ver, rfl, rfl⟩ := h.inv hne
 obtain ⟨f, l, o', h1, h2, h3⟩ := h.lend hd
 cases h with
 | obj =>
  have key : ∀ H : List AObj, H[id]? = some (.vec ver k rows) -> ajDZ H (.sr id ver rows.length) = some (.sl false rows, [id]) := by
   intro H ho
   show (match H[id]? with
    | some (.vec v' _ rows') => if v' = ver /\ rows'.length = rows.length /\ rows'.all (fun r => r.all AV.still) then some (AV.sl false rows', [id]) else none
    | _ => none) = _
   rw [ho]
   simp only [aatZ hd, and_self, if_true]
  refine ⟨[id], .gone ver, key, key, fun H ho => ?_, fun b wr hb => ?_⟩
  ·simp only [aaOZ, ho]; rfl
  ·unfold aaCZ
   rw [if_neg (by omega)]
   rfl
theorem amMZ {α β : Type} {f : α -> β} {l : List α} (h : 1 <= l.length) : l.map f ≠ [] := by
 intro hn
 have := congrArg List.length hn
 simp only [List.length_map, List.length_nil] at this
 omega
theorem apiZ {A : AProg} {g : String -> Nat} (ht : abIZ A g) {H : List AObj} {Q : AExit -> SEnv -> List AObj -> List Nat -> Prop} {tg} {l : List Int} (hl : acIZ l) {o v : Nat} (hlt : o < H.length)
  {i : Int} {o0 o1 o2 o3 o4 o5 : AObj} {c : Int} (hc0 : 1 <= c) (hc1 : c <= 4) {ρ : SEnv} (e0 : ρ 0 = .ptr o v 0) (e10 : ρ 10 = vi c) (e9 : ρ 9 = .sl true []) (e11 : ρ 11 = vi 0)
  (hQ : ∀ ρ' i' o2 o3 (r : List Note), (∀ t, advZ.contains t = false -> ρ' t = ρ t) -> MBar r -> GSl (H.length + 3) 3 (r.map aelZ) (ρ' 9) o3 -> Q (.exit 4) ρ' (H.set o (.box v (aaeZ l i')) ++ [o0, o1, o2, o3, o4, o5]) [o]) :
  wl A 69 ⟨H.length, [2, 3, 12, 57, 61, 66]⟩ (aduZ g) ρ (H.set o (.box v (aaeZ l i)) ++ [o0, o1, o2, o3, o4, o5]) [o] Q tg := by
 refine aaWZ (W := advZ) (fun j ρ1 H1 wr => wr = [o] /\ ρ1 11 = vi j /\ ∃ i' o2 o3, ∃ r : List Note, H1 = H.set o (.box v (aaeZ l i')) ++ [o0, o1, o2, o3, o4, o5] /\ GSl (H.length + 3) 3 (r.map aelZ) (ρ1 9) o3 /\ r.length = j /\ ∀ a ∈ r, a.Ok) c.toNat
  (fun ρ1 H1 wr => wr = [o] /\ ∃ i' o2 o3, ∃ r : List Note, H1 = H.set o (.box v (aaeZ l i')) ++ [o0, o1, o2, o3, o4, o5] /\ GSl (H.length + 3) 3 (r.map aelZ) (ρ1 9) o3 /\ MBar r)
  (by kernel_rfl) (by rfl) ⟨rfl, e11, i, o2, o3, [], rfl, by rw [e9]; exact .nil _, rfl, by simp⟩ ?_ (by
   rintro ρ' H' wr' ⟨rfl, i', o2, o3, r, rfl, hg, hr⟩ hf
   exact hQ ρ' i' o2 o3 r hf hr hg)
 rintro j ρ1 H1 wr1 hjl ⟨rfl, e11, i', o2, o3, r, rfl, hg, hrl, hro⟩ hf
 have f0 : ρ1 0 = .ptr o v 0 := (hf 0 (by decide)).trans e0
 have f10 : ρ1 10 = vi c := (hf 10 (by decide)).trans e10
 simp only [go_sem, NB, IM, f10, e11]
 refine aacZ (fun hb => ?_) (fun hb => ?_)
 ·have hlt2 : j < c.toNat := by simp at hb; omega
  simp only [go_sem, ↓reduceIte, NB, NA, NL, ND, NE, IM, f0]
  refine aalZ (aakZ ht (m := 21) (by decide)) hl (i := i') (by simp only [go_sem, aagZ, hlt]) ?_
  rintro val i2 ⟨x, rfl, hx0, hx1⟩
  have hwx : IntKind.i64.wrap (14 + x) = 14 + x := wrap_i64 (by omega) (by omega)
  simp only [go_sem, ↓reduceIte, NA, ND, IM, hlt, aahZ, hwx]
  refine aalZ (aakZ ht (m := 5) (by decide)) hl (i := i2) (by simp only [go_sem, aagZ, hlt]) ?_
  rintro val i3 ⟨y, rfl, hy0, hy1⟩
  simp only [go_sem, ↓reduceIte, NA, IM, hlt, aahZ]
  refine aalZ (aakZ ht (m := 5) (by decide)) hl (i := i3) (by simp only [go_sem, aagZ, hlt]) ?_
  rintro val i4 ⟨z, rfl, hz0, hz1⟩
  obtain ⟨n, hn, htab⟩ := tabI [0, 0, 0, -1, 1] hz0 hz1
  simp only [List.map, aaqZ] at htab
  have hnb : -1 <= n /\ n <= 1 := by
   have : ∀ n ∈ ([0, 0, 0, -1, 1] : List Int), -1 <= n /\ n <= 1 := by decide
   exact this _ hn
  simp only [go_sem, ↓reduceIte, NA, NL, IM, hlt, aahZ, hz0, htab]
  refine aalZ (aakZ ht (m := 6) (by decide)) hl (i := i4) (by simp only [go_sem, aagZ, hlt]) ?_
  rintro val i5 ⟨w, rfl, hw0, hw1⟩
  simp only [go_sem, ↓reduceIte, IM, hlt, aahZ]
  refine aacZ (fun hb2 => ?_) (fun hb2 => ?_)
  ·obtain ⟨v', o', hg', happ⟩ := hg.app (new := [[vi (-1), vi y, vi 0]]) (bytes := 24) (by simp) (by rfl) (by rw [List.length_map, hrl]; simp; omega)
   rw [show r.map aelZ ++ [[vi (-1), vi y, vi 0]] = (r ++ [Note.mk (-1) y 0]).map aelZ by simp [aelZ]] at hg'
   simp only [go_sem, ↓reduceIte, NB, NA, NL, ND, NE, IM, happ, e11]
   rw [abhZ (by omega)]
   refine ⟨hlt2, rfl, i5, _, o', r ++ [Note.mk (-1) y 0], rfl, hg', by simp [hrl], ?_⟩
   intro a ha
   rcases List.mem_append.1 ha with ha | ha
   ·exact hro a ha
   ·have : a = Note.mk (-1) y 0 := by simpa using ha
    subst this
    exact ⟨⟨by show -9223372036854775808 <= (-1 : Int); omega, by show (-1 : Int) <= 9223372036854775807; omega⟩,⟨by show -9223372036854775808 <= y; omega, by show y <= 9223372036854775807; omega⟩,⟨by show -9223372036854775808 <= (0 : Int); omega, by show (0 : Int) <= 9223372036854775807; omega⟩⟩
  ·obtain ⟨v', o', hg', happ⟩ := hg.app (new := [[vi (14 + x), vi y, vi n]]) (bytes := 24) (by simp) (by rfl) (by rw [List.length_map, hrl]; simp; omega)
   rw [show r.map aelZ ++ [[vi (14 + x), vi y, vi n]] = (r ++ [Note.mk (14 + x) y n]).map aelZ by simp [aelZ]] at hg'
   simp only [go_sem, ↓reduceIte, NB, NA, NL, NE, IM, happ, e11]
   rw [abhZ (by omega)]
   refine ⟨hlt2, rfl, i5, _, o', r ++ [Note.mk (14 + x) y n], rfl, hg', by simp [hrl], ?_⟩
   intro a ha
   rcases List.mem_append.1 ha with ha | ha
   ·exact hro a ha
   ·have : a = Note.mk (14 + x) y n := by simpa using ha
    subst this
    exact ⟨⟨by show -9223372036854775808 <= (14 + x : Int); omega, by show (14 + x : Int) <= 9223372036854775807; omega⟩,⟨by show -9223372036854775808 <= y; omega, by show y <= 9223372036854775807; omega⟩,⟨by show -9223372036854775808 <= (n : Int); omega, by show (n : Int) <= 9223372036854775807; omega⟩⟩
 ·have hlt2 : j = c.toNat := by simp at hb; omega
  subst hlt2
  simp only [go_sem, NB, IM]
  exact ⟨i', o2, o3, r, rfl, hg, by omega, by omega, hro⟩
theorem aqlZ {A : AProg} {g : String -> Nat} (ht : abIZ A g) {H : List AObj} {Q : AExit -> SEnv -> List AObj -> List Nat -> Prop} {tg} {l : List Int} (hl : acIZ l) {o v : Nat} (hlt : o < H.length)
  {i : Int} {o0 o1 o2 o3 o4 o5 : AObj} {c : Int} (hc0 : 1 <= c) (hc1 : c <= 3) {ρ : SEnv} (e0 : ρ 0 = .ptr o v 0) (e5 : ρ 5 = vi c) (e7 : ρ 7 = .sl true []) (e8 : ρ 8 = vi 0)
  (hQ : ∀ ρ' i' o2 o3 o4 (r : List (List Note)), (∀ t, adxZ.contains t = false -> ρ' t = ρ t) -> atAZ r -> GSl (H.length + 4) 1 (r.map ahWZ) (ρ' 7) o4 -> Q (.exit 2) ρ' (H.set o (.box v (aaeZ l i')) ++ [o0, o1, o2, o3, o4, o5]) [o]) :
  wl A 69 ⟨H.length, [2, 3, 12, 57, 61, 66]⟩ (adwZ g) ρ (H.set o (.box v (aaeZ l i)) ++ [o0, o1, o2, o3, o4, o5]) [o] Q tg := by
 refine aaWZ (W := adxZ) (fun j ρ1 H1 wr => wr = [o] /\ ρ1 8 = vi j /\ ∃ i' o2 o3 o4, ∃ r : List (List Note), H1 = H.set o (.box v (aaeZ l i')) ++ [o0, o1, o2, o3, o4, o5] /\ GSl (H.length + 4) 1 (r.map ahWZ) (ρ1 7) o4 /\ r.length = j /\ ∀ a ∈ r, MBar a) c.toNat
  (fun ρ1 H1 wr => wr = [o] /\ ∃ i' o2 o3 o4, ∃ r : List (List Note), H1 = H.set o (.box v (aaeZ l i')) ++ [o0, o1, o2, o3, o4, o5] /\ GSl (H.length + 4) 1 (r.map ahWZ) (ρ1 7) o4 /\ atAZ r)
  (by kernel_rfl) (by rfl) ⟨rfl, e8, i, o2, o3, o4, [], rfl, by rw [e7]; exact .nil _, rfl, by simp⟩ ?_ (by
   rintro ρ' H' wr' ⟨rfl, i', o2, o3, o4, r, rfl, hg, hr⟩ hf
   exact hQ ρ' i' o2 o3 o4 r hf hr hg)
 rintro j ρ1 H1 wr1 hjl ⟨rfl, e8, i', o2, o3, o4, r, rfl, hg, hrl, hro⟩ hf
 have f0 : ρ1 0 = .ptr o v 0 := (hf 0 (by decide)).trans e0
 have f5 : ρ1 5 = vi c := (hf 5 (by decide)).trans e5
 simp only [go_sem, NB, f5, e8]
 refine aacZ (fun hb => ?_) (fun hb => ?_)
 ·have hlt2 : j < c.toNat := by simp at hb; omega
  simp only [go_sem, ↓reduceIte, NB, NE, f0]
  refine aalZ (aakZ ht (m := 4) (by decide)) hl (i := i') (by simp only [go_sem, aagZ, hlt]) ?_
  rintro val i2 ⟨x, rfl, hx0, hx1⟩
  have hwx : IntKind.i64.wrap (1 + x) = 1 + x := wrap_i64 (by omega) (by omega)
  simp only [go_sem, ↓reduceIte, hlt, aahZ, hwx]
  refine apiZ ht hl hlt (c := 1 + x) (by omega) (by omega) (by simp only [go_sem, NB, f0]) (by simp only [go_sem, NB]) (by simp only [go_sem, NB]) (by simp only [go_sem]) ?_
  intro ρ2 i4 o2' o3' b hf2 hb2 hg2
  have g7 : ρ2 7 = ρ1 7 := by rw [hf2 7 (by decide)]; simp only [go_sem, NB]
  have g8 : ρ2 8 = vi j := by rw [hf2 8 (by decide)]; simp only [go_sem, NB, e8]
  obtain ⟨lf, o3'', h1, h2, hgo, haw⟩ := hg2.lendF (amMZ hb2.1) (aabZ amIZ _)
  obtain ⟨v', o', hg', happ⟩ := hg.app (new := [[.sl false (b.map aelZ)]]) (bytes := 24) (by simp) (by rfl) (by rw [List.length_map, hrl]; simp; omega)
  rw [show r.map ahWZ ++ [[.sl false (b.map aelZ)]] = (r ++ [b]).map ahWZ by simp [ahWZ]] at hg'
  simp only [go_sem, ↓reduceIte, NB, NA, NL, NE, g7, g8, h2, hgo, haw, happ]
  rw [abhZ (by omega)]
  refine ⟨hlt2, rfl, i4, o2', o3'', o', r ++ [b], rfl, hg', by simp [hrl], ?_⟩
  intro a ha
  rcases List.mem_append.1 ha with ha | ha
  ·exact hro a ha
  ·have : a = b := by simpa using ha
   subst this
   exact hb2
 ·have hlt2 : j = c.toNat := by simp at hb; omega
  subst hlt2
  simp only [go_sem, NB]
  exact ⟨i', o2, o3, o4, r, rfl, hg, by omega, by omega, hro⟩
theorem atBZ {A : AProg} {g : String -> Nat} (h : Has A g "(*dactyl/dactylref23.Maker).Melody" (abAZ g)) (ht : abIZ A g) : aaMZ A (g "(*dactyl/dactylref23.Maker).Melody") [] asvZ := by
 refine h.gen (by simp [abAZ]) (fun n => by kernel_rfl) ?_
 intro l i o v H hl hlt ho
 simp only [abAZ]
 simp only [go_sem, ↓reduceIte, NB, NA, NL, NE]
 refine aalZ (aakZ ht (m := 2) (by decide)) hl (i := i) (by simp only [go_sem, acmZ, hlt, ho]) ?_
 rintro val i1 ⟨x, rfl, hx0, hx1⟩
 have hwx : IntKind.i64.wrap (1 + x) = 1 + x := wrap_i64 (by omega) (by omega)
 simp only [go_sem, ↓reduceIte, hlt, aciZ, hwx]
 refine aalZ (aakZ ht (m := 3) (by decide)) hl (i := i1) (by simp only [go_sem, aagZ, hlt]) ?_
 rintro val i2 ⟨y, rfl, hy0, hy1⟩
 have hwy : IntKind.i64.wrap (1 + y) = 1 + y := wrap_i64 (by omega) (by omega)
 simp only [go_sem, ↓reduceIte, hlt, aahZ, hwy]
 refine aaWZ (id := 0) (W := afHZ) (fun j ρ1 H1 wr => wr = [o] /\ ρ1 6 = vi j /\ ∃ i' o2 o3 o4 o5 w, ∃ rows : List (List (List Note)), H1 = H.set o (.box v (aaeZ l i')) ++ [.box 1 [.sl true []], .box 1 [w], o2, o3, o4, o5] /\ GSl (H.length + 5) 1 (rows.map agnZ) w o5 /\ rows.length = j /\ ∀ a ∈ rows, atAZ a) (1 + x).toNat
  (fun ρ1 H1 wr => wr = [o] /\ ∃ i' o2 o3 o4 o5 w, ∃ rows : List (List (List Note)), H1 = H.set o (.box v (aaeZ l i')) ++ [.box 1 [.sl true []], .box 1 [w], o2, o3, o4, o5] /\ GSl (H.length + 5) 1 (rows.map agnZ) w o5 /\ rows.length = (1 + x).toNat /\ ∀ a ∈ rows, atAZ a)
  (by kernel_rfl) (by rfl) ⟨by simp only [go_sem], by simp only [go_sem], i2, .gone 0, .gone 0, .gone 0, .gone 0, .sl true [], [], rfl, .nil _, rfl, by simp⟩ ?_ ?_
 ·rintro j ρ1 H1 wr1 hjl ⟨rfl, e6, i', o2, o3, o4, o5, w, rows, rfl, hg, hrl, hro⟩ hf
  have e0 : ρ1 0 = .ptr o v 0 := by rw [hf 0 (by decide)]; simp only [go_sem, NB]
  have e3 : ρ1 3 = .ptr (H.length + 1) 1 0 := by rw [hf 3 (by decide)]; simp only [go_sem, NB]
  have e4 : ρ1 4 = vi (1 + x) := by rw [hf 4 (by decide)]; simp only [go_sem, NB]
  have e5 : ρ1 5 = vi (1 + y) := by rw [hf 5 (by decide)]; simp only [go_sem, NB]
  simp only [go_sem, NB, e4, e6]
  refine aacZ (fun hb => ?_) (fun hb => ?_)
  ·have hlt2 : j < (1 + x).toNat := by simp at hb; omega
   simp only [go_sem]
   refine aqlZ ht hl hlt (c := 1 + y) (by omega) (by omega) (by simp only [go_sem, NB, e0]) (by simp only [go_sem, NB, e5]) (by simp only [go_sem, NB]) (by simp only [go_sem]) ?_
   intro ρ2 i4 o2' o3' o4' r hf2 hr hg2
   have g3 : ρ2 3 = .ptr (H.length + 1) 1 0 := by rw [hf2 3 (by decide)]; simp only [go_sem, NB, e3]
   have g6 : ρ2 6 = vi j := by rw [hf2 6 (by decide)]; simp only [go_sem, NB, e6]
   obtain ⟨lf, o4'', h1, h2, hgo, haw⟩ := hg2.lendF (amMZ hr.1) (aabZ apeZ _)
   obtain ⟨v', o', hg', happ⟩ := hg.app (new := [[.sl false (r.map ahWZ)]]) (bytes := 24) (by simp) (by rfl) (by rw [List.length_map, hrl]; simp; omega)
   rw [show rows.map agnZ ++ [[.sl false (r.map ahWZ)]] = (rows ++ [r]).map agnZ by simp [agnZ]] at hg'
   simp only [go_sem, ↓reduceIte, NB, NA, NL, NE, g3, g6, h2, hgo, haw, happ, hg'.strip1, hg'.cellOk]
   rw [abhZ (by omega)]
   refine ⟨hlt2, rfl, i4, o2', o3', o4'', o', v', rows ++ [r], rfl, hg', by simp [hrl], ?_⟩
   intro a ha
   rcases List.mem_append.1 ha with ha | ha
   ·exact hro a ha
   ·have : a = r := by simpa using ha
    subst this
    exact hr
  ·have hlt2 : j = (1 + x).toNat := by simp at hb; omega
   subst hlt2
   simp only [go_sem]
   exact ⟨i', o2, o3, o4, o5, w, rows, rfl, hg, hrl, hro⟩
 ·rintro ρ2 H2 wr2 ⟨rfl, i', o2, o3, o4, o5, w, rows, rfl, hg, hrl, hro⟩ hf
  have e2 : ρ2 2 = .ptr H.length 1 0 := by rw [hf 2 (by decide)]; simp only [go_sem, NB]
  have e3 : ρ2 3 = .ptr (H.length + 1) 1 0 := by rw [hf 3 (by decide)]; simp only [go_sem, NB]
  obtain ⟨ver, e4, rfl⟩ := hg.inv (amMZ (by omega))
  simp only [go_sem, ↓reduceIte, NB, e2, e3, e4, hlt, aatZ (aabZ ahYZ _), aaaZ (aabZ ahYZ _), aaaZ (aabZ aasZ _), aajZ]
  exact ⟨⟨i', rfl⟩, rows, rfl, by omega, by omega, hro⟩
end Go.AM
end
section
set_option maxRecDepth 8000
namespace Go.AM
open Go
def adMZ (g : String -> Nat) : ACode := .block 0 (.seq (.region false [⟨some 13, .bin .eql .no (.tmp 8) (.const (.int .i64 0)), none, []⟩,⟨some 12, .mov (.tmp 13), none, [0]⟩]) <| .cond (.tmp 12) (.region false [⟨some 14, .mov (.tmp 0), none, []⟩,⟨some 15, .callv (.const (.fn (g "(*dactyl/dactylref23.Maker).Runs") [] [])) [(.tmp 14)], none, [0]⟩,⟨some 16, .fa 1 (.tmp 5), none, [1, 0]⟩,⟨none, .store 1 (.tmp 16) (.tmp 15), none, [2, 1, 0]⟩]) (.seq (.region false [⟨some 18, .bin .eql .no (.tmp 8) (.const (.int .i64 1)), none, []⟩,⟨some 17, .mov (.tmp 18), none, [0]⟩]) <| .cond (.tmp 17) (.region false [⟨some 19, .mov (.tmp 0), none, []⟩,⟨some 20, .callv (.const (.fn (g "(*dactyl/dactylref23.Maker).Expr") [] [])) [(.tmp 19), (.const (.int .i64 3))], none, [0]⟩,⟨some 21, .fa 2 (.tmp 5), none, [1, 0]⟩,⟨none, .store 3 (.tmp 21) (.tmp 20), none, [2, 1, 0]⟩]) (.seq (.region false [⟨some 23, .bin .eql .no (.tmp 8) (.const (.int .i64 2)), none, []⟩,⟨some 22, .mov (.tmp 23), none, [0]⟩]) <| .cond (.tmp 22) (.region false [⟨some 24, .mov (.tmp 0), none, []⟩,⟨some 25, .callv (.const (.fn (g "(*dactyl/dactylref23.Maker).Sum") [] [])) [(.tmp 24)], none, [0]⟩,⟨some 26, .fa 5 (.tmp 5), none, [1, 0]⟩,⟨none, .store 2 (.tmp 26) (.tmp 25), none, [2, 1, 0]⟩]) (.seq (.region false [⟨some 28, .bin .eql .no (.tmp 8) (.const (.int .i64 3)), none, []⟩,⟨some 27, .mov (.tmp 28), none, [0]⟩]) <| .cond (.tmp 27) (.region false [⟨some 29, .mov (.tmp 0), none, []⟩,⟨some 30, .callv (.const (.fn (g "(*dactyl/dactylref23.Maker).Grid") [] [])) [(.tmp 29)], none, [0]⟩,⟨some 31, .fa 7 (.tmp 5), none, [1, 0]⟩,⟨none, .store 1 (.tmp 31) (.tmp 30), none, [2, 1, 0]⟩]) (.seq (.region false [⟨some 33, .bin .eql .no (.tmp 8) (.const (.int .i64 4)), none, []⟩,⟨some 32, .mov (.tmp 33), none, [0]⟩]) <| .cond (.tmp 32) (.region false [⟨some 34, .mov (.tmp 0), none, []⟩,⟨some 35, .callv (.const (.fn (g "(*dactyl/dactylref23.Maker).Figure") [] [])) [(.tmp 34)], none, [0]⟩,⟨some 36, .fa 8 (.tmp 5), none, [1, 0]⟩,⟨none, .store 3 (.tmp 36) (.tmp 35), none, [2, 1, 0]⟩]) (.seq (.region false [⟨some 38, .bin .eql .no (.tmp 8) (.const (.int .i64 5)), none, []⟩,⟨some 37, .mov (.tmp 38), none, [0]⟩]) <| .cond (.tmp 37) (.region false [⟨some 39, .mov (.tmp 0), none, []⟩,⟨some 40, .callv (.const (.fn (g "(*dactyl/dactylref23.Maker).Melody") [] [])) [(.tmp 39)], none, [0]⟩,⟨some 41, .fa 11 (.tmp 5), none, [1, 0]⟩,⟨none, .store 1 (.tmp 41) (.tmp 40), none, [2, 1, 0]⟩]) (.region false [⟨some 9, .mov (.tmp 0), none, []⟩,⟨some 10, .callv (.const (.fn (g "(*dactyl/dactylref23.Maker).Lines") [] [])) [(.tmp 9)], none, [0]⟩,⟨some 11, .fa 12 (.tmp 5), none, [1, 0]⟩,⟨none, .store 1 (.tmp 11) (.tmp 10), none, [2, 1, 0]⟩])))))))
def abKZ (g : String -> Nat) : AFn := ⟨43, [4, 5], [.cell 4 13 true],.seq (.region false [⟨some 4, .alloc [(.int .i64 0), (.sl true []), (.int .i64 0), (.int .i64 0), (.sl true []), (.int .i64 0), (.sl true []), (.sl true []), (.int .i64 0), (.int .i64 0), (.sl true []), (.sl true []), (.sl true [])], none, []⟩]) <| .seq (.region false [⟨some 6, .mov (.tmp 1), none, []⟩,⟨some 7, .build [(.int .i64 0), (.sl true []), (.int .i64 0), (.int .i64 0), (.sl true []), (.int .i64 0), (.sl true []), (.sl true []), (.int .i64 0), (.int .i64 0), (.sl true []), (.sl true []), (.sl true [])] [(0, 1, (.tmp 6))], none, [0]⟩,⟨some 5, .alloc [(.int .i64 0), (.sl true []), (.int .i64 0), (.int .i64 0), (.sl true []), (.int .i64 0), (.sl true []), (.sl true []), (.int .i64 0), (.int .i64 0), (.sl true []), (.sl true []), (.sl true [])], none, []⟩,⟨none, .store 13 (.tmp 5) (.tmp 7), none, [1, 0, 2]⟩]) <| .seq (.seq (.region false [⟨some 8, .mov (.tmp 1), none, []⟩]) <| adMZ g) <| .seq (.region false [⟨some 42, .load 13 true (.tmp 5), none, []⟩,⟨none, .store 13 (.tmp 4) (.tmp 42), none, [0]⟩]) <| .ret⟩
abbrev SOk (a : Shape) : Prop := a.Ok /\ 0 <= a.kind /\ a.kind <= 2
abbrev aswZ (v : AV) : Prop := ∃ (w h : Int) (s : List Shape), v = .agg [vi w, vi h, .sl false (s.map adBZ)] /\ accZ w /\ accZ h /\ 2 <= s.length /\ s.length <= 4 /\ ∀ a ∈ s, SOk a
structure Slack (b : Block) : Prop where
 runs : b.runs.length <= 3
 sumA : b.sumA.length <= 3
 size : aqiZ b.expr <= 900
 kids : ∀ op n ks, b.expr = .mk op n ks -> ks.length <= 2
theorem aiGZ {b : Block} (h1 : b.runs.length <= 3) (h2 : b.sumA.length <= 3) (h3 : b.expr = .mk 0 0 []) : Slack b :=
 ⟨h1, h2, by rw [h3]; decide, fun op n ks e => by rw [h3] at e; cases e; decide⟩
theorem atCZ {b : Block} (h1 : b.runs.length <= 3) (h2 : b.sumA.length <= 3) {e : Expr} (h3 : b.expr = e) (hd : Deep 4 e) : Slack b :=
 ⟨h1, h2, by rw [h3]; have := hd.ok.2; omega, fun op n ks h => by rw [h3] at h; subst h; cases hd; assumption⟩
structure Fit (b : Block) : Prop where
 expr : Deep 4 b.expr
 sumOp : 0 <= b.sumOp /\ b.sumOp <= 10
 shapes : ∀ a ∈ b.shapes, 0 <= a.kind /\ a.kind <= 2
theorem amNZ : Deep 4 (.mk 0 0 []) := .mk _ _ _ _ (by decide) (by decide) (by simp) (by simp) (.inl ⟨rfl, by decide⟩)
theorem asxZ {b : Block} (h1 : b.expr = .mk 0 0 []) (h2 : b.sumOp = 0) (h3 : b.shapes = []) : Fit b :=
 ⟨by rw [h1]; exact amNZ, by rw [h2]; decide, by rw [h3]; simp⟩
structure MBlock (b : Block) : Prop where
 ok : b.Ok
 lens : b.shapes.length <= 4 /\ b.grid.length <= 3 /\ b.hands.length <= 2 /\ b.lines.length <= 3
 figure : b.kind = 4 -> 2 <= b.shapes.length
 grid : b.kind = 3 -> 1 <= b.grid.length /\ ∀ r ∈ b.grid, aooZ r
 music : b.kind = 5 -> 1 <= b.hands.length /\ ∀ h ∈ b.hands, atAZ h
 listing : b.kind = 6 -> 1 <= b.lines.length
 slack : Slack b
 fit : Fit b
abbrev arvZ (k : Int) (v : AV) : Prop := ∃ b : Block, v = .agg (aawZ b) /\ b.kind = k /\ MBlock b
def aaHZ (k : Int) : Block := ⟨k, [], .mk 0 0 [], 0, [], [], 0, 0, [], [], []⟩
theorem arwZ : accZ 0 := by constructor <;> decide
theorem avfZ : (Expr.mk 0 0 []).Ok := .mk _ _ _ arwZ arwZ (by simp) (by simp)
theorem aeHZ {k : Int} (hk : accZ k) : (aaHZ k).Ok := by
 constructor <;> first | exact hk | exact arwZ | exact avfZ | (simp [aaHZ, aqiZ, amJZ]; done)
set_option maxHeartbeats 3200000 in
theorem avgZ {A : AProg} {g : String -> Nat} (h : Has A g "(*dactyl/dactylref23.Maker).Block" (abKZ g))
  (hr : aaMZ A (g "(*dactyl/dactylref23.Maker).Runs") [] avbZ) (he : aaMZ A (g "(*dactyl/dactylref23.Maker).Expr") [vi 3] (alnZ 4)) (hs : aaMZ A (g "(*dactyl/dactylref23.Maker).Sum") [] ayWZ)
  (hg : aaMZ A (g "(*dactyl/dactylref23.Maker).Grid") [] axXZ) (hf : aaMZ A (g "(*dactyl/dactylref23.Maker).Figure") [] aswZ) (hm : aaMZ A (g "(*dactyl/dactylref23.Maker).Melody") [] asvZ)
  (hn : aaMZ A (g "(*dactyl/dactylref23.Maker).Lines") [] avcZ) {k : Int} (hk0 : 0 <= k) (hk1 : k < 7) : aaMZ A (g "(*dactyl/dactylref23.Maker).Block") [vi k] (arvZ k) := by
 refine h.gen (by simp [abKZ]) (fun n => by kernel_rfl) ?_
 intro l i o v H hl hlt ho
 have hko : accZ k := aaxZ hk0 (by omega)
 have hcs : k = 0 ∨ k = 1 ∨ k = 2 ∨ k = 3 ∨ k = 4 ∨ k = 5 ∨ k = 6 := by omega
 simp only [abKZ, adMZ]
 rcases hcs with rfl | rfl | rfl | rfl | rfl | rfl | rfl
 ·simp only [go_sem, ↓reduceIte, NB, NA, NL, ND, NE]
  refine aalZ hr hl (i := i) (by simp only [go_sem, acmZ, hlt, ho]) ?_
  rintro val i1 ⟨r, rfl, hr1, hr2, hr3⟩
  simp only [go_sem, ↓reduceIte, NA, ND, hlt, aciZ, aajZ, aaaZ (aabZ aeLZ _), aaaZ (aabZ aasZ _)]
  exact ⟨⟨i1, rfl⟩, { aaHZ 0 with runs := r }, by simp [aawZ, aaHZ, aaGZ, aegZ], rfl, { aeHZ hko with lenR := by show r.length <= 16; omega, runs := fun a h => (hr3 a h).1 }, by simp [aaHZ], fun hh => absurd (show (0 : Int) = 4 from hh) (by decide), fun hh => absurd (show (0 : Int) = 3 from hh) (by decide), fun hh => absurd (show (0 : Int) = 5 from hh) (by decide), fun hh => absurd (show (0 : Int) = 6 from hh) (by decide), aiGZ hr2 (by simp [aaHZ]) rfl, asxZ rfl rfl rfl⟩
 ·simp only [go_sem, ↓reduceIte, NB, NA, NL, ND, NE, IB]
  refine aalZ he hl (i := i) (by simp only [go_sem, acmZ, hlt, ho]) ?_
  rintro val i1 ⟨⟨op, n, kids⟩, rfl, hd⟩
  simp only [aaGZ, abvZ]
  simp only [go_sem, ↓reduceIte, NA, ND, hlt, aciZ, aajZ, aaaZ (aabZ abpZ _), aaaZ (aabZ aasZ _)]
  exact ⟨⟨i1, rfl⟩, { aaHZ 1 with expr := .mk op n kids }, by simp [aawZ, aaHZ, aaGZ, abvZ], rfl, { aeHZ hko with expr := hd.ok.1, size := by have := hd.ok.2; show aqiZ (.mk op n kids) <= 1000; omega }, by simp [aaHZ], fun hh => absurd (show (1 : Int) = 4 from hh) (by decide), fun hh => absurd (show (1 : Int) = 3 from hh) (by decide), fun hh => absurd (show (1 : Int) = 5 from hh) (by decide), fun hh => absurd (show (1 : Int) = 6 from hh) (by decide), atCZ (by simp [aaHZ]) (by simp [aaHZ]) rfl hd,⟨hd, by simp [aaHZ], by simp [aaHZ]⟩⟩
 ·simp only [go_sem, ↓reduceIte, NB, NA, NL, ND, NE, IB]
  refine aalZ hs hl (i := i) (by simp only [go_sem, acmZ, hlt, ho]) ?_
  rintro val i1 ⟨op, a, rfl, ha1, ha2, ha3, ha4⟩
  simp only [go_sem, ↓reduceIte, NA, ND, hlt, aciZ, aajZ, aaaZ (aabZ aasZ _)]
  exact ⟨⟨i1, rfl⟩, { aaHZ 2 with sumOp := op, sumA := a }, by simp [aawZ, aaHZ, aaGZ, aegZ], rfl, { aeHZ hko with sumOp := ha1, lenA := by show a.length <= 16; omega, sumA := ha3 }, by simp [aaHZ], fun hh => absurd (show (2 : Int) = 4 from hh) (by decide), fun hh => absurd (show (2 : Int) = 3 from hh) (by decide), fun hh => absurd (show (2 : Int) = 5 from hh) (by decide), fun hh => absurd (show (2 : Int) = 6 from hh) (by decide), aiGZ (by simp [aaHZ]) ha2 rfl,⟨amNZ, ha4, by simp [aaHZ]⟩⟩
 ·simp only [go_sem, ↓reduceIte, NB, NA, NL, ND, NE, IB]
  refine aalZ hg hl (i := i) (by simp only [go_sem, acmZ, hlt, ho]) ?_
  rintro val i1 ⟨r, rfl, hr1, hr2, hr3⟩
  simp only [go_sem, ↓reduceIte, NA, ND, hlt, aciZ, aajZ, aaaZ (aabZ ajVZ _), aaaZ (aabZ aasZ _)]
  exact ⟨⟨i1, rfl⟩, { aaHZ 3 with grid := r }, by simp [aawZ, aaHZ, aaGZ, aegZ], rfl, { aeHZ hko with lenG := by show r.length <= 16; omega, grid := fun x hx => ⟨by have := (hr3 x hx).2.1; omega, fun s hs => by have := (hr3 x hx).2.2 s hs; show s.length <= 1000; omega⟩ }, by simp [aaHZ]; omega, fun hh => absurd (show (3 : Int) = 4 from hh) (by decide), fun _ => ⟨hr1, hr3⟩, fun hh => absurd (show (3 : Int) = 5 from hh) (by decide), fun hh => absurd (show (3 : Int) = 6 from hh) (by decide), aiGZ (by simp [aaHZ]) (by simp [aaHZ]) rfl, asxZ rfl rfl rfl⟩
 ·simp only [go_sem, ↓reduceIte, NB, NA, NL, ND, NE, IB]
  refine aalZ hf hl (i := i) (by simp only [go_sem, acmZ, hlt, ho]) ?_
  rintro val i1 ⟨w, h, s, rfl, hw, hh, hs1, hs2, hs3⟩
  simp only [go_sem, ↓reduceIte, NA, ND, hlt, aciZ, aajZ, aaaZ (aabZ aeGZ _), aaaZ (aabZ aasZ _)]
  exact ⟨⟨i1, rfl⟩, { aaHZ 4 with w := w, h := h, shapes := s }, by simp [aawZ, aaHZ, aaGZ, aegZ], rfl, { aeHZ hko with w := hw, h := hh, lenS := by show s.length <= 16; omega, shapes := fun a ha => (hs3 a ha).1 }, by simp [aaHZ]; omega, fun _ => hs1, fun hh => absurd (show (4 : Int) = 3 from hh) (by decide), fun hh => absurd (show (4 : Int) = 5 from hh) (by decide), fun hh => absurd (show (4 : Int) = 6 from hh) (by decide), aiGZ (by simp [aaHZ]) (by simp [aaHZ]) rfl,⟨amNZ, by simp [aaHZ], fun a ha => (hs3 a ha).2⟩⟩
 ·simp only [go_sem, ↓reduceIte, NB, NA, NL, ND, NE, IB]
  refine aalZ hm hl (i := i) (by simp only [go_sem, acmZ, hlt, ho]) ?_
  rintro val i1 ⟨m, rfl, hm1, hm2, hm3⟩
  simp only [go_sem, ↓reduceIte, NA, ND, hlt, aciZ, aajZ, aaaZ (aabZ ahYZ _), aaaZ (aabZ aasZ _)]
  exact ⟨⟨i1, rfl⟩, { aaHZ 5 with hands := m }, by simp [aawZ, aaHZ, aaGZ, aegZ], rfl, { aeHZ hko with lenH := by show m.length <= 16; omega, hands := fun x hx => ⟨by have := (hm3 x hx).2.1; omega, fun y hy => ⟨by have := ((hm3 x hx).2.2 y hy).2.1; omega, ((hm3 x hx).2.2 y hy).2.2⟩⟩ }, by simp [aaHZ]; omega, fun hh => absurd (show (5 : Int) = 4 from hh) (by decide), fun hh => absurd (show (5 : Int) = 3 from hh) (by decide), fun _ => ⟨hm1, hm3⟩, fun hh => absurd (show (5 : Int) = 6 from hh) (by decide), aiGZ (by simp [aaHZ]) (by simp [aaHZ]) rfl, asxZ rfl rfl rfl⟩
 ·simp only [go_sem, ↓reduceIte, NB, NA, NL, ND, NE, IB]
  refine aalZ hn hl (i := i) (by simp only [go_sem, acmZ, hlt, ho]) ?_
  rintro val i1 ⟨r, rfl, hr1, hr2, hr3⟩
  simp only [go_sem, ↓reduceIte, NA, hlt, aciZ, aajZ, aaaZ (aabZ abuZ _), aaaZ (aabZ aasZ _)]
  exact ⟨⟨i1, rfl⟩, { aaHZ 6 with lines := r }, by simp [aawZ, aaHZ, aaGZ, aegZ], rfl, { aeHZ hko with lenL := by show r.length <= 16; omega, lines := fun s hs => by have := hr3 s hs; show s.length <= 1000; omega }, by simp [aaHZ]; omega, fun hh => absurd (show (6 : Int) = 4 from hh) (by decide), fun hh => absurd (show (6 : Int) = 3 from hh) (by decide), fun hh => absurd (show (6 : Int) = 5 from hh) (by decide), fun _ => hr1, aiGZ (by simp [aaHZ]) (by simp [aaHZ]) rfl, asxZ rfl rfl rfl⟩
end Go.AM
end
section
set_option maxRecDepth 8000
namespace Go.AM
open Go
abbrev agxZ (g : String -> Nat) : List AOper := [⟨some 20, .bsl 1 [(.int .i64 0)] 2 [(0, (.const (.int .i64 3))), (1, (.const (.int .i64 4)))], none, []⟩,⟨some 21, .mov (.tmp 0), none, []⟩,⟨some 22, .callv (.const (.fn (g "(*dactyl/dactylref23.Maker).Take") [] [])) [(.tmp 21), (.const (.int .i64 2))], none, [1]⟩,⟨some 23, .iaV (.tmp 20) (.tmp 22) 1, none, [0, 2, 1]⟩,⟨some 24, .load 1 false (.tmp 23), none, [3, 0, 2, 1]⟩,⟨some 25, .mov (.tmp 2), none, []⟩,⟨some 26, .mov (.tmp 8), none, []⟩,⟨some 27, .mov (.tmp 8), none, []⟩,⟨some 28, .bin .add .no (.tmp 27) (.const (.int .i64 1)), none, [7]⟩,⟨some 29, .mov (.tmp 0), none, []⟩,⟨some 30, .mov (.tmp 7), none, []⟩,⟨some 31, .bin .sub .no (.tmp 30) (.const (.int .i64 1)), none, [10]⟩,⟨some 32, .callv (.const (.fn (g "(*dactyl/dactylref23.Maker).Take") [] [])) [(.tmp 29), (.tmp 31)], none, [9, 11, 10, 2, 1]⟩,⟨some 33, .bin .add .no (.tmp 28) (.tmp 32), none, [8, 7, 12, 9, 11, 10, 2, 1]⟩,⟨some 34, .mov (.tmp 7), none, []⟩,⟨some 35, .bin .rem .no (.tmp 33) (.tmp 34), none, [13, 8, 7, 12, 9, 11, 10, 2, 1, 14]⟩,⟨some 36, .build [(.int .i64 0), (.int .i64 0), (.int .i64 0), (.int .i64 0)] [(0, 1, (.tmp 24)), (1, 1, (.tmp 25)), (2, 1, (.tmp 26)), (3, 1, (.tmp 35))], none, [4, 3, 0, 5, 6, 15, 13, 8, 7, 12, 9, 11, 10, 2, 1, 14]⟩,⟨some 9, .alloc [(.int .i64 0), (.int .i64 0), (.int .i64 0), (.int .i64 0)], none, []⟩,⟨none, .store 4 (.tmp 9) (.tmp 36), none, [16, 4, 3, 0, 5, 6, 15, 13, 8, 7, 12, 9, 11, 10, 2, 1, 14, 17]⟩]
abbrev aeaZ : List Nat := [2, 4, 12, 17]
abbrev agyZ (g : String -> Nat) : List AOper := [⟨some 56, .mov (.tmp 2), none, []⟩,⟨some 57, .mov (.tmp 0), none, []⟩,⟨some 58, .fa 7 (.tmp 4), none, []⟩,⟨some 59, .fa 0 (.tmp 58), none, [2]⟩,⟨some 60, .load 1 false (.tmp 59), none, [3, 2]⟩,⟨some 61, .lenV (.tmp 60), none, [4, 3, 2]⟩,⟨some 62, .callv (.const (.fn (g "(*dactyl/dactylref23.Maker).Take") [] [])) [(.tmp 57), (.tmp 61)], none, [1, 5, 4, 3, 2]⟩,⟨some 63, .mov (.tmp 0), none, []⟩,⟨some 64, .fa 7 (.tmp 4), none, []⟩,⟨some 65, .fa 0 (.tmp 64), none, [8]⟩,⟨some 66, .load 1 false (.tmp 65), none, [9, 8]⟩,⟨some 67, .iaV (.tmp 66) (.const (.int .i64 0)) 1, none, [10, 9, 8]⟩,⟨some 68, .load 1 false (.tmp 67), none, [11, 10, 9, 8]⟩,⟨some 69, .lenV (.tmp 68), none, [12, 11, 10, 9, 8]⟩,⟨some 70, .callv (.const (.fn (g "(*dactyl/dactylref23.Maker).Take") [] [])) [(.tmp 63), (.tmp 69)], none, [7, 13, 12, 11, 10, 9, 8, 6, 1, 5, 4, 3, 2]⟩,⟨some 71, .build [(.int .i64 0), (.int .i64 0), (.int .i64 0), (.int .i64 0)] [(0, 1, (.const (.int .i64 1))), (1, 1, (.tmp 56)), (2, 1, (.tmp 62)), (3, 1, (.tmp 70))], none, [0, 14, 7, 13, 12, 11, 10, 9, 8, 6, 1, 5, 4, 3, 2]⟩,⟨none, .store 4 (.tmp 6) (.tmp 71), none, [15, 0, 14, 7, 13, 12, 11, 10, 9, 8, 6, 1, 5, 4, 3, 2]⟩]
abbrev aebZ : List Nat := [6, 10, 12]
abbrev agzZ (g : String -> Nat) : List AOper := [⟨some 80, .mov (.tmp 2), none, []⟩,⟨some 81, .mov (.tmp 0), none, []⟩,⟨some 82, .fa 11 (.tmp 4), none, []⟩,⟨some 83, .fa 0 (.tmp 82), none, [2]⟩,⟨some 84, .load 1 false (.tmp 83), none, [3, 2]⟩,⟨some 85, .iaV (.tmp 84) (.const (.int .i64 0)) 1, none, [4, 3, 2]⟩,⟨some 86, .load 1 false (.tmp 85), none, [5, 4, 3, 2]⟩,⟨some 87, .lenV (.tmp 86), none, [6, 5, 4, 3, 2]⟩,⟨some 88, .callv (.const (.fn (g "(*dactyl/dactylref23.Maker).Take") [] [])) [(.tmp 81), (.tmp 87)], none, [1, 7, 6, 5, 4, 3, 2]⟩,⟨some 89, .mov (.tmp 0), none, []⟩,⟨some 90, .fa 11 (.tmp 4), none, []⟩,⟨some 91, .fa 0 (.tmp 90), none, [10]⟩,⟨some 92, .load 1 false (.tmp 91), none, [11, 10]⟩,⟨some 93, .lenV (.tmp 92), none, [12, 11, 10]⟩,⟨some 94, .callv (.const (.fn (g "(*dactyl/dactylref23.Maker).Take") [] [])) [(.tmp 89), (.tmp 93)], none, [9, 13, 12, 11, 10, 8, 1, 7, 6, 5, 4, 3, 2]⟩,⟨some 95, .build [(.int .i64 0), (.int .i64 0), (.int .i64 0), (.int .i64 0)] [(0, 1, (.const (.int .i64 5))), (1, 1, (.tmp 80)), (2, 1, (.tmp 88)), (3, 1, (.tmp 94))], none, [0, 14, 9, 13, 12, 11, 10, 8, 1, 7, 6, 5, 4, 3, 2]⟩,⟨none, .store 4 (.tmp 6) (.tmp 95), none, [15, 0, 14, 9, 13, 12, 11, 10, 8, 1, 7, 6, 5, 4, 3, 2]⟩]
abbrev aecZ : List Nat := [8, 12]
def acbZ (g : String -> Nat) : AFn := ⟨113, [4, 6, 9], [.cell 6 4 true],.seq (.region false [⟨some 4, .box 13 (.tmp 1), none, []⟩,⟨some 6, .alloc [(.int .i64 0), (.int .i64 0), (.int .i64 0), (.int .i64 0)], none, []⟩]) <| .seq (.seq (.region false [⟨some 10, .fa 0 (.tmp 4), none, []⟩,⟨some 11, .load 1 false (.tmp 10), none, [0]⟩,⟨some 12, .bin .eql .no (.tmp 11) (.const (.int .i64 4)), none, [1, 0]⟩]) <| .cond (.tmp 12) (.seq (.region false [⟨some 13, .fa 8 (.tmp 4), none, []⟩,⟨some 14, .fa 2 (.tmp 13), none, [0]⟩,⟨some 15, .load 1 false (.tmp 14), none, [1, 0]⟩,⟨some 16, .lenV (.tmp 15), none, [2, 1, 0]⟩,⟨some 7, .mov (.tmp 16), none, [3, 2, 1, 0]⟩]) <| .seq (.region false [⟨some 17, .mov (.tmp 0), none, []⟩,⟨some 18, .mov (.tmp 7), none, []⟩,⟨some 19, .callv (.const (.fn (g "(*dactyl/dactylref23.Maker).Take") [] [])) [(.tmp 17), (.tmp 18)], none, [0, 1]⟩,⟨some 8, .mov (.tmp 19), none, [2, 0, 1]⟩]) <| .seq (.region true (agxZ g)) <| .seq (.seq (.region false [⟨some 37, .mov (.tmp 0), none, []⟩,⟨some 38, .callv (.const (.fn (g "(*dactyl/dactylref23.Maker).Take") [] [])) [(.tmp 37), (.const (.int .i64 3))], none, [0]⟩,⟨some 39, .bin .eql .no (.tmp 38) (.const (.int .i64 0)), none, [1, 0]⟩,⟨some 40, .mov (.tmp 39), none, [2, 1, 0]⟩,⟨some 41, .mov (.tmp 8), some (some 40, true), [3, 2, 1, 0]⟩,⟨some 42, .bin .gtr .no (.tmp 41) (.const (.int .i64 0)), some (some 40, true), [4, 3, 2, 1, 0]⟩,⟨some 43, .pick (.tmp 40) (.tmp 42) (.const (.bool false)), none, [5, 4, 3, 2, 1, 0]⟩]) <| .cond (.tmp 43) (.seq (.region false [⟨some 44, .mov (.tmp 2), none, []⟩,⟨some 45, .mov (.tmp 8), none, []⟩,⟨some 46, .build [(.int .i64 0), (.int .i64 0), (.int .i64 0), (.int .i64 0)] [(0, 1, (.const (.int .i64 2))), (1, 1, (.tmp 44)), (2, 1, (.tmp 45))], none, [0, 1]⟩,⟨none, .store 4 (.tmp 6) (.tmp 46), none, [2, 0, 1]⟩]) <| .ret) (.skip)) <| .seq (.region false [⟨some 47, .load 4 true (.tmp 9), none, []⟩,⟨none, .store 4 (.tmp 6) (.tmp 47), none, [0]⟩]) <| .ret) (.skip)) <| .seq (.seq (.region false [⟨some 48, .fa 0 (.tmp 4), none, []⟩,⟨some 49, .load 1 false (.tmp 48), none, [0]⟩,⟨some 50, .bin .eql .no (.tmp 49) (.const (.int .i64 3)), none, [1, 0]⟩,⟨some 51, .mov (.tmp 50), none, [2, 1, 0]⟩,⟨some 52, .mov (.tmp 0), some (some 51, true), [3, 2, 1, 0]⟩,⟨some 53, .callv (.const (.fn (g "(*dactyl/dactylref23.Maker).Take") [] [])) [(.tmp 52), (.const (.int .i64 3))], some (some 51, true), [4, 3, 2, 1, 0]⟩,⟨some 54, .bin .gtr .no (.tmp 53) (.const (.int .i64 0)), some (some 51, true), [5, 4, 3, 2, 1, 0]⟩,⟨some 55, .pick (.tmp 51) (.tmp 54) (.const (.bool false)), none, [6, 5, 4, 3, 2, 1, 0]⟩]) <| .cond (.tmp 55) (.seq (.region true (agyZ g)) <| .ret) (.skip)) <| .seq (.seq (.region false [⟨some 72, .fa 0 (.tmp 4), none, []⟩,⟨some 73, .load 1 false (.tmp 72), none, [0]⟩,⟨some 74, .bin .eql .no (.tmp 73) (.const (.int .i64 5)), none, [1, 0]⟩,⟨some 75, .mov (.tmp 74), none, [2, 1, 0]⟩,⟨some 76, .mov (.tmp 0), some (some 75, true), [3, 2, 1, 0]⟩,⟨some 77, .callv (.const (.fn (g "(*dactyl/dactylref23.Maker).Take") [] [])) [(.tmp 76), (.const (.int .i64 3))], some (some 75, true), [4, 3, 2, 1, 0]⟩,⟨some 78, .bin .gtr .no (.tmp 77) (.const (.int .i64 0)), some (some 75, true), [5, 4, 3, 2, 1, 0]⟩,⟨some 79, .pick (.tmp 75) (.tmp 78) (.const (.bool false)), none, [6, 5, 4, 3, 2, 1, 0]⟩]) <| .cond (.tmp 79) (.seq (.region true (agzZ g)) <| .ret) (.skip)) <| .seq (.seq (.region false [⟨some 96, .fa 0 (.tmp 4), none, []⟩,⟨some 97, .load 1 false (.tmp 96), none, [0]⟩,⟨some 98, .bin .eql .no (.tmp 97) (.const (.int .i64 6)), none, [1, 0]⟩,⟨some 99, .mov (.tmp 98), none, [2, 1, 0]⟩,⟨some 100, .mov (.tmp 0), some (some 99, true), [3, 2, 1, 0]⟩,⟨some 101, .callv (.const (.fn (g "(*dactyl/dactylref23.Maker).Take") [] [])) [(.tmp 100), (.const (.int .i64 3))], some (some 99, true), [4, 3, 2, 1, 0]⟩,⟨some 102, .bin .gtr .no (.tmp 101) (.const (.int .i64 0)), some (some 99, true), [5, 4, 3, 2, 1, 0]⟩,⟨some 103, .pick (.tmp 99) (.tmp 102) (.const (.bool false)), none, [6, 5, 4, 3, 2, 1, 0]⟩]) <| .cond (.tmp 103) (.seq (.region false [⟨some 104, .mov (.tmp 2), none, []⟩,⟨some 105, .mov (.tmp 0), none, []⟩,⟨some 106, .fa 12 (.tmp 4), none, []⟩,⟨some 107, .load 1 false (.tmp 106), none, [2]⟩,⟨some 108, .lenV (.tmp 107), none, [3, 2]⟩,⟨some 109, .callv (.const (.fn (g "(*dactyl/dactylref23.Maker).Take") [] [])) [(.tmp 105), (.tmp 108)], none, [1, 4, 3, 2]⟩,⟨some 110, .build [(.int .i64 0), (.int .i64 0), (.int .i64 0), (.int .i64 0)] [(0, 1, (.const (.int .i64 6))), (1, 1, (.tmp 104)), (2, 1, (.tmp 109))], none, [0, 5, 1, 4, 3, 2]⟩,⟨none, .store 4 (.tmp 6) (.tmp 110), none, [6, 0, 5, 1, 4, 3, 2]⟩]) <| .ret) (.skip)) <| .seq (.region false [⟨some 111, .mov (.tmp 2), none, []⟩,⟨some 112, .build [(.int .i64 0), (.int .i64 0), (.int .i64 0), (.int .i64 0)] [(0, 1, (.const (.int .i64 0))), (1, 1, (.tmp 111))], none, [0]⟩,⟨none, .store 4 (.tmp 6) (.tmp 112), none, [1, 0]⟩]) <| .ret⟩
abbrev aqmZ (v : AV) : Prop := ∃ f : Fact, v = .agg (aaAZ f) /\ f.Ok
abbrev aiHZ (A : AProg) (f : Nat) (args : List AV) (P : AV -> Prop) : Prop := ∀ (l : List Int) (i : Int) (o v : Nat) (H : List AObj), acIZ l -> H[o]? = some (.box v (aaeZ l i)) ->
 ∃ val i' wr, aapZ A f (.ptr o v 0 :: args) H = some (val, H.set o (.box v (aaeZ l i')), wr) /\ (wr = [] ∨ wr = [o]) /\ P val
theorem Has.gen' {A : AProg} {g : String -> Nat} {name : String} {fn : AFn} (h : Has A g name fn) {args : List AV} {P : AV -> Prop} (hN : args.length + 1 <= fn.ntmps) (hok : ∀ n, aaSZ fn.ntmps ⟨n, fn.sites⟩ fn.body = true)
  (hw : ∀ (l : List Int) (i : Int) (o v : Nat) (H : List AObj), acIZ l -> o < H.length -> H[o]? = some (.box v (aaeZ l i)) ->
   wc A fn.ntmps ⟨H.length, fn.sites⟩ fn.body (agcZ (.ptr o v 0 :: args)) (H ++ List.replicate fn.sites.length (.gone 0)) [] (ends H.length fn.results (fun val H' wr => (∃ i', H' = H.set o (.box v (aaeZ l i'))) /\ (wr = [] ∨ wr = [o]) /\ P val) ⟨⟩) ⟨⟩) :
  aiHZ A (g name) args P := by
 intro l i o v H hl ho
 obtain ⟨val, H', wr, h1,⟨i', rfl⟩, hw2, h2⟩ := h.callEx (args := .ptr o v 0 :: args) (by simpa using hN) (hok _) (hw l i o v H hl (getElem?_lt ho) ho)
 exact ⟨val, i', wr, h1, hw2, h2⟩
set_option maxHeartbeats 6400000 in
theorem awPZ {A : AProg} {g : String -> Nat} (h : Has A g "(*dactyl/dactylref23.Maker).Fact" (acbZ g)) (ht : abIZ A g) {b : Block} (hb : MBlock b) {at' : Int} (ha0 : 0 <= at') (ha1 : at' <= 1000) :
  aiHZ A (g "(*dactyl/dactylref23.Maker).Fact") [.agg (aawZ b), vi at'] aqmZ := by
 refine h.gen' (by simp [acbZ]) (fun n => by kernel_rfl) ?_
 intro l i o v H hl hlt ho
 obtain ⟨hl1, hl2, hl3, hl4⟩ := hb.lens
 have fin : ∀ k x y : Int, 0 <= k -> k <= 1000 -> 0 <= x -> x <= 1000 -> 0 <= y -> y <= 1000 -> aqmZ (.agg [vi k, vi at', vi x, vi y]) := fun k x y h1 h2 h3 h4 h5 h6 =>
  ⟨⟨k, at', x, y⟩, rfl,⟨aaxZ h1 (by show k <= 1000000; omega), aaxZ ha0 (by show at' <= 1000000; omega), aaxZ h3 (by show x <= 1000000; omega), aaxZ h5 (by show y <= 1000000; omega)⟩⟩
 simp only [acbZ]
 cases hbe : b.expr with | mk op n kids =>
 by_cases k6 : b.kind = 6
 ·have hn := hb.listing k6
  simp only [go_sem, ↓reduceIte, NB, NA, NL, ND, NE, IB, aawZ, hbe, aaGZ, abvZ, k6]
  refine aalZ (aakZ ht (m := 3) (by decide)) hl (i := i) (by simp only [go_sem, acmZ, hlt, ho]) ?_
  rintro val i1 ⟨x, rfl, hx0, hx1⟩
  simp only [go_sem, ↓reduceIte, hlt, aciZ]
  refine aacZ (fun hb1 => ?_) (fun hb1 => ?_)
  ·simp only [go_sem, ↓reduceIte, NB, NA, ND, NE, hlt]
   refine aalZ (aakZ ht (m := b.lines.length) (by omega)) hl (i := i1) (by simp only [go_sem, aagZ, hlt]) ?_
   rintro val i2 ⟨y, rfl, hy0, hy1⟩
   simp only [go_sem, ↓reduceIte, NA, reduceCtorEq, hlt, aahZ, aajZ, aaaZ (aabZ aasZ _)]
   exact ⟨⟨i2, rfl⟩, .inr trivial, fin 6 y 0 (by decide) (by decide) hy0 (by omega) (by decide) (by decide)⟩
  ·simp only [go_sem, ↓reduceIte, NB, NA, ND, reduceCtorEq, hlt, aajZ, aaaZ (aabZ aasZ _)]
   exact ⟨⟨i1, rfl⟩, .inr trivial, fin 0 0 0 (by decide) (by decide) (by decide) (by decide) (by decide) (by decide)⟩
 by_cases k5 : b.kind = 5
 ·have hn := hb.music k5
  cases hhd : b.hands with
  | nil => rw [hhd] at hn; simp at hn
  | cons h0 hr =>
  have hh0 := hn.2 h0 (by rw [hhd]; simp)
  rw [hhd] at hl3
  simp only [List.length_cons] at hl3
  simp only [go_sem, ↓reduceIte, NB, NA, NL, ND, NE, IB, aawZ, hbe, aaGZ, abvZ, k5, hhd]
  refine aalZ (aakZ ht (m := 3) (by decide)) hl (i := i) (by simp only [go_sem, acmZ, hlt, ho]) ?_
  rintro val i1 ⟨x, rfl, hx0, hx1⟩
  simp only [go_sem, ↓reduceIte, hlt, aciZ]
  refine aacZ (fun hb1 => ?_) (fun hb1 => ?_)
  ·simp only [go_sem]
   refine aaPZ (keep := aecZ) (by rfl) (by rfl) ?_
   simp only [go_sem, ↓reduceIte, NB, NA, ND, NE, ID, IT, aecZ, hlt, agnZ]
   refine abaZ (aakZ ht (m := h0.length) (by have := hh0.1; omega)) hl (i := i1) (by simp only [go_sem, aagZ, hlt]) ?_
   rintro val i2 ⟨y, rfl, hy0, hy1⟩
   simp only [go_sem, ↓reduceIte, NA, ND, hlt, aahZ]
   refine abaZ (aakZ ht (m := ((hr.length + 1 : Nat) : Int)) (by omega)) hl (i := i2) (by simp only [go_sem, aagZ, hlt]) ?_
   rintro val i3 ⟨z, rfl, hz0, hz1⟩
   have hne : (H.length == o) = false := by simp; omega
   simp only [go_sem, ↓reduceIte, NB, NA, BF, reduceCtorEq, hlt, aahZ, aajZ, aaaZ (aabZ aasZ _), acUZ, acEZ, hne, aavZ]
   have := hh0.2.1
   exact ⟨⟨i3, rfl⟩, .inr trivial, fin 5 y z (by decide) (by decide) hy0 (by omega) hz0 (by omega)⟩
  ·simp only [go_sem, ↓reduceIte, NB, NA, ND, IB, reduceCtorEq, hlt, aajZ, aaaZ (aabZ aasZ _)]
   exact ⟨⟨i1, rfl⟩, .inr trivial, fin 0 0 0 (by decide) (by decide) (by decide) (by decide) (by decide) (by decide)⟩
 by_cases k3 : b.kind = 3
 ·have hn := hb.grid k3
  cases hhd : b.grid with
  | nil => rw [hhd] at hn; simp at hn
  | cons h0 hr =>
  have hh0 := hn.2 h0 (by rw [hhd]; simp)
  rw [hhd] at hl2
  simp only [List.length_cons] at hl2
  simp only [go_sem, ↓reduceIte, NB, NA, NL, ND, NE, IB, aawZ, hbe, aaGZ, abvZ, k3, hhd]
  refine aalZ (aakZ ht (m := 3) (by decide)) hl (i := i) (by simp only [go_sem, acmZ, hlt, ho]) ?_
  rintro val i1 ⟨x, rfl, hx0, hx1⟩
  simp only [go_sem, ↓reduceIte, hlt, aciZ]
  refine aacZ (fun hb1 => ?_) (fun hb1 => ?_)
  ·simp only [go_sem]
   refine aaPZ (keep := aebZ) (by rfl) (by rfl) ?_
   simp only [go_sem, ↓reduceIte, NB, NA, ND, NE, aebZ, hlt, ahXZ]
   refine abaZ (aakZ ht (m := ((hr.length + 1 : Nat) : Int)) (by omega)) hl (i := i1) (by simp only [go_sem, aagZ, hlt]) ?_
   rintro val i2 ⟨y, rfl, hy0, hy1⟩
   simp only [go_sem, ↓reduceIte, NA, ND, ID, IT, hlt, aahZ]
   refine abaZ (aakZ ht (m := h0.length) (by have := hh0.1; omega)) hl (i := i2) (by simp only [go_sem, aagZ, hlt]) ?_
   rintro val i3 ⟨z, rfl, hz0, hz1⟩
   have hne : (H.length == o) = false := by simp; omega
   simp only [go_sem, ↓reduceIte, NB, NA, BF, reduceCtorEq, hlt, aahZ, aajZ, aaaZ (aabZ aasZ _), acUZ, acEZ, hne, aavZ]
   have := hh0.2.1
   exact ⟨⟨i3, rfl⟩, .inr trivial, fin 1 y z (by decide) (by decide) hy0 (by omega) hz0 (by omega)⟩
  ·simp only [go_sem, ↓reduceIte, NB, NA, ND, IB, reduceCtorEq, hlt, aajZ, aaaZ (aabZ aasZ _)]
   exact ⟨⟨i1, rfl⟩, .inr trivial, fin 0 0 0 (by decide) (by decide) (by decide) (by decide) (by decide) (by decide)⟩
 by_cases k4 : b.kind = 4
 ·have hn := hb.figure k4
  have hw0 : IntKind.i64.wrap ((b.shapes.length : Int) - 1) = (b.shapes.length : Int) - 1 := wrap_i64 (by omega) (by omega)
  simp only [go_sem, ↓reduceIte, NB, NA, NL, ND, NE, aawZ, hbe, aaGZ, abvZ, k4]
  refine aalZ (aakZ ht (m := b.shapes.length) (by omega)) hl (i := i) (by simp only [go_sem, acmZ, hlt, ho]) ?_
  rintro val i1 ⟨x, rfl, hx0, hx1⟩
  simp only [go_sem, ↓reduceIte, hlt, aciZ]
  refine aaPZ (keep := aeaZ) (H0 := _) (by simp only [go_sem, ↓reduceIte, NA, NL, NE, abfZ]; rfl) (by rfl) ?_
  simp only [go_sem, ↓reduceIte, NB, NA, NL, ND, NE, aeaZ]
  refine abaZ (aakZ ht (m := 2) (by decide)) hl (i := i1) (by simp only [go_sem, aagZ, hlt]) ?_
  rintro val i2 ⟨y, rfl, hy0, hy1⟩
  obtain ⟨kd, hkd, htab⟩ := tabI [3, 4] hy0 hy1
  simp only [List.map, aaqZ] at htab
  have hkb : 0 <= kd /\ kd <= 4 := by
   simp only [List.mem_cons, List.not_mem_nil, or_false] at hkd
   omega
  have hwx : IntKind.i64.wrap (x + 1) = x + 1 := wrap_i64 (by omega) (by omega)
  have hne : (H.length == o) = false := by simp; omega
  have hne2 : (H.length + 2 == o) = false := by simp; omega
  simp only [go_sem, ↓reduceIte, NA, ND, hlt, aahZ, hy0, htab, hwx, hw0]
  refine abaZ (aakZ ht (m := (b.shapes.length : Int) - 1) (by omega)) hl (i := i2) (by simp only [go_sem, aagZ, hlt]) ?_
  rintro val i3 ⟨z, rfl, hz0, hz1⟩
  have hwz : IntKind.i64.wrap (x + 1 + z) = x + 1 + z := wrap_i64 (by omega) (by omega)
  have hnz : (b.shapes.length : Int) ≠ 0 := by omega
  have hr0 := Int.tmod_nonneg (b.shapes.length : Int) (a := x + 1 + z) (by omega)
  have hr1 := Int.tmod_lt_of_pos (x + 1 + z) (b := (b.shapes.length : Int)) (by omega)
  simp only [go_sem, ↓reduceIte, NB, NA, NE, BF, hlt, aahZ, hwz, aeFZ hnz, acUZ, acEZ, hne2, aavZ]
  refine aalZ (aakZ ht (m := 3) (by decide)) hl (i := i3) (by simp only [go_sem, aagZ, hlt]) ?_
  rintro val i4 ⟨w, rfl, hw0, hw1⟩
  have last := fin kd x ((x + 1 + z).tmod b.shapes.length) hkb.1 (by omega) hx0 (by omega) hr0 (by omega)
  simp only [go_sem, ↓reduceIte, hlt, aahZ]
  refine aacZ (fun hb1 => ?_) (fun hb1 => ?_)
  ·have hb2 : (w == 0) = true := by simpa using hb1
   simp only [go_sem, ↓reduceIte, NB, hb2]
   refine aacZ (fun hb3 => ?_) (fun hb3 => ?_)
   ·simp only [go_sem, ↓reduceIte, NB, NA, ND, reduceCtorEq, hlt, aajZ, aaaZ (aabZ aasZ _)]
    exact ⟨⟨i4, rfl⟩, .inr trivial, fin 2 x 0 (by decide) (by decide) hx0 (by omega) (by decide) (by decide)⟩
   ·simp only [go_sem, ↓reduceIte, NB, NA, reduceCtorEq, hlt, aajZ, aaaZ (aabZ aasZ _)]
    exact ⟨⟨i4, rfl⟩, .inr trivial, last⟩
  ·have hb2 : (w == 0) = false := by
    cases hq : (w == 0) with
    | false => rfl
    | true => rw [hq] at hb1; cases hb1
   simp only [go_sem, ↓reduceIte, NB, NA, reduceCtorEq, hb2, hlt, aajZ, aaaZ (aabZ aasZ _)]
   exact ⟨⟨i4, rfl⟩, .inr trivial, last⟩
 ·simp only [go_sem, ↓reduceIte, NB, NA, NL, ND, NE, reduceCtorEq, aawZ, hbe, aaGZ, abvZ, alkZ k3, alkZ k4, alkZ k5, alkZ k6]
  exact ⟨⟨i, (assZ ho).symm⟩, .inl trivial, fin 0 0 0 (by decide) (by decide) (by decide) (by decide) (by decide) (by decide)⟩
end Go.AM
end
