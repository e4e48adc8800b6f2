/- Part 18 of the proof that stands in the last text of this folder (lemmas; no statement of its own). -/
import Derived.Test.YtjomjnkapjgheaaDoorK14
import Derived.Test.YtjomjnkapjgheaaDoorK15
import Derived.Test.YtjomjnkapjgheaaDoorK16
import Derived.Test.YtjomjnkapjgheaaDoorK17
section
open Nat renaming reduceBEq → NB, reduceAdd → NA, reduceSub → NS, reduceMul → NM, reduceLT → NL, reduceLeDiff → ND, reduceEqDiff → NE
open Int renaming reduceLT → IL, reduceLE → ID, reduceToNat → IT, reduceEq → IE, reduceBEq → IB, reduceBNe → IN, reduceAdd → IA, reduceSub → IS, reduceNeg → IM
open Bool renaming not_true → BT, not_false → BF
set_option linter.unusedVariables false
set_option maxRecDepth 8000
namespace Go.Proofs.AM
open Go
def objUnder (b : Nat) (H : List AObj) (o : Nat) : Bool := match H[o]? with
  | some x => x.under b
  | none => true
@[go_sem] theorem cutBack_obj {base o : Nat} {v : AV} {H : List AObj} (h : v.under base = true) (h2 : objUnder base H o = true) : cutBack base (v, H, [o]) = (v, H.take base, [o]) :=
  cutBack_wr h (by rw [List.all_cons, List.all_nil, Bool.and_true]; exact h2)
theorem objUnder_set {b o : Nat} {H : List AObj} {x : AObj} (h : o < H.length) : objUnder b (H.set o x) o = x.under b := by
  unfold objUnder; rw [List.getElem?_set_self h]
theorem objUnder_app {b o : Nat} {H L : List AObj} {x : AObj} (h : o < H.length) : objUnder b (H.set o x ++ L) o = x.under b := by
  unfold objUnder; rw [old_get_set h]
theorem GSl.app' {id k : Nat} {rows : List (List AV)} {v : AV} {o : AObj} (h : GSl id k rows v o) (hne : rows ≠ []) {new : List (List AV)} {bytes : Nat} (hn : new ≠ []) (hk : headOk k new = true) (hr : (rows.length + new.length) * (bytes + 1) ≤ 1099511627776) :
    ∃ v' o', GSl id k (rows ++ new) v' o' ∧ ∀ H f site, H[id]? = some o → evApp H site k bytes v (.sl f new) = some (v', H.set id o', [id]) := by
  cases h with
  | nil => exact absurd rfl hne
  | obj ver =>
    have hroom : roomy (rows.length + new.length) bytes = true := by unfold roomy; simpa using hr
    obtain ⟨a, l, rfl⟩ := List.exists_cons_of_ne_nil hn
    refine ⟨.sr id ver (rows ++ a :: l).length, .vec ver k (rows ++ a :: l), GSl.obj _ _, fun H f site ho => ?_⟩
    unfold evApp
    simp only [appRows, rowsOf, hk]
    simp only [BT, Bool.false_eq_true, if_false, ho, hroom, and_self, if_true, List.isEmpty_cons, List.length_append]
theorem GSl.len {id k : Nat} {rows : List (List AV)} {v : AV} {o : AObj} (h : GSl id k rows v o) : vLen v = some (.int .i64 rows.length) := by cases h <;> rfl
theorem GSl.inv {id k : Nat} {rows : List (List AV)} {v : AV} {o : AObj} (h : GSl id k rows v o) (hne : rows ≠ []) : ∃ ver, v = .sr id ver rows.length ∧ o = .vec ver k rows := by
  cases h with
  | nil => exact absurd rfl hne
  | obj ver => exact ⟨ver, rfl, rfl⟩
end Go.Proofs.AM
end
section
open Nat renaming reduceBEq → NB, reduceAdd → NA, reduceSub → NS, reduceMul → NM, reduceLT → NL, reduceLeDiff → ND, reduceEqDiff → NE
open Int renaming reduceLT → IL, reduceLE → ID, reduceToNat → IT, reduceEq → IE, reduceBEq → IB, reduceBNe → IN, reduceAdd → IA, reduceSub → IS, reduceNeg → IM
open Bool renaming not_true → BT, not_false → BF
set_option linter.unusedVariables false
set_option maxRecDepth 8000
namespace Go.Proofs.AM
open Go
abbrev dactylref23_Decimal_d0 (g : String → Nat) : List AOper := [⟨some 10, .mov (.tmp 0), none, []⟩,⟨some 11, .bin .quo .no (.tmp 10) (.const (.int .i64 10)), none, [0]⟩,⟨some 12, .callv (.const (.fn (g "dactyl/dactylref23.Decimal") [] [])) [(.tmp 11)], none, [1, 0]⟩,⟨some 13, .mov (.tmp 0), none, []⟩,⟨some 14, .bin .rem .no (.tmp 13) (.const (.int .i64 10)), none, [3]⟩,⟨some 15, .bin .add .no (.const (.int .i64 48)) (.tmp 14), none, [4, 3]⟩,⟨some 16, .conv (.toInt .u8) (.tmp 15), none, [5, 4, 3]⟩,⟨some 17, .bsl 1 [(.int .u8 0)] 1 [(0, (.tmp 16))], none, [6, 5, 4, 3]⟩,⟨some 18, .conv .b2s (.tmp 17), none, [7, 6, 5, 4, 3]⟩,⟨some 19, .bin .add .no (.tmp 12) (.tmp 18), none, [2, 1, 0, 8, 7, 6, 5, 4, 3]⟩,⟨some 2, .mov (.tmp 19), none, [9, 2, 1, 0, 8, 7, 6, 5, 4, 3]⟩]
abbrev dactylref23_Decimal_k0 : List Nat := [2, 6, 8]
def dactylref23_Decimal (g : String → Nat) : AFn := ⟨20, [], [.tmp 2],
  .seq (.region false [⟨some 2, .mov (.const (.str [])), none, []⟩]) <|
  .seq (.seq (.region false [⟨some 3, .mov (.tmp 0), none, []⟩,
    ⟨some 4, .bin .lss .no (.tmp 3) (.const (.int .i64 10)), none, [0]⟩]) <|
  .cond (.tmp 4) (.seq (.region false [⟨some 5, .mov (.tmp 0), none, []⟩,
      ⟨some 6, .bin .add .no (.const (.int .i64 48)) (.tmp 5), none, [0]⟩,
      ⟨some 7, .conv (.toInt .u8) (.tmp 6), none, [1, 0]⟩,
      ⟨some 8, .bsl 1 [(.int .u8 0)] 1 [(0, (.tmp 7))], none, [2, 1, 0]⟩,
      ⟨some 9, .conv .b2s (.tmp 8), none, [3, 2, 1, 0]⟩,
      ⟨some 2, .mov (.tmp 9), none, [4, 3, 2, 1, 0]⟩]) <|
    .ret)
    (.skip)) <|
  .seq (.region true (dactylref23_Decimal_d0 g)) <|
  .ret⟩
def dactylref01_Around (g : String → Nat) : AFn := ⟨15, [], [.tmp 4],
  .seq (.region false [⟨some 4, .mov (.const (.int .i64 0)), none, []⟩]) <|
  .seq (.seq (.region false [⟨some 5, .mov (.tmp 0), none, []⟩,
    ⟨some 6, .bin .lss .no (.tmp 5) (.const (.int .i64 0)), none, [0]⟩]) <|
  .cond (.tmp 6) (.region false [⟨some 7, .mov (.tmp 0), none, []⟩,
      ⟨some 8, .bin .add .no (.tmp 7) (.const (.int .i64 1)), none, [0]⟩,
      ⟨some 9, .un .neg (.tmp 8), none, [1, 0]⟩,
      ⟨some 0, .mov (.tmp 9), none, [2, 1, 0]⟩])
    (.skip)) <|
  .seq (.seq (.region false [⟨some 10, .mov (.tmp 1), none, []⟩,
    ⟨some 11, .bin .lss .no (.tmp 10) (.const (.int .i64 1)), none, [0]⟩]) <|
  .cond (.tmp 11) (.seq (.region false [⟨some 4, .mov (.const (.int .i64 0)), none, []⟩]) <|
    .ret)
    (.skip)) <|
  .seq (.region false [⟨some 12, .mov (.tmp 0), none, []⟩,
    ⟨some 13, .mov (.tmp 1), none, []⟩,
    ⟨some 14, .bin .rem .no (.tmp 12) (.tmp 13), none, [0, 1]⟩,
    ⟨some 4, .mov (.tmp 14), none, [2, 0, 1]⟩]) <|
  .ret⟩
def dactylref01_At (g : String → Nat) : AFn := ⟨21, [], [.tmp 6],
  .seq (.region false [⟨some 6, .mov (.const (.int .i64 0)), none, []⟩]) <|
  .seq (.seq (.region false [⟨some 7, .mov (.tmp 1), none, []⟩,
    ⟨some 8, .bin .lss .no (.tmp 7) (.const (.int .i64 0)), none, [0]⟩,
    ⟨some 9, .mov (.tmp 8), none, [1, 0]⟩,
    ⟨some 10, .mov (.tmp 1), some (some 9, false), [2, 1, 0]⟩,
    ⟨some 11, .mov (.tmp 0), some (some 9, false), [2, 1, 0]⟩,
    ⟨some 12, .lenV (.tmp 11), some (some 9, false), [4, 2, 1, 0]⟩,
    ⟨some 13, .bin .geq .no (.tmp 10) (.tmp 12), some (some 9, false), [3, 5, 4, 2, 1, 0]⟩,
    ⟨some 14, .pick (.tmp 9) (.const (.bool true)) (.tmp 13), none, [6, 3, 5, 4, 2, 1, 0]⟩]) <|
  .cond (.tmp 14) (.seq (.region false [⟨some 6, .mov (.const (.int .i64 0)), none, []⟩]) <|
    .ret)
    (.skip)) <|
  .seq (.region false [⟨some 15, .mov (.tmp 0), none, []⟩,
    ⟨some 16, .mov (.tmp 1), none, []⟩,
    ⟨some 17, .iaV (.tmp 15) (.tmp 16) 1, none, [0, 1]⟩,
    ⟨some 18, .load 1 false (.tmp 17), none, [2, 0, 1]⟩,
    ⟨some 19, .mov (.tmp 2), none, []⟩,
    ⟨some 20, .callv (.const (.fn (g "dactyl/dactylref01.Around") [] [])) [(.tmp 18), (.tmp 19)], none, [3, 2, 0, 1, 4]⟩,
    ⟨some 6, .mov (.tmp 20), none, [5, 3, 2, 0, 1, 4]⟩]) <|
  .ret⟩
abbrev dactylref23_Maker_Take_d0 (g : String → Nat) : List AOper := [⟨some 12, .mov (.tmp 0), none, []⟩,⟨some 13, .nilck (.tmp 12), none, [0]⟩,⟨some 14, .fa 0 (.tmp 13), none, [1, 0]⟩,⟨some 15, .load 1 false (.tmp 14), none, [2, 1, 0]⟩,⟨some 16, .mov (.tmp 0), none, []⟩,⟨some 17, .nilck (.tmp 16), none, [4]⟩,⟨some 18, .fa 1 (.tmp 17), none, [5, 4]⟩,⟨some 19, .load 1 false (.tmp 18), none, [6, 5, 4]⟩,⟨some 20, .bin .sub .no (.tmp 19) (.const (.int .i64 1)), none, [7, 6, 5, 4]⟩,⟨some 21, .mov (.tmp 1), none, []⟩,⟨some 22, .callv (.const (.fn (g "dactyl/dactylref01.At") [] [])) [(.tmp 15), (.tmp 20), (.tmp 21)], none, [3, 2, 1, 0, 8, 7, 6, 5, 4, 9]⟩,⟨some 4, .mov (.tmp 22), none, [10, 3, 2, 1, 0, 8, 7, 6, 5, 4, 9]⟩]
abbrev dactylref23_Maker_Take_k0 : List Nat := []
def dactylref23_Maker_Take (g : String → Nat) : AFn := ⟨23, [], [.tmp 4],
  .seq (.region false [⟨some 4, .mov (.const (.int .i64 0)), none, []⟩]) <|
  .seq (.region false [⟨some 5, .mov (.tmp 0), none, []⟩,
    ⟨some 6, .nilck (.tmp 5), none, [0]⟩,
    ⟨some 7, .fa 1 (.tmp 6), none, [1, 0]⟩,
    ⟨some 8, .load 1 false (.tmp 7), none, [2, 1, 0]⟩,
    ⟨some 9, .bin .add .no (.tmp 8) (.const (.int .i64 1)), none, [3, 2, 1, 0]⟩,
    ⟨some 10, .nilck (.tmp 5), none, [4, 3, 2, 1, 0]⟩,
    ⟨some 11, .fa 1 (.tmp 10), none, [5, 4, 3, 2, 1, 0]⟩,
    ⟨none, .store 1 (.tmp 11) (.tmp 9), none, [6, 5, 4, 3, 2, 1, 0]⟩]) <|
  .seq (.region true (dactylref23_Maker_Take_d0 g)) <|
  .ret⟩
def dactylref23_Arity (g : String → Nat) : AFn := ⟨15, [], [.tmp 2],
  .seq (.region false [⟨some 2, .mov (.const (.int .i64 0)), none, []⟩]) <|
  .seq (.seq (.region false [⟨some 3, .mov (.tmp 0), none, []⟩,
    ⟨some 4, .bin .eql .no (.tmp 3) (.const (.int .i64 0)), none, [0]⟩,
    ⟨some 5, .mov (.tmp 4), none, [1, 0]⟩,
    ⟨some 6, .mov (.tmp 0), some (some 5, false), [2, 1, 0]⟩,
    ⟨some 7, .bin .eql .no (.tmp 6) (.const (.int .i64 1)), some (some 5, false), [3, 2, 1, 0]⟩,
    ⟨some 8, .pick (.tmp 5) (.const (.bool true)) (.tmp 7), none, [4, 3, 2, 1, 0]⟩]) <|
  .cond (.tmp 8) (.seq (.region false [⟨some 2, .mov (.const (.int .i64 0)), none, []⟩]) <|
    .ret)
    (.skip)) <|
  .seq (.seq (.region false [⟨some 9, .mov (.tmp 0), none, []⟩,
    ⟨some 10, .bin .eql .no (.tmp 9) (.const (.int .i64 2)), none, [0]⟩,
    ⟨some 11, .mov (.tmp 10), none, [1, 0]⟩,
    ⟨some 12, .mov (.tmp 0), some (some 11, false), [2, 1, 0]⟩,
    ⟨some 13, .bin .eql .no (.tmp 12) (.const (.int .i64 8)), some (some 11, false), [3, 2, 1, 0]⟩,
    ⟨some 14, .pick (.tmp 11) (.const (.bool true)) (.tmp 13), none, [4, 3, 2, 1, 0]⟩]) <|
  .cond (.tmp 14) (.seq (.region false [⟨some 2, .mov (.const (.int .i64 1)), none, []⟩]) <|
    .ret)
    (.skip)) <|
  .seq (.region false [⟨some 2, .mov (.const (.int .i64 2)), none, []⟩]) <|
  .ret⟩
abbrev secret_Only_d0 (g : String → Nat) : List AOper := [⟨some 5, .load 2 true (.tmp 2), none, []⟩,⟨some 6, .callv (.const (.fn (g "dactyl/source.Erase") [] [])) [(.tmp 5)], none, [0]⟩,⟨some 7, .load 2 true (.tmp 3), none, []⟩,⟨some 8, .callv (.const (.fn (g "dactyl/source.Erase") [] [])) [(.tmp 7)], none, [2, 1, 0]⟩,⟨some 9, .callv (.const (.fn (g "dactyl/syntax.Same") [] [])) [(.tmp 6), (.tmp 8)], none, [3, 2, 1, 0]⟩,⟨some 4, .mov (.tmp 9), none, [4, 3, 2, 1, 0]⟩]
abbrev secret_Only_k0 : List Nat := [1, 2]
def secret_Only (g : String → Nat) : AFn := ⟨10, [2, 3], [.tmp 4],
  .seq (.region false [⟨some 2, .box 2 (.tmp 0), none, []⟩,
    ⟨some 3, .box 2 (.tmp 1), none, []⟩,
    ⟨some 4, .mov (.const (.bool false)), none, []⟩]) <|
  .seq (.region true (secret_Only_d0 g)) <|
  .ret⟩
theorem wrap_u8 {n : Int} (h1 : 0 ≤ n) (h2 : n ≤ 255) : IntKind.wrap .u8 n = n := by
  unfold IntKind.wrap IntKind.bits IntKind.signed
  simp
  omega
theorem decimal_spec {A : AProg} {g : String → Nat} (h : Has A g "dactyl/dactylref23.Decimal" (dactylref23_Decimal g)) : SpecDecimal A g := by
  have key : ∀ (k n : Nat) (H : List AObj), n < k → n < 1000000 → callI A (g "dactyl/dactylref23.Decimal") [vi n] H = some (.str (dec n), H, []) := by
    intro k
    induction k with
    | zero => intro n H hk; omega
    | succ k ih =>
      intro n H hk hn
      refine h.call (by simp [dactylref23_Decimal]) (by kernel_rfl) ?_
      simp only [dactylref23_Decimal]
      simp only [go_sem, NB]
      refine branch_intro (fun hb => ?_) (fun hb => ?_)
      · have hlt : n < 10 := by simp at hb; omega
        have hw : IntKind.i64.wrap (48 + (n : Int)) = ((48 + n : Nat) : Int) := by rw [wrap_i64 (by omega) (by omega)]; omega
        have hu : IntKind.u8.wrap ((48 + n : Nat) : Int) = ((48 + n : Nat) : Int) := wrap_u8 (by omega) (by omega)
        have hd : dec n = [UInt8.ofNat (48 + n)] := by rw [dec, if_pos hlt]
        simp only [go_sem, ↓reduceIte, NB, NL, hw, hu, convV, bytesOfRows, hd]
      · have hge : ¬ n < 10 := by simp at hb; omega
        have hq : (n : Int).tdiv 10 = ((n / 10 : Nat) : Int) := rfl
        have hr : (n : Int).tmod 10 = ((n % 10 : Nat) : Int) := rfl
        have hwq : IntKind.i64.wrap ((n / 10 : Nat) : Int) = ((n / 10 : Nat) : Int) := wrap_i64 (by omega) (by omega)
        have hw : IntKind.i64.wrap (48 + ((n % 10 : Nat) : Int)) = ((48 + n % 10 : Nat) : Int) := by rw [wrap_i64 (by omega) (by omega)]; omega
        have hu : IntKind.u8.wrap ((48 + n % 10 : Nat) : Int) = ((48 + n % 10 : Nat) : Int) := wrap_u8 (by omega) (by omega)
        have hih := fun H => ih (n / 10) H (by omega) (by omega)
        have hd : dec n = dec (n / 10) ++ [UInt8.ofNat (48 + n % 10)] := by rw [dec, if_neg hge]
        have hl : (dec (n / 10)).length + 1 ≤ 4611686018427387904 := by have := dec_len 5 (n / 10) (by omega); omega
        simp only [go_sem]
        refine wc_draw' (keep := [2, 6, 8]) (by rfl) (by rfl) ?_
        simp only [go_sem, ↓reduceIte, NB, NA, NL, BF, bin_quo (b := 10) (by decide), bin_rem (b := 10) (by decide), hq, hr, hwq, hw, hu, hih, convV, bytesOfRows, bin_addS, hl, logOk, apartL, orderOk_intro, hd]
  intro n H hn
  exact key (n + 1) n H (by omega) hn
def around (n most : Int) : Int := if most < 1 then 0 else (if n < 0 then IntKind.i64.wrap (0 - IntKind.i64.wrap (n + 1)) else n).tmod most
abbrev SpecAround (A : AProg) (g : String → Nat) : Prop := ∀ (n m : Int) (H : List AObj), callI A (g "dactyl/dactylref01.Around") [vi n, vi m] H = some (vi (around n m), H, [])
theorem around_spec {A : AProg} {g : String → Nat} (h : Has A g "dactyl/dactylref01.Around" (dactylref01_Around g)) : SpecAround A g := by
  intro n m H
  refine h.call (by simp [dactylref01_Around]) (by kernel_rfl) ?_
  simp only [dactylref01_Around]
  simp only [go_sem, NB]
  refine branch_intro (fun hb => ?_) (fun hb => ?_)
  · have hn : n < 0 := by simpa using hb
    simp only [go_sem, NB]
    refine branch_intro (fun hb => ?_) (fun hb => ?_)
    · have hm : m < 1 := by simpa using hb
      simp only [go_sem, ↓reduceIte, around, hm]
    · have hm : ¬ m < 1 := by simpa using hb
      simp only [go_sem, ↓reduceIte, NB, around, hm, hn, bin_rem (show m ≠ 0 by omega)]
  · have hn : ¬ n < 0 := by simpa using hb
    simp only [go_sem, NB]
    refine branch_intro (fun hb => ?_) (fun hb => ?_)
    · have hm : m < 1 := by simpa using hb
      simp only [go_sem, ↓reduceIte, around, hm]
    · have hm : ¬ m < 1 := by simpa using hb
      simp only [go_sem, ↓reduceIte, NB, around, hm, hn, bin_rem (show m ≠ 0 by omega)]
def atZ (l : List Int) (i most : Int) : Int := if i < 0 ∨ i ≥ l.length then 0 else around (l.getD i.toNat 0) most
theorem at_spec {A : AProg} {g : String → Nat} (h : Has A g "dactyl/dactylref01.At" (dactylref01_At g)) (ha : SpecAround A g) (l : List Int) (i m : Int) (H : List AObj) :
    callI A (g "dactyl/dactylref01.At") [.sl false (l.map encInt), vi i, vi m] H = some (vi (atZ l i m), H, []) := by
  refine h.call (by simp [dactylref01_At]) (by kernel_rfl) ?_
  simp only [dactylref01_At]
  by_cases h0 : i < 0
  · simp only [go_sem, ↓reduceIte, NB, h0, atZ, true_or]
  · by_cases h1 : i ≥ l.length
    · simp only [go_sem, ↓reduceIte, NB, h0, h1, atZ, or_true]
    · have hi : i.toNat < l.length := by omega
      have h2 : 0 ≤ i := by omega
      have hg : (l.map encInt)[i.toNat]? = some [vi (l.getD i.toNat 0)] := by
        rw [List.getElem?_map, List.getD_eq_getElem?_getD, List.getElem?_eq_getElem hi]; rfl
      simp only [go_sem, ↓reduceIte, NB, h0, h1, h2, hg, ha, atZ, or_false]
abbrev makerCells (l : List Int) (i : Int) : List AV := [.sl false (l.map encInt), vi i]
abbrev SpecTake (A : AProg) (g : String → Nat) : Prop := ∀ (l : List Int) (i m : Int) (o v : Nat) (H : List AObj), H[o]? = some (.box v (makerCells l i)) →
  callI A (g "(*dactyl/dactylref23.Maker).Take") [.ptr o v 0, vi m] H = some (vi (atZ l (IntKind.i64.wrap (IntKind.i64.wrap (i + 1) - 1)) m), H.set o (.box v (makerCells l (IntKind.i64.wrap (i + 1)))), [o])
theorem take_spec {A : AProg} {g : String → Nat} (h : Has A g "(*dactyl/dactylref23.Maker).Take" (dactylref23_Maker_Take g)) (ha : Has A g "dactyl/dactylref01.At" (dactylref01_At g)) (hr : SpecAround A g) : SpecTake A g := by
  intro l i m o v H ho
  have hlt := getElem?_lt ho
  refine h.call (by simp [dactylref23_Maker_Take]) (by kernel_rfl) ?_
  simp only [dactylref23_Maker_Take]
  simp only [go_sem, ↓reduceIte, NB, NA, ho, hlt]
  refine wc_draw' (keep := []) (by rfl) (by rfl) ?_
  have hat := fun H => at_spec ha hr l (IntKind.i64.wrap (IntKind.i64.wrap (i + 1) - 1)) m H
  simp only [go_sem, ↓reduceIte, NB, NA, ND, hlt, hat, objUnder_set, underLL_of_data (dataLL_map data_int _)]
theorem only_spec {A : AProg} {g : String → Nat} (h : Has A g "dactyl/secret.Only" (secret_Only g)) (hs : HasSame A g)
    (he : ∀ (x : Exam) (H : List AObj), x.Ok → callI A (g "dactyl/source.Erase") [encExam x] H = some (encExam (eraseExam x), H, [])) (ho : ∀ x : Exam, x.Ok → (eraseExam x).Ok)
    (a b : Exam) (ha : a.Ok) (hb : b.Ok) (H : List AObj) :
    callI A (g "dactyl/secret.Only") [encExam a, encExam b] H = some (.bool (eqv (eraseExam a) (eraseExam b)), H, []) := by
  refine h.call (by simp [secret_Only]) (by kernel_rfl) ?_
  simp only [secret_Only]
  have h1 := fun H => he a H ha
  have h2 := fun H => he b H hb
  have h3 := fun H => same_spec hs (eraseExam a) (eraseExam b) H (ho a ha)
  simp only [encExam] at h1 h2 h3
  simp only [go_sem, ↓reduceIte, NB, NA, NL, NE, encExam]
  refine wc_draw' (keep := [1, 2]) (by rfl) (by rfl) ?_
  simp only [go_sem, ↓reduceIte, NB, NA, NE, BF, h1, h2, h3, logOk, apartL, orderOk_intro]
end Go.Proofs.AM
end
section
open Nat renaming reduceBEq → NB, reduceAdd → NA, reduceSub → NS, reduceMul → NM, reduceLT → NL, reduceLeDiff → ND, reduceEqDiff → NE
open Int renaming reduceLT → IL, reduceLE → ID, reduceToNat → IT, reduceEq → IE, reduceBEq → IB, reduceBNe → IN, reduceAdd → IA, reduceSub → IS, reduceNeg → IM
open Bool renaming not_true → BT, not_false → BF
set_option linter.unusedVariables false
set_option maxRecDepth 8000
namespace Go.Proofs.AM
open Go
abbrev dactylref01_Int_l0 (g : String → Nat) : ACode := .seq (.seq (.region false [⟨some 14, .mov (.tmp 3), none, []⟩,⟨some 15, .bin .gtr .no (.tmp 14) (.const (.int .i64 0)), none, [0]⟩]) <| .cond (.tmp 15) (.skip) (.exit 0)) <| .block 1 (.seq (.region false [⟨some 16, .mov (.tmp 4), none, []⟩,⟨some 17, .mov (.tmp 3), none, []⟩,⟨some 18, .bin .rem .no (.tmp 17) (.const (.int .i64 256)), none, [1]⟩,⟨some 19, .conv (.toInt .u8) (.tmp 18), none, [2, 1]⟩,⟨some 20, .bsl 1 [(.int .u8 0)] 1 [(0, (.tmp 19))], none, [3, 2, 1]⟩,⟨some 21, .app 1 1 (.tmp 16) (.tmp 20), none, [0, 4, 3, 2, 1]⟩,⟨some 4, .mov (.tmp 21), none, [5, 0, 4, 3, 2, 1]⟩]) <| .region false [⟨some 22, .mov (.tmp 3), none, []⟩,⟨some 23, .bin .quo .no (.tmp 22) (.const (.int .i64 256)), none, [0]⟩,⟨some 3, .mov (.tmp 23), none, [1, 0]⟩])
abbrev dactylref01_Int_w0 : List Nat := [14, 15, 16, 17, 18, 19, 20, 21, 4, 22, 23, 3]
abbrev dactylref01_Int_l1 (g : String → Nat) : ACode := .seq (.seq (.region false [⟨some 42, .mov (.tmp 7), none, []⟩,⟨some 43, .bin .geq .no (.tmp 42) (.const (.int .i64 0)), none, [0]⟩]) <| .cond (.tmp 43) (.skip) (.exit 2)) <| .seq (.block 3 (.seq (.region false [⟨some 46, .mov (.tmp 4), none, []⟩,⟨some 47, .mov (.tmp 7), none, []⟩,⟨some 48, .iaV (.tmp 46) (.tmp 47) 1, none, [0, 1]⟩,⟨some 49, .load 1 false (.tmp 48), none, [2, 0, 1]⟩,⟨some 8, .mov (.tmp 49), none, [3, 2, 0, 1]⟩]) <| .seq (.seq (.region false [⟨some 50, .mov (.tmp 0), none, []⟩,⟨some 51, .bin .lss .no (.tmp 50) (.const (.int .i64 0)), none, [0]⟩]) <| .cond (.tmp 51) (.region false [⟨some 52, .mov (.tmp 8), none, []⟩,⟨some 53, .bin .sub .no (.const (.int .u8 255)) (.tmp 52), none, [0]⟩,⟨some 8, .mov (.tmp 53), none, [1, 0]⟩]) (.skip)) <| .region false [⟨some 54, .mov (.tmp 6), none, []⟩,⟨some 55, .mov (.tmp 8), none, []⟩,⟨some 56, .bsl 1 [(.int .u8 0)] 1 [(0, (.tmp 55))], none, [1]⟩,⟨some 57, .app 1 1 (.tmp 54) (.tmp 56), none, [0, 2, 1]⟩,⟨some 6, .mov (.tmp 57), none, [3, 0, 2, 1]⟩])) <| .region false [⟨some 44, .mov (.tmp 7), none, []⟩,⟨some 45, .bin .sub .no (.tmp 44) (.const (.int .i64 1)), none, [0]⟩,⟨some 7, .mov (.tmp 45), none, [1, 0]⟩]
abbrev dactylref01_Int_w1 : List Nat := [42, 43, 46, 47, 48, 49, 8, 50, 51, 52, 53, 8, 54, 55, 56, 57, 6, 44, 45, 7]
def dactylref01_Int (g : String → Nat) : AFn := ⟨59, [21, 33, 39, 57], [.tmp 2],
  .seq (.region false [⟨some 2, .mov (.const (.sl true [])), none, []⟩]) <|
  .seq (.region false [⟨some 9, .mov (.tmp 0), none, []⟩,
    ⟨some 3, .mov (.tmp 9), none, [0]⟩]) <|
  .seq (.seq (.region false [⟨some 10, .mov (.tmp 0), none, []⟩,
    ⟨some 11, .bin .lss .no (.tmp 10) (.const (.int .i64 0)), none, [0]⟩]) <|
  .cond (.tmp 11) (.region false [⟨some 12, .mov (.tmp 0), none, []⟩,
      ⟨some 13, .bin .sub .no (.const (.int .i64 (-1))) (.tmp 12), none, [0]⟩,
      ⟨some 3, .mov (.tmp 13), none, [1, 0]⟩])
    (.skip)) <|
  .seq (.region false [⟨some 4, .mov (.const (.sl true [])), none, []⟩]) <|
  .seq (.block 0 (.loop (dactylref01_Int_l0 g))) <|
  .seq (.region false [⟨some 24, .mov (.tmp 4), none, []⟩,
    ⟨some 25, .lenV (.tmp 24), none, [0]⟩,
    ⟨some 5, .mov (.tmp 25), none, [1, 0]⟩]) <|
  .seq (.region false [⟨some 6, .mov (.const (.sl true [])), none, []⟩]) <|
  .seq (.seq (.region false [⟨some 26, .mov (.tmp 0), none, []⟩,
    ⟨some 27, .bin .geq .no (.tmp 26) (.const (.int .i64 0)), none, [0]⟩]) <|
  .cond (.tmp 27) (.region false [⟨some 28, .mov (.tmp 6), none, []⟩,
      ⟨some 29, .mov (.tmp 5), none, []⟩,
      ⟨some 30, .bin .add .no (.const (.int .i64 128)) (.tmp 29), none, [1]⟩,
      ⟨some 31, .conv (.toInt .u8) (.tmp 30), none, [2, 1]⟩,
      ⟨some 32, .bsl 1 [(.int .u8 0)] 1 [(0, (.tmp 31))], none, [3, 2, 1]⟩,
      ⟨some 33, .app 1 1 (.tmp 28) (.tmp 32), none, [0, 4, 3, 2, 1]⟩,
      ⟨some 6, .mov (.tmp 33), none, [5, 0, 4, 3, 2, 1]⟩])
    (.region false [⟨some 34, .mov (.tmp 6), none, []⟩,
      ⟨some 35, .mov (.tmp 5), none, []⟩,
      ⟨some 36, .bin .sub .no (.const (.int .i64 127)) (.tmp 35), none, [1]⟩,
      ⟨some 37, .conv (.toInt .u8) (.tmp 36), none, [2, 1]⟩,
      ⟨some 38, .bsl 1 [(.int .u8 0)] 1 [(0, (.tmp 37))], none, [3, 2, 1]⟩,
      ⟨some 39, .app 1 1 (.tmp 34) (.tmp 38), none, [0, 4, 3, 2, 1]⟩,
      ⟨some 6, .mov (.tmp 39), none, [5, 0, 4, 3, 2, 1]⟩])) <|
  .seq (.seq (.region false [⟨some 40, .mov (.tmp 5), none, []⟩,
    ⟨some 41, .bin .sub .no (.tmp 40) (.const (.int .i64 1)), none, [0]⟩,
    ⟨some 7, .mov (.tmp 41), none, [1, 0]⟩]) <|
  .block 2 (.loop (dactylref01_Int_l1 g))) <|
  .seq (.region false [⟨some 58, .mov (.tmp 6), none, []⟩,
    ⟨some 2, .mov (.tmp 58), none, [0]⟩]) <|
  .ret⟩
def encByte (b : UInt8) : List AV := [.int .u8 b.toNat]
theorem data_byte (b : UInt8) : dataL (encByte b) = true := by simp [encByte, dataL, AV.data, AV.cellOk]
def digs (m : Nat) : List UInt8 := if m = 0 then [] else UInt8.ofNat m :: digs (m / 256)
decreasing_by omega
def mag (n : Int) : Nat := if n < 0 then (-1 - n).toNat else n.toNat
def flipB (n : Int) (d : UInt8) : UInt8 := if n < 0 then 255 - d else d
def headB (n : Int) : UInt8 := if n < 0 then UInt8.ofNat (127 - (digs (mag n)).length) else UInt8.ofNat (128 + (digs (mag n)).length)
def intBytes (n : Int) : List UInt8 := headB n :: (digs (mag n)).reverse.map (flipB n)
theorem digs_len : ∀ (k m : Nat), m < 256 ^ k → (digs m).length ≤ k
  | 0, m, h => by
    have : m = 0 := by omega
    subst this; rw [digs]; simp
  | k + 1, m, h => by
    rw [digs]
    split
    · simp
    · have := digs_len k (m / 256) (by rw [Nat.pow_succ] at h; omega)
      simp only [List.length_cons]; omega
theorem mag_lt {n : Int} (h : IntOk n) : mag n < 9223372036854775808 := by
  unfold mag
  obtain ⟨h1, h2⟩ := h
  split <;> omega
theorem digs_small {n : Int} (h : IntOk n) : (digs (mag n)).length ≤ 8 := digs_len 8 _ (by have := mag_lt h; omega)
theorem wrap_u8' {n : Nat} (h : n < 256) : IntKind.wrap .u8 (n : Int) = (n : Int) := by
  unfold IntKind.wrap IntKind.bits IntKind.signed
  simp
  omega
theorem toNat_ofNat {n : Nat} (h : n < 256) : ((UInt8.ofNat n).toNat : Int) = (n : Int) := by
  rw [UInt8.toNat_ofNat']; omega
theorem int_digits {A : AProg} {g : String → Nat} {H0 : List AObj} {Q : AExit → SEnv → List AObj → List Nat → Prop} {tg} {m : Nat} (hm : m < 9223372036854775808) {o0 o1 o2 o3 : AObj} {ρ : SEnv}
    (h3 : ρ 3 = vi m) (h4 : ρ 4 = .sl true [])
    (hQ : ∀ ρ' o0, (∀ t, dactylref01_Int_w0.contains t = false → ρ' t = ρ t) → GSl H0.length 1 ((digs m).map encByte) (ρ' 4) o0 → Q (.exit 0) ρ' (H0 ++ [o0, o1, o2, o3]) []) :
    wl A 59 ⟨H0.length, [21, 33, 39, 57]⟩ (dactylref01_Int_l0 g) ρ (H0 ++ [o0, o1, o2, o3]) [] Q tg := by
  have hlen := digs_len 8 m (by omega)
  refine wl_for2 (W := dactylref01_Int_w0) (fun i ρ1 H wr => wr = [] ∧ ∃ (done : List UInt8) (m' : Nat) (o0 : AObj), i = done.length ∧ done ++ digs m' = digs m ∧ m' < 9223372036854775808 ∧ ρ1 3 = vi m' ∧ H = H0 ++ [o0, o1, o2, o3] ∧ GSl H0.length 1 (done.map encByte) (ρ1 4) o0) (digs m).length
    (fun ρ1 H wr => wr = [] ∧ ∃ o0, H = H0 ++ [o0, o1, o2, o3] ∧ GSl H0.length 1 ((digs m).map encByte) (ρ1 4) o0)
    (by kernel_rfl) (by rfl) ⟨rfl, [], m, o0, rfl, rfl, hm, h3, rfl, by rw [h4]; exact .nil _⟩ ?_ (by
      rintro ρ' H' wr' ⟨rfl, o0, rfl, hg⟩ hf
      exact hQ ρ' o0 hf hg)
  rintro i ρ1 H1 wr1 hil ⟨rfl, done, m', o0, rfl, hdm, hm', e3, rfl, hg⟩ hf
  simp only [go_sem, e3]
  refine branch_intro (fun hb => ?_) (fun hb => ?_)
  · have hpos : 0 < m' := by simp at hb; omega
    have hdl : (done ++ digs m').length = (digs m).length := by rw [hdm]
    have hdg : digs m' = UInt8.ofNat m' :: digs (m' / 256) := by rw [digs, if_neg (by omega)]
    rw [hdg] at hdl hdm
    simp only [List.length_append, List.length_cons] at hdl
    have hr : (m' : Int).tmod 256 = ((m' % 256 : Nat) : Int) := rfl
    have hq : (m' : Int).tdiv 256 = ((m' / 256 : Nat) : Int) := rfl
    have hu : IntKind.u8.wrap ((m' % 256 : Nat) : Int) = ((UInt8.ofNat m').toNat : Int) := by rw [wrap_u8' (Nat.mod_lt _ (by decide)), UInt8.toNat_ofNat']
    have hw : IntKind.i64.wrap ((m' / 256 : Nat) : Int) = ((m' / 256 : Nat) : Int) := wrap_i64 (by omega) (by omega)
    obtain ⟨v', o', hg', happ⟩ := hg.app (new := [encByte (UInt8.ofNat m')]) (bytes := 1) (by simp) (by rfl) (by simp only [List.length_map, List.length_cons, List.length_nil]; omega)
    rw [show done.map encByte ++ [encByte (UInt8.ofNat m')] = (done ++ [UInt8.ofNat m']).map encByte by simp] at hg'
    simp only [encByte] at happ
    simp only [go_sem, ↓reduceIte, NB, NL, NE, e3, bin_rem (b := 256) (by decide), bin_quo (b := 256) (by decide), hr, hq, convV, hu, hw, happ]
    exact ⟨by omega, done ++ [UInt8.ofNat m'], m' / 256, o', by simp, by simpa using hdm, by omega, rfl, rfl, hg'⟩
  · have hz : m' = 0 := by simp at hb; omega
    subst hz
    rw [digs, if_pos rfl, List.append_nil] at hdm
    subst hdm
    simp only [go_sem, NB]
    exact ⟨o0, rfl, hg⟩
theorem flip_wrap {d : UInt8} : IntKind.u8.wrap (255 - (d.toNat : Int)) = ((255 - d : UInt8).toNat : Int) := by
  have h := d.toNat_lt
  have e : (255 - (d.toNat : Int)) = ((255 - d.toNat : Nat) : Int) := by omega
  rw [e, wrap_u8' (by omega), UInt8.toNat_sub_of_le]
  · rfl
  · rw [UInt8.le_iff_toNat_le]; show d.toNat ≤ 255; omega
theorem int_write {A : AProg} {g : String → Nat} {H0 : List AObj} {Q : AExit → SEnv → List AObj → List Nat → Prop} {tg} {n : Int} {ds : List UInt8} (hds : ds.length ≤ 8) {p : Nat} (hp : 0 < p) {L : List AObj} {o : AObj} {ver : Nat} {h : UInt8} {ρ : SEnv}
    (hL0 : ds ≠ [] → L[0]? = some (.vec ver 1 (ds.map encByte)))
    (h0 : ρ 0 = vi n) (h4 : ds ≠ [] → ρ 4 = .sr H0.length ver ds.length) (h7 : ρ 7 = vi ((ds.length : Int) - 1)) (hLp : L[p]? = some o) (hg : GSl (H0.length + p) 1 [encByte h] (ρ 6) o)
    (hQ : ∀ ρ' L' o', (∀ t, dactylref01_Int_w1.contains t = false → ρ' t = ρ t) → L'[p]? = some o' → GSl (H0.length + p) 1 ((h :: ds.reverse.map (flipB n)).map encByte) (ρ' 6) o' → Q (.exit 2) ρ' (H0 ++ L') []) :
    wl A 59 ⟨H0.length, [21, 33, 39, 57]⟩ (dactylref01_Int_l1 g) ρ (H0 ++ L) [] Q tg := by
  refine wl_for2 (W := dactylref01_Int_w1) (fun i ρ1 H wr => wr = [] ∧ ρ1 7 = vi ((ds.length : Int) - 1 - i) ∧ ∃ L' o', H = H0 ++ L' ∧ (ds ≠ [] → L'[0]? = some (.vec ver 1 (ds.map encByte))) ∧ L'[p]? = some o' ∧
      GSl (H0.length + p) 1 ((h :: (ds.reverse.take i).map (flipB n)).map encByte) (ρ1 6) o') ds.length
    (fun ρ1 H wr => wr = [] ∧ ∃ L' o', H = H0 ++ L' ∧ L'[p]? = some o' ∧ GSl (H0.length + p) 1 ((h :: ds.reverse.map (flipB n)).map encByte) (ρ1 6) o')
    (by kernel_rfl) (by rfl) ⟨rfl, by rw [h7]; simp, L, o, rfl, hL0, hLp, hg⟩ ?_ (by
      rintro ρ' H' wr' ⟨rfl, L', o', rfl, h1, h2⟩ hf
      exact hQ ρ' L' o' hf h1 h2)
  rintro i ρ1 H1 wr1 hil ⟨rfl, e7, L1, o1, rfl, hL1, hLp1, hg1⟩ hf
  have e0 : ρ1 0 = vi n := (hf 0 (by decide)).trans h0
  simp only [go_sem, e7]
  refine branch_intro (fun hb => ?_) (fun hb => ?_)
  · have hlt : i < ds.length := by simp at hb; omega
    have hne : ds ≠ [] := by intro h; subst h; simp at hlt
    have e4 : ρ1 4 = .sr H0.length ver ds.length := (hf 4 (by decide)).trans (h4 hne)
    have e0' := hL1 hne
    have hk1 : (0 : Int) ≤ (ds.length : Int) - 1 - i := by omega
    have hk2 : ((ds.length : Int) - 1 - i) < ds.length := by omega
    have hk3 : ((ds.length : Int) - 1 - i).toNat = ds.length - 1 - i := by omega
    have hget : (ds.map encByte)[ds.length - 1 - i]? = some [.int .u8 (ds[ds.length - 1 - i]'(by omega)).toNat] := getElem?_map_of (by omega)
    have hrev : ds.reverse.take (i + 1) = ds.reverse.take i ++ [ds[ds.length - 1 - i]'(by omega)] := by
      rw [List.take_add_one, List.getElem?_reverse hlt, List.getElem?_eq_getElem (by omega)]; rfl
    have hw : IntKind.i64.wrap ((ds.length : Int) - 1 - i - 1) = (ds.length : Int) - 1 - ((i + 1 : Nat) : Int) := by rw [wrap_i64 (by omega) (by omega)]; omega
    obtain ⟨v', o', hg', happ⟩ := hg1.app' (by simp) (new := [encByte (flipB n (ds[ds.length - 1 - i]'(by omega)))]) (bytes := 1) (by simp) (by rfl) (by simp only [List.length_map, List.length_cons, List.length_nil, List.length_take]; omega)
    have hrows : (h :: (ds.reverse.take i).map (flipB n)).map encByte ++ [encByte (flipB n (ds[ds.length - 1 - i]'(by omega)))] = (h :: (ds.reverse.take (i + 1)).map (flipB n)).map encByte := by
      rw [hrev]; simp
    rw [hrows] at hg'
    have hset0 : (L1.set p o')[0]? = L1[0]? := List.getElem?_set_ne (by omega)
    have hsetp : (L1.set p o')[p]? = some o' := List.getElem?_set_self (getElem?_lt hLp1)
    by_cases hn : n < 0
    · rw [show flipB n (ds[ds.length - 1 - i]'(by omega)) = 255 - (ds[ds.length - 1 - i]'(by omega)) by unfold flipB; rw [if_pos hn]] at happ
      simp only [encByte] at happ
      simp only [go_sem, ↓reduceIte, NB, NA, NL, NE, e0, e4, e7, hk1, hk2, hk3, e0', List.length_map, hget, hn, flip_wrap, happ, hLp1, hw]
      exact ⟨hlt, L1.set p o', o', rfl, fun hne => by rw [hset0]; exact hL1 hne, hsetp, hg'⟩
    · rw [show flipB n (ds[ds.length - 1 - i]'(by omega)) = (ds[ds.length - 1 - i]'(by omega)) by unfold flipB; rw [if_neg hn]] at happ
      simp only [encByte] at happ
      simp only [go_sem, ↓reduceIte, NB, NA, NL, NE, e0, e4, e7, hk1, hk2, hk3, e0', List.length_map, hget, hn, happ, hLp1, hw]
      exact ⟨hlt, L1.set p o', o', rfl, fun hne => by rw [hset0]; exact hL1 hne, hsetp, hg'⟩
  · have hlt : i = ds.length := by simp at hb; omega
    subst hlt
    rw [List.take_of_length_le (by simp)] at hg1
    simp only [go_sem, NB]
    exact ⟨L1, o1, rfl, hLp1, hg1⟩
abbrev SpecBytes (A : AProg) (f : Nat) (args : List AV) (l : List UInt8) : Prop := ∀ H, callI A f args H = some (.own 1 (l.map encByte), H, [])
theorem int_spec {A : AProg} {g : String → Nat} (hh : Has A g "dactyl/dactylref01.Int" (dactylref01_Int g)) (n : Int) (hn : IntOk n) : SpecBytes A (g "dactyl/dactylref01.Int") [vi n] (intBytes n) := by
  intro H
  have hm := mag_lt hn
  have hds := digs_small hn
  refine hh.call (by simp [dactylref01_Int]) (by kernel_rfl) ?_
  simp only [dactylref01_Int]
  by_cases h0 : n < 0
  · have hw : IntKind.i64.wrap (-1 - n) = (mag n : Int) := by
      obtain ⟨h1, h2⟩ := hn
      rw [wrap_i64 (by omega) (by omega)]; unfold mag; rw [if_pos h0]; omega
    simp only [go_sem, NB, NA, IM, h0, hw]
    refine int_digits (m := mag n) hm (by simp only [go_sem, NB]) (by simp only [go_sem]) ?_
    intro ρ2 o0 hf2 hg
    have e0 : ρ2 0 = vi n := by rw [hf2 0 (by decide)]; simp only [go_sem, NB]
    have hlen : vLen (ρ2 4) = some (vi (digs (mag n)).length) := by rw [hg.len, List.length_map]
    have hge : ¬ (n ≥ 0) := by omega
    have hw1 : IntKind.i64.wrap (127 - ((digs (mag n)).length : Int)) = ((127 - (digs (mag n)).length : Nat) : Int) := by rw [wrap_i64 (by omega) (by omega)]; omega
    have hw2 : IntKind.u8.wrap ((127 - (digs (mag n)).length : Nat) : Int) = ((headB n).toNat : Int) := by
      unfold headB; rw [if_pos h0, toNat_ofNat (by omega), wrap_u8' (by omega)]
    have hw3 : IntKind.i64.wrap (((digs (mag n)).length : Int) - 1) = ((digs (mag n)).length : Int) - 1 := wrap_i64 (by omega) (by omega)
    have hob : ∃ ver, digs (mag n) ≠ [] → ρ2 4 = .sr H.length ver (digs (mag n)).length ∧ o0 = .vec ver 1 ((digs (mag n)).map encByte) := by
      by_cases hne : digs (mag n) = []
      · exact ⟨0, fun h => absurd hne h⟩
      · obtain ⟨ver, h1, h2⟩ := hg.inv (by simpa using hne)
        exact ⟨ver, fun _ => ⟨by rw [h1, List.length_map], h2⟩⟩
    obtain ⟨ver, hob⟩ := hob
    simp only [go_sem, ↓reduceIte, NB, NA, NM, NL, ND, NE, BT, e0, hlen, hge, hw1, convV, hw2, hw3, roomy]
    refine int_write (n := n) (p := 2) (o := .vec 1 1 [encByte (headB n)]) (ver := ver) (h := headB n) hds (by decide) ?_ (by simp only [go_sem, NB, e0]) ?_ (by simp only [go_sem]) rfl (by simp only [go_sem, NB]; exact GSl.obj 1 [encByte (headB n)]) ?_
    · intro hne
      exact by rw [(hob hne).2]; rfl
    · intro hne
      simp only [go_sem, NB, (hob hne).1]
    · intro ρ3 L' o' hf3 hL hg3
      obtain ⟨ver, e6, rfl⟩ := hg3.inv (by simp)
      simp only [go_sem, ↓reduceIte, e6, hL, allStill_of_data (data_byte _), allStill_rows (dataLL_map data_byte _), underL_of_data (data_byte _), underLL_of_data (dataLL_map data_byte _), intBytes]
  · have hw : n = (mag n : Int) := by unfold mag; rw [if_neg h0]; omega
    simp only [go_sem, NB, NA, IM, h0]
    refine int_digits (m := mag n) hm (by simp only [go_sem, NB]; rw [← hw]) (by simp only [go_sem]) ?_
    intro ρ2 o0 hf2 hg
    have e0 : ρ2 0 = vi n := by rw [hf2 0 (by decide)]; simp only [go_sem, NB]
    have hlen : vLen (ρ2 4) = some (vi (digs (mag n)).length) := by rw [hg.len, List.length_map]
    have hge : n ≥ 0 := by omega
    have hw1 : IntKind.i64.wrap (128 + ((digs (mag n)).length : Int)) = ((128 + (digs (mag n)).length : Nat) : Int) := by rw [wrap_i64 (by omega) (by omega)]; omega
    have hw2 : IntKind.u8.wrap ((128 + (digs (mag n)).length : Nat) : Int) = ((headB n).toNat : Int) := by
      unfold headB; rw [if_neg h0, toNat_ofNat (by omega), wrap_u8' (by omega)]
    have hw3 : IntKind.i64.wrap (((digs (mag n)).length : Int) - 1) = ((digs (mag n)).length : Int) - 1 := wrap_i64 (by omega) (by omega)
    have hob : ∃ ver, digs (mag n) ≠ [] → ρ2 4 = .sr H.length ver (digs (mag n)).length ∧ o0 = .vec ver 1 ((digs (mag n)).map encByte) := by
      by_cases hne : digs (mag n) = []
      · exact ⟨0, fun h => absurd hne h⟩
      · obtain ⟨ver, h1, h2⟩ := hg.inv (by simpa using hne)
        exact ⟨ver, fun _ => ⟨by rw [h1, List.length_map], h2⟩⟩
    obtain ⟨ver, hob⟩ := hob
    simp only [go_sem, ↓reduceIte, NB, NA, NM, NL, ND, NE, BT, e0, hlen, hge, hw1, convV, hw2, hw3, roomy]
    refine int_write (n := n) (p := 1) (o := .vec 1 1 [encByte (headB n)]) (ver := ver) (h := headB n) hds (by decide) ?_ (by simp only [go_sem, NB, e0]) ?_ (by simp only [go_sem]) rfl (by simp only [go_sem, NB]; exact GSl.obj 1 [encByte (headB n)]) ?_
    · intro hne
      exact by rw [(hob hne).2]; rfl
    · intro hne
      simp only [go_sem, NB, (hob hne).1]
    · intro ρ3 L' o' hf3 hL hg3
      obtain ⟨ver, e6, rfl⟩ := hg3.inv (by simp)
      simp only [go_sem, ↓reduceIte, e6, hL, allStill_of_data (data_byte _), allStill_rows (dataLL_map data_byte _), underL_of_data (data_byte _), underLL_of_data (dataLL_map data_byte _), intBytes]
end Go.Proofs.AM
end
section
open Nat renaming reduceBEq → NB, reduceAdd → NA, reduceSub → NS, reduceMul → NM, reduceLT → NL, reduceLeDiff → ND, reduceEqDiff → NE
open Int renaming reduceLT → IL, reduceLE → ID, reduceToNat → IT, reduceEq → IE, reduceBEq → IB, reduceBNe → IN, reduceAdd → IA, reduceSub → IS, reduceNeg → IM
open Bool renaming not_true → BT, not_false → BF
set_option linter.unusedVariables false
set_option maxRecDepth 8000
namespace Go.Proofs.AM
open Go
def dactylref01_Bytes (g : String → Nat) : AFn := ⟨9, [5, 8], [.tmp 2],
  .seq (.region false [⟨some 2, .mov (.const (.sl true [])), none, []⟩]) <|
  .seq (.region false [⟨some 3, .mov (.tmp 0), none, []⟩,
    ⟨some 4, .lenS (.tmp 3), none, [0]⟩,
    ⟨some 5, .callv (.const (.fn (g "dactyl/dactylref01.Int") [] [])) [(.tmp 4)], none, [1, 0]⟩,
    ⟨some 6, .mov (.tmp 0), none, []⟩,
    ⟨some 7, .conv .s2b (.tmp 6), none, [3]⟩,
    ⟨some 8, .app 1 1 (.tmp 5) (.tmp 7), none, [4, 3, 2, 1, 0]⟩,
    ⟨some 2, .mov (.tmp 8), none, [5, 4, 3, 2, 1, 0]⟩]) <|
  .ret⟩
abbrev dactylref01_Ints_l0 (g : String → Nat) : ACode := .seq (.seq (.region false [⟨some 8, .mov (.tmp 4), none, []⟩,⟨some 9, .mov (.tmp 0), none, []⟩,⟨some 10, .lenV (.tmp 9), none, [1]⟩,⟨some 11, .bin .lss .no (.tmp 8) (.tmp 10), none, [0, 2, 1]⟩]) <| .cond (.tmp 11) (.skip) (.exit 0)) <| .seq (.block 1 (.region false [⟨some 14, .mov (.tmp 3), none, []⟩,⟨some 15, .mov (.tmp 0), none, []⟩,⟨some 16, .mov (.tmp 4), none, []⟩,⟨some 17, .iaV (.tmp 15) (.tmp 16) 1, none, [1, 2]⟩,⟨some 18, .load 1 false (.tmp 17), none, [3, 1, 2]⟩,⟨some 19, .callv (.const (.fn (g "dactyl/dactylref01.Int") [] [])) [(.tmp 18)], none, [4, 3, 1, 2]⟩,⟨some 20, .app 1 1 (.tmp 14) (.tmp 19), none, [0, 5, 4, 3, 1, 2]⟩,⟨some 3, .mov (.tmp 20), none, [6, 0, 5, 4, 3, 1, 2]⟩])) <| .region false [⟨some 12, .mov (.tmp 4), none, []⟩,⟨some 13, .bin .add .no (.tmp 12) (.const (.int .i64 1)), none, [0]⟩,⟨some 4, .mov (.tmp 13), none, [1, 0]⟩]
abbrev dactylref01_Ints_w0 : List Nat := [8, 9, 10, 11, 14, 15, 16, 17, 18, 19, 20, 3, 12, 13, 4]
def dactylref01_Ints (g : String → Nat) : AFn := ⟨22, [7, 19, 20], [.tmp 2],
  .seq (.region false [⟨some 2, .mov (.const (.sl true [])), none, []⟩]) <|
  .seq (.region false [⟨some 5, .mov (.tmp 0), none, []⟩,
    ⟨some 6, .lenV (.tmp 5), none, [0]⟩,
    ⟨some 7, .callv (.const (.fn (g "dactyl/dactylref01.Int") [] [])) [(.tmp 6)], none, [1, 0]⟩,
    ⟨some 3, .mov (.tmp 7), none, [2, 1, 0]⟩]) <|
  .seq (.seq (.region false [⟨some 4, .mov (.const (.int .i64 0)), none, []⟩]) <|
  .block 0 (.loop (dactylref01_Ints_l0 g))) <|
  .seq (.region false [⟨some 21, .mov (.tmp 3), none, []⟩,
    ⟨some 2, .mov (.tmp 21), none, [0]⟩]) <|
  .ret⟩
abbrev dactylref01_Strings_l0 (g : String → Nat) : ACode := .seq (.seq (.region false [⟨some 8, .mov (.tmp 4), none, []⟩,⟨some 9, .mov (.tmp 0), none, []⟩,⟨some 10, .lenV (.tmp 9), none, [1]⟩,⟨some 11, .bin .lss .no (.tmp 8) (.tmp 10), none, [0, 2, 1]⟩]) <| .cond (.tmp 11) (.skip) (.exit 0)) <| .seq (.block 1 (.region false [⟨some 14, .mov (.tmp 3), none, []⟩,⟨some 15, .mov (.tmp 0), none, []⟩,⟨some 16, .mov (.tmp 4), none, []⟩,⟨some 17, .iaV (.tmp 15) (.tmp 16) 1, none, [1, 2]⟩,⟨some 18, .load 1 false (.tmp 17), none, [3, 1, 2]⟩,⟨some 19, .callv (.const (.fn (g "dactyl/dactylref01.Bytes") [] [])) [(.tmp 18)], none, [4, 3, 1, 2]⟩,⟨some 20, .app 1 1 (.tmp 14) (.tmp 19), none, [0, 5, 4, 3, 1, 2]⟩,⟨some 3, .mov (.tmp 20), none, [6, 0, 5, 4, 3, 1, 2]⟩])) <| .region false [⟨some 12, .mov (.tmp 4), none, []⟩,⟨some 13, .bin .add .no (.tmp 12) (.const (.int .i64 1)), none, [0]⟩,⟨some 4, .mov (.tmp 13), none, [1, 0]⟩]
abbrev dactylref01_Strings_w0 : List Nat := [8, 9, 10, 11, 14, 15, 16, 17, 18, 19, 20, 3, 12, 13, 4]
def dactylref01_Strings (g : String → Nat) : AFn := ⟨22, [7, 19, 20], [.tmp 2],
  .seq (.region false [⟨some 2, .mov (.const (.sl true [])), none, []⟩]) <|
  .seq (.region false [⟨some 5, .mov (.tmp 0), none, []⟩,
    ⟨some 6, .lenV (.tmp 5), none, [0]⟩,
    ⟨some 7, .callv (.const (.fn (g "dactyl/dactylref01.Int") [] [])) [(.tmp 6)], none, [1, 0]⟩,
    ⟨some 3, .mov (.tmp 7), none, [2, 1, 0]⟩]) <|
  .seq (.seq (.region false [⟨some 4, .mov (.const (.int .i64 0)), none, []⟩]) <|
  .block 0 (.loop (dactylref01_Strings_l0 g))) <|
  .seq (.region false [⟨some 21, .mov (.tmp 3), none, []⟩,
    ⟨some 2, .mov (.tmp 21), none, [0]⟩]) <|
  .ret⟩
def strBytes (s : Str) : List UInt8 := intBytes s.length ++ s
def intsBytes (l : List Int) : List UInt8 := intBytes l.length ++ l.flatMap intBytes
def strsBytes (l : List Str) : List UInt8 := intBytes l.length ++ l.flatMap strBytes
theorem headOk_bytes (l : List UInt8) : headOk 1 (l.map encByte) = true := by cases l <;> rfl
theorem isEmpty_bytes (l : List UInt8) : (l.map encByte).isEmpty = l.isEmpty := by cases l <;> rfl
theorem bytes_append (l m : List UInt8) : l.map encByte ++ m.map encByte = (l ++ m).map encByte := by rw [List.map_append]
theorem int_notEmpty (n : Int) : (intBytes n).isEmpty = false := rfl
theorem str_notEmpty (s : Str) : (strBytes s).isEmpty = false := rfl
theorem ints_notEmpty (l : List Int) : (intsBytes l).isEmpty = false := rfl
theorem strs_notEmpty (l : List Str) : (strsBytes l).isEmpty = false := rfl
theorem rowsOfBytes_map (l : List UInt8) : rowsOfBytes l = l.map encByte := rfl
theorem room {a b : Nat} (h : a + b ≤ 1000000000) : roomy (a + b) 1 = true := by unfold roomy; simp; omega
theorem intBytes_len {n : Int} (h : IntOk n) : (intBytes n).length ≤ 9 := by
  have := digs_small h
  unfold intBytes
  simp; omega
theorem ok_len {n : Nat} (h : n ≤ 1000000) : IntOk (n : Int) := by constructor <;> omega
theorem strBytes_len {s : Str} (h : s.length ≤ 1000000) : (strBytes s).length ≤ 9 + s.length := by
  have := intBytes_len (ok_len h)
  unfold strBytes
  simp; omega
theorem flat_le {α β : Type} {f : α → List β} {k : Nat} : ∀ {l : List α}, (∀ a ∈ l, (f a).length ≤ k) → (l.flatMap f).length ≤ l.length * k
  | [], _ => by simp
  | a :: r, h => by
    have h1 := h a List.mem_cons_self
    have h2 := flat_le (l := r) fun b hb => h b (List.mem_cons_of_mem _ hb)
    simp only [List.flatMap_cons, List.length_append, List.length_cons]
    rw [Nat.succ_mul]; omega
theorem flat_take_succ {α β : Type} {f : α → List β} {l : List α} {i : Nat} (h : i < l.length) : (l.take (i + 1)).flatMap f = (l.take i).flatMap f ++ f l[i] := by
  rw [List.take_add_one, List.getElem?_eq_getElem h, List.flatMap_append]; simp
theorem flat_take_le {α β : Type} {f : α → List β} {l : List α} {i : Nat} : ((l.take i).flatMap f).length ≤ (l.flatMap f).length := by
  conv => rhs; rw [← List.take_append_drop i l, List.flatMap_append, List.length_append]
  omega
theorem bytes_spec {A : AProg} {g : String → Nat} (h : Has A g "dactyl/dactylref01.Bytes" (dactylref01_Bytes g)) (hi : ∀ n, IntOk n → SpecBytes A (g "dactyl/dactylref01.Int") [vi n] (intBytes n)) (s : Str) (hs : s.length ≤ 1000000) :
    SpecBytes A (g "dactyl/dactylref01.Bytes") [.str s] (strBytes s) := by
  intro H
  have h1 : ∀ H, callI A (g "dactyl/dactylref01.Int") [vi s.length] H = some (.own 1 ((intBytes s.length).map encByte), H, []) := hi s.length (ok_len hs)
  have hl := intBytes_len (ok_len hs)
  have hlen : s.length ≤ 1099511627776 := by omega
  have hr : roomy ((intBytes s.length).length + s.length) 1 = true := room (by omega)
  refine h.call (by simp [dactylref01_Bytes]) (by kernel_rfl) ?_
  simp only [dactylref01_Bytes]
  cases he : s.isEmpty with
  | true =>
    have hs0 : s = [] := by simpa using he
    simp only [go_sem, ↓reduceIte, NB, NA, NL, NE, BT, h1, convV, hlen, rowsOfBytes_map, headOk_bytes, isEmpty_bytes, he, hr, allStill_rows (dataLL_map data_byte _), underLL_of_data (dataLL_map data_byte _), strBytes]
    rw [hs0, List.append_nil]
  | false =>
    simp only [go_sem, ↓reduceIte, NB, NA, NL, NE, BT, h1, convV, hlen, rowsOfBytes_map, headOk_bytes, isEmpty_bytes, he, hr, bytes_append, allStill_rows (dataLL_map data_byte _), underLL_of_data (dataLL_map data_byte _), strBytes]
theorem ints_spec {A : AProg} {g : String → Nat} (h : Has A g "dactyl/dactylref01.Ints" (dactylref01_Ints g)) (hi : ∀ n, IntOk n → SpecBytes A (g "dactyl/dactylref01.Int") [vi n] (intBytes n))
    (l : List Int) (hl : l.length ≤ 1000) (hp : ∀ a ∈ l, IntOk a) : SpecBytes A (g "dactyl/dactylref01.Ints") [.sl false (l.map encInt)] (intsBytes l) := by
  intro H
  have h1 : ∀ H, callI A (g "dactyl/dactylref01.Int") [vi l.length] H = some (.own 1 ((intBytes l.length).map encByte), H, []) := hi l.length (ok_len (by omega))
  have hl1 := intBytes_len (ok_len (n := l.length) (by omega))
  have htot : (l.flatMap intBytes).length ≤ l.length * 9 := flat_le (fun a ha => intBytes_len (hp a ha))
  refine h.call (by simp [dactylref01_Ints]) (by kernel_rfl) ?_
  simp only [dactylref01_Ints]
  simp only [go_sem, ↓reduceIte, NB, NA, NL, h1]
  refine wl_for2 (id := 0) (W := dactylref01_Ints_w0) (fun i ρ1 H1 wr => wr = [] ∧ ρ1 4 = vi i ∧ ∃ bs o1 o2, bs = intBytes l.length ++ (l.take i).flatMap intBytes ∧ ρ1 3 = .sr H.length 1 bs.length ∧ H1 = H ++ [.vec 1 1 (bs.map encByte), o1, o2]) l.length
    (fun ρ1 H1 wr => wr = [] ∧ ∃ o1 o2, ρ1 3 = .sr H.length 1 (intsBytes l).length ∧ H1 = H ++ [.vec 1 1 ((intsBytes l).map encByte), o1, o2])
    (by kernel_rfl) (by rfl) ⟨rfl, by simp only [go_sem], _, .gone 0, .gone 0, rfl, by simp only [go_sem, NB, List.flatMap_nil, List.append_nil], by simp only [go_sem, List.flatMap_nil, List.append_nil]⟩ ?_ ?_
  · rintro i ρ1 H1 wr1 hil ⟨rfl, e4, bs, o1, o2, hbs, e3, rfl⟩ hf
    have e0 : ρ1 0 = .sl false (l.map encInt) := by rw [hf 0 (by decide)]; simp only [go_sem, NB]
    simp only [go_sem, NB, e0, e4]
    refine branch_intro (fun hb => ?_) (fun hb => ?_)
    · have hlt : i < l.length := by simpa using hb
      have hpi := hp l[i] (List.getElem_mem hlt)
      have hc := (fun H => hi l[i] hpi H)
      have hsu : intBytes l.length ++ (l.take (i + 1)).flatMap intBytes = bs ++ intBytes l[i] := by rw [flat_take_succ hlt, hbs, List.append_assoc]
      have hle := flat_take_le (f := intBytes) (l := l) (i := i + 1)
      have hr : roomy (bs.length + (intBytes l[i]).length) 1 = true := room (by
        have := congrArg List.length hsu
        simp only [List.length_append] at this
        omega)
      simp only [go_sem, ↓reduceIte, NB, NA, NL, NE, BT, e0, e3, e4, hlt, getElem?_map_of hlt, encInt, hc, headOk_bytes, isEmpty_bytes, int_notEmpty, hr, bytes_append]
      rw [wrap_succ (by omega)]
      exact ⟨rfl, _, _, _, hsu.symm, by rw [List.length_append], rfl⟩
    · have hlt : i = l.length := by
        have : ¬ i < l.length := by simpa using hb
        omega
      subst hlt
      rw [List.take_length] at hbs
      subst hbs
      simp only [go_sem, NB]
      exact ⟨_, _, by rw [e3]; rfl, rfl⟩
  · rintro ρ2 H2 wr2 ⟨rfl, o1, o2, e3, rfl⟩ hf
    simp only [go_sem, ↓reduceIte, e3, allStill_rows (dataLL_map data_byte _), underLL_of_data (dataLL_map data_byte _)]
theorem strs_spec {A : AProg} {g : String → Nat} (h : Has A g "dactyl/dactylref01.Strings" (dactylref01_Strings g)) (hi : ∀ n, IntOk n → SpecBytes A (g "dactyl/dactylref01.Int") [vi n] (intBytes n))
    (hby : ∀ s : Str, s.length ≤ 1000000 → SpecBytes A (g "dactyl/dactylref01.Bytes") [.str s] (strBytes s)) (l : List Str) (hl : l.length ≤ 1000) (hp : ∀ a ∈ l, a.length ≤ 1000) : SpecBytes A (g "dactyl/dactylref01.Strings") [.sl false (l.map encStr)] (strsBytes l) := by
  intro H
  have h1 : ∀ H, callI A (g "dactyl/dactylref01.Int") [vi l.length] H = some (.own 1 ((intBytes l.length).map encByte), H, []) := hi l.length (ok_len (by omega))
  have hl1 := intBytes_len (ok_len (n := l.length) (by omega))
  have htot : (l.flatMap strBytes).length ≤ l.length * 1009 := flat_le (fun a ha => by have := hp a ha; have := strBytes_len (s := a) (by omega); omega)
  refine h.call (by simp [dactylref01_Strings]) (by kernel_rfl) ?_
  simp only [dactylref01_Strings]
  simp only [go_sem, ↓reduceIte, NB, NA, NL, h1]
  refine wl_for2 (id := 0) (W := dactylref01_Strings_w0) (fun i ρ1 H1 wr => wr = [] ∧ ρ1 4 = vi i ∧ ∃ bs o1 o2, bs = intBytes l.length ++ (l.take i).flatMap strBytes ∧ ρ1 3 = .sr H.length 1 bs.length ∧ H1 = H ++ [.vec 1 1 (bs.map encByte), o1, o2]) l.length
    (fun ρ1 H1 wr => wr = [] ∧ ∃ o1 o2, ρ1 3 = .sr H.length 1 (strsBytes l).length ∧ H1 = H ++ [.vec 1 1 ((strsBytes l).map encByte), o1, o2])
    (by kernel_rfl) (by rfl) ⟨rfl, by simp only [go_sem], _, .gone 0, .gone 0, rfl, by simp only [go_sem, NB, List.flatMap_nil, List.append_nil], by simp only [go_sem, List.flatMap_nil, List.append_nil]⟩ ?_ ?_
  · rintro i ρ1 H1 wr1 hil ⟨rfl, e4, bs, o1, o2, hbs, e3, rfl⟩ hf
    have e0 : ρ1 0 = .sl false (l.map encStr) := by rw [hf 0 (by decide)]; simp only [go_sem, NB]
    simp only [go_sem, NB, e0, e4]
    refine branch_intro (fun hb => ?_) (fun hb => ?_)
    · have hlt : i < l.length := by simpa using hb
      have hpi := hp l[i] (List.getElem_mem hlt)
      have hc := (fun H => hby l[i] (by omega) H)
      have hsu : intBytes l.length ++ (l.take (i + 1)).flatMap strBytes = bs ++ strBytes l[i] := by rw [flat_take_succ hlt, hbs, List.append_assoc]
      have hle := flat_take_le (f := strBytes) (l := l) (i := i + 1)
      have hr : roomy (bs.length + (strBytes l[i]).length) 1 = true := room (by
        have := congrArg List.length hsu
        simp only [List.length_append] at this
        omega)
      simp only [go_sem, ↓reduceIte, NB, NA, NL, NE, BT, e0, e3, e4, hlt, getElem?_map_of hlt, encStr, hc, headOk_bytes, isEmpty_bytes, str_notEmpty, hr, bytes_append]
      rw [wrap_succ (by omega)]
      exact ⟨rfl, _, _, _, hsu.symm, by rw [List.length_append], rfl⟩
    · have hlt : i = l.length := by
        have : ¬ i < l.length := by simpa using hb
        omega
      subst hlt
      rw [List.take_length] at hbs
      subst hbs
      simp only [go_sem, NB]
      exact ⟨_, _, by rw [e3]; rfl, rfl⟩
  · rintro ρ2 H2 wr2 ⟨rfl, o1, o2, e3, rfl⟩ hf
    simp only [go_sem, ↓reduceIte, e3, allStill_rows (dataLL_map data_byte _), underLL_of_data (dataLL_map data_byte _)]
end Go.Proofs.AM
end
