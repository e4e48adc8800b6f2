/- Part 28 of the proof that stands in the last text of this folder (lemmas; no statement of its own). -/
import Derived.Test.YtjomjnkapjgheaaDoorK19
section
open Nat renaming reduceBEq → NB, reduceAdd → NA, reduceSub → NS, reduceMul → NM, reduceLT → NL, reduceLeDiff → ND, reduceEqDiff → NE
open Int renaming reduceLT → IL, reduceLE → ID, reduceToNat → IT, reduceEq → IE, reduceBEq → IB, reduceBNe → IN, reduceAdd → IA, reduceSub → IS, reduceNeg → IM
open Bool renaming not_true → BT, not_false → BF
set_option linter.unusedVariables false
set_option maxRecDepth 8000
namespace Go.Proofs.AM
open Go
abbrev dactylref23_EncodeBlock_d0 (g : String → Nat) : List AOper := [⟨some 5, .fa 0 (.tmp 1), none, []⟩,⟨some 6, .load 1 false (.tmp 5), none, [0]⟩,⟨some 7, .callv (.const (.fn (g "dactyl/dactylref01.Int") [] [])) [(.tmp 6)], none, [1, 0]⟩,⟨some 8, .fa 1 (.tmp 1), none, []⟩,⟨some 9, .load 1 false (.tmp 8), none, [3]⟩,⟨some 10, .callv (.const (.fn (g "dactyl/dactylref23.encodeRuns") [] [])) [(.tmp 9)], none, [4, 3, 2, 1, 0]⟩,⟨some 11, .app 1 1 (.tmp 7) (.tmp 10), none, [5, 4, 3, 2, 1, 0]⟩,⟨some 3, .mov (.tmp 11), none, [6, 5, 4, 3, 2, 1, 0]⟩]
abbrev dactylref23_EncodeBlock_k0 : List Nat := [2, 4]
abbrev dactylref23_EncodeBlock_d1 (g : String → Nat) : List AOper := [⟨some 17, .mov (.tmp 3), none, []⟩,⟨some 18, .fa 5 (.tmp 1), none, []⟩,⟨some 19, .fa 0 (.tmp 18), none, [1]⟩,⟨some 20, .load 1 false (.tmp 19), none, [2, 1]⟩,⟨some 21, .callv (.const (.fn (g "dactyl/dactylref01.Int") [] [])) [(.tmp 20)], none, [3, 2, 1]⟩,⟨some 22, .app 1 1 (.tmp 17) (.tmp 21), none, [0, 4, 3, 2, 1]⟩,⟨some 23, .fa 5 (.tmp 1), none, []⟩,⟨some 24, .fa 1 (.tmp 23), none, [6]⟩,⟨some 25, .load 1 false (.tmp 24), none, [7, 6]⟩,⟨some 26, .callv (.const (.fn (g "dactyl/dactylref01.Ints") [] [])) [(.tmp 25)], none, [8, 7, 6, 5, 0, 4, 3, 2, 1]⟩,⟨some 27, .app 1 1 (.tmp 22) (.tmp 26), none, [9, 8, 7, 6, 5, 0, 4, 3, 2, 1]⟩,⟨some 3, .mov (.tmp 27), none, [10, 9, 8, 7, 6, 5, 0, 4, 3, 2, 1]⟩]
abbrev dactylref23_EncodeBlock_k1 : List Nat := [4, 5, 8]
abbrev dactylref23_EncodeBlock_l0 (g : String → Nat) : ACode := .seq (.seq (.region false [⟨some 35, .mov (.tmp 4), none, []⟩,⟨some 36, .fa 7 (.tmp 1), none, []⟩,⟨some 37, .fa 0 (.tmp 36), none, [1]⟩,⟨some 38, .load 1 false (.tmp 37), none, [2, 1]⟩,⟨some 39, .lenV (.tmp 38), none, [3, 2, 1]⟩,⟨some 40, .bin .lss .no (.tmp 35) (.tmp 39), none, [0, 4, 3, 2, 1]⟩]) <| .cond (.tmp 40) (.skip) (.exit 0)) <| .seq (.block 1 (.region false [⟨some 43, .mov (.tmp 3), none, []⟩,⟨some 44, .fa 7 (.tmp 1), none, []⟩,⟨some 45, .fa 0 (.tmp 44), none, [1]⟩,⟨some 46, .load 1 false (.tmp 45), none, [2, 1]⟩,⟨some 47, .mov (.tmp 4), none, []⟩,⟨some 48, .iaV (.tmp 46) (.tmp 47) 1, none, [3, 2, 1, 4]⟩,⟨some 49, .load 1 false (.tmp 48), none, [5, 3, 2, 1, 4]⟩,⟨some 50, .callv (.const (.fn (g "dactyl/dactylref01.Strings") [] [])) [(.tmp 49)], none, [6, 5, 3, 2, 1, 4]⟩,⟨some 51, .app 1 1 (.tmp 43) (.tmp 50), none, [0, 7, 6, 5, 3, 2, 1, 4]⟩,⟨some 3, .mov (.tmp 51), none, [8, 0, 7, 6, 5, 3, 2, 1, 4]⟩])) <| .region false [⟨some 41, .mov (.tmp 4), none, []⟩,⟨some 42, .bin .add .no (.tmp 41) (.const (.int .i64 1)), none, [0]⟩,⟨some 4, .mov (.tmp 42), none, [1, 0]⟩]
abbrev dactylref23_EncodeBlock_w0 : List Nat := [35, 36, 37, 38, 39, 40, 43, 44, 45, 46, 47, 48, 49, 50, 51, 3, 41, 42, 4]
def dactylref23_EncodeBlock (g : String → Nat) : AFn := ⟨67, [1, 7, 10, 11, 15, 16, 21, 22, 26, 27, 33, 34, 50, 51, 55, 56, 60, 61, 65, 66], [.tmp 2],
  .seq (.region false [⟨some 1, .box 13 (.tmp 0), none, []⟩,
    ⟨some 2, .mov (.const (.sl true [])), none, []⟩]) <|
  .seq (.region true (dactylref23_EncodeBlock_d0 g)) <|
  .seq (.region false [⟨some 12, .mov (.tmp 3), none, []⟩,
    ⟨some 13, .fa 2 (.tmp 1), none, []⟩,
    ⟨some 14, .load 3 true (.tmp 13), none, [1]⟩,
    ⟨some 15, .callv (.const (.fn (g "dactyl/dactylref23.encodeExpr") [] [])) [(.tmp 14)], none, [2, 1]⟩,
    ⟨some 16, .app 1 1 (.tmp 12) (.tmp 15), none, [0, 3, 2, 1]⟩,
    ⟨some 3, .mov (.tmp 16), none, [4, 0, 3, 2, 1]⟩]) <|
  .seq (.region true (dactylref23_EncodeBlock_d1 g)) <|
  .seq (.region false [⟨some 28, .mov (.tmp 3), none, []⟩,
    ⟨some 29, .fa 7 (.tmp 1), none, []⟩,
    ⟨some 30, .fa 0 (.tmp 29), none, [1]⟩,
    ⟨some 31, .load 1 false (.tmp 30), none, [2, 1]⟩,
    ⟨some 32, .lenV (.tmp 31), none, [3, 2, 1]⟩,
    ⟨some 33, .callv (.const (.fn (g "dactyl/dactylref01.Int") [] [])) [(.tmp 32)], none, [4, 3, 2, 1]⟩,
    ⟨some 34, .app 1 1 (.tmp 28) (.tmp 33), none, [0, 5, 4, 3, 2, 1]⟩,
    ⟨some 3, .mov (.tmp 34), none, [6, 0, 5, 4, 3, 2, 1]⟩]) <|
  .seq (.seq (.region false [⟨some 4, .mov (.const (.int .i64 0)), none, []⟩]) <|
  .block 0 (.loop (dactylref23_EncodeBlock_l0 g))) <|
  .seq (.region false [⟨some 52, .mov (.tmp 3), none, []⟩,
    ⟨some 53, .fa 8 (.tmp 1), none, []⟩,
    ⟨some 54, .load 3 true (.tmp 53), none, [1]⟩,
    ⟨some 55, .callv (.const (.fn (g "dactyl/dactylref23.encodeFigure") [] [])) [(.tmp 54)], none, [2, 1]⟩,
    ⟨some 56, .app 1 1 (.tmp 52) (.tmp 55), none, [0, 3, 2, 1]⟩,
    ⟨some 3, .mov (.tmp 56), none, [4, 0, 3, 2, 1]⟩]) <|
  .seq (.region false [⟨some 57, .mov (.tmp 3), none, []⟩,
    ⟨some 58, .fa 11 (.tmp 1), none, []⟩,
    ⟨some 59, .load 1 true (.tmp 58), none, [1]⟩,
    ⟨some 60, .callv (.const (.fn (g "dactyl/dactylref23.encodeMelody") [] [])) [(.tmp 59)], none, [2, 1]⟩,
    ⟨some 61, .app 1 1 (.tmp 57) (.tmp 60), none, [0, 3, 2, 1]⟩,
    ⟨some 3, .mov (.tmp 61), none, [4, 0, 3, 2, 1]⟩]) <|
  .seq (.region false [⟨some 62, .mov (.tmp 3), none, []⟩,
    ⟨some 63, .fa 12 (.tmp 1), none, []⟩,
    ⟨some 64, .load 1 false (.tmp 63), none, [1]⟩,
    ⟨some 65, .callv (.const (.fn (g "dactyl/dactylref01.Strings") [] [])) [(.tmp 64)], none, [2, 1]⟩,
    ⟨some 66, .app 1 1 (.tmp 62) (.tmp 65), none, [0, 3, 2, 1]⟩,
    ⟨some 2, .mov (.tmp 66), none, [4, 0, 3, 2, 1]⟩]) <|
  .ret⟩
abbrev dactylref23_encodeQuestion_d0 (g : String → Nat) : List AOper := [⟨some 4, .fa 0 (.tmp 1), none, []⟩,⟨some 5, .load 1 false (.tmp 4), none, [0]⟩,⟨some 6, .callv (.const (.fn (g "dactyl/dactylref01.Int") [] [])) [(.tmp 5)], none, [1, 0]⟩,⟨some 7, .fa 1 (.tmp 1), none, []⟩,⟨some 8, .load 1 false (.tmp 7), none, [3]⟩,⟨some 9, .callv (.const (.fn (g "dactyl/dactylref23.encodeRuns") [] [])) [(.tmp 8)], none, [4, 3, 2, 1, 0]⟩,⟨some 10, .app 1 1 (.tmp 6) (.tmp 9), none, [5, 4, 3, 2, 1, 0]⟩,⟨some 3, .mov (.tmp 10), none, [6, 5, 4, 3, 2, 1, 0]⟩]
abbrev dactylref23_encodeQuestion_k0 : List Nat := [2, 4]
abbrev dactylref23_encodeQuestion_d1 (g : String → Nat) : List AOper := [⟨some 11, .mov (.tmp 3), none, []⟩,⟨some 12, .fa 2 (.tmp 1), none, []⟩,⟨some 13, .load 1 false (.tmp 12), none, [1]⟩,⟨some 14, .callv (.const (.fn (g "dactyl/dactylref01.Strings") [] [])) [(.tmp 13)], none, [2, 1]⟩,⟨some 15, .app 1 1 (.tmp 11) (.tmp 14), none, [0, 3, 2, 1]⟩,⟨some 16, .fa 3 (.tmp 1), none, []⟩,⟨some 17, .load 1 false (.tmp 16), none, [5]⟩,⟨some 18, .callv (.const (.fn (g "dactyl/dactylref01.Ints") [] [])) [(.tmp 17)], none, [6, 5, 4, 0, 3, 2, 1]⟩,⟨some 19, .app 1 1 (.tmp 15) (.tmp 18), none, [7, 6, 5, 4, 0, 3, 2, 1]⟩,⟨some 3, .mov (.tmp 19), none, [8, 7, 6, 5, 4, 0, 3, 2, 1]⟩]
abbrev dactylref23_encodeQuestion_k1 : List Nat := [3, 4, 6]
abbrev dactylref23_encodeQuestion_d2 (g : String → Nat) : List AOper := [⟨some 20, .mov (.tmp 3), none, []⟩,⟨some 21, .fa 4 (.tmp 1), none, []⟩,⟨some 22, .load 1 false (.tmp 21), none, [1]⟩,⟨some 23, .callv (.const (.fn (g "dactyl/dactylref01.Bytes") [] [])) [(.tmp 22)], none, [2, 1]⟩,⟨some 24, .app 1 1 (.tmp 20) (.tmp 23), none, [0, 3, 2, 1]⟩,⟨some 25, .fa 5 (.tmp 1), none, []⟩,⟨some 26, .load 1 false (.tmp 25), none, [5]⟩,⟨some 27, .callv (.const (.fn (g "dactyl/dactylref01.Int") [] [])) [(.tmp 26)], none, [6, 5, 4, 0, 3, 2, 1]⟩,⟨some 28, .app 1 1 (.tmp 24) (.tmp 27), none, [7, 6, 5, 4, 0, 3, 2, 1]⟩,⟨some 3, .mov (.tmp 28), none, [8, 7, 6, 5, 4, 0, 3, 2, 1]⟩]
abbrev dactylref23_encodeQuestion_k2 : List Nat := [3, 4, 6]
def dactylref23_encodeQuestion (g : String → Nat) : AFn := ⟨34, [1, 6, 9, 10, 14, 15, 18, 19, 23, 24, 27, 28, 32, 33], [.tmp 2],
  .seq (.region false [⟨some 1, .box 7 (.tmp 0), none, []⟩,
    ⟨some 2, .mov (.const (.sl true [])), none, []⟩]) <|
  .seq (.region true (dactylref23_encodeQuestion_d0 g)) <|
  .seq (.region true (dactylref23_encodeQuestion_d1 g)) <|
  .seq (.region true (dactylref23_encodeQuestion_d2 g)) <|
  .seq (.region false [⟨some 29, .mov (.tmp 3), none, []⟩,
    ⟨some 30, .fa 6 (.tmp 1), none, []⟩,
    ⟨some 31, .load 1 false (.tmp 30), none, [1]⟩,
    ⟨some 32, .callv (.const (.fn (g "dactyl/dactylref01.Strings") [] [])) [(.tmp 31)], none, [2, 1]⟩,
    ⟨some 33, .app 1 1 (.tmp 29) (.tmp 32), none, [0, 3, 2, 1]⟩,
    ⟨some 2, .mov (.tmp 33), none, [4, 0, 3, 2, 1]⟩]) <|
  .ret⟩
structure Enc23 (A : AProg) (g : String → Nat) : Prop extends Enc01 A g where
  runs : ∀ l : List Run, l.length ≤ 16 → (∀ a ∈ l, a.Ok) → SpecBytes A (g "dactyl/dactylref23.encodeRuns") [.sl false (l.map encRun)] (runsBytes l)
  expr : ∀ e : Expr, e.Ok → esize e ≤ 1000 → SpecBytes A (g "dactyl/dactylref23.encodeExpr") [.agg (encExpr e)] (exprBytes e)
  fig : ∀ (w h : Int) (l : List Shape), IntOk w → IntOk h → l.length ≤ 16 → (∀ a ∈ l, a.Ok) → SpecBytes A (g "dactyl/dactylref23.encodeFigure") [.agg [vi w, vi h, .sl false (l.map encShape)]] (figBytes w h l)
  mel : ∀ L : List (List (List Note)), L.length ≤ 16 → (∀ a ∈ L, HandOk a) → SpecBytes A (g "dactyl/dactylref23.encodeMelody") [.agg [.sl false (L.map encHand)]] (melBytes L)
def gridBytes (l : List (List Str)) : List UInt8 := l.flatMap strsBytes
def blockBytes (b : Block) : List UInt8 := intBytes b.kind ++ runsBytes b.runs ++ exprBytes b.expr ++ intBytes b.sumOp ++ intsBytes b.sumA ++ intBytes b.grid.length ++ gridBytes b.grid ++ figBytes b.w b.h b.shapes ++ melBytes b.hands ++ strsBytes b.lines
def questionBytes (q : Question) : List UInt8 := intBytes q.kind ++ runsBytes q.stem ++ strsBytes q.options ++ intsBytes q.needs ++ strBytes q.key ++ intBytes q.points ++ strsBytes q.reasons
theorem strsBytes_len {l : List Str} (hl : l.length ≤ 16) (h : ∀ s ∈ l, TextOk s) : (strsBytes l).length ≤ 16153 := by
  have h1 := intBytes_len (ok_len (n := l.length) (by omega))
  have h2 : (l.flatMap strBytes).length ≤ l.length * 1009 := flat_le (fun s hs => by
    have h3 := h s hs
    have := strBytes_len (s := s) (by omega)
    omega)
  unfold strsBytes; simp only [List.length_append]; omega
theorem runsBytes_len {l : List Run} (hl : l.length ≤ 16) (h : ∀ r ∈ l, r.Ok) : (runsBytes l).length ≤ 16297 := by
  have h1 := intBytes_len (ok_len (n := l.length) (by omega))
  have h2 : (l.flatMap runBytes).length ≤ l.length * 1018 := flat_le (fun a ha => runBytes_len (h a ha))
  unfold runsBytes; simp only [List.length_append]; omega
theorem figBytes_len {w h : Int} {l : List Shape} (hw : IntOk w) (hh : IntOk h) (hl : l.length ≤ 16) (hp : ∀ a ∈ l, a.Ok) : (figBytes w h l).length ≤ 4932 := by
  have h1 := intsBytes_len (l := [w, h, l.length]) (by simp) (by
    intro a ha
    simp only [List.mem_cons, List.not_mem_nil, or_false] at ha
    rcases ha with rfl | rfl | rfl
    · exact hw
    · exact hh
    · exact ok_len (by omega))
  have h2 : (l.flatMap shapeBytes).length ≤ l.length * 306 := flat_le (fun a ha => shapeBytes_len (hp a ha))
  simp only [List.length_cons, List.length_nil] at h1
  unfold figBytes; simp only [List.length_append]; omega
theorem melBytes_len {l : List (List (List Note))} (hl : l.length ≤ 16) (hp : ∀ a ∈ l, HandOk a) : (melBytes l).length ≤ 113049 := by
  have h1 := intBytes_len (ok_len (n := l.length) (by omega))
  have h2 : (l.flatMap handBytes).length ≤ l.length * 7065 := flat_le (fun a ha => handBytes_len (hp a ha))
  unfold melBytes; simp only [List.length_append]; omega
theorem gridBytes_len {l : List (List Str)} (hl : l.length ≤ 16) (h : ∀ r ∈ l, r.length ≤ 16 ∧ ∀ s ∈ r, TextOk s) : (gridBytes l).length ≤ 258448 := by
  have h2 : (l.flatMap strsBytes).length ≤ l.length * 16153 := flat_le (fun a ha => strsBytes_len (h a ha).1 (h a ha).2)
  unfold gridBytes; omega
theorem question_enc {A : AProg} {g : String → Nat} (hh : Has A g "dactyl/dactylref23.encodeQuestion" (dactylref23_encodeQuestion g)) (he : Enc23 A g) (q : Question) (hq : q.Ok) :
    SpecBytes A (g "dactyl/dactylref23.encodeQuestion") [.agg (encQ q)] (questionBytes q) := by
  intro H
  have hkey := hq.key
  have c1 : ∀ H, callI A (g "dactyl/dactylref01.Int") [vi q.kind] H = some (.own 1 ((intBytes q.kind).map encByte), H, []) := he.int _ hq.kind
  have c2 : ∀ H, callI A (g "dactyl/dactylref23.encodeRuns") [.sl false (q.stem.map encRun)] H = some (.own 1 ((runsBytes q.stem).map encByte), H, []) := he.runs _ hq.lenS hq.stem
  have c3 : ∀ H, callI A (g "dactyl/dactylref01.Strings") [.sl false (q.options.map encStr)] H = some (.own 1 ((strsBytes q.options).map encByte), H, []) := he.strs _ (by have := hq.lenO; omega) hq.options
  have c4 : ∀ H, callI A (g "dactyl/dactylref01.Ints") [.sl false (q.needs.map encInt)] H = some (.own 1 ((intsBytes q.needs).map encByte), H, []) := he.ints _ (by have := hq.lenN; omega) hq.needs
  have c5 : ∀ H, callI A (g "dactyl/dactylref01.Bytes") [.str q.key] H = some (.own 1 ((strBytes q.key).map encByte), H, []) := he.bytes _ (by omega)
  have c6 : ∀ H, callI A (g "dactyl/dactylref01.Int") [vi q.points] H = some (.own 1 ((intBytes q.points).map encByte), H, []) := he.int _ hq.points
  have c7 : ∀ H, callI A (g "dactyl/dactylref01.Strings") [.sl false (q.reasons.map encStr)] H = some (.own 1 ((strsBytes q.reasons).map encByte), H, []) := he.strs _ (by have := hq.lenR; omega) hq.reasons
  have l1 := intBytes_len hq.kind
  have l2 := runsBytes_len hq.lenS hq.stem
  have l3 := strsBytes_len hq.lenO hq.options
  have l4 := intsBytes_len (by have := hq.lenN; omega) hq.needs
  have l4' := hq.lenN
  have l5 := strBytes_len (s := q.key) (by omega)
  have l6 := intBytes_len hq.points
  have l7 := strsBytes_len hq.lenR hq.reasons
  have hfin : questionBytes q = intBytes q.kind ++ runsBytes q.stem ++ strsBytes q.options ++ intsBytes q.needs ++ strBytes q.key ++ intBytes q.points ++ strsBytes q.reasons := rfl
  have n2 := runs_notEmpty q.stem
  have n3 := strs_notEmpty q.options
  have n4 := ints_notEmpty q.needs
  have n5 := str_notEmpty q.key
  have n6 := int_notEmpty q.points
  have n7 := strs_notEmpty q.reasons
  refine hh.call (by simp [dactylref23_encodeQuestion]) (by kernel_rfl) ?_
  simp only [dactylref23_encodeQuestion, encQ]
  generalize intBytes q.kind = x1 at c1 l1 hfin
  generalize runsBytes q.stem = x2 at c2 l2 hfin n2
  generalize strsBytes q.options = x3 at c3 l3 hfin n3
  generalize intsBytes q.needs = x4 at c4 l4 hfin n4
  generalize strBytes q.key = x5 at c5 l5 hfin n5
  generalize intBytes q.points = x6 at c6 l6 hfin n6
  generalize strsBytes q.reasons = x7 at c7 l7 hfin n7
  have r2 : roomy (x1.length + x2.length) 1 = true := room (by omega)
  have r3 : roomy (x1.length + x2.length + x3.length) 1 = true := room (by omega)
  have r4 : roomy (x1.length + x2.length + x3.length + x4.length) 1 = true := room (by omega)
  have r5 : roomy (x1.length + x2.length + x3.length + x4.length + x5.length) 1 = true := room (by omega)
  have r6 : roomy (x1.length + x2.length + x3.length + x4.length + x5.length + x6.length) 1 = true := room (by omega)
  have r7 : roomy (x1.length + x2.length + x3.length + x4.length + x5.length + x6.length + x7.length) 1 = true := room (by omega)
  simp only [go_sem, ↓reduceIte, NA, NL]
  refine wc_draw' (keep := dactylref23_encodeQuestion_k0) (by rfl) (by rfl) ?_
  simp only [go_sem, ↓reduceIte, NB, NA, NL, ND, NE, BT, BF, dactylref23_encodeQuestion_k0, c1, c2, n2, r2, headOk_bytes, isEmpty_bytes, bytes_append, logOk, apartL, orderOk_intro]
  refine wc_draw' (keep := dactylref23_encodeQuestion_k1) (by rfl) (by rfl) ?_
  simp only [go_sem, ↓reduceIte, NB, NA, NL, ND, NE, BT, BF, dactylref23_encodeQuestion_k1, c3, c4, n3, n4, r3, r4, headOk_bytes, isEmpty_bytes, bytes_append, logOk, apartL, orderOk_intro]
  refine wc_draw' (keep := dactylref23_encodeQuestion_k2) (by rfl) (by rfl) ?_
  simp only [go_sem, ↓reduceIte, NB, NA, NL, ND, NE, BT, BF, dactylref23_encodeQuestion_k2, c5, c6, c7, n5, n6, n7, r5, r6, r7, headOk_bytes, isEmpty_bytes, bytes_append, logOk, apartL, orderOk_intro, hfin, allStill_rows (dataLL_map data_byte _), underLL_of_data (dataLL_map data_byte _)]
theorem block_notEmpty (b : Block) : (blockBytes b).isEmpty = false := rfl
theorem len_block13 (b : Block) : (encBlock b).length = 13 := by
  obtain ⟨_, _,⟨_, _, _⟩, _, _, _, _, _, _, _, _⟩ := b
  rfl
set_option maxHeartbeats 1600000 in
theorem block_enc {A : AProg} {g : String → Nat} (hh : Has A g "dactyl/dactylref23.EncodeBlock" (dactylref23_EncodeBlock g)) (he : Enc23 A g) (b : Block) (hq : b.Ok) :
    SpecBytes A (g "dactyl/dactylref23.EncodeBlock") [.agg (encBlock b)] (blockBytes b) := by
  intro H
  have c1 : ∀ H, callI A (g "dactyl/dactylref01.Int") [vi b.kind] H = some (.own 1 ((intBytes b.kind).map encByte), H, []) := he.int _ hq.kind
  have c2 : ∀ H, callI A (g "dactyl/dactylref23.encodeRuns") [.sl false (b.runs.map encRun)] H = some (.own 1 ((runsBytes b.runs).map encByte), H, []) := he.runs _ hq.lenR hq.runs
  have c3 : ∀ H, callI A (g "dactyl/dactylref23.encodeExpr") [.agg (encExpr b.expr)] H = some (.own 1 ((exprBytes b.expr).map encByte), H, []) := he.expr _ hq.expr hq.size
  have c4 : ∀ H, callI A (g "dactyl/dactylref01.Int") [vi b.sumOp] H = some (.own 1 ((intBytes b.sumOp).map encByte), H, []) := he.int _ hq.sumOp
  have c5 : ∀ H, callI A (g "dactyl/dactylref01.Ints") [.sl false (b.sumA.map encInt)] H = some (.own 1 ((intsBytes b.sumA).map encByte), H, []) := he.ints _ (by have := hq.lenA; omega) hq.sumA
  have c6 : ∀ H, callI A (g "dactyl/dactylref01.Int") [vi b.grid.length] H = some (.own 1 ((intBytes b.grid.length).map encByte), H, []) := he.int _ (ok_len (by have := hq.lenG; omega))
  have c8 : ∀ H, callI A (g "dactyl/dactylref23.encodeFigure") [.agg [vi b.w, vi b.h, .sl false (b.shapes.map encShape)]] H = some (.own 1 ((figBytes b.w b.h b.shapes).map encByte), H, []) := he.fig _ _ _ hq.w hq.h hq.lenS hq.shapes
  have c9 : ∀ H, callI A (g "dactyl/dactylref23.encodeMelody") [.agg [.sl false (b.hands.map encHand)]] H = some (.own 1 ((melBytes b.hands).map encByte), H, []) := he.mel _ hq.lenH hq.hands
  have c10 : ∀ H, callI A (g "dactyl/dactylref01.Strings") [.sl false (b.lines.map encStr)] H = some (.own 1 ((strsBytes b.lines).map encByte), H, []) := he.strs _ (by have := hq.lenL; omega) hq.lines
  have l1 := intBytes_len hq.kind
  have l2 := runsBytes_len hq.lenR hq.runs
  have l3 := exprBytes_len hq.expr
  have l3' := hq.size
  have l4 := intBytes_len hq.sumOp
  have l5 := intsBytes_len (by have := hq.lenA; omega) hq.sumA
  have l5' := hq.lenA
  have l6' := hq.lenG
  have l6 := intBytes_len (ok_len (n := b.grid.length) (by omega))
  have l7 := gridBytes_len hq.lenG hq.grid
  have l8 := figBytes_len hq.w hq.h hq.lenS hq.shapes
  have l9 := melBytes_len hq.lenH hq.hands
  have l10 := strsBytes_len hq.lenL hq.lines
  have hfin : blockBytes b = intBytes b.kind ++ runsBytes b.runs ++ exprBytes b.expr ++ intBytes b.sumOp ++ intsBytes b.sumA ++ intBytes b.grid.length ++ gridBytes b.grid ++ figBytes b.w b.h b.shapes ++ melBytes b.hands ++ strsBytes b.lines := rfl
  have n2 := runs_notEmpty b.runs
  have n3 := expr_notEmpty b.expr
  have n4 := int_notEmpty b.sumOp
  have n5 := ints_notEmpty b.sumA
  have n6 := int_notEmpty b.grid.length
  have n8 := fig_notEmpty b.w b.h b.shapes
  have n9 := mel_notEmpty b.hands
  have n10 := strs_notEmpty b.lines
  refine hh.call (by simp [dactylref23_EncodeBlock]) (by kernel_rfl) ?_
  cases hbe : b.expr with | mk op n kids =>
  rw [hbe] at c3 l3 l3' hfin n3
  simp only [encExpr, encExprs_map'] at c3
  simp only [dactylref23_EncodeBlock, encBlock, hbe, encExpr, encExprs_map']
  generalize intBytes b.kind = x1 at c1 l1 hfin
  generalize runsBytes b.runs = x2 at c2 l2 hfin n2
  generalize exprBytes (.mk op n kids) = x3 at c3 l3 hfin n3
  generalize intBytes b.sumOp = x4 at c4 l4 hfin n4
  generalize intsBytes b.sumA = x5 at c5 l5 hfin n5
  generalize intBytes b.grid.length = x6 at c6 l6 hfin n6
  generalize figBytes b.w b.h b.shapes = x8 at c8 l8 hfin n8
  generalize melBytes b.hands = x9 at c9 l9 hfin n9
  generalize strsBytes b.lines = x10 at c10 l10 hfin n10
  have r2 : roomy (x1.length + x2.length) 1 = true := room (by omega)
  have r3 : roomy (x1.length + x2.length + x3.length) 1 = true := room (by omega)
  have r4 : roomy (x1.length + x2.length + x3.length + x4.length) 1 = true := room (by omega)
  have r5 : roomy (x1.length + x2.length + x3.length + x4.length + x5.length) 1 = true := room (by omega)
  have r6 : roomy (x1.length + x2.length + x3.length + x4.length + x5.length + x6.length) 1 = true := room (by omega)
  simp only [go_sem, ↓reduceIte, NA, NL]
  refine wc_draw' (keep := dactylref23_EncodeBlock_k0) (by rfl) (by rfl) ?_
  simp only [go_sem, ↓reduceIte, NB, NA, NL, ND, NE, BT, BF, dactylref23_EncodeBlock_k0, c1, c2, c3, n2, n3, r2, r3, headOk_bytes, isEmpty_bytes, bytes_append, logOk, apartL, orderOk_intro]
  refine wc_draw' (keep := dactylref23_EncodeBlock_k1) (by rfl) (by rfl) ?_
  simp only [go_sem, ↓reduceIte, NB, NA, NL, ND, NE, BT, BF, dactylref23_EncodeBlock_k1, c4, c5, c6, n4, n5, n6, r4, r5, r6, headOk_bytes, isEmpty_bytes, bytes_append, logOk, apartL, orderOk_intro]
  have hpl : (x1 ++ x2 ++ x3 ++ x4 ++ x5 ++ x6).length ≤ 100000 := by simp only [List.length_append]; omega
  have hpl2 : x1.length + x2.length + x3.length + x4.length + x5.length + x6.length = (x1 ++ x2 ++ x3 ++ x4 ++ x5 ++ x6).length := by simp only [List.length_append]
  rw [hpl2]
  generalize x1 ++ x2 ++ x3 ++ x4 ++ x5 ++ x6 = pre at hfin hpl
  generalize hbox : AObj.box 1 _ = box0
  refine wl_for2 (id := 0) (W := dactylref23_EncodeBlock_w0) (fun i ρ1 H1 wr => wr = [] ∧ ρ1 4 = vi i ∧ ∃ bs R, R.length = 18 ∧ bs = pre ++ (b.grid.take i).flatMap strsBytes ∧ ρ1 3 = .sr (H.length + 1) 1 bs.length ∧ H1 = H ++ (box0 :: .vec 1 1 (bs.map encByte) :: R)) b.grid.length
    (fun ρ1 H1 wr => wr = [] ∧ ∃ bs R, R.length = 18 ∧ bs = pre ++ b.grid.flatMap strsBytes ∧ ρ1 3 = .sr (H.length + 1) 1 bs.length ∧ H1 = H ++ (box0 :: .vec 1 1 (bs.map encByte) :: R))
    (by kernel_rfl) (by rfl) ⟨rfl, by simp only [go_sem], pre, _, ?_, by simp, by simp only [go_sem, NB], rfl⟩ ?_ ?_
  · rfl
  · subst hbox
    rintro i ρ1 H1 wr1 hil ⟨rfl, e4, bs, R, hR, hbs, e3, rfl⟩ hf
    have e1 : ρ1 1 = .ptr H.length 1 0 := by rw [hf 1 (by decide)]; simp only [go_sem, NB]
    simp only [go_sem, ↓reduceIte, NB, NA, ND, e1, e4]
    refine branch_intro (fun hb => ?_) (fun hb => ?_)
    · have hlt : i < b.grid.length := by simpa using hb
      have hpi := hq.grid _ (List.getElem_mem hlt)
      have hc : ∀ H, callI A (g "dactyl/dactylref01.Strings") [.sl false (b.grid[i].map encStr)] H = some (.own 1 ((strsBytes b.grid[i]).map encByte), H, []) := he.strs _ (by have := hpi.1; omega) hpi.2
      have hsu : pre ++ (b.grid.take (i + 1)).flatMap strsBytes = bs ++ strsBytes b.grid[i] := by rw [flat_take_succ hlt, hbs, List.append_assoc]
      have hle := flat_take_le (f := strsBytes) (l := b.grid) (i := i + 1)
      have hlen := congrArg List.length hsu
      simp only [List.length_append] at hlen
      have hr : roomy (bs.length + (strsBytes b.grid[i]).length) 1 = true := room (by unfold gridBytes at l7; omega)
      simp only [go_sem, ↓reduceIte, NB, NA, NL, ND, NE, BT, e1, e3, e4, hlt, getElem?_map_of hlt, encRow, hR, hc, headOk_bytes, isEmpty_bytes, strs_notEmpty, hr, bytes_append]
      rw [wrap_succ (by omega)]
      exact ⟨rfl, _, _, by rw [List.length_set]; exact hR, hsu.symm, by simp only [List.length_append], rfl⟩
    · have hlt : i = b.grid.length := by
        have : ¬ i < b.grid.length := by simpa using hb
        omega
      subst hlt
      rw [List.take_length] at hbs
      simp only [go_sem, NB]
      exact ⟨bs, R, hR, hbs, e3, rfl⟩
  · subst hbox
    rintro ρ2 H2 wr2 ⟨rfl, bs, R, hR, hbs, e3, rfl⟩ hf
    have e1 : ρ2 1 = .ptr H.length 1 0 := by rw [hf 1 (by decide)]; simp only [go_sem, NB]
    have hbl := congrArg List.length hbs
    simp only [List.length_append] at hbl
    unfold gridBytes at l7 hfin
    have r8 : roomy (bs.length + x8.length) 1 = true := room (by omega)
    have r9 : roomy (bs.length + x8.length + x9.length) 1 = true := room (by omega)
    have r10 : roomy (bs.length + x8.length + x9.length + x10.length) 1 = true := room (by omega)
    rw [← hbs] at hfin
    simp only [go_sem, ↓reduceIte, NB, NA, NL, ND, NE, BT, e1, e3, hR, c8, c9, c10, n8, n9, n10, r8, r9, r10, headOk_bytes, isEmpty_bytes, bytes_append, allStill_rows (dataLL_map data_byte _), underLL_of_data (dataLL_map data_byte _), hfin]
end Go.Proofs.AM
end
