/- Part 32 of the proof that stands in the last text of this folder (lemmas; no statement of its own). -/
import Derived.Test.YtjomjnkapjgheaaDoorK30
import Derived.Test.YtjomjnkapjgheaaDoorK31
import Derived.Lib.ItoaNum
import Derived.Test.YtjomjnkapjgheaaDoorProg
section
set_option maxRecDepth 100000
namespace Go.Proofs.Tw
open Go Go.Proofs.AM Go.Proofs
def look : List (String × Nat) → String → Nat
  | [], _ => 100000
  | (a, n) :: r, s => if a = s then n else look r s
def lookN : List (Nat × AFn) → Nat → Option AFn
  | [], _ => none
  | (a, fn) :: r, n => if a = n then some fn else lookN r n
def gTab : List (String × Nat) := [("dactyl/dactyllaw31.SecretTwins", 3),
  ("dactyl/dactylref23.Exam", 4),
  ("dactyl/dactylref23.Spoilt", 5),
  ("dactyl/dactylref31.Open", 6),
  ("dactyl/secret.Twin", 7),
  ("dactyl/syntax.Same", 8),
  ("dactyl/dactylref31.Twin", 9),
  ("dactyl/secret.Only", 10),
  ("dactyl/source.Erase", 11),
  ("dactyl/dactylref31.Only", 12),
  ("dactyl/dactyllaw31.lives", 13),
  ("(*dactyl/dactylref23.Maker).Take", 14),
  ("(*dactyl/dactylref23.Maker).Block", 15),
  ("(*dactyl/dactylref23.Maker).Fact", 16),
  ("dactyl/dactylref23.has", 17),
  ("(*dactyl/dactylref23.Maker).Question", 18),
  ("dactyl/dactylref01.Around", 19),
  ("dactyl/dactylref23.spoiltBlock", 20),
  ("dactyl/dactylref23.spoiltQuestion", 21),
  ("slices.Clone[[]dactyl/api.Item,dactyl/api.Item]", 22),
  ("slices.Clone[[]dactyl/api.Question,dactyl/api.Question]", 23),
  ("dactyl/secret.rest", 24),
  ("strconv.Itoa", 25),
  ("slices.Clone[[]string,string]", 26),
  ("slices.EqualFunc[[]dactyl/api.Item,[]dactyl/api.Item,dactyl/api.Item,dactyl/api.Item]", 27),
  ("dactyl/syntax.Same$1", 28),
  ("slices.EqualFunc[[]dactyl/api.Block,[]dactyl/api.Block,dactyl/api.Block,dactyl/api.Block]", 29),
  ("dactyl/syntax.sameBlock", 30),
  ("slices.Equal[[]dactyl/api.Fact,dactyl/api.Fact]", 31),
  ("slices.EqualFunc[[]dactyl/api.Question,[]dactyl/api.Question,dactyl/api.Question,dactyl/api.Question]", 32),
  ("dactyl/syntax.sameQuestion", 33),
  ("dactyl/dactylref31.rest", 34),
  ("dactyl/dactylref23.Decimal", 35),
  ("dactyl/dactylref23.Same", 36),
  ("dactyl/dactylref25.Erase", 37),
  ("dactyl/dactylref01.SameTexts", 38),
  ("dactyl/dactylref01.At", 39),
  ("(*dactyl/dactylref23.Maker).Runs", 40),
  ("(*dactyl/dactylref23.Maker).Expr", 41),
  ("(*dactyl/dactylref23.Maker).Sum", 42),
  ("(*dactyl/dactylref23.Maker).Grid", 43),
  ("(*dactyl/dactylref23.Maker).Figure", 44),
  ("(*dactyl/dactylref23.Maker).Melody", 45),
  ("(*dactyl/dactylref23.Maker).Lines", 46),
  ("(*dactyl/dactylref23.Maker).Phrase", 47),
  ("internal/strconv.Itoa", 48),
  ("dactyl/syntax.sameBlock$1", 49),
  ("slices.Equal[[]dactyl/api.Point,dactyl/api.Point]", 50),
  ("dactyl/syntax.sameBlock$2", 51),
  ("slices.EqualFunc[[][]dactyl/api.Note,[][]dactyl/api.Note,[]dactyl/api.Note,[]dactyl/api.Note]", 52),
  ("slices.Equal[[]dactyl/api.Note,dactyl/api.Note]", 53),
  ("slices.Equal[[]dactyl/api.Run,dactyl/api.Run]", 54),
  ("dactyl/syntax.sameExpr", 55),
  ("slices.Equal[[]int,int]", 56),
  ("slices.EqualFunc[[][]string,[][]string,[]string,[]string]", 57),
  ("slices.Equal[[]string,string]", 58),
  ("slices.EqualFunc[[]dactyl/api.Shape,[]dactyl/api.Shape,dactyl/api.Shape,dactyl/api.Shape]", 59),
  ("slices.EqualFunc[[][][]dactyl/api.Note,[][][]dactyl/api.Note,[][]dactyl/api.Note,[][]dactyl/api.Note]", 60),
  ("dactyl/dactylref01.Same", 61),
  ("dactyl/dactylref23.Encode", 62),
  ("(*dactyl/dactylref23.Maker).term", 63),
  ("dactyl/dactylref23.box", 64),
  ("internal/strconv.FormatInt", 65),
  ("slices.EqualFunc[[]dactyl/api.Expr,[]dactyl/api.Expr,dactyl/api.Expr,dactyl/api.Expr]", 66),
  ("dactyl/dactylref01.Bytes", 67),
  ("dactyl/dactylref01.Int", 68),
  ("dactyl/dactylref23.EncodeBlock", 69),
  ("dactyl/dactylref01.Ints", 70),
  ("dactyl/dactylref23.encodeQuestion", 71),
  ("dactyl/dactylref23.Arity", 72),
  ("internal/strconv.small", 73),
  ("internal/strconv.numDigits", 74),
  ("internal/strconv.formatBase10", 75),
  ("internal/strconv.formatBits", 76),
  ("dactyl/dactylref23.encodeRuns", 77),
  ("dactyl/dactylref23.encodeExpr", 78),
  ("dactyl/dactylref01.Strings", 79),
  ("dactyl/dactylref23.encodeFigure", 80),
  ("dactyl/dactylref23.encodeMelody", 81),
  ("internal/strconv.log10Pow2", 82),
  ("math/bits.Len64", 83),
  ("internal/strconv.bool2[int]", 84),
  ("internal/strconv.isPowerOfTwo", 85),
  ("math/bits.TrailingZeros", 86),
  ("math/bits.TrailingZeros32", 87),
  ("math/bits.TrailingZeros64", 88)]
def gN (s : String) : Nat := look gTab s
def frzT (f r : Nat) : List (Nat × Nat) := match f, r with
  | 5, 25 => [(4, 11)]
  | 6, 21 => [(7, 11)]
  | 6, 22 => [(4, 9)]
  | 7, 25 => [(1, 92)]
  | 7, 26 => [(0, 6)]
  | 11, 12 => [(0, 5)]
  | 44, 13 => [(1, 94)]
  | 80, 10 => [(0, 5)]
  | 81, 15 => [(0, 6)]
  | _, _ => []
def bodyOf (F : Func) : Code := F.body.getD .skip
def glob (tab : Nat) : Nat → Option (List AV) := fun n => if n = tab then some (Lib.pow10Tab.map fun z => AV.int .u64 z) else none
def gT : Nat := 0
structure FnOk (f : Nat) (fn : AFn) : Prop where
  ok : ∃ F body frz, Tryd.prog.funcs[f]? = some F ∧ (F.name == "runtime.NumGoroutine") = false ∧ F.body = some body ∧
    fn.body = cCode Tryd.prog (glob gT) frz body ∧ fn.ntmps = F.ntmps ∧ cRess Tryd.prog F.results.toList = some fn.results
theorem q3 : FnOk 3 (dactyllaw31_SecretTwins gN) := ⟨Tryd.f3, bodyOf Tryd.f3, frzT 3, Tryd.func3, by kernel_rfl, by kernel_rfl, by kernel_rfl, by kernel_rfl, by kernel_rfl⟩
theorem q4 : FnOk 4 (dactylref23_Exam gN) := ⟨Tryd.f4, bodyOf Tryd.f4, frzT 4, Tryd.func4, by kernel_rfl, by kernel_rfl, by kernel_rfl, by kernel_rfl, by kernel_rfl⟩
theorem q5 : FnOk 5 (dactylref23_Spoilt gN) := ⟨Tryd.f5, bodyOf Tryd.f5, frzT 5, Tryd.func5, by kernel_rfl, by kernel_rfl, by kernel_rfl, by kernel_rfl, by kernel_rfl⟩
theorem q6 : FnOk 6 (dactylref31_Open gN) := ⟨Tryd.f6, bodyOf Tryd.f6, frzT 6, Tryd.func6, by kernel_rfl, by kernel_rfl, by kernel_rfl, by kernel_rfl, by kernel_rfl⟩
theorem q7 : FnOk 7 (secret_Twin gN) := ⟨Tryd.f7, bodyOf Tryd.f7, frzT 7, Tryd.func7, by kernel_rfl, by kernel_rfl, by kernel_rfl, by kernel_rfl, by kernel_rfl⟩
theorem q8 : FnOk 8 (syntax_Same gN) := ⟨Tryd.f8, bodyOf Tryd.f8, frzT 8, Tryd.func8, by kernel_rfl, by kernel_rfl, by kernel_rfl, by kernel_rfl, by kernel_rfl⟩
theorem q9 : FnOk 9 (dactylref31_Twin gN) := ⟨Tryd.f9, bodyOf Tryd.f9, frzT 9, Tryd.func9, by kernel_rfl, by kernel_rfl, by kernel_rfl, by kernel_rfl, by kernel_rfl⟩
theorem q10 : FnOk 10 (secret_Only gN) := ⟨Tryd.f10, bodyOf Tryd.f10, frzT 10, Tryd.func10, by kernel_rfl, by kernel_rfl, by kernel_rfl, by kernel_rfl, by kernel_rfl⟩
theorem q11 : FnOk 11 (source_Erase gN) := ⟨Tryd.f11, bodyOf Tryd.f11, frzT 11, Tryd.func11, by kernel_rfl, by kernel_rfl, by kernel_rfl, by kernel_rfl, by kernel_rfl⟩
theorem q12 : FnOk 12 (dactylref31_Only gN) := ⟨Tryd.f12, bodyOf Tryd.f12, frzT 12, Tryd.func12, by kernel_rfl, by kernel_rfl, by kernel_rfl, by kernel_rfl, by kernel_rfl⟩
theorem q13 : FnOk 13 (dactyllaw31_lives gN) := ⟨Tryd.f13, bodyOf Tryd.f13, frzT 13, Tryd.func13, by kernel_rfl, by kernel_rfl, by kernel_rfl, by kernel_rfl, by kernel_rfl⟩
theorem q14 : FnOk 14 (dactylref23_Maker_Take gN) := ⟨Tryd.f14, bodyOf Tryd.f14, frzT 14, Tryd.func14, by kernel_rfl, by kernel_rfl, by kernel_rfl, by kernel_rfl, by kernel_rfl⟩
theorem q15 : FnOk 15 (dactylref23_Maker_Block gN) := ⟨Tryd.f15, bodyOf Tryd.f15, frzT 15, Tryd.func15, by kernel_rfl, by kernel_rfl, by kernel_rfl, by kernel_rfl, by kernel_rfl⟩
theorem q16 : FnOk 16 (dactylref23_Maker_Fact gN) := ⟨Tryd.f16, bodyOf Tryd.f16, frzT 16, Tryd.func16, by kernel_rfl, by kernel_rfl, by kernel_rfl, by kernel_rfl, by kernel_rfl⟩
theorem q17 : FnOk 17 (dactylref23_has gN) := ⟨Tryd.f17, bodyOf Tryd.f17, frzT 17, Tryd.func17, by kernel_rfl, by kernel_rfl, by kernel_rfl, by kernel_rfl, by kernel_rfl⟩
theorem q18 : FnOk 18 (dactylref23_Maker_Question gN) := ⟨Tryd.f18, bodyOf Tryd.f18, frzT 18, Tryd.func18, by kernel_rfl, by kernel_rfl, by kernel_rfl, by kernel_rfl, by kernel_rfl⟩
theorem q19 : FnOk 19 (dactylref01_Around gN) := ⟨Tryd.f19, bodyOf Tryd.f19, frzT 19, Tryd.func19, by kernel_rfl, by kernel_rfl, by kernel_rfl, by kernel_rfl, by kernel_rfl⟩
theorem q20 : FnOk 20 (dactylref23_spoiltBlock gN) := ⟨Tryd.f20, bodyOf Tryd.f20, frzT 20, Tryd.func20, by kernel_rfl, by kernel_rfl, by kernel_rfl, by kernel_rfl, by kernel_rfl⟩
theorem q21 : FnOk 21 (dactylref23_spoiltQuestion gN) := ⟨Tryd.f21, bodyOf Tryd.f21, frzT 21, Tryd.func21, by kernel_rfl, by kernel_rfl, by kernel_rfl, by kernel_rfl, by kernel_rfl⟩
theorem q22 : FnOk 22 (cloneFn 4 88 [(.str []), (.sl false []), (.sl false []), (.sl false [])]) := ⟨Tryd.f22, bodyOf Tryd.f22, frzT 22, Tryd.func22, by kernel_rfl, by kernel_rfl, by kernel_rfl, by kernel_rfl, by kernel_rfl⟩
theorem q23 : FnOk 23 (cloneFn 7 128 [(.int .i64 0), (.sl false []), (.sl false []), (.sl false []), (.str []), (.int .i64 0), (.sl false [])]) := ⟨Tryd.f23, bodyOf Tryd.f23, frzT 23, Tryd.func23, by kernel_rfl, by kernel_rfl, by kernel_rfl, by kernel_rfl, by kernel_rfl⟩
theorem q24 : FnOk 24 (secret_rest gN) := ⟨Tryd.f24, bodyOf Tryd.f24, frzT 24, Tryd.func24, by kernel_rfl, by kernel_rfl, by kernel_rfl, by kernel_rfl, by kernel_rfl⟩
theorem q26 : FnOk 26 (cloneFn 1 16 [(.str [])]) := ⟨Tryd.f26, bodyOf Tryd.f26, frzT 26, Tryd.func26, by kernel_rfl, by kernel_rfl, by kernel_rfl, by kernel_rfl, by kernel_rfl⟩
theorem q27 : FnOk 27 (eqfFn 4 [(.str []), (.sl true []), (.sl true []), (.sl true [])]) := ⟨Tryd.f27, bodyOf Tryd.f27, frzT 27, Tryd.func27, by kernel_rfl, by kernel_rfl, by kernel_rfl, by kernel_rfl, by kernel_rfl⟩
theorem q28 : FnOk 28 (syntax_Same_1 gN) := ⟨Tryd.f28, bodyOf Tryd.f28, frzT 28, Tryd.func28, by kernel_rfl, by kernel_rfl, by kernel_rfl, by kernel_rfl, by kernel_rfl⟩
theorem q29 : FnOk 29 (eqfFn 13 [(.int .i64 0), (.sl true []), (.int .i64 0), (.int .i64 0), (.sl true []), (.int .i64 0), (.sl true []), (.sl true []), (.int .i64 0), (.int .i64 0), (.sl true []), (.sl true []), (.sl true [])]) := ⟨Tryd.f29, bodyOf Tryd.f29, frzT 29, Tryd.func29, by kernel_rfl, by kernel_rfl, by kernel_rfl, by kernel_rfl, by kernel_rfl⟩
theorem q30 : FnOk 30 (syntax_sameBlock gN) := ⟨Tryd.f30, bodyOf Tryd.f30, frzT 30, Tryd.func30, by kernel_rfl, by kernel_rfl, by kernel_rfl, by kernel_rfl, by kernel_rfl⟩
theorem q31 : FnOk 31 (equalFn 4 true (.cells [.int, .int, .int, .int])) := ⟨Tryd.f31, bodyOf Tryd.f31, frzT 31, Tryd.func31, by kernel_rfl, by kernel_rfl, by kernel_rfl, by kernel_rfl, by kernel_rfl⟩
theorem q32 : FnOk 32 (eqfFn 7 [(.int .i64 0), (.sl true []), (.sl true []), (.sl true []), (.str []), (.int .i64 0), (.sl true [])]) := ⟨Tryd.f32, bodyOf Tryd.f32, frzT 32, Tryd.func32, by kernel_rfl, by kernel_rfl, by kernel_rfl, by kernel_rfl, by kernel_rfl⟩
theorem q33 : FnOk 33 (syntax_sameQuestion gN) := ⟨Tryd.f33, bodyOf Tryd.f33, frzT 33, Tryd.func33, by kernel_rfl, by kernel_rfl, by kernel_rfl, by kernel_rfl, by kernel_rfl⟩
theorem q34 : FnOk 34 (dactylref31_rest gN) := ⟨Tryd.f34, bodyOf Tryd.f34, frzT 34, Tryd.func34, by kernel_rfl, by kernel_rfl, by kernel_rfl, by kernel_rfl, by kernel_rfl⟩
theorem q35 : FnOk 35 (dactylref23_Decimal gN) := ⟨Tryd.f35, bodyOf Tryd.f35, frzT 35, Tryd.func35, by kernel_rfl, by kernel_rfl, by kernel_rfl, by kernel_rfl, by kernel_rfl⟩
theorem q36 : FnOk 36 (dactylref23_Same gN) := ⟨Tryd.f36, bodyOf Tryd.f36, frzT 36, Tryd.func36, by kernel_rfl, by kernel_rfl, by kernel_rfl, by kernel_rfl, by kernel_rfl⟩
theorem q37 : FnOk 37 (dactylref25_Erase gN) := ⟨Tryd.f37, bodyOf Tryd.f37, frzT 37, Tryd.func37, by kernel_rfl, by kernel_rfl, by kernel_rfl, by kernel_rfl, by kernel_rfl⟩
theorem q38 : FnOk 38 (dactylref01_SameTexts gN) := ⟨Tryd.f38, bodyOf Tryd.f38, frzT 38, Tryd.func38, by kernel_rfl, by kernel_rfl, by kernel_rfl, by kernel_rfl, by kernel_rfl⟩
theorem q39 : FnOk 39 (dactylref01_At gN) := ⟨Tryd.f39, bodyOf Tryd.f39, frzT 39, Tryd.func39, by kernel_rfl, by kernel_rfl, by kernel_rfl, by kernel_rfl, by kernel_rfl⟩
theorem q40 : FnOk 40 (dactylref23_Maker_Runs gN) := ⟨Tryd.f40, bodyOf Tryd.f40, frzT 40, Tryd.func40, by kernel_rfl, by kernel_rfl, by kernel_rfl, by kernel_rfl, by kernel_rfl⟩
theorem q41 : FnOk 41 (dactylref23_Maker_Expr gN) := ⟨Tryd.f41, bodyOf Tryd.f41, frzT 41, Tryd.func41, by kernel_rfl, by kernel_rfl, by kernel_rfl, by kernel_rfl, by kernel_rfl⟩
theorem q42 : FnOk 42 (dactylref23_Maker_Sum gN) := ⟨Tryd.f42, bodyOf Tryd.f42, frzT 42, Tryd.func42, by kernel_rfl, by kernel_rfl, by kernel_rfl, by kernel_rfl, by kernel_rfl⟩
theorem q43 : FnOk 43 (dactylref23_Maker_Grid gN) := ⟨Tryd.f43, bodyOf Tryd.f43, frzT 43, Tryd.func43, by kernel_rfl, by kernel_rfl, by kernel_rfl, by kernel_rfl, by kernel_rfl⟩
theorem q44 : FnOk 44 (dactylref23_Maker_Figure gN) := ⟨Tryd.f44, bodyOf Tryd.f44, frzT 44, Tryd.func44, by kernel_rfl, by kernel_rfl, by kernel_rfl, by kernel_rfl, by kernel_rfl⟩
theorem q45 : FnOk 45 (dactylref23_Maker_Melody gN) := ⟨Tryd.f45, bodyOf Tryd.f45, frzT 45, Tryd.func45, by kernel_rfl, by kernel_rfl, by kernel_rfl, by kernel_rfl, by kernel_rfl⟩
theorem q46 : FnOk 46 (dactylref23_Maker_Lines gN) := ⟨Tryd.f46, bodyOf Tryd.f46, frzT 46, Tryd.func46, by kernel_rfl, by kernel_rfl, by kernel_rfl, by kernel_rfl, by kernel_rfl⟩
theorem q47 : FnOk 47 (dactylref23_Maker_Phrase gN) := ⟨Tryd.f47, bodyOf Tryd.f47, frzT 47, Tryd.func47, by kernel_rfl, by kernel_rfl, by kernel_rfl, by kernel_rfl, by kernel_rfl⟩
theorem q49 : FnOk 49 (syntax_sameBlock_1 gN) := ⟨Tryd.f49, bodyOf Tryd.f49, frzT 49, Tryd.func49, by kernel_rfl, by kernel_rfl, by kernel_rfl, by kernel_rfl, by kernel_rfl⟩
theorem q50 : FnOk 50 (equalFn 2 true (.cells [.int, .int])) := ⟨Tryd.f50, bodyOf Tryd.f50, frzT 50, Tryd.func50, by kernel_rfl, by kernel_rfl, by kernel_rfl, by kernel_rfl, by kernel_rfl⟩
theorem q51 : FnOk 51 (syntax_sameBlock_2 gN) := ⟨Tryd.f51, bodyOf Tryd.f51, frzT 51, Tryd.func51, by kernel_rfl, by kernel_rfl, by kernel_rfl, by kernel_rfl, by kernel_rfl⟩
theorem q52 : FnOk 52 (eqfFn1) := ⟨Tryd.f52, bodyOf Tryd.f52, frzT 52, Tryd.func52, by kernel_rfl, by kernel_rfl, by kernel_rfl, by kernel_rfl, by kernel_rfl⟩
theorem q53 : FnOk 53 (equalFn 3 true (.cells [.int, .int, .int])) := ⟨Tryd.f53, bodyOf Tryd.f53, frzT 53, Tryd.func53, by kernel_rfl, by kernel_rfl, by kernel_rfl, by kernel_rfl, by kernel_rfl⟩
theorem q54 : FnOk 54 (equalFn 2 true (.cells [.int, .str])) := ⟨Tryd.f54, bodyOf Tryd.f54, frzT 54, Tryd.func54, by kernel_rfl, by kernel_rfl, by kernel_rfl, by kernel_rfl, by kernel_rfl⟩
theorem q55 : FnOk 55 (syntax_sameExpr gN) := ⟨Tryd.f55, bodyOf Tryd.f55, frzT 55, Tryd.func55, by kernel_rfl, by kernel_rfl, by kernel_rfl, by kernel_rfl, by kernel_rfl⟩
theorem q56 : FnOk 56 (equalFn 1 false .no) := ⟨Tryd.f56, bodyOf Tryd.f56, frzT 56, Tryd.func56, by kernel_rfl, by kernel_rfl, by kernel_rfl, by kernel_rfl, by kernel_rfl⟩
theorem q57 : FnOk 57 (eqfFn1) := ⟨Tryd.f57, bodyOf Tryd.f57, frzT 57, Tryd.func57, by kernel_rfl, by kernel_rfl, by kernel_rfl, by kernel_rfl, by kernel_rfl⟩
theorem q58 : FnOk 58 (equalFn 1 false .no) := ⟨Tryd.f58, bodyOf Tryd.f58, frzT 58, Tryd.func58, by kernel_rfl, by kernel_rfl, by kernel_rfl, by kernel_rfl, by kernel_rfl⟩
theorem q59 : FnOk 59 (eqfFn 2 [(.int .i64 0), (.sl true [])]) := ⟨Tryd.f59, bodyOf Tryd.f59, frzT 59, Tryd.func59, by kernel_rfl, by kernel_rfl, by kernel_rfl, by kernel_rfl, by kernel_rfl⟩
theorem q60 : FnOk 60 (eqfFn1) := ⟨Tryd.f60, bodyOf Tryd.f60, frzT 60, Tryd.func60, by kernel_rfl, by kernel_rfl, by kernel_rfl, by kernel_rfl, by kernel_rfl⟩
theorem q61 : FnOk 61 (dactylref01_Same gN) := ⟨Tryd.f61, bodyOf Tryd.f61, frzT 61, Tryd.func61, by kernel_rfl, by kernel_rfl, by kernel_rfl, by kernel_rfl, by kernel_rfl⟩
theorem q62 : FnOk 62 (dactylref23_Encode gN) := ⟨Tryd.f62, bodyOf Tryd.f62, frzT 62, Tryd.func62, by kernel_rfl, by kernel_rfl, by kernel_rfl, by kernel_rfl, by kernel_rfl⟩
theorem q63 : FnOk 63 (dactylref23_Maker_term gN) := ⟨Tryd.f63, bodyOf Tryd.f63, frzT 63, Tryd.func63, by kernel_rfl, by kernel_rfl, by kernel_rfl, by kernel_rfl, by kernel_rfl⟩
theorem q64 : FnOk 64 (dactylref23_box gN) := ⟨Tryd.f64, bodyOf Tryd.f64, frzT 64, Tryd.func64, by kernel_rfl, by kernel_rfl, by kernel_rfl, by kernel_rfl, by kernel_rfl⟩
theorem q66 : FnOk 66 (eqfFn 3 [(.int .i64 0), (.int .i64 0), (.sl true [])]) := ⟨Tryd.f66, bodyOf Tryd.f66, frzT 66, Tryd.func66, by kernel_rfl, by kernel_rfl, by kernel_rfl, by kernel_rfl, by kernel_rfl⟩
theorem q67 : FnOk 67 (dactylref01_Bytes gN) := ⟨Tryd.f67, bodyOf Tryd.f67, frzT 67, Tryd.func67, by kernel_rfl, by kernel_rfl, by kernel_rfl, by kernel_rfl, by kernel_rfl⟩
theorem q68 : FnOk 68 (dactylref01_Int gN) := ⟨Tryd.f68, bodyOf Tryd.f68, frzT 68, Tryd.func68, by kernel_rfl, by kernel_rfl, by kernel_rfl, by kernel_rfl, by kernel_rfl⟩
theorem q69 : FnOk 69 (dactylref23_EncodeBlock gN) := ⟨Tryd.f69, bodyOf Tryd.f69, frzT 69, Tryd.func69, by kernel_rfl, by kernel_rfl, by kernel_rfl, by kernel_rfl, by kernel_rfl⟩
theorem q70 : FnOk 70 (dactylref01_Ints gN) := ⟨Tryd.f70, bodyOf Tryd.f70, frzT 70, Tryd.func70, by kernel_rfl, by kernel_rfl, by kernel_rfl, by kernel_rfl, by kernel_rfl⟩
theorem q71 : FnOk 71 (dactylref23_encodeQuestion gN) := ⟨Tryd.f71, bodyOf Tryd.f71, frzT 71, Tryd.func71, by kernel_rfl, by kernel_rfl, by kernel_rfl, by kernel_rfl, by kernel_rfl⟩
theorem q72 : FnOk 72 (dactylref23_Arity gN) := ⟨Tryd.f72, bodyOf Tryd.f72, frzT 72, Tryd.func72, by kernel_rfl, by kernel_rfl, by kernel_rfl, by kernel_rfl, by kernel_rfl⟩
theorem q77 : FnOk 77 (dactylref23_encodeRuns gN) := ⟨Tryd.f77, bodyOf Tryd.f77, frzT 77, Tryd.func77, by kernel_rfl, by kernel_rfl, by kernel_rfl, by kernel_rfl, by kernel_rfl⟩
theorem q78 : FnOk 78 (dactylref23_encodeExpr gN) := ⟨Tryd.f78, bodyOf Tryd.f78, frzT 78, Tryd.func78, by kernel_rfl, by kernel_rfl, by kernel_rfl, by kernel_rfl, by kernel_rfl⟩
theorem q79 : FnOk 79 (dactylref01_Strings gN) := ⟨Tryd.f79, bodyOf Tryd.f79, frzT 79, Tryd.func79, by kernel_rfl, by kernel_rfl, by kernel_rfl, by kernel_rfl, by kernel_rfl⟩
theorem q80 : FnOk 80 (dactylref23_encodeFigure gN) := ⟨Tryd.f80, bodyOf Tryd.f80, frzT 80, Tryd.func80, by kernel_rfl, by kernel_rfl, by kernel_rfl, by kernel_rfl, by kernel_rfl⟩
theorem q81 : FnOk 81 (dactylref23_encodeMelody gN) := ⟨Tryd.f81, bodyOf Tryd.f81, frzT 81, Tryd.func81, by kernel_rfl, by kernel_rfl, by kernel_rfl, by kernel_rfl, by kernel_rfl⟩
def fnTab : List (Nat × AFn) := [(3, dactyllaw31_SecretTwins gN),
  (4, dactylref23_Exam gN),
  (5, dactylref23_Spoilt gN),
  (6, dactylref31_Open gN),
  (7, secret_Twin gN),
  (8, syntax_Same gN),
  (9, dactylref31_Twin gN),
  (10, secret_Only gN),
  (11, source_Erase gN),
  (12, dactylref31_Only gN),
  (13, dactyllaw31_lives gN),
  (14, dactylref23_Maker_Take gN),
  (15, dactylref23_Maker_Block gN),
  (16, dactylref23_Maker_Fact gN),
  (17, dactylref23_has gN),
  (18, dactylref23_Maker_Question gN),
  (19, dactylref01_Around gN),
  (20, dactylref23_spoiltBlock gN),
  (21, dactylref23_spoiltQuestion gN),
  (22, cloneFn 4 88 [(.str []), (.sl false []), (.sl false []), (.sl false [])]),
  (23, cloneFn 7 128 [(.int .i64 0), (.sl false []), (.sl false []), (.sl false []), (.str []), (.int .i64 0), (.sl false [])]),
  (24, secret_rest gN),
  (26, cloneFn 1 16 [(.str [])]),
  (27, eqfFn 4 [(.str []), (.sl true []), (.sl true []), (.sl true [])]),
  (28, syntax_Same_1 gN),
  (29, eqfFn 13 [(.int .i64 0), (.sl true []), (.int .i64 0), (.int .i64 0), (.sl true []), (.int .i64 0), (.sl true []), (.sl true []), (.int .i64 0), (.int .i64 0), (.sl true []), (.sl true []), (.sl true [])]),
  (30, syntax_sameBlock gN),
  (31, equalFn 4 true (.cells [.int, .int, .int, .int])),
  (32, eqfFn 7 [(.int .i64 0), (.sl true []), (.sl true []), (.sl true []), (.str []), (.int .i64 0), (.sl true [])]),
  (33, syntax_sameQuestion gN),
  (34, dactylref31_rest gN),
  (35, dactylref23_Decimal gN),
  (36, dactylref23_Same gN),
  (37, dactylref25_Erase gN),
  (38, dactylref01_SameTexts gN),
  (39, dactylref01_At gN),
  (40, dactylref23_Maker_Runs gN),
  (41, dactylref23_Maker_Expr gN),
  (42, dactylref23_Maker_Sum gN),
  (43, dactylref23_Maker_Grid gN),
  (44, dactylref23_Maker_Figure gN),
  (45, dactylref23_Maker_Melody gN),
  (46, dactylref23_Maker_Lines gN),
  (47, dactylref23_Maker_Phrase gN),
  (49, syntax_sameBlock_1 gN),
  (50, equalFn 2 true (.cells [.int, .int])),
  (51, syntax_sameBlock_2 gN),
  (52, eqfFn1),
  (53, equalFn 3 true (.cells [.int, .int, .int])),
  (54, equalFn 2 true (.cells [.int, .str])),
  (55, syntax_sameExpr gN),
  (56, equalFn 1 false .no),
  (57, eqfFn1),
  (58, equalFn 1 false .no),
  (59, eqfFn 2 [(.int .i64 0), (.sl true [])]),
  (60, eqfFn1),
  (61, dactylref01_Same gN),
  (62, dactylref23_Encode gN),
  (63, dactylref23_Maker_term gN),
  (64, dactylref23_box gN),
  (66, eqfFn 3 [(.int .i64 0), (.int .i64 0), (.sl true [])]),
  (67, dactylref01_Bytes gN),
  (68, dactylref01_Int gN),
  (69, dactylref23_EncodeBlock gN),
  (70, dactylref01_Ints gN),
  (71, dactylref23_encodeQuestion gN),
  (72, dactylref23_Arity gN),
  (77, dactylref23_encodeRuns gN),
  (78, dactylref23_encodeExpr gN),
  (79, dactylref01_Strings gN),
  (80, dactylref23_encodeFigure gN),
  (81, dactylref23_encodeMelody gN)]
def AllOk : List (Nat × AFn) → Prop
  | [] => True
  | (f, fn) :: r => FnOk f fn ∧ AllOk r
theorem lookN_ok : ∀ {l : List (Nat × AFn)}, AllOk l → ∀ {f fn}, lookN l f = some fn → FnOk f fn
  | [], _, f, fn, h => by cases h
  | (a, b) :: r, hl, f, fn, h => by
    unfold lookN at h
    split at h
    · rename_i e; subst e; cases h; exact hl.1
    · exact lookN_ok hl.2 h
theorem allOk : AllOk fnTab := ⟨q3, q4, q5, q6, q7, q8, q9, q10, q11, q12, q13, q14, q15, q16, q17, q18, q19, q20, q21, q22, q23, q24, q26, q27, q28, q29, q30, q31, q32, q33, q34, q35, q36, q37, q38, q39, q40, q41, q42, q43, q44, q45, q46, q47, q49, q50, q51, q52, q53, q54, q55, q56, q57, q58, q59, q60, q61, q62, q63, q64, q66, q67, q68, q69, q70, q71, q72, q77, q78, q79, q80, q81, trivial⟩
end Go.Proofs.Tw
end
