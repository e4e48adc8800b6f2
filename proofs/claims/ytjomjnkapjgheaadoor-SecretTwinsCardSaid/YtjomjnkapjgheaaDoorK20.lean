/- Part 20 of the proof that stands in the last text of this folder (lemmas; no statement of its own). -/
import Derived.Test.YtjomjnkapjgheaaDoorK18
import Derived.Test.YtjomjnkapjgheaaDoorK19
section
open Nat renaming reduceBEq → NB, reduceAdd → NA, reduceSub → NS, reduceMul → NM, reduceLT → NL, reduceLeDiff → ND, reduceEqDiff → NE
open Int renaming reduceLT → IL, reduceLE → ID, reduceToNat → IT, reduceEq → IE, reduceBEq → IB, reduceBNe → IN, reduceAdd → IA, reduceSub → IS, reduceNeg → IM
open Bool renaming not_true → BT, not_false → BF
set_option linter.unusedVariables false
set_option maxRecDepth 8000
namespace Go.Proofs.AM
open Go
def dactylref23_Maker_Phrase (g : String → Nat) : AFn := ⟨10, [], [.tmp 2],
  .seq (.region false [⟨some 2, .mov (.const (.str [])), none, []⟩]) <|
  .seq (.region false [⟨some 4, .bsl 1 [(.str [])] 12 [(0, (.const (.str [116, 104, 101, 32, 104, 97, 110, 100]))), (1, (.const (.str [97]))), (2, (.const (.str [73, 32, 97, 110, 100, 32, 121, 111, 117]))), (3, (.const (.str [84, 101, 110, 32, 49, 48]))), (4, (.const (.str [97, 110, 100]))), (5, (.const (.str [110, 111, 44, 32, 52, 50, 46]))), (6, (.const (.str [108, 97, 110, 100]))), (7, (.const (.str [67, 104, 105, 108, 100]))), (8, (.const (.str [120]))), (9, (.const (.str [99, 97, 110, 32, 105, 116]))), (10, (.const (.str [55, 32, 104, 97, 110, 100, 115]))), (11, (.const (.str [111, 102, 32, 116, 104, 101])))], none, []⟩,
    ⟨some 3, .mov (.tmp 4), none, [0]⟩]) <|
  .seq (.region false [⟨some 5, .mov (.tmp 3), none, []⟩,
    ⟨some 6, .mov (.tmp 0), none, []⟩,
    ⟨some 7, .callv (.const (.fn (g "(*dactyl/dactylref23.Maker).Take") [] [])) [(.tmp 6), (.const (.int .i64 12))], none, [1]⟩,
    ⟨some 8, .iaV (.tmp 5) (.tmp 7) 1, none, [0, 2, 1]⟩,
    ⟨some 9, .load 1 false (.tmp 8), none, [3, 0, 2, 1]⟩,
    ⟨some 2, .mov (.tmp 9), none, [4, 3, 0, 2, 1]⟩]) <|
  .ret⟩
abbrev dactylref23_Maker_Runs_l0 (g : String → Nat) : ACode := .seq (.seq (.region false [⟨some 14, .mov (.tmp 6), none, []⟩,⟨some 15, .mov (.tmp 5), none, []⟩,⟨some 16, .bin .lss .no (.tmp 14) (.tmp 15), none, [0, 1]⟩]) <| .cond (.tmp 16) (.skip) (.exit 0)) <| .seq (.block 1 (.region false [⟨some 19, .mov (.tmp 4), none, []⟩,⟨some 20, .mov (.tmp 3), none, []⟩,⟨some 21, .mov (.tmp 6), none, []⟩,⟨some 22, .bin .add .no (.tmp 20) (.tmp 21), none, [1, 2]⟩,⟨some 23, .bin .rem .no (.tmp 22) (.const (.int .i64 2)), none, [3, 1, 2]⟩,⟨some 24, .mov (.tmp 0), none, []⟩,⟨some 25, .callv (.const (.fn (g "(*dactyl/dactylref23.Maker).Phrase") [] [])) [(.tmp 24)], none, [5]⟩,⟨some 26, .build [(.int .i64 0), (.str [])] [(0, 1, (.tmp 23)), (1, 1, (.tmp 25))], none, [4, 3, 1, 2, 6, 5]⟩,⟨some 27, .bsl 2 [(.int .i64 0), (.str [])] 1 [(0, (.tmp 26))], none, [7, 4, 3, 1, 2, 6, 5]⟩,⟨some 28, .app 2 24 (.tmp 19) (.tmp 27), none, [0, 8, 7, 4, 3, 1, 2, 6, 5]⟩,⟨some 4, .mov (.tmp 28), none, [9, 0, 8, 7, 4, 3, 1, 2, 6, 5]⟩])) <| .region false [⟨some 17, .mov (.tmp 6), none, []⟩,⟨some 18, .bin .add .no (.tmp 17) (.const (.int .i64 1)), none, [0]⟩,⟨some 6, .mov (.tmp 18), none, [1, 0]⟩]
abbrev dactylref23_Maker_Runs_w0 : List Nat := [14, 15, 16, 19, 20, 21, 22, 23, 24, 25, 26, 27, 28, 4, 17, 18, 6]
def dactylref23_Maker_Runs (g : String → Nat) : AFn := ⟨30, [28], [.tmp 2],
  .seq (.region false [⟨some 2, .mov (.const (.sl true [])), none, []⟩]) <|
  .seq (.region false [⟨some 7, .mov (.tmp 0), none, []⟩,
    ⟨some 8, .callv (.const (.fn (g "(*dactyl/dactylref23.Maker).Take") [] [])) [(.tmp 7), (.const (.int .i64 2))], none, [0]⟩,
    ⟨some 3, .mov (.tmp 8), none, [1, 0]⟩]) <|
  .seq (.region false [⟨some 4, .mov (.const (.sl true [])), none, []⟩]) <|
  .seq (.region false [⟨some 9, .bsl 1 [(.int .i64 0)] 5 [(0, (.const (.int .i64 1))), (1, (.const (.int .i64 1))), (2, (.const (.int .i64 1))), (3, (.const (.int .i64 2))), (4, (.const (.int .i64 3)))], none, []⟩,
    ⟨some 10, .mov (.tmp 0), none, []⟩,
    ⟨some 11, .callv (.const (.fn (g "(*dactyl/dactylref23.Maker).Take") [] [])) [(.tmp 10), (.const (.int .i64 5))], none, [1]⟩,
    ⟨some 12, .iaV (.tmp 9) (.tmp 11) 1, none, [0, 2, 1]⟩,
    ⟨some 13, .load 1 false (.tmp 12), none, [3, 0, 2, 1]⟩,
    ⟨some 5, .mov (.tmp 13), none, [4, 3, 0, 2, 1]⟩]) <|
  .seq (.seq (.region false [⟨some 6, .mov (.const (.int .i64 0)), none, []⟩]) <|
  .block 0 (.loop (dactylref23_Maker_Runs_l0 g))) <|
  .seq (.region false [⟨some 29, .mov (.tmp 4), none, []⟩,
    ⟨some 2, .mov (.tmp 29), none, [0]⟩]) <|
  .ret⟩
abbrev dactylref23_Maker_Lines_l0 (g : String → Nat) : ACode := .seq (.seq (.region false [⟨some 11, .mov (.tmp 6), none, []⟩,⟨some 12, .mov (.tmp 5), none, []⟩,⟨some 13, .bin .lss .no (.tmp 11) (.tmp 12), none, [0, 1]⟩]) <| .cond (.tmp 13) (.skip) (.exit 0)) <| .seq (.block 1 (.region false [⟨some 16, .mov (.tmp 4), none, []⟩,⟨some 17, .mov (.tmp 3), none, []⟩,⟨some 18, .mov (.tmp 0), none, []⟩,⟨some 19, .callv (.const (.fn (g "(*dactyl/dactylref23.Maker).Take") [] [])) [(.tmp 18), (.const (.int .i64 7))], none, [2]⟩,⟨some 20, .iaV (.tmp 17) (.tmp 19) 1, none, [1, 3, 2]⟩,⟨some 21, .load 1 false (.tmp 20), none, [4, 1, 3, 2]⟩,⟨some 22, .bsl 1 [(.str [])] 1 [(0, (.tmp 21))], none, [5, 4, 1, 3, 2]⟩,⟨some 23, .app 1 16 (.tmp 16) (.tmp 22), none, [0, 6, 5, 4, 1, 3, 2]⟩,⟨some 4, .mov (.tmp 23), none, [7, 0, 6, 5, 4, 1, 3, 2]⟩])) <| .region false [⟨some 14, .mov (.tmp 6), none, []⟩,⟨some 15, .bin .add .no (.tmp 14) (.const (.int .i64 1)), none, [0]⟩,⟨some 6, .mov (.tmp 15), none, [1, 0]⟩]
abbrev dactylref23_Maker_Lines_w0 : List Nat := [11, 12, 13, 16, 17, 18, 19, 20, 21, 22, 23, 4, 14, 15, 6]
def dactylref23_Maker_Lines (g : String → Nat) : AFn := ⟨25, [23], [.tmp 2],
  .seq (.region false [⟨some 2, .mov (.const (.sl true [])), none, []⟩]) <|
  .seq (.region false [⟨some 7, .bsl 1 [(.str [])] 7 [(0, (.const (.str [105, 102, 32, 120, 32, 60, 32, 51, 32, 123]))), (1, (.const (.str [32, 32, 121, 32, 61, 32, 123, 49, 44, 32, 50, 125]))), (2, (.const (.str [125]))), (3, (.const (.str []))), (4, (.const (.str [32, 32, 32, 32, 114, 101, 116, 117, 114, 110, 32, 65, 91, 105, 93, 32, 43, 32, 34, 115, 34]))), (5, (.const (.str [102, 111, 114, 32, 105, 32, 58, 61, 32, 48, 59, 32, 105, 32, 60, 32, 49, 48, 59, 32, 105, 43, 43, 32, 123, 32, 116, 111, 116, 97, 108, 32, 61, 32, 116, 111, 116, 97, 108, 32, 43, 32, 118, 97, 108, 117, 101, 115, 91, 105, 93, 32, 42, 32, 50, 32, 125]))), (6, (.const (.str [32, 97, 92, 98, 32, 126, 32, 99])))], none, []⟩,
    ⟨some 3, .mov (.tmp 7), none, [0]⟩]) <|
  .seq (.region false [⟨some 4, .mov (.const (.sl true [])), none, []⟩]) <|
  .seq (.region false [⟨some 8, .mov (.tmp 0), none, []⟩,
    ⟨some 9, .callv (.const (.fn (g "(*dactyl/dactylref23.Maker).Take") [] [])) [(.tmp 8), (.const (.int .i64 3))], none, [0]⟩,
    ⟨some 10, .bin .add .no (.const (.int .i64 1)) (.tmp 9), none, [1, 0]⟩,
    ⟨some 5, .mov (.tmp 10), none, [2, 1, 0]⟩]) <|
  .seq (.seq (.region false [⟨some 6, .mov (.const (.int .i64 0)), none, []⟩]) <|
  .block 0 (.loop (dactylref23_Maker_Lines_l0 g))) <|
  .seq (.region false [⟨some 24, .mov (.tmp 4), none, []⟩,
    ⟨some 2, .mov (.tmp 24), none, [0]⟩]) <|
  .ret⟩
abbrev ListOk (l : List Int) : Prop := ∀ a ∈ l, IntOk a
theorem around_ok {n m : Int} (hn : IntOk n) (hm : 1 ≤ m) : 0 ≤ around n m ∧ around n m < m := by
  obtain ⟨h1, h2⟩ := hn
  unfold around
  rw [if_neg (by omega)]
  split
  · rw [wrap_i64 (n := n + 1) (by omega) (by omega), wrap_i64 (by omega) (by omega)]
    exact ⟨Int.tmod_nonneg _ (by omega), Int.tmod_lt_of_pos _ (by omega)⟩
  · exact ⟨Int.tmod_nonneg _ (by omega), Int.tmod_lt_of_pos _ (by omega)⟩
theorem atZ_ok {l : List Int} (hl : ListOk l) (i : Int) {m : Int} (hm : 1 ≤ m) : 0 ≤ atZ l i m ∧ atZ l i m < m := by
  unfold atZ
  split
  · omega
  · rename_i h
    refine around_ok ?_ hm
    have hlt : i.toNat < l.length := by omega
    rw [List.getD_eq_getElem?_getD, List.getElem?_eq_getElem hlt]
    exact hl _ (List.getElem_mem hlt)
abbrev GenSpec (A : AProg) (f : Nat) (args : List AV) (P : AV → Prop) : Prop := ∀ (l : List Int) (i : Int) (o v : Nat) (H : List AObj), ListOk l → H[o]? = some (.box v (makerCells l i)) →
  ∃ val i', callI A f (.ptr o v 0 :: args) H = some (val, H.set o (.box v (makerCells l i')), [o]) ∧ P val
theorem gen_call {A : AProg} {f : Nat} {args : List AV} {P : AV → Prop} (hs : GenSpec A f args P) {l : List Int} {i : Int} {o v : Nat} {H H2 : List AObj} (hl : ListOk l) (ho : H[o]? = some (.box v (makerCells l i))) {site : Option Nat} {q : Bool}
    {k : AV × List AObj × List Nat → Prop} {tg} (hk : ∀ val i', P val → bnd (afterCall site q H2 (some (val, H.set o (.box v (makerCells l i')), [o]))) k) : bindP (afterCall site q H2 (callI A f (.ptr o v 0 :: args) H)) k tg := by
  obtain ⟨val, i', h1, h2⟩ := hs l i o v H hl ho
  rw [h1]
  exact hk val i' h2
theorem gen_callD {A : AProg} {f : Nat} {args : List AV} {P : AV → Prop} (hs : GenSpec A f args P) {l : List Int} {i : Int} {o v : Nat} {H H2 H3 : List AObj} (hl : ListOk l) (ho : H[o]? = some (.box v (makerCells l i))) {site : Option Nat} {q : Bool}
    {k : AV × List AObj × List Nat × Option (List Nat) → Prop} {tg} (hk : ∀ val i', P val → bnd (drawOut H3 (afterCall site q H2 (some (val, H.set o (.box v (makerCells l i')), [o])))) k) : bindP (drawOut H3 (afterCall site q H2 (callI A f (.ptr o v 0 :: args) H))) k tg := by
  obtain ⟨val, i', h1, h2⟩ := hs l i o v H hl ho
  rw [h1]
  exact hk val i' h2
theorem Has.gen {A : AProg} {g : String → Nat} {name : String} {fn : AFn} (h : Has A g name fn) {args : List AV} {P : AV → Prop} (hN : args.length + 1 ≤ fn.ntmps) (hok : ∀ n, codeOk fn.ntmps ⟨n, fn.sites⟩ fn.body = true)
    (hw : ∀ (l : List Int) (i : Int) (o v : Nat) (H : List AObj), ListOk l → o < H.length → H[o]? = some (.box v (makerCells l i)) →
      wc A fn.ntmps ⟨H.length, fn.sites⟩ fn.body (enterF (.ptr o v 0 :: args)) (H ++ List.replicate fn.sites.length (.gone 0)) [] (ends H.length fn.results (fun val H' wr => (∃ i', H' = H.set o (.box v (makerCells l i'))) ∧ wr = [o] ∧ P val) ⟨⟩) ⟨⟩) :
    GenSpec A (g name) args P := by
  intro l i o v H hl ho
  obtain ⟨val, H', wr, h1,⟨i', rfl⟩, rfl, h2⟩ := h.callEx (args := .ptr o v 0 :: args) (by simpa using hN) (hok _) (hw l i o v H hl (getElem?_lt ho) ho)
  exact ⟨val, i', h1, h2⟩
abbrev Below (m : Int) (v : AV) : Prop := ∃ x : Int, v = vi x ∧ 0 ≤ x ∧ x < m
theorem take_gen {A : AProg} {g : String → Nat} (h : SpecTake A g) {m : Int} (hm : 1 ≤ m) : GenSpec A (g "(*dactyl/dactylref23.Maker).Take") [vi m] (Below m) := by
  intro l i o v H hl ho
  exact ⟨_, _, h l i m o v H ho, _, rfl, (atZ_ok hl _ hm).1, (atZ_ok hl _ hm).2⟩
theorem tabI (ns : List Int) {x : Int} (h0 : 0 ≤ x) (hx : x < ns.length) : ∃ n ∈ ns, (ns.map encInt)[x.toNat]? = some [vi n] := by
  have hlt : x.toNat < ns.length := by omega
  exact ⟨ns[x.toNat], List.getElem_mem hlt, getElem?_map_of hlt⟩
theorem tabS (ns : List Str) {x : Int} (h0 : 0 ≤ x) (hx : x < ns.length) : ∃ n ∈ ns, (ns.map encStr)[x.toNat]? = some [.str n] := by
  have hlt : x.toNat < ns.length := by omega
  exact ⟨ns[x.toNat], List.getElem_mem hlt, getElem?_map_of hlt⟩
abbrev phrases : List Str := [[116, 104, 101, 32, 104, 97, 110, 100], [97], [73, 32, 97, 110, 100, 32, 121, 111, 117], [84, 101, 110, 32, 49, 48], [97, 110, 100], [110, 111, 44, 32, 52, 50, 46], [108, 97, 110, 100], [67, 104, 105, 108, 100], [120], [99, 97, 110, 32, 105, 116], [55, 32, 104, 97, 110, 100, 115], [111, 102, 32, 116, 104, 101]]
abbrev IsText (v : AV) : Prop := ∃ s : Str, v = .str s ∧ s.length ≤ 60
theorem phrase_gen {A : AProg} {g : String → Nat} (h : Has A g "(*dactyl/dactylref23.Maker).Phrase" (dactylref23_Maker_Phrase g)) (ht : SpecTake A g) : GenSpec A (g "(*dactyl/dactylref23.Maker).Phrase") [] IsText := by
  refine h.gen (by simp [dactylref23_Maker_Phrase]) (fun n => by kernel_rfl) ?_
  intro l i o v H hl hlt ho
  simp only [dactylref23_Maker_Phrase]
  simp only [go_sem, ↓reduceIte, NB, NA, NL]
  refine gen_call (take_gen ht (m := 12) (by decide)) hl ho ?_
  rintro val i' ⟨x, rfl, h0, hx⟩
  obtain ⟨s, hs, htab⟩ := tabS phrases h0 hx
  simp only [List.map, encStr] at htab
  simp only [go_sem, ↓reduceIte, hlt, h0, htab, objUnder_set, underLL_of_data (dataLL_map data_int _)]
  refine ⟨⟨i', rfl⟩, s, rfl, ?_⟩
  have : ∀ s ∈ phrases, s.length ≤ 60 := by decide
  exact this s hs
abbrev ROk (a : Run) : Prop := a.Ok ∧ a.text.length ≤ 60
abbrev IsRuns (v : AV) : Prop := ∃ r : List Run, v = .own 2 (r.map encRun) ∧ 1 ≤ r.length ∧ r.length ≤ 3 ∧ ∀ a ∈ r, ROk a
theorem runs_gen {A : AProg} {g : String → Nat} (h : Has A g "(*dactyl/dactylref23.Maker).Runs" (dactylref23_Maker_Runs g)) (ht : SpecTake A g) (hp : GenSpec A (g "(*dactyl/dactylref23.Maker).Phrase") [] IsText) :
    GenSpec A (g "(*dactyl/dactylref23.Maker).Runs") [] IsRuns := by
  refine h.gen (by simp [dactylref23_Maker_Runs]) (fun n => by kernel_rfl) ?_
  intro l i o v H hl hlt ho
  simp only [dactylref23_Maker_Runs]
  simp only [go_sem, ↓reduceIte, NB, NA, NL, NE]
  refine gen_call (take_gen ht (m := 2) (by decide)) hl (i := i) (by simp only [go_sem, old_get, hlt, ho]) ?_
  rintro val i1 ⟨x, rfl, hx0, hx1⟩
  simp only [go_sem, ↓reduceIte, hlt, old_set]
  refine gen_call (take_gen ht (m := 5) (by decide)) hl (i := i1) (by simp only [go_sem, old_get_set, hlt]) ?_
  rintro val i2 ⟨y, rfl, hy0, hy1⟩
  obtain ⟨n, hn, htab⟩ := tabI [1, 1, 1, 2, 3] hy0 hy1
  simp only [List.map, encInt] at htab
  have hn3 : 1 ≤ n ∧ n ≤ 3 := by
    have : ∀ n ∈ ([1, 1, 1, 2, 3] : List Int), 1 ≤ n ∧ n ≤ 3 := by decide
    exact this n hn
  simp only [go_sem, ↓reduceIte, hlt, old_set_set, hy0, htab]
  refine wl_for2 (id := 0) (W := dactylref23_Maker_Runs_w0) (fun j ρ1 H1 wr => wr = [o] ∧ ρ1 6 = vi j ∧ ∃ i' o1, ∃ r : List Run, H1 = H.set o (.box v (makerCells l i')) ++ [o1] ∧ GSl H.length 2 (r.map encRun) (ρ1 4) o1 ∧ r.length = j ∧ ∀ a ∈ r, ROk a) n.toNat
    (fun ρ1 H1 wr => wr = [o] ∧ ∃ i' o1, ∃ r : List Run, H1 = H.set o (.box v (makerCells l i')) ++ [o1] ∧ GSl H.length 2 (r.map encRun) (ρ1 4) o1 ∧ r.length = n.toNat ∧ ∀ a ∈ r, ROk a)
    (by kernel_rfl) (by rfl) ⟨by simp only [go_sem], by simp only [go_sem], i2, _, [], rfl, by simp only [go_sem, NB]; exact .nil _, rfl, by simp⟩ ?_ ?_
  · rintro j ρ1 H1 wr1 hjl ⟨rfl, e6, i', o1, r, rfl, hg, hrl, hro⟩ hf
    have e0 : ρ1 0 = .ptr o v 0 := by rw [hf 0 (by decide)]; simp only [go_sem, NB]
    have e3 : ρ1 3 = vi x := by rw [hf 3 (by decide)]; simp only [go_sem, NB]
    have e5 : ρ1 5 = vi n := by rw [hf 5 (by decide)]; simp only [go_sem, NB]
    simp only [go_sem, NB, e5, e6]
    refine branch_intro (fun hb => ?_) (fun hb => ?_)
    · have hlt2 : j < n.toNat := by simp at hb; omega
      have hw : IntKind.i64.wrap (x + j) = x + j := wrap_i64 (by omega) (by omega)
      simp only [go_sem, ↓reduceIte, NB, NA, NL, ND, NE, e0, e3, e6, bin_rem (b := 2) (by decide), hw]
      refine gen_call hp hl (i := i') (by simp only [go_sem, old_get_set, hlt]) ?_
      rintro val i3 ⟨s, rfl, hs⟩
      obtain ⟨v', o', hg', happ⟩ := hg.app (new := [[vi ((x + j).tmod 2), .str s]]) (bytes := 24) (by simp) (by rfl) (by rw [List.length_map, hrl]; simp; omega)
      rw [show r.map encRun ++ [[vi ((x + j).tmod 2), .str s]] = (r ++ [Run.mk ((x + j).tmod 2) s]).map encRun by simp [encRun]] at hg'
      have hm1 := Int.tmod_lt_of_pos (x + j) (b := 2) (by decide)
      have hm0 := Int.tmod_nonneg 2 (a := x + j) (by omega)
      simp only [go_sem, ↓reduceIte, NA, hlt, old_set_set, happ]
      rw [wrap_succ (by omega)]
      refine ⟨hlt2, rfl, i3, o', r ++ [Run.mk ((x + j).tmod 2) s], rfl, hg', by simp [hrl], ?_⟩
      intro a ha
      rcases List.mem_append.1 ha with ha | ha
      · exact hro a ha
      · have : a = Run.mk ((x + j).tmod 2) s := by simpa using ha
        subst this
        exact ⟨⟨⟨by show -9223372036854775808 ≤ (x + j).tmod 2; omega, by show (x + j).tmod 2 ≤ 9223372036854775807; omega⟩, by show s.length ≤ 1000; omega⟩, hs⟩
    · have hlt2 : j = n.toNat := by simp at hb; omega
      subst hlt2
      simp only [go_sem, NB]
      exact ⟨i', o1, r, rfl, hg, hrl, hro⟩
  · rintro ρ2 H2 wr2 ⟨rfl, i', o1, r, rfl, hg, hrl, hro⟩ hf
    have hne : r.map encRun ≠ [] := by
      intro h
      have := congrArg List.length h
      simp only [List.length_map, hrl, List.length_nil] at this
      omega
    obtain ⟨ver, e4, rfl⟩ := hg.inv hne
    simp only [go_sem, ↓reduceIte, e4, hlt, allStill_rows (dataLL_map data_run _), underLL_of_data (dataLL_map data_run _), underLL_of_data (dataLL_map data_int _), objUnder_app]
    exact ⟨⟨i', rfl⟩, r, rfl, by omega, by omega, hro⟩
abbrev IsLines (v : AV) : Prop := ∃ r : List Str, v = .own 1 (r.map encStr) ∧ 1 ≤ r.length ∧ r.length ≤ 3 ∧ ∀ s ∈ r, s.length ≤ 60
abbrev listing : List Str := [[105, 102, 32, 120, 32, 60, 32, 51, 32, 123], [32, 32, 121, 32, 61, 32, 123, 49, 44, 32, 50, 125], [125], [], [32, 32, 32, 32, 114, 101, 116, 117, 114, 110, 32, 65, 91, 105, 93, 32, 43, 32, 34, 115, 34], [102, 111, 114, 32, 105, 32, 58, 61, 32, 48, 59, 32, 105, 32, 60, 32, 49, 48, 59, 32, 105, 43, 43, 32, 123, 32, 116, 111, 116, 97, 108, 32, 61, 32, 116, 111, 116, 97, 108, 32, 43, 32, 118, 97, 108, 117, 101, 115, 91, 105, 93, 32, 42, 32, 50, 32, 125], [32, 97, 92, 98, 32, 126, 32, 99]]
theorem lines_gen {A : AProg} {g : String → Nat} (h : Has A g "(*dactyl/dactylref23.Maker).Lines" (dactylref23_Maker_Lines g)) (ht : SpecTake A g) :
    GenSpec A (g "(*dactyl/dactylref23.Maker).Lines") [] IsLines := by
  refine h.gen (by simp [dactylref23_Maker_Lines]) (fun n => by kernel_rfl) ?_
  intro l i o v H hl hlt ho
  simp only [dactylref23_Maker_Lines]
  simp only [go_sem, ↓reduceIte, NB, NA, NL, NE]
  refine gen_call (take_gen ht (m := 3) (by decide)) hl (i := i) (by simp only [go_sem, old_get, hlt, ho]) ?_
  rintro val i1 ⟨x, rfl, hx0, hx1⟩
  have hwx : IntKind.i64.wrap (1 + x) = 1 + x := wrap_i64 (by omega) (by omega)
  simp only [go_sem, ↓reduceIte, hlt, old_set, hwx]
  refine wl_for2 (id := 0) (W := dactylref23_Maker_Lines_w0) (fun j ρ1 H1 wr => wr = [o] ∧ ρ1 6 = vi j ∧ ∃ i' o1, ∃ r : List Str, H1 = H.set o (.box v (makerCells l i')) ++ [o1] ∧ GSl H.length 1 (r.map encStr) (ρ1 4) o1 ∧ r.length = j ∧ ∀ a ∈ r, a.length ≤ 60) (1 + x).toNat
    (fun ρ1 H1 wr => wr = [o] ∧ ∃ i' o1, ∃ r : List Str, H1 = H.set o (.box v (makerCells l i')) ++ [o1] ∧ GSl H.length 1 (r.map encStr) (ρ1 4) o1 ∧ r.length = (1 + x).toNat ∧ ∀ a ∈ r, a.length ≤ 60)
    (by kernel_rfl) (by rfl) ⟨by simp only [go_sem], by simp only [go_sem], i1, _, [], rfl, by simp only [go_sem, NB]; exact .nil _, rfl, by simp⟩ ?_ ?_
  · rintro j ρ1 H1 wr1 hjl ⟨rfl, e6, i', o1, r, rfl, hg, hrl, hro⟩ hf
    have e0 : ρ1 0 = .ptr o v 0 := by rw [hf 0 (by decide)]; simp only [go_sem, NB]
    have e3 : ρ1 3 = .sl true (listing.map encStr) := by rw [hf 3 (by decide)]; simp only [go_sem, NB, listing, encStr]
    have e5 : ρ1 5 = vi (1 + x) := by rw [hf 5 (by decide)]; simp only [go_sem, NB]
    simp only [go_sem, NB, e5, e6]
    refine branch_intro (fun hb => ?_) (fun hb => ?_)
    · have hlt2 : j < (1 + x).toNat := by simp at hb; omega
      simp only [go_sem, ↓reduceIte, NB, NL, NE, e0, e3, e6]
      refine gen_call (take_gen ht (m := 7) (by decide)) hl (i := i') (by simp only [go_sem, old_get_set, hlt]) ?_
      rintro val i3 ⟨y, rfl, hy0, hy1⟩
      obtain ⟨s, hs, htab⟩ := tabS listing hy0 hy1
      have hsl : s.length ≤ 60 := by
        have : ∀ s ∈ listing, s.length ≤ 60 := by decide
        exact this s hs
      obtain ⟨v', o', hg', happ⟩ := hg.app (new := [[.str s]]) (bytes := 16) (by simp) (by rfl) (by rw [List.length_map, hrl]; simp; omega)
      rw [show r.map encStr ++ [[.str s]] = (r ++ [s]).map encStr by simp [encStr]] at hg'
      simp only [List.map, encStr] at htab
      simp only [go_sem, ↓reduceIte, hlt, old_set_set, encStr, happ, hy0, htab]
      rw [wrap_succ (by omega)]
      refine ⟨hlt2, rfl, i3, o', r ++ [s], rfl, hg', by simp [hrl], ?_⟩
      intro a ha
      rcases List.mem_append.1 ha with ha | ha
      · exact hro a ha
      · have : a = s := by simpa using ha
        subst this
        exact hsl
    · have hlt2 : j = (1 + x).toNat := by simp at hb; omega
      subst hlt2
      simp only [go_sem, NB]
      exact ⟨i', o1, r, rfl, hg, hrl, hro⟩
  · rintro ρ2 H2 wr2 ⟨rfl, i', o1, r, rfl, hg, hrl, hro⟩ hf
    have hne : r.map encStr ≠ [] := by
      intro h
      have := congrArg List.length h
      simp only [List.length_map, hrl, List.length_nil] at this
      omega
    obtain ⟨ver, e4, rfl⟩ := hg.inv hne
    simp only [go_sem, ↓reduceIte, e4, hlt, allStill_rows (dataLL_map data_str _), underLL_of_data (dataLL_map data_str _), underLL_of_data (dataLL_map data_int _), objUnder_app]
    exact ⟨⟨i', rfl⟩, r, rfl, by omega, by omega, hro⟩
end Go.Proofs.AM
end
