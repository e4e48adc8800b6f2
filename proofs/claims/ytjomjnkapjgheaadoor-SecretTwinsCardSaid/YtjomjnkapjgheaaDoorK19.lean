/- Part 19 of the proof that stands in the last text of this folder (lemmas; no statement of its own). -/
import Derived.Test.YtjomjnkapjgheaaDoorK18
section
open Nat renaming reduceBEq → NB, reduceAdd → NA, reduceSub → NS, reduceMul → NM, reduceLT → NL, reduceLeDiff → ND, reduceEqDiff → NE
open Int renaming reduceLT → IL, reduceLE → ID, reduceToNat → IT, reduceEq → IE, reduceBEq → IB, reduceBNe → IN, reduceAdd → IA, reduceSub → IS, reduceNeg → IM
open Bool renaming not_true → BT, not_false → BF
set_option linter.unusedVariables false
set_option maxRecDepth 8000
namespace Go.Proofs.AM
open Go
abbrev dactylref23_encodeRuns_d0 (g : String → Nat) : List AOper := [⟨some 14, .mov (.tmp 3), none, []⟩,⟨some 15, .mov (.tmp 0), none, []⟩,⟨some 16, .mov (.tmp 4), none, []⟩,⟨some 17, .iaV (.tmp 15) (.tmp 16) 2, none, [1, 2]⟩,⟨some 18, .fa 0 (.tmp 17), none, [3, 1, 2]⟩,⟨some 19, .load 1 false (.tmp 18), none, [4, 3, 1, 2]⟩,⟨some 20, .callv (.const (.fn (g "dactyl/dactylref01.Int") [] [])) [(.tmp 19)], none, [5, 4, 3, 1, 2]⟩,⟨some 21, .app 1 1 (.tmp 14) (.tmp 20), none, [0, 6, 5, 4, 3, 1, 2]⟩,⟨some 22, .mov (.tmp 0), none, []⟩,⟨some 23, .mov (.tmp 4), none, []⟩,⟨some 24, .iaV (.tmp 22) (.tmp 23) 2, none, [8, 9]⟩,⟨some 25, .fa 1 (.tmp 24), none, [10, 8, 9]⟩,⟨some 26, .load 1 false (.tmp 25), none, [11, 10, 8, 9]⟩,⟨some 27, .callv (.const (.fn (g "dactyl/dactylref01.Bytes") [] [])) [(.tmp 26)], none, [12, 11, 10, 8, 9, 7, 0, 6, 5, 4, 3, 1, 2]⟩,⟨some 28, .app 1 1 (.tmp 21) (.tmp 27), none, [13, 12, 11, 10, 8, 9, 7, 0, 6, 5, 4, 3, 1, 2]⟩,⟨some 3, .mov (.tmp 28), none, [14, 13, 12, 11, 10, 8, 9, 7, 0, 6, 5, 4, 3, 1, 2]⟩]
abbrev dactylref23_encodeRuns_k0 : List Nat := [6, 7, 12]
abbrev dactylref23_encodeRuns_l0 (g : String → Nat) : ACode := .seq (.seq (.region false [⟨some 8, .mov (.tmp 4), none, []⟩,⟨some 9, .mov (.tmp 0), none, []⟩,⟨some 10, .lenV (.tmp 9), none, [1]⟩,⟨some 11, .bin .lss .no (.tmp 8) (.tmp 10), none, [0, 2, 1]⟩]) <| .cond (.tmp 11) (.skip) (.exit 0)) <| .seq (.block 1 (.region true (dactylref23_encodeRuns_d0 g))) <| .region false [⟨some 12, .mov (.tmp 4), none, []⟩,⟨some 13, .bin .add .no (.tmp 12) (.const (.int .i64 1)), none, [0]⟩,⟨some 4, .mov (.tmp 13), none, [1, 0]⟩]
abbrev dactylref23_encodeRuns_w0 : List Nat := [8, 9, 10, 11, 14, 15, 16, 17, 18, 19, 20, 21, 22, 23, 24, 25, 26, 27, 28, 3, 12, 13, 4]
def dactylref23_encodeRuns (g : String → Nat) : AFn := ⟨30, [7, 20, 21, 27, 28], [.tmp 2],
  .seq (.region false [⟨some 2, .mov (.const (.sl true [])), none, []⟩]) <|
  .seq (.region false [⟨some 5, .mov (.tmp 0), none, []⟩,
    ⟨some 6, .lenV (.tmp 5), none, [0]⟩,
    ⟨some 7, .callv (.const (.fn (g "dactyl/dactylref01.Int") [] [])) [(.tmp 6)], none, [1, 0]⟩,
    ⟨some 3, .mov (.tmp 7), none, [2, 1, 0]⟩]) <|
  .seq (.seq (.region false [⟨some 4, .mov (.const (.int .i64 0)), none, []⟩]) <|
  .block 0 (.loop (dactylref23_encodeRuns_l0 g))) <|
  .seq (.region false [⟨some 29, .mov (.tmp 3), none, []⟩,
    ⟨some 2, .mov (.tmp 29), none, [0]⟩]) <|
  .ret⟩
abbrev dactylref23_encodeExpr_l0 (g : String → Nat) : ACode := .seq (.seq (.region false [⟨some 14, .mov (.tmp 4), none, []⟩,⟨some 15, .fa 2 (.tmp 1), none, []⟩,⟨some 16, .load 1 false (.tmp 15), none, [1]⟩,⟨some 17, .lenV (.tmp 16), none, [2, 1]⟩,⟨some 18, .bin .lss .no (.tmp 14) (.tmp 17), none, [0, 3, 2, 1]⟩]) <| .cond (.tmp 18) (.skip) (.exit 0)) <| .seq (.block 1 (.region false [⟨some 21, .mov (.tmp 3), none, []⟩,⟨some 22, .fa 2 (.tmp 1), none, []⟩,⟨some 23, .load 1 false (.tmp 22), none, [1]⟩,⟨some 24, .mov (.tmp 4), none, []⟩,⟨some 25, .iaV (.tmp 23) (.tmp 24) 3, none, [2, 1, 3]⟩,⟨some 26, .load 3 true (.tmp 25), none, [4, 2, 1, 3]⟩,⟨some 27, .callv (.const (.fn (g "dactyl/dactylref23.encodeExpr") [] [])) [(.tmp 26)], none, [5, 4, 2, 1, 3]⟩,⟨some 28, .app 1 1 (.tmp 21) (.tmp 27), none, [0, 6, 5, 4, 2, 1, 3]⟩,⟨some 3, .mov (.tmp 28), none, [7, 0, 6, 5, 4, 2, 1, 3]⟩])) <| .region false [⟨some 19, .mov (.tmp 4), none, []⟩,⟨some 20, .bin .add .no (.tmp 19) (.const (.int .i64 1)), none, [0]⟩,⟨some 4, .mov (.tmp 20), none, [1, 0]⟩]
abbrev dactylref23_encodeExpr_w0 : List Nat := [14, 15, 16, 17, 18, 21, 22, 23, 24, 25, 26, 27, 28, 3, 19, 20, 4]
def dactylref23_encodeExpr (g : String → Nat) : AFn := ⟨30, [1, 13, 27, 28], [.tmp 2],
  .seq (.region false [⟨some 1, .box 3 (.tmp 0), none, []⟩,
    ⟨some 2, .mov (.const (.sl true [])), none, []⟩]) <|
  .seq (.region false [⟨some 5, .fa 0 (.tmp 1), none, []⟩,
    ⟨some 6, .load 1 false (.tmp 5), none, [0]⟩,
    ⟨some 7, .fa 1 (.tmp 1), none, []⟩,
    ⟨some 8, .load 1 false (.tmp 7), none, [2]⟩,
    ⟨some 9, .fa 2 (.tmp 1), none, []⟩,
    ⟨some 10, .load 1 false (.tmp 9), none, [4]⟩,
    ⟨some 11, .lenV (.tmp 10), none, [5, 4]⟩,
    ⟨some 12, .bsl 1 [(.int .i64 0)] 3 [(0, (.tmp 6)), (1, (.tmp 8)), (2, (.tmp 11))], none, [1, 0, 3, 2, 6, 5, 4]⟩,
    ⟨some 13, .callv (.const (.fn (g "dactyl/dactylref01.Ints") [] [])) [(.tmp 12)], none, [7, 1, 0, 3, 2, 6, 5, 4]⟩,
    ⟨some 3, .mov (.tmp 13), none, [8, 7, 1, 0, 3, 2, 6, 5, 4]⟩]) <|
  .seq (.seq (.region false [⟨some 4, .mov (.const (.int .i64 0)), none, []⟩]) <|
  .block 0 (.loop (dactylref23_encodeExpr_l0 g))) <|
  .seq (.region false [⟨some 29, .mov (.tmp 3), none, []⟩,
    ⟨some 2, .mov (.tmp 29), none, [0]⟩]) <|
  .ret⟩
structure Enc01 (A : AProg) (g : String → Nat) : Prop where
  int : ∀ n, IntOk n → SpecBytes A (g "dactyl/dactylref01.Int") [vi n] (intBytes n)
  bytes : ∀ s : Str, s.length ≤ 1000000 → SpecBytes A (g "dactyl/dactylref01.Bytes") [.str s] (strBytes s)
  ints : ∀ l : List Int, l.length ≤ 1000 → (∀ a ∈ l, IntOk a) → SpecBytes A (g "dactyl/dactylref01.Ints") [.sl false (l.map encInt)] (intsBytes l)
  strs : ∀ l : List Str, l.length ≤ 1000 → (∀ a ∈ l, a.length ≤ 1000) → SpecBytes A (g "dactyl/dactylref01.Strings") [.sl false (l.map encStr)] (strsBytes l)
def runBytes (r : Run) : List UInt8 := intBytes r.lang ++ strBytes r.text
def runsBytes (l : List Run) : List UInt8 := intBytes l.length ++ l.flatMap runBytes
theorem runs_notEmpty (l : List Run) : (runsBytes l).isEmpty = false := rfl
theorem runBytes_len {r : Run} (h : r.Ok) : (runBytes r).length ≤ 1018 := by
  have h1 := intBytes_len h.lang
  have h2 := h.text
  have h3 := strBytes_len (s := r.text) (by omega)
  unfold runBytes; simp only [List.length_append]; omega
theorem runs_enc {A : AProg} {g : String → Nat} (h : Has A g "dactyl/dactylref23.encodeRuns" (dactylref23_encodeRuns g)) (he : Enc01 A g) (l : List Run) (hl : l.length ≤ 16) (hp : ∀ a ∈ l, a.Ok) :
    SpecBytes A (g "dactyl/dactylref23.encodeRuns") [.sl false (l.map encRun)] (runsBytes l) := by
  intro H
  have h1 : ∀ H, callI A (g "dactyl/dactylref01.Int") [vi l.length] H = some (.own 1 ((intBytes l.length).map encByte), H, []) := he.int l.length (ok_len (by omega))
  have hl1 := intBytes_len (ok_len (n := l.length) (by omega))
  have htot : (l.flatMap runBytes).length ≤ l.length * 1018 := flat_le (fun a ha => runBytes_len (hp a ha))
  refine h.call (by simp [dactylref23_encodeRuns]) (by kernel_rfl) ?_
  simp only [dactylref23_encodeRuns]
  simp only [go_sem, ↓reduceIte, NB, NA, NL, h1]
  refine wl_for2 (id := 0) (W := dactylref23_encodeRuns_w0) (fun i ρ1 H1 wr => wr = [] ∧ ρ1 4 = vi i ∧ ∃ bs o1 o2 o3 o4, bs = intBytes l.length ++ (l.take i).flatMap runBytes ∧ ρ1 3 = .sr H.length 1 bs.length ∧ H1 = H ++ [.vec 1 1 (bs.map encByte), o1, o2, o3, o4]) l.length
    (fun ρ1 H1 wr => wr = [] ∧ ∃ o1 o2 o3 o4, ρ1 3 = .sr H.length 1 (runsBytes l).length ∧ H1 = H ++ [.vec 1 1 ((runsBytes l).map encByte), o1, o2, o3, o4])
    (by kernel_rfl) (by rfl) ⟨rfl, by simp only [go_sem], _, .gone 0, .gone 0, .gone 0, .gone 0, rfl, by simp only [go_sem, NB, List.flatMap_nil, List.append_nil], by simp only [go_sem, List.flatMap_nil, List.append_nil]⟩ ?_ ?_
  · rintro i ρ1 H1 wr1 hil ⟨rfl, e4, bs, o1, o2, o3, o4, hbs, e3, rfl⟩ hf
    have e0 : ρ1 0 = .sl false (l.map encRun) := by rw [hf 0 (by decide)]; simp only [go_sem, NB]
    simp only [go_sem, NB, e0, e4]
    refine branch_intro (fun hb => ?_) (fun hb => ?_)
    · have hlt : i < l.length := by simpa using hb
      have hpi := hp l[i] (List.getElem_mem hlt)
      have hc1 : ∀ H, callI A (g "dactyl/dactylref01.Int") [vi l[i].lang] H = some (.own 1 ((intBytes l[i].lang).map encByte), H, []) := he.int _ hpi.lang
      have hc2 : ∀ H, callI A (g "dactyl/dactylref01.Bytes") [.str l[i].text] H = some (.own 1 ((strBytes l[i].text).map encByte), H, []) := he.bytes _ (by have := hpi.text; omega)
      have hsu : intBytes l.length ++ (l.take (i + 1)).flatMap runBytes = bs ++ intBytes l[i].lang ++ strBytes l[i].text := by rw [flat_take_succ hlt, hbs, runBytes]; simp only [List.append_assoc]
      have hle := flat_take_le (f := runBytes) (l := l) (i := i + 1)
      have hlen := congrArg List.length hsu
      simp only [List.length_append] at hlen
      have hr1 : roomy (bs.length + (intBytes l[i].lang).length) 1 = true := room (by omega)
      have hr2 : roomy (bs.length + (intBytes l[i].lang).length + (strBytes l[i].text).length) 1 = true := room (by omega)
      simp only [go_sem, hlt]
      refine wc_draw' (keep := dactylref23_encodeRuns_k0) (by rfl) (by rfl) ?_
      simp only [go_sem, ↓reduceIte, NB, NA, NL, ND, NE, BT, dactylref23_encodeRuns_k0, e0, e3, e4, hlt, getElem?_map_of hlt, encRun, hc1, hc2, headOk_bytes, isEmpty_bytes, int_notEmpty, str_notEmpty, hr1, hr2, bytes_append, logOk, apartL, orderOk_intro]
      rw [wrap_succ (by omega)]
      exact ⟨rfl, _, _, _, _, _, hsu.symm, by simp only [List.length_append], rfl⟩
    · have hlt : i = l.length := by
        have : ¬ i < l.length := by simpa using hb
        omega
      subst hlt
      rw [List.take_length] at hbs
      subst hbs
      simp only [go_sem, NB]
      exact ⟨_, _, _, _, by rw [e3]; rfl, rfl⟩
  · rintro ρ2 H2 wr2 ⟨rfl, o1, o2, o3, o4, e3, rfl⟩ hf
    simp only [go_sem, ↓reduceIte, e3, allStill_rows (dataLL_map data_byte _), underLL_of_data (dataLL_map data_byte _)]
mutual
def exprBytes : Expr → List UInt8
  | .mk op n kids => intsBytes [op, n, kids.length] ++ exprsBytes kids
def exprsBytes : List Expr → List UInt8
  | [] => []
  | e :: r => exprBytes e ++ exprsBytes r
end
theorem exprsBytes_flat : ∀ l : List Expr, exprsBytes l = l.flatMap exprBytes
  | [] => rfl
  | e :: r => by rw [exprsBytes, exprsBytes_flat r, List.flatMap_cons]
theorem intsBytes_len {l : List Int} (hl : l.length ≤ 1000) (h : ∀ a ∈ l, IntOk a) : (intsBytes l).length ≤ 9 + 9 * l.length := by
  have h1 := intBytes_len (ok_len (n := l.length) (by omega))
  have h2 : (l.flatMap intBytes).length ≤ l.length * 9 := flat_le fun a ha => intBytes_len (h a ha)
  unfold intsBytes; simp only [List.length_append]; omega
mutual
theorem exprBytes_len : ∀ {e : Expr}, e.Ok → (exprBytes e).length ≤ 36 * esize e
  | .mk op n kids, h => by
    cases h with
    | mk _ _ _ h1 h2 h3 h4 =>
      have h5 := exprsBytes_len h4
      have h6 := intsBytes_len (l := [op, n, kids.length]) (by simp) (by
        intro a ha
        simp only [List.mem_cons, List.not_mem_nil, or_false] at ha
        rcases ha with rfl | rfl | rfl
        · exact h1
        · exact h2
        · exact ok_len (by omega))
      unfold exprBytes esize
      simp only [List.length_append, List.length_cons, List.length_nil] at h6 ⊢
      omega
theorem exprsBytes_len : ∀ {l : List Expr}, (∀ e ∈ l, e.Ok) → (exprsBytes l).length ≤ 36 * esizes l
  | [], _ => by simp [exprsBytes]
  | e :: r, h => by
    have h1 := exprBytes_len (h e List.mem_cons_self)
    have h2 := exprsBytes_len (l := r) fun x hx => h x (List.mem_cons_of_mem _ hx)
    unfold exprsBytes esizes
    simp only [List.length_append]; omega
end
theorem expr_notEmpty (e : Expr) : (exprBytes e).isEmpty = false := by obtain ⟨op, n, kids⟩ := e; rfl
theorem len_expr3 (e : Expr) : (encExpr e).length = 3 := by cases e; rfl
theorem encExprs_map' : ∀ l : List Expr, encExprs l = l.map encExpr
  | [] => rfl
  | e :: r => by rw [encExprs, encExprs_map' r]; rfl
theorem esize_mem : ∀ {l : List Expr} {e : Expr}, e ∈ l → esize e ≤ esizes l
  | [], e, h => by cases h
  | a :: r, e, h => by
    unfold esizes
    rcases List.mem_cons.1 h with rfl | h
    · omega
    · have := esize_mem h; omega
theorem expr_enc {A : AProg} {g : String → Nat} (h : Has A g "dactyl/dactylref23.encodeExpr" (dactylref23_encodeExpr g)) (he : Enc01 A g) :
    ∀ (k : Nat) (e : Expr), esize e < k → e.Ok → esize e ≤ 1000 → SpecBytes A (g "dactyl/dactylref23.encodeExpr") [.agg (encExpr e)] (exprBytes e)
  | 0, e, hk, _, _ => by omega
  | k + 1, .mk op n l, hk, hok, hsz => by
    intro H
    cases hok with
    | mk _ _ _ hop hn hl hp =>
      have ih := expr_enc h he k
      have hes : esize (.mk op n l) = esizes l + 1 := by rw [esize]
      rw [hes] at hk hsz
      have hI := he.ints [op, n, l.length] (by simp) (by
        intro a ha
        simp only [List.mem_cons, List.not_mem_nil, or_false] at ha
        rcases ha with rfl | rfl | rfl
        · exact hop
        · exact hn
        · exact ok_len (by omega))
      have h1 : ∀ H, callI A (g "dactyl/dactylref01.Ints") [.sl false [[vi op], [vi n], [vi l.length]]] H = some (.own 1 ((intsBytes [op, n, l.length]).map encByte), H, []) := hI
      have htot : (l.flatMap exprBytes).length ≤ 36 * esizes l := by rw [← exprsBytes_flat]; exact exprsBytes_len hp
      have hl1 : (intsBytes [op, n, l.length]).length ≤ 36 := by
        have := intsBytes_len (l := [op, n, l.length]) (by simp) (by
          intro a ha
          simp only [List.mem_cons, List.not_mem_nil, or_false] at ha
          rcases ha with rfl | rfl | rfl
          · exact hop
          · exact hn
          · exact ok_len (by omega))
        simpa using this
      refine h.call (by simp [dactylref23_encodeExpr]) (by kernel_rfl) ?_
      simp only [dactylref23_encodeExpr, encExpr, encExprs_map']
      generalize hpre : intsBytes [op, n, l.length] = pre at h1 hl1
      simp only [go_sem, ↓reduceIte, NB, NA, NL, ND, NE, h1]
      refine wl_for2 (id := 0) (W := dactylref23_encodeExpr_w0) (fun i ρ1 H1 wr => wr = [] ∧ ρ1 4 = vi i ∧ ∃ bs o2 o3, bs = pre ++ (l.take i).flatMap exprBytes ∧ ρ1 3 = .sr (H.length + 1) 1 bs.length ∧ H1 = H ++ [.box 1 [vi op, vi n, .sl false (l.map encExpr)], .vec 1 1 (bs.map encByte), o2, o3]) l.length
        (fun ρ1 H1 wr => wr = [] ∧ ∃ bs o0 o2 o3, bs = pre ++ l.flatMap exprBytes ∧ ρ1 3 = .sr (H.length + 1) 1 bs.length ∧ H1 = H ++ [o0, .vec 1 1 (bs.map encByte), o2, o3])
        (by kernel_rfl) (by rfl) ⟨rfl, by simp only [go_sem], _, .gone 0, .gone 0, rfl, by simp only [go_sem, NB, List.flatMap_nil, List.append_nil], by simp only [go_sem, List.flatMap_nil, List.append_nil]⟩ ?_ ?_
      · rintro i ρ1 H1 wr1 hil ⟨rfl, e4, bs, o2, o3, hbs, e3, rfl⟩ hf
        have e1 : ρ1 1 = .ptr H.length 1 0 := by rw [hf 1 (by decide)]; simp only [go_sem, NB]
        simp only [go_sem, ↓reduceIte, NB, NA, e1, e4]
        refine branch_intro (fun hb => ?_) (fun hb => ?_)
        · have hlt : i < l.length := by simpa using hb
          have hmem := List.getElem_mem hlt
          have hes2 := esize_mem hmem
          have hc : ∀ H, callI A (g "dactyl/dactylref23.encodeExpr") [.agg (encExpr l[i])] H = some (.own 1 ((exprBytes l[i]).map encByte), H, []) := ih l[i] (by omega) (hp _ hmem) (by omega)
          have hsu : pre ++ (l.take (i + 1)).flatMap exprBytes = bs ++ exprBytes l[i] := by rw [flat_take_succ hlt, hbs, List.append_assoc]
          have hle := flat_take_le (f := exprBytes) (l := l) (i := i + 1)
          have hlen := congrArg List.length hsu
          simp only [List.length_append] at hlen
          have hr : roomy (bs.length + (exprBytes l[i]).length) 1 = true := room (by omega)
          have htk : List.take 3 (encExpr l[i]) = encExpr l[i] := List.take_of_length_le (by rw [len_expr3]; exact Nat.le_refl _)
          simp only [go_sem, ↓reduceIte, NB, NA, NL, NE, BT, e1, e3, e4, hlt, getElem?_map_of hlt, len_expr3, htk, lendL_of_data (data_expr _), map_strip1_of_data (data_expr _), hc, headOk_bytes, isEmpty_bytes, expr_notEmpty, hr, bytes_append]
          rw [wrap_succ (by omega)]
          exact ⟨rfl, _, _, _, hsu.symm, by simp only [List.length_append], rfl⟩
        · have hlt : i = l.length := by
            have : ¬ i < l.length := by simpa using hb
            omega
          subst hlt
          rw [List.take_length] at hbs
          simp only [go_sem, NB]
          exact ⟨bs, _, _, _, hbs, e3, rfl⟩
      · rintro ρ2 H2 wr2 ⟨rfl, bs, o0, o2, o3, hbs, e3, rfl⟩ hf
        have hfin : exprBytes (.mk op n l) = bs := by rw [exprBytes, exprsBytes_flat, hpre, hbs]
        simp only [go_sem, ↓reduceIte, e3, allStill_rows (dataLL_map data_byte _), underLL_of_data (dataLL_map data_byte _), hfin]
end Go.Proofs.AM
end
section
open Nat renaming reduceBEq → NB, reduceAdd → NA, reduceSub → NS, reduceMul → NM, reduceLT → NL, reduceLeDiff → ND, reduceEqDiff → NE
open Int renaming reduceLT → IL, reduceLE → ID, reduceToNat → IT, reduceEq → IE, reduceBEq → IB, reduceBNe → IN, reduceAdd → IA, reduceSub → IS, reduceNeg → IM
open Bool renaming not_true → BT, not_false → BF
set_option linter.unusedVariables false
set_option maxRecDepth 8000
namespace Go.Proofs.AM
open Go
abbrev dactylref23_encodeFigure_d0 (g : String → Nat) : List AOper := [⟨some 41, .mov (.tmp 5), none, []⟩,⟨some 42, .fa 2 (.tmp 1), none, []⟩,⟨some 43, .load 1 false (.tmp 42), none, [1]⟩,⟨some 44, .mov (.tmp 4), none, []⟩,⟨some 45, .iaV (.tmp 43) (.tmp 44) 2, none, [2, 1, 3]⟩,⟨some 46, .fa 1 (.tmp 45), none, [4, 2, 1, 3]⟩,⟨some 47, .load 1 false (.tmp 46), none, [5, 4, 2, 1, 3]⟩,⟨some 48, .mov (.tmp 6), none, []⟩,⟨some 49, .iaV (.tmp 47) (.tmp 48) 2, none, [6, 5, 4, 2, 1, 3, 7]⟩,⟨some 50, .fa 0 (.tmp 49), none, [8, 6, 5, 4, 2, 1, 3, 7]⟩,⟨some 51, .load 1 false (.tmp 50), none, [9, 8, 6, 5, 4, 2, 1, 3, 7]⟩,⟨some 52, .fa 2 (.tmp 1), none, []⟩,⟨some 53, .load 1 false (.tmp 52), none, [11]⟩,⟨some 54, .mov (.tmp 4), none, []⟩,⟨some 55, .iaV (.tmp 53) (.tmp 54) 2, none, [12, 11, 13]⟩,⟨some 56, .fa 1 (.tmp 55), none, [14, 12, 11, 13]⟩,⟨some 57, .load 1 false (.tmp 56), none, [15, 14, 12, 11, 13]⟩,⟨some 58, .mov (.tmp 6), none, []⟩,⟨some 59, .iaV (.tmp 57) (.tmp 58) 2, none, [16, 15, 14, 12, 11, 13, 17]⟩,⟨some 60, .fa 1 (.tmp 59), none, [18, 16, 15, 14, 12, 11, 13, 17]⟩,⟨some 61, .load 1 false (.tmp 60), none, [19, 18, 16, 15, 14, 12, 11, 13, 17]⟩,⟨some 62, .bsl 1 [(.int .i64 0)] 2 [(0, (.tmp 51)), (1, (.tmp 61))], none, [10, 9, 8, 6, 5, 4, 2, 1, 3, 7, 20, 19, 18, 16, 15, 14, 12, 11, 13, 17]⟩,⟨some 63, .app 1 8 (.tmp 41) (.tmp 62), none, [0, 21, 10, 9, 8, 6, 5, 4, 2, 1, 3, 7, 20, 19, 18, 16, 15, 14, 12, 11, 13, 17]⟩,⟨some 5, .mov (.tmp 63), none, [22, 0, 21, 10, 9, 8, 6, 5, 4, 2, 1, 3, 7, 20, 19, 18, 16, 15, 14, 12, 11, 13, 17]⟩]
abbrev dactylref23_encodeFigure_k0 : List Nat := []
abbrev dactylref23_encodeFigure_l1 (g : String → Nat) : ACode := .seq (.seq (.region false [⟨some 30, .mov (.tmp 6), none, []⟩,⟨some 31, .fa 2 (.tmp 1), none, []⟩,⟨some 32, .load 1 false (.tmp 31), none, [1]⟩,⟨some 33, .mov (.tmp 4), none, []⟩,⟨some 34, .iaV (.tmp 32) (.tmp 33) 2, none, [2, 1, 3]⟩,⟨some 35, .fa 1 (.tmp 34), none, [4, 2, 1, 3]⟩,⟨some 36, .load 1 false (.tmp 35), none, [5, 4, 2, 1, 3]⟩,⟨some 37, .lenV (.tmp 36), none, [6, 5, 4, 2, 1, 3]⟩,⟨some 38, .bin .lss .no (.tmp 30) (.tmp 37), none, [0, 7, 6, 5, 4, 2, 1, 3]⟩]) <| .cond (.tmp 38) (.skip) (.exit 2)) <| .seq (.block 3 (.region true (dactylref23_encodeFigure_d0 g))) <| .region false [⟨some 39, .mov (.tmp 6), none, []⟩,⟨some 40, .bin .add .no (.tmp 39) (.const (.int .i64 1)), none, [0]⟩,⟨some 6, .mov (.tmp 40), none, [1, 0]⟩]
abbrev dactylref23_encodeFigure_w1 : List Nat := [30, 31, 32, 33, 34, 35, 36, 37, 38, 41, 42, 43, 44, 45, 46, 47, 48, 49, 50, 51, 52, 53, 54, 55, 56, 57, 58, 59, 60, 61, 62, 63, 5, 39, 40, 6]
abbrev dactylref23_encodeFigure_l0 (g : String → Nat) : ACode := .seq (.seq (.region false [⟨some 16, .mov (.tmp 4), none, []⟩,⟨some 17, .fa 2 (.tmp 1), none, []⟩,⟨some 18, .load 1 false (.tmp 17), none, [1]⟩,⟨some 19, .lenV (.tmp 18), none, [2, 1]⟩,⟨some 20, .bin .lss .no (.tmp 16) (.tmp 19), none, [0, 3, 2, 1]⟩]) <| .cond (.tmp 20) (.skip) (.exit 0)) <| .seq (.block 1 (.seq (.region false [⟨some 23, .fa 2 (.tmp 1), none, []⟩,⟨some 24, .load 1 false (.tmp 23), none, [0]⟩,⟨some 25, .mov (.tmp 4), none, []⟩,⟨some 26, .iaV (.tmp 24) (.tmp 25) 2, none, [1, 0, 2]⟩,⟨some 27, .fa 0 (.tmp 26), none, [3, 1, 0, 2]⟩,⟨some 28, .load 1 false (.tmp 27), none, [4, 3, 1, 0, 2]⟩,⟨some 29, .bsl 1 [(.int .i64 0)] 1 [(0, (.tmp 28))], none, [5, 4, 3, 1, 0, 2]⟩,⟨some 5, .mov (.tmp 29), none, [6, 5, 4, 3, 1, 0, 2]⟩]) <| .seq (.seq (.region false [⟨some 6, .mov (.const (.int .i64 0)), none, []⟩]) <| .block 2 (.loop (dactylref23_encodeFigure_l1 g))) <| .seq (.frz [(0, 5)]) <| .region false [⟨some 64, .mov (.tmp 3), none, []⟩,⟨some 65, .mov (.tmp 5), none, []⟩,⟨some 66, .callv (.const (.fn (g "dactyl/dactylref01.Ints") [] [])) [(.tmp 65)], none, [1]⟩,⟨some 67, .app 1 1 (.tmp 64) (.tmp 66), none, [0, 2, 1]⟩,⟨some 3, .mov (.tmp 67), none, [3, 0, 2, 1]⟩])) <| .region false [⟨some 21, .mov (.tmp 4), none, []⟩,⟨some 22, .bin .add .no (.tmp 21) (.const (.int .i64 1)), none, [0]⟩,⟨some 4, .mov (.tmp 22), none, [1, 0]⟩]
abbrev dactylref23_encodeFigure_w0 : List Nat := [16, 17, 18, 19, 20, 23, 24, 25, 26, 27, 28, 29, 5, 6, 30, 31, 32, 33, 34, 35, 36, 37, 38, 41, 42, 43, 44, 45, 46, 47, 48, 49, 50, 51, 52, 53, 54, 55, 56, 57, 58, 59, 60, 61, 62, 63, 5, 39, 40, 6, 5, 64, 65, 66, 67, 3, 21, 22, 4]
def dactylref23_encodeFigure (g : String → Nat) : AFn := ⟨69, [1, 15, 63, 66, 67], [.tmp 2],
  .seq (.region false [⟨some 1, .box 3 (.tmp 0), none, []⟩,
    ⟨some 2, .mov (.const (.sl true [])), none, []⟩]) <|
  .seq (.region false [⟨some 7, .fa 0 (.tmp 1), none, []⟩,
    ⟨some 8, .load 1 false (.tmp 7), none, [0]⟩,
    ⟨some 9, .fa 1 (.tmp 1), none, []⟩,
    ⟨some 10, .load 1 false (.tmp 9), none, [2]⟩,
    ⟨some 11, .fa 2 (.tmp 1), none, []⟩,
    ⟨some 12, .load 1 false (.tmp 11), none, [4]⟩,
    ⟨some 13, .lenV (.tmp 12), none, [5, 4]⟩,
    ⟨some 14, .bsl 1 [(.int .i64 0)] 3 [(0, (.tmp 8)), (1, (.tmp 10)), (2, (.tmp 13))], none, [1, 0, 3, 2, 6, 5, 4]⟩,
    ⟨some 15, .callv (.const (.fn (g "dactyl/dactylref01.Ints") [] [])) [(.tmp 14)], none, [7, 1, 0, 3, 2, 6, 5, 4]⟩,
    ⟨some 3, .mov (.tmp 15), none, [8, 7, 1, 0, 3, 2, 6, 5, 4]⟩]) <|
  .seq (.seq (.region false [⟨some 4, .mov (.const (.int .i64 0)), none, []⟩]) <|
  .block 0 (.loop (dactylref23_encodeFigure_l0 g))) <|
  .seq (.region false [⟨some 68, .mov (.tmp 3), none, []⟩,
    ⟨some 2, .mov (.tmp 68), none, [0]⟩]) <|
  .ret⟩
abbrev dactylref23_encodeMelody_l2 (g : String → Nat) : ACode := .seq (.seq (.region false [⟨some 39, .mov (.tmp 7), none, []⟩,⟨some 40, .fa 0 (.tmp 1), none, []⟩,⟨some 41, .load 1 false (.tmp 40), none, [1]⟩,⟨some 42, .mov (.tmp 4), none, []⟩,⟨some 43, .iaV (.tmp 41) (.tmp 42) 1, none, [2, 1, 3]⟩,⟨some 44, .load 1 false (.tmp 43), none, [4, 2, 1, 3]⟩,⟨some 45, .mov (.tmp 5), none, []⟩,⟨some 46, .iaV (.tmp 44) (.tmp 45) 1, none, [5, 4, 2, 1, 3, 6]⟩,⟨some 47, .load 1 false (.tmp 46), none, [7, 5, 4, 2, 1, 3, 6]⟩,⟨some 48, .lenV (.tmp 47), none, [8, 7, 5, 4, 2, 1, 3, 6]⟩,⟨some 49, .bin .lss .no (.tmp 39) (.tmp 48), none, [0, 9, 8, 7, 5, 4, 2, 1, 3, 6]⟩]) <| .cond (.tmp 49) (.skip) (.exit 4)) <| .seq (.block 5 (.seq (.region false [⟨some 52, .fa 0 (.tmp 1), none, []⟩,⟨some 53, .load 1 false (.tmp 52), none, [0]⟩,⟨some 54, .mov (.tmp 4), none, []⟩,⟨some 55, .iaV (.tmp 53) (.tmp 54) 1, none, [1, 0, 2]⟩,⟨some 56, .load 1 false (.tmp 55), none, [3, 1, 0, 2]⟩,⟨some 57, .mov (.tmp 5), none, []⟩,⟨some 58, .iaV (.tmp 56) (.tmp 57) 1, none, [4, 3, 1, 0, 2, 5]⟩,⟨some 59, .load 1 false (.tmp 58), none, [6, 4, 3, 1, 0, 2, 5]⟩,⟨some 60, .mov (.tmp 7), none, []⟩,⟨some 61, .iaV (.tmp 59) (.tmp 60) 3, none, [7, 6, 4, 3, 1, 0, 2, 5, 8]⟩,⟨some 62, .load 3 true (.tmp 61), none, [9, 7, 6, 4, 3, 1, 0, 2, 5, 8]⟩,⟨some 8, .alloc [(.int .i64 0), (.int .i64 0), (.int .i64 0)], none, []⟩,⟨none, .store 3 (.tmp 8) (.tmp 62), none, [10, 9, 7, 6, 4, 3, 1, 0, 2, 5, 8, 11]⟩]) <| .region false [⟨some 63, .mov (.tmp 6), none, []⟩,⟨some 64, .fa 0 (.tmp 8), none, []⟩,⟨some 65, .load 1 false (.tmp 64), none, [1]⟩,⟨some 66, .fa 1 (.tmp 8), none, []⟩,⟨some 67, .load 1 false (.tmp 66), none, [3]⟩,⟨some 68, .fa 2 (.tmp 8), none, []⟩,⟨some 69, .load 1 false (.tmp 68), none, [5]⟩,⟨some 70, .bsl 1 [(.int .i64 0)] 3 [(0, (.tmp 65)), (1, (.tmp 67)), (2, (.tmp 69))], none, [2, 1, 4, 3, 6, 5]⟩,⟨some 71, .app 1 8 (.tmp 63) (.tmp 70), none, [0, 7, 2, 1, 4, 3, 6, 5]⟩,⟨some 6, .mov (.tmp 71), none, [8, 0, 7, 2, 1, 4, 3, 6, 5]⟩])) <| .region false [⟨some 50, .mov (.tmp 7), none, []⟩,⟨some 51, .bin .add .no (.tmp 50) (.const (.int .i64 1)), none, [0]⟩,⟨some 7, .mov (.tmp 51), none, [1, 0]⟩]
abbrev dactylref23_encodeMelody_w2 : List Nat := [39, 40, 41, 42, 43, 44, 45, 46, 47, 48, 49, 52, 53, 54, 55, 56, 57, 58, 59, 60, 61, 62, 8, 63, 64, 65, 66, 67, 68, 69, 70, 71, 6, 50, 51, 7]
abbrev dactylref23_encodeMelody_l1 (g : String → Nat) : ACode := .seq (.seq (.region false [⟨some 29, .mov (.tmp 5), none, []⟩,⟨some 30, .fa 0 (.tmp 1), none, []⟩,⟨some 31, .load 1 false (.tmp 30), none, [1]⟩,⟨some 32, .mov (.tmp 4), none, []⟩,⟨some 33, .iaV (.tmp 31) (.tmp 32) 1, none, [2, 1, 3]⟩,⟨some 34, .load 1 false (.tmp 33), none, [4, 2, 1, 3]⟩,⟨some 35, .lenV (.tmp 34), none, [5, 4, 2, 1, 3]⟩,⟨some 36, .bin .lss .no (.tmp 29) (.tmp 35), none, [0, 6, 5, 4, 2, 1, 3]⟩]) <| .cond (.tmp 36) (.skip) (.exit 2)) <| .seq (.block 3 (.seq (.region false [⟨some 6, .mov (.const (.sl true [])), none, []⟩]) <| .seq (.seq (.region false [⟨some 7, .mov (.const (.int .i64 0)), none, []⟩]) <| .block 4 (.loop (dactylref23_encodeMelody_l2 g))) <| .seq (.frz [(0, 6)]) <| .region false [⟨some 72, .mov (.tmp 3), none, []⟩,⟨some 73, .mov (.tmp 6), none, []⟩,⟨some 74, .callv (.const (.fn (g "dactyl/dactylref01.Ints") [] [])) [(.tmp 73)], none, [1]⟩,⟨some 75, .app 1 1 (.tmp 72) (.tmp 74), none, [0, 2, 1]⟩,⟨some 3, .mov (.tmp 75), none, [3, 0, 2, 1]⟩])) <| .region false [⟨some 37, .mov (.tmp 5), none, []⟩,⟨some 38, .bin .add .no (.tmp 37) (.const (.int .i64 1)), none, [0]⟩,⟨some 5, .mov (.tmp 38), none, [1, 0]⟩]
abbrev dactylref23_encodeMelody_w1 : List Nat := [29, 30, 31, 32, 33, 34, 35, 36, 6, 7, 39, 40, 41, 42, 43, 44, 45, 46, 47, 48, 49, 52, 53, 54, 55, 56, 57, 58, 59, 60, 61, 62, 8, 63, 64, 65, 66, 67, 68, 69, 70, 71, 6, 50, 51, 7, 6, 72, 73, 74, 75, 3, 37, 38, 5]
abbrev dactylref23_encodeMelody_l0 (g : String → Nat) : ACode := .seq (.seq (.region false [⟨some 13, .mov (.tmp 4), none, []⟩,⟨some 14, .fa 0 (.tmp 1), none, []⟩,⟨some 15, .load 1 false (.tmp 14), none, [1]⟩,⟨some 16, .lenV (.tmp 15), none, [2, 1]⟩,⟨some 17, .bin .lss .no (.tmp 13) (.tmp 16), none, [0, 3, 2, 1]⟩]) <| .cond (.tmp 17) (.skip) (.exit 0)) <| .seq (.block 1 (.seq (.region false [⟨some 20, .mov (.tmp 3), none, []⟩,⟨some 21, .fa 0 (.tmp 1), none, []⟩,⟨some 22, .load 1 false (.tmp 21), none, [1]⟩,⟨some 23, .mov (.tmp 4), none, []⟩,⟨some 24, .iaV (.tmp 22) (.tmp 23) 1, none, [2, 1, 3]⟩,⟨some 25, .load 1 false (.tmp 24), none, [4, 2, 1, 3]⟩,⟨some 26, .lenV (.tmp 25), none, [5, 4, 2, 1, 3]⟩,⟨some 27, .callv (.const (.fn (g "dactyl/dactylref01.Int") [] [])) [(.tmp 26)], none, [6, 5, 4, 2, 1, 3]⟩,⟨some 28, .app 1 1 (.tmp 20) (.tmp 27), none, [0, 7, 6, 5, 4, 2, 1, 3]⟩,⟨some 3, .mov (.tmp 28), none, [8, 0, 7, 6, 5, 4, 2, 1, 3]⟩]) <| .seq (.region false [⟨some 5, .mov (.const (.int .i64 0)), none, []⟩]) <| .block 2 (.loop (dactylref23_encodeMelody_l1 g)))) <| .region false [⟨some 18, .mov (.tmp 4), none, []⟩,⟨some 19, .bin .add .no (.tmp 18) (.const (.int .i64 1)), none, [0]⟩,⟨some 4, .mov (.tmp 19), none, [1, 0]⟩]
abbrev dactylref23_encodeMelody_w0 : List Nat := [13, 14, 15, 16, 17, 20, 21, 22, 23, 24, 25, 26, 27, 28, 3, 5, 29, 30, 31, 32, 33, 34, 35, 36, 6, 7, 39, 40, 41, 42, 43, 44, 45, 46, 47, 48, 49, 52, 53, 54, 55, 56, 57, 58, 59, 60, 61, 62, 8, 63, 64, 65, 66, 67, 68, 69, 70, 71, 6, 50, 51, 7, 6, 72, 73, 74, 75, 3, 37, 38, 5, 18, 19, 4]
def dactylref23_encodeMelody (g : String → Nat) : AFn := ⟨77, [1, 12, 27, 28, 8, 71, 74, 75], [.tmp 2],
  .seq (.region false [⟨some 1, .box 1 (.tmp 0), none, []⟩,
    ⟨some 2, .mov (.const (.sl true [])), none, []⟩]) <|
  .seq (.region false [⟨some 9, .fa 0 (.tmp 1), none, []⟩,
    ⟨some 10, .load 1 false (.tmp 9), none, [0]⟩,
    ⟨some 11, .lenV (.tmp 10), none, [1, 0]⟩,
    ⟨some 12, .callv (.const (.fn (g "dactyl/dactylref01.Int") [] [])) [(.tmp 11)], none, [2, 1, 0]⟩,
    ⟨some 3, .mov (.tmp 12), none, [3, 2, 1, 0]⟩]) <|
  .seq (.seq (.region false [⟨some 4, .mov (.const (.int .i64 0)), none, []⟩]) <|
  .block 0 (.loop (dactylref23_encodeMelody_l0 g))) <|
  .seq (.region false [⟨some 76, .mov (.tmp 3), none, []⟩,
    ⟨some 2, .mov (.tmp 76), none, [0]⟩]) <|
  .ret⟩
inductive GSf (id k : Nat) : List (List AV) → AV → AObj → Prop
  | lit (o : AObj) (rows : List (List AV)) : headOk k rows = true → GSf id k rows (.sl true rows) o
  | obj (ver : Nat) (rows : List (List AV)) : GSf id k rows (.sr id ver rows.length) (.vec ver k rows)
section
variable {id k : Nat} {rows : List (List AV)} {v : AV} {o : AObj}
theorem GSf.app (h : GSf id k rows v o) {new : List (List AV)} {bytes : Nat} (hn : new ≠ []) (hk : headOk k new = true) (hr : (rows.length + new.length) * (bytes + 1) ≤ 1099511627776) :
    ∃ v' o', GSf id k (rows ++ new) v' o' ∧ ∀ H f, H[id]? = some o → evApp H (some id) k bytes v (.sl f new) = some (v', H.set id o', [id]) := by
  obtain ⟨a, l, rfl⟩ := List.exists_cons_of_ne_nil hn
  have hroom : roomy (rows.length + (a :: l).length) bytes = true := by unfold roomy; simpa using hr
  cases h with
  | lit _ _ hh =>
    refine ⟨.sr id (o.ver + 1) (rows ++ a :: l).length, .vec (o.ver + 1) k (rows ++ a :: l), GSf.obj _ _, fun H f ho => ?_⟩
    unfold evApp
    simp only [appRows, rowsOf, hk, hh, hroom]
    simp only [List.isEmpty_cons, BT, Bool.false_eq_true, if_false, Bool.and_self, if_true]
    rw [if_pos (getElem?_lt ho)]
    simp only [verAt, make, ho, Option.elim_some, List.length_append]
  | obj ver =>
    refine ⟨.sr id ver (rows ++ a :: l).length, .vec ver k (rows ++ a :: l), GSf.obj _ _, fun H f ho => ?_⟩
    unfold evApp
    simp only [appRows, rowsOf, hk]
    simp only [BT, Bool.false_eq_true, if_false, ho, hroom, and_self, if_true, List.isEmpty_cons, List.length_append]
theorem GSf.lend (h : GSf id k rows v o) (hd : dataLL rows = true) : ∃ f l o', (∀ H, H[id]? = some o → Go.Proofs.AM.lend H v = some (.sl f rows, l)) ∧ (∀ H, H[id]? = some o → goneAll H l = H.set id o') ∧ (∀ b wr, b ≤ id → addWr b wr l = wr) := by
  cases h with
  | lit => exact ⟨true, [], o, fun H ho => rfl, fun H ho => by rw [set_same ho]; rfl, fun _ _ _ => rfl⟩
  | obj ver =>
    refine ⟨false, [id], .gone ver, fun H ho => ?_, fun H ho => ?_, fun b wr hb => ?_⟩
    · show (match H[id]? with
        | some (.vec v' _ rows') => if v' = ver ∧ rows'.length = rows.length ∧ rows'.all (fun r => r.all AV.still) then some (AV.sl false rows', [id]) else none
        | _ => none) = _
      rw [ho]
      simp only [allStill_rows hd, and_self, if_true]
    · simp only [goneAll, ho]
      rfl
    · unfold addWr
      rw [if_neg (by omega)]
      rfl
end
def pointInts (p : Int × Int) : List Int := [p.1, p.2]
def shapeInts (s : Shape) : List Int := s.kind :: s.points.flatMap pointInts
def shapeBytes (s : Shape) : List UInt8 := intsBytes (shapeInts s)
def figBytes (w h : Int) (l : List Shape) : List UInt8 := intsBytes [w, h, l.length] ++ l.flatMap shapeBytes
theorem fig_notEmpty (w h : Int) (l : List Shape) : (figBytes w h l).isEmpty = false := rfl
theorem flat_len {α β : Type} {f : α → List β} {k : Nat} (h : ∀ a, (f a).length = k) : ∀ l : List α, (l.flatMap f).length = l.length * k
  | [] => by simp
  | a :: r => by simp only [List.flatMap_cons, List.length_append, h a, flat_len h r, List.length_cons]; rw [Nat.succ_mul]; omega
theorem shapeInts_ok {s : Shape} (h : s.Ok) : (shapeInts s).length ≤ 33 ∧ ∀ a ∈ shapeInts s, IntOk a := by
  have hl := h.len
  refine ⟨by unfold shapeInts; simp only [List.length_cons]; rw [flat_len (k := 2) (fun _ => rfl)]; omega, fun a ha => ?_⟩
  unfold shapeInts at ha
  rcases List.mem_cons.1 ha with rfl | ha
  · exact h.kind
  · obtain ⟨p, hp, ha⟩ := List.mem_flatMap.1 ha
    have := h.points p hp
    simp only [pointInts, List.mem_cons, List.not_mem_nil, or_false] at ha
    rcases ha with rfl | rfl
    · exact this.1
    · exact this.2
theorem shapeBytes_len {s : Shape} (h : s.Ok) : (shapeBytes s).length ≤ 306 := by
  have := intsBytes_len (l := shapeInts s) (by have := (shapeInts_ok h).1; omega) (shapeInts_ok h).2
  have := (shapeInts_ok h).1
  unfold shapeBytes; omega
theorem fig_points {A : AProg} {g : String → Nat} {H0 : List AObj} {Q : AExit → SEnv → List AObj → List Nat → Prop} {tg} {w h : Int} {l : List Shape} {i : Nat} (hi : i < l.length) {s : Shape} (hs : l[i] = s) (hls : s.points.length ≤ 16)
    {vx : Nat} {o1 o2 o3 o4 : AObj} {ρ : SEnv} (e1 : ρ 1 = .ptr H0.length vx 0) (e4 : ρ 4 = vi i) (e5 : ρ 5 = .sl true [[vi s.kind]]) (e6 : ρ 6 = vi 0)
    (hQ : ∀ ρ' o2, (∀ t, dactylref23_encodeFigure_w1.contains t = false → ρ' t = ρ t) → GSf (H0.length + 2) 1 ((shapeInts s).map encInt) (ρ' 5) o2 → Q (.exit 2) ρ' (H0 ++ [.box vx [vi w, vi h, .sl false (l.map encShape)], o1, o2, o3, o4]) []) :
    wl A 69 ⟨H0.length, [1, 15, 63, 66, 67]⟩ (dactylref23_encodeFigure_l1 g) ρ (H0 ++ [.box vx [vi w, vi h, .sl false (l.map encShape)], o1, o2, o3, o4]) [] Q tg := by
  refine wl_for2 (W := dactylref23_encodeFigure_w1) (fun j ρ1 H1 wr => wr = [] ∧ ρ1 6 = vi j ∧ ∃ o2, GSf (H0.length + 2) 1 ((s.kind :: (s.points.take j).flatMap pointInts).map encInt) (ρ1 5) o2 ∧ H1 = H0 ++ [.box vx [vi w, vi h, .sl false (l.map encShape)], o1, o2, o3, o4]) s.points.length
    (fun ρ1 H1 wr => wr = [] ∧ ∃ o2, GSf (H0.length + 2) 1 ((shapeInts s).map encInt) (ρ1 5) o2 ∧ H1 = H0 ++ [.box vx [vi w, vi h, .sl false (l.map encShape)], o1, o2, o3, o4])
    (by kernel_rfl) (by rfl) ⟨rfl, e6, o2, by rw [e5]; exact .lit _ _ rfl, rfl⟩ ?_ (by
      rintro ρ' H' wr' ⟨rfl, o2, hg, rfl⟩ hf
      exact hQ ρ' o2 hf hg)
  rintro j ρ1 H1 wr1 hjl ⟨rfl, e6, o2, hg, rfl⟩ hf
  have f1 : ρ1 1 = .ptr H0.length vx 0 := (hf 1 (by decide)).trans e1
  have f4 : ρ1 4 = vi i := (hf 4 (by decide)).trans e4
  simp only [go_sem, ↓reduceIte, NB, NA, f1, f4, e6, getElem?_map_of hi, encShape, hs]
  refine branch_intro (fun hb => ?_) (fun hb => ?_)
  · have hlt : j < s.points.length := by simpa using hb
    obtain ⟨v', o', hg', happ⟩ := hg.app (new := [[vi s.points[j].1], [vi s.points[j].2]]) (bytes := 8) (by simp) (by rfl) (by
      simp only [List.length_map, List.length_cons, List.length_nil]; rw [flat_len (k := 2) (fun _ => rfl)]; simp only [List.length_take]; omega)
    have hsu : (s.kind :: (s.points.take j).flatMap pointInts).map encInt ++ [[vi s.points[j].1], [vi s.points[j].2]] = (s.kind :: (s.points.take (j + 1)).flatMap pointInts).map encInt := by
      rw [flat_take_succ hlt]; simp [pointInts, encInt]
    rw [hsu] at hg'
    simp only [go_sem]
    refine wc_draw' (keep := dactylref23_encodeFigure_k0) (by rfl) (by rfl) ?_
    simp only [go_sem, ↓reduceIte, NB, NA, NL, ND, NE, dactylref23_encodeFigure_k0, f1, f4, e6, hlt, getElem?_map_of hi, getElem?_map_of hlt, encShape, encPoint, hs, happ]
    rw [wrap_succ (by omega)]
    exact ⟨rfl, o', hg', rfl⟩
  · have hlt : j = s.points.length := by
      have : ¬ j < s.points.length := by simpa using hb
      omega
    subst hlt
    rw [List.take_length] at hg
    simp only [go_sem, NB]
    exact ⟨o2, hg, rfl⟩
theorem fig_enc {A : AProg} {g : String → Nat} (hh : Has A g "dactyl/dactylref23.encodeFigure" (dactylref23_encodeFigure g)) (he : Enc01 A g) (w h : Int) (l : List Shape) (hw : IntOk w) (hhh : IntOk h) (hl : l.length ≤ 16) (hp : ∀ a ∈ l, a.Ok) :
    SpecBytes A (g "dactyl/dactylref23.encodeFigure") [.agg [vi w, vi h, .sl false (l.map encShape)]] (figBytes w h l) := by
  intro H
  have hin : ∀ a ∈ [w, h, (l.length : Int)], IntOk a := by
    intro a ha
    simp only [List.mem_cons, List.not_mem_nil, or_false] at ha
    rcases ha with rfl | rfl | rfl
    · exact hw
    · exact hhh
    · exact ok_len (by omega)
  have h1 : ∀ H, callI A (g "dactyl/dactylref01.Ints") [.sl false [[vi w], [vi h], [vi l.length]]] H = some (.own 1 ((intsBytes [w, h, l.length]).map encByte), H, []) := he.ints [w, h, l.length] (by simp) hin
  have htot : (l.flatMap shapeBytes).length ≤ l.length * 306 := flat_le (fun a ha => shapeBytes_len (hp a ha))
  have hl1 : (intsBytes [w, h, l.length]).length ≤ 36 := by
    have := intsBytes_len (l := [w, h, l.length]) (by simp) hin
    simpa using this
  have hfin : figBytes w h l = intsBytes [w, h, l.length] ++ l.flatMap shapeBytes := rfl
  refine hh.call (by simp [dactylref23_encodeFigure]) (by kernel_rfl) ?_
  simp only [dactylref23_encodeFigure]
  generalize intsBytes [w, h, l.length] = pre at h1 hl1 hfin
  simp only [go_sem, ↓reduceIte, NB, NA, NL, ND, NE, h1]
  refine wl_for2 (id := 0) (W := dactylref23_encodeFigure_w0) (fun i ρ1 H1 wr => wr = [] ∧ ρ1 4 = vi i ∧ ∃ bs o2 o3 o4, bs = pre ++ (l.take i).flatMap shapeBytes ∧ ρ1 3 = .sr (H.length + 1) 1 bs.length ∧ H1 = H ++ [.box 1 [vi w, vi h, .sl false (l.map encShape)], .vec 1 1 (bs.map encByte), o2, o3, o4]) l.length
    (fun ρ1 H1 wr => wr = [] ∧ ∃ bs o0 o2 o3 o4, bs = pre ++ l.flatMap shapeBytes ∧ ρ1 3 = .sr (H.length + 1) 1 bs.length ∧ H1 = H ++ [o0, .vec 1 1 (bs.map encByte), o2, o3, o4])
    (by kernel_rfl) (by rfl) ⟨rfl, by simp only [go_sem], _, .gone 0, .gone 0, .gone 0, rfl, by simp only [go_sem, NB, List.flatMap_nil, List.append_nil], by simp only [go_sem, List.flatMap_nil, List.append_nil]⟩ ?_ ?_
  · rintro i ρ1 H1 wr1 hil ⟨rfl, e4, bs, o2, o3, o4, hbs, e3, rfl⟩ hf
    have e1 : ρ1 1 = .ptr H.length 1 0 := by rw [hf 1 (by decide)]; simp only [go_sem, NB]
    simp only [go_sem, ↓reduceIte, NB, NA, e1, e4]
    refine branch_intro (fun hb => ?_) (fun hb => ?_)
    · have hlt : i < l.length := by simpa using hb
      have hpi := hp l[i] (List.getElem_mem hlt)
      have hsi := shapeInts_ok hpi
      simp only [go_sem, ↓reduceIte, NB, NA, NL, ND, NE, e1, e4, hlt, getElem?_map_of hlt, encShape]
      refine fig_points (w := w) (h := h) hlt (s := l[i]) rfl hpi.len (by simp only [go_sem, NB, e1]) (by simp only [go_sem, NB, e4]) (by simp only [go_sem, NB]) (by simp only [go_sem]) ?_
      intro ρ2 o2' hf2 hg
      have g3 : ρ2 3 = .sr (H.length + 1) 1 bs.length := by rw [hf2 3 (by decide)]; simp only [go_sem, NB, e3]
      have g4 : ρ2 4 = vi i := by rw [hf2 4 (by decide)]; simp only [go_sem, NB, e4]
      obtain ⟨ff, lf, o2'', hfx, hgo, haw⟩ := hg.lend (dataLL_map data_int _)
      have hc : ∀ H, callI A (g "dactyl/dactylref01.Ints") [.sl false ((shapeInts l[i]).map encInt)] H = some (.own 1 ((shapeBytes l[i]).map encByte), H, []) := he.ints _ (by omega) hsi.2
      have hne : (shapeBytes l[i]).isEmpty = false := rfl
      have hsu : pre ++ (l.take (i + 1)).flatMap shapeBytes = bs ++ shapeBytes l[i] := by rw [flat_take_succ hlt, hbs, List.append_assoc]
      have hle := flat_take_le (f := shapeBytes) (l := l) (i := i + 1)
      have hlen := congrArg List.length hsu
      simp only [List.length_append] at hlen
      have hr : roomy (bs.length + (shapeBytes l[i]).length) 1 = true := room (by omega)
      simp only [go_sem, ↓reduceIte, NB, NA, NL, NE, BT, g3, g4, hfx, hgo, haw, hc, headOk_bytes, isEmpty_bytes, hne, hr, bytes_append]
      rw [wrap_succ (by omega)]
      exact ⟨hlt, rfl, _, _, _, _, hsu.symm, by simp only [List.length_append], rfl⟩
    · have hlt : i = l.length := by
        have : ¬ i < l.length := by simpa using hb
        omega
      subst hlt
      rw [List.take_length] at hbs
      simp only [go_sem, NB]
      exact ⟨bs, _, _, _, _, hbs, e3, rfl⟩
  · rintro ρ2 H2 wr2 ⟨rfl, bs, o0, o2, o3, o4, hbs, e3, rfl⟩ hf
    rw [← hbs] at hfin
    simp only [go_sem, ↓reduceIte, e3, allStill_rows (dataLL_map data_byte _), underLL_of_data (dataLL_map data_byte _), hfin]
def noteInts (n : Note) : List Int := [n.step, n.length, n.alter]
def barBytes (l : List Note) : List UInt8 := intsBytes (l.flatMap noteInts)
def handBytes (h : List (List Note)) : List UInt8 := intBytes h.length ++ h.flatMap barBytes
def melBytes (l : List (List (List Note))) : List UInt8 := intBytes l.length ++ l.flatMap handBytes
theorem mel_notEmpty (l : List (List (List Note))) : (melBytes l).isEmpty = false := rfl
abbrev BarOk (l : List Note) : Prop := l.length ≤ 16 ∧ ∀ n ∈ l, n.Ok
abbrev HandOk (h : List (List Note)) : Prop := h.length ≤ 16 ∧ ∀ l ∈ h, BarOk l
theorem barInts_ok {l : List Note} (h : BarOk l) : (l.flatMap noteInts).length ≤ 48 ∧ ∀ a ∈ l.flatMap noteInts, IntOk a := by
  refine ⟨by rw [flat_len (k := 3) (fun _ => rfl)]; have := h.1; omega, fun a ha => ?_⟩
  obtain ⟨n, hn, ha⟩ := List.mem_flatMap.1 ha
  have := h.2 n hn
  simp only [noteInts, List.mem_cons, List.not_mem_nil, or_false] at ha
  rcases ha with rfl | rfl | rfl
  · exact this.step
  · exact this.length
  · exact this.alter
theorem barBytes_len {l : List Note} (h : BarOk l) : (barBytes l).length ≤ 441 := by
  have h1 := barInts_ok h
  have := intsBytes_len (l := l.flatMap noteInts) (by omega) h1.2
  unfold barBytes; omega
theorem handBytes_len {l : List (List Note)} (h : HandOk l) : (handBytes l).length ≤ 7065 := by
  have h1 := intBytes_len (ok_len (n := l.length) (by have := h.1; omega))
  have h2 : (l.flatMap barBytes).length ≤ l.length * 441 := flat_le (fun a ha => barBytes_len (h.2 a ha))
  have := h.1
  unfold handBytes; simp only [List.length_append]; omega
theorem mel_notes {A : AProg} {g : String → Nat} {H0 : List AObj} {Q : AExit → SEnv → List AObj → List Nat → Prop} {tg} {L : List (List (List Note))} {i j : Nat} (hi : i < L.length) (hj : j < L[i].length) {s : List Note} (hs : L[i][j] = s) (hls : s.length ≤ 16)
    {vx : Nat} {o1 o2 o3 o4 o5 o6 o7 : AObj} {ρ : SEnv} (e1 : ρ 1 = .ptr H0.length vx 0) (e4 : ρ 4 = vi i) (e5 : ρ 5 = vi j) (e6 : ρ 6 = .sl true []) (e7 : ρ 7 = vi 0)
    (hQ : ∀ ρ' o4 o5, (∀ t, dactylref23_encodeMelody_w2.contains t = false → ρ' t = ρ t) → GSf (H0.length + 5) 1 ((s.flatMap noteInts).map encInt) (ρ' 6) o5 → Q (.exit 4) ρ' (H0 ++ [.box vx [.sl false (L.map encHand)], o1, o2, o3, o4, o5, o6, o7]) []) :
    wl A 77 ⟨H0.length, [1, 12, 27, 28, 8, 71, 74, 75]⟩ (dactylref23_encodeMelody_l2 g) ρ (H0 ++ [.box vx [.sl false (L.map encHand)], o1, o2, o3, o4, o5, o6, o7]) [] Q tg := by
  refine wl_for2 (W := dactylref23_encodeMelody_w2) (fun k ρ1 H1 wr => wr = [] ∧ ρ1 7 = vi k ∧ ∃ o4 o5, GSf (H0.length + 5) 1 (((s.take k).flatMap noteInts).map encInt) (ρ1 6) o5 ∧ H1 = H0 ++ [.box vx [.sl false (L.map encHand)], o1, o2, o3, o4, o5, o6, o7]) s.length
    (fun ρ1 H1 wr => wr = [] ∧ ∃ o4 o5, GSf (H0.length + 5) 1 ((s.flatMap noteInts).map encInt) (ρ1 6) o5 ∧ H1 = H0 ++ [.box vx [.sl false (L.map encHand)], o1, o2, o3, o4, o5, o6, o7])
    (by kernel_rfl) (by rfl) ⟨rfl, e7, o4, o5, by rw [e6]; exact .lit _ _ rfl, rfl⟩ ?_ (by
      rintro ρ' H' wr' ⟨rfl, o4, o5, hg, rfl⟩ hf
      exact hQ ρ' o4 o5 hf hg)
  rintro k ρ1 H1 wr1 hkl ⟨rfl, e7, o4, o5, hg, rfl⟩ hf
  have f1 : ρ1 1 = .ptr H0.length vx 0 := (hf 1 (by decide)).trans e1
  have f4 : ρ1 4 = vi i := (hf 4 (by decide)).trans e4
  have f5 : ρ1 5 = vi j := (hf 5 (by decide)).trans e5
  simp only [go_sem, ↓reduceIte, NB, f1, f4, f5, e7, getElem?_map_of hi, getElem?_map_of hj, encHand, encBar, hs]
  refine branch_intro (fun hb => ?_) (fun hb => ?_)
  · have hlt : k < s.length := by simpa using hb
    obtain ⟨v', o', hg', happ⟩ := hg.app (new := [[vi s[k].step], [vi s[k].length], [vi s[k].alter]]) (bytes := 8) (by simp) (by rfl) (by
      simp only [List.length_map, List.length_cons, List.length_nil]; rw [flat_len (k := 3) (fun _ => rfl)]; simp only [List.length_take]; omega)
    have hsu : ((s.take k).flatMap noteInts).map encInt ++ [[vi s[k].step], [vi s[k].length], [vi s[k].alter]] = ((s.take (k + 1)).flatMap noteInts).map encInt := by
      rw [flat_take_succ hlt]; simp [noteInts, encInt]
    rw [hsu] at hg'
    simp only [go_sem, ↓reduceIte, NB, NA, NL, ND, NE, f1, f4, f5, e7, hlt, getElem?_map_of hi, getElem?_map_of hj, getElem?_map_of hlt, encHand, encBar, encNote, hs, happ]
    rw [wrap_succ (by omega)]
    exact ⟨rfl, _, o', hg', rfl⟩
  · have hlt : k = s.length := by
      have : ¬ k < s.length := by simpa using hb
      omega
    subst hlt
    rw [List.take_length] at hg
    simp only [go_sem, NB]
    exact ⟨o4, o5, hg, rfl⟩
theorem mel_bars {A : AProg} {g : String → Nat} (he : Enc01 A g) {H0 : List AObj} {Q : AExit → SEnv → List AObj → List Nat → Prop} {tg} {L : List (List (List Note))} {i : Nat} (hi : i < L.length) (hh : HandOk L[i])
    {vx : Nat} {pre : List UInt8} (hpl : pre.length + 7065 ≤ 900000000) {o2 o3 o4 o5 o6 o7 : AObj} {ρ : SEnv} (e1 : ρ 1 = .ptr H0.length vx 0) (e3 : ρ 3 = .sr (H0.length + 1) 1 pre.length) (e4 : ρ 4 = vi i) (e5 : ρ 5 = vi 0)
    (hQ : ∀ ρ' bs o2 o3 o4 o5 o6 o7, (∀ t, dactylref23_encodeMelody_w1.contains t = false → ρ' t = ρ t) → bs = pre ++ L[i].flatMap barBytes → ρ' 3 = .sr (H0.length + 1) 1 bs.length →
      Q (.exit 2) ρ' (H0 ++ [.box vx [.sl false (L.map encHand)], .vec 1 1 (bs.map encByte), o2, o3, o4, o5, o6, o7]) []) :
    wl A 77 ⟨H0.length, [1, 12, 27, 28, 8, 71, 74, 75]⟩ (dactylref23_encodeMelody_l1 g) ρ (H0 ++ [.box vx [.sl false (L.map encHand)], .vec 1 1 (pre.map encByte), o2, o3, o4, o5, o6, o7]) [] Q tg := by
  have htot : (L[i].flatMap barBytes).length ≤ L[i].length * 441 := flat_le (fun a ha => barBytes_len (hh.2 a ha))
  have hhl := hh.1
  refine wl_for2 (W := dactylref23_encodeMelody_w1) (fun j ρ1 H1 wr => wr = [] ∧ ρ1 5 = vi j ∧ ∃ bs o2 o3 o4 o5 o6 o7, bs = pre ++ (L[i].take j).flatMap barBytes ∧ ρ1 3 = .sr (H0.length + 1) 1 bs.length ∧ H1 = H0 ++ [.box vx [.sl false (L.map encHand)], .vec 1 1 (bs.map encByte), o2, o3, o4, o5, o6, o7]) L[i].length
    (fun ρ1 H1 wr => wr = [] ∧ ∃ bs o2 o3 o4 o5 o6 o7, bs = pre ++ L[i].flatMap barBytes ∧ ρ1 3 = .sr (H0.length + 1) 1 bs.length ∧ H1 = H0 ++ [.box vx [.sl false (L.map encHand)], .vec 1 1 (bs.map encByte), o2, o3, o4, o5, o6, o7])
    (by kernel_rfl) (by rfl) ⟨rfl, e5, pre, o2, o3, o4, o5, o6, o7, by simp, e3, rfl⟩ ?_ (by
      rintro ρ' H' wr' ⟨rfl, bs, o2, o3, o4, o5, o6, o7, h1, h2, rfl⟩ hf
      exact hQ ρ' bs o2 o3 o4 o5 o6 o7 hf h1 h2)
  rintro j ρ1 H1 wr1 hjl ⟨rfl, e5, bs, o2, o3, o4, o5, o6, o7, hbs, e3, rfl⟩ hf
  have f1 : ρ1 1 = .ptr H0.length vx 0 := (hf 1 (by decide)).trans e1
  have f4 : ρ1 4 = vi i := (hf 4 (by decide)).trans e4
  simp only [go_sem, ↓reduceIte, NB, f1, f4, e5, getElem?_map_of hi, encHand]
  refine branch_intro (fun hb => ?_) (fun hb => ?_)
  · have hlt : j < L[i].length := by simpa using hb
    have hbar := hh.2 L[i][j] (List.getElem_mem hlt)
    have hbi := barInts_ok hbar
    simp only [go_sem]
    refine mel_notes hi hlt rfl hbar.1 (by simp only [go_sem, NB, f1]) (by simp only [go_sem, NB, f4]) (by simp only [go_sem, NB, e5]) (by simp only [go_sem, NB]) (by simp only [go_sem]) ?_
    intro ρ2 o4' o5' hf2 hg
    have g3 : ρ2 3 = .sr (H0.length + 1) 1 bs.length := by rw [hf2 3 (by decide)]; simp only [go_sem, NB, e3]
    have g5 : ρ2 5 = vi j := by rw [hf2 5 (by decide)]; simp only [go_sem, NB, e5]
    obtain ⟨ff, lf, o5'', hfx, hgo, haw⟩ := hg.lend (dataLL_map data_int _)
    have hc : ∀ H, callI A (g "dactyl/dactylref01.Ints") [.sl false ((L[i][j].flatMap noteInts).map encInt)] H = some (.own 1 ((barBytes L[i][j]).map encByte), H, []) := he.ints _ (by omega) hbi.2
    have hne : (barBytes L[i][j]).isEmpty = false := rfl
    have hsu : pre ++ (L[i].take (j + 1)).flatMap barBytes = bs ++ barBytes L[i][j] := by rw [flat_take_succ hlt, hbs, List.append_assoc]
    have hle := flat_take_le (f := barBytes) (l := L[i]) (i := j + 1)
    have hlen := congrArg List.length hsu
    simp only [List.length_append] at hlen
    have hr : roomy (bs.length + (barBytes L[i][j]).length) 1 = true := room (by omega)
    simp only [go_sem, ↓reduceIte, NB, NA, NL, NE, BT, g3, g5, hfx, hgo, haw, hc, headOk_bytes, isEmpty_bytes, hne, hr, bytes_append]
    rw [wrap_succ (by omega)]
    exact ⟨hlt, rfl, _, _, _, _, _, _, _, hsu.symm, by simp only [List.length_append], rfl⟩
  · have hlt : j = L[i].length := by
      have : ¬ j < L[i].length := by simpa using hb
      omega
    subst hlt
    rw [List.take_length] at hbs
    simp only [go_sem, NB]
    exact ⟨bs, _, _, _, _, _, _, hbs, e3, rfl⟩
theorem mel_enc {A : AProg} {g : String → Nat} (hh : Has A g "dactyl/dactylref23.encodeMelody" (dactylref23_encodeMelody g)) (he : Enc01 A g) (L : List (List (List Note))) (hl : L.length ≤ 16) (hp : ∀ a ∈ L, HandOk a) :
    SpecBytes A (g "dactyl/dactylref23.encodeMelody") [.agg [.sl false (L.map encHand)]] (melBytes L) := by
  intro H
  have h1 : ∀ H, callI A (g "dactyl/dactylref01.Int") [vi L.length] H = some (.own 1 ((intBytes L.length).map encByte), H, []) := he.int L.length (ok_len (by omega))
  have hl1 := intBytes_len (ok_len (n := L.length) (by omega))
  have htot : (L.flatMap handBytes).length ≤ L.length * 7065 := flat_le (fun a ha => handBytes_len (hp a ha))
  have hfin : melBytes L = intBytes L.length ++ L.flatMap handBytes := rfl
  refine hh.call (by simp [dactylref23_encodeMelody]) (by kernel_rfl) ?_
  simp only [dactylref23_encodeMelody]
  generalize intBytes L.length = pre at h1 hl1 hfin
  simp only [go_sem, ↓reduceIte, NB, NA, NL, NE, h1]
  refine wl_for2 (id := 0) (W := dactylref23_encodeMelody_w0) (fun i ρ1 H1 wr => wr = [] ∧ ρ1 4 = vi i ∧ ∃ bs o2 o3 o4 o5 o6 o7, bs = pre ++ (L.take i).flatMap handBytes ∧ ρ1 3 = .sr (H.length + 1) 1 bs.length ∧ H1 = H ++ [.box 1 [.sl false (L.map encHand)], .vec 1 1 (bs.map encByte), o2, o3, o4, o5, o6, o7]) L.length
    (fun ρ1 H1 wr => wr = [] ∧ ∃ bs o0 o2 o3 o4 o5 o6 o7, bs = pre ++ L.flatMap handBytes ∧ ρ1 3 = .sr (H.length + 1) 1 bs.length ∧ H1 = H ++ [o0, .vec 1 1 (bs.map encByte), o2, o3, o4, o5, o6, o7])
    (by kernel_rfl) (by rfl) ⟨rfl, by simp only [go_sem], _, .gone 0, .gone 0, .gone 0, .gone 0, .gone 0, .gone 0, rfl, by simp only [go_sem, NB, List.flatMap_nil, List.append_nil], by simp only [go_sem, List.flatMap_nil, List.append_nil]⟩ ?_ ?_
  · rintro i ρ1 H1 wr1 hil ⟨rfl, e4, bs, o2, o3, o4, o5, o6, o7, hbs, e3, rfl⟩ hf
    have e1 : ρ1 1 = .ptr H.length 1 0 := by rw [hf 1 (by decide)]; simp only [go_sem, NB]
    simp only [go_sem, ↓reduceIte, NB, e1, e4]
    refine branch_intro (fun hb => ?_) (fun hb => ?_)
    · have hlt : i < L.length := by simpa using hb
      have hpi := hp L[i] (List.getElem_mem hlt)
      have hpl := hpi.1
      have hc : ∀ H, callI A (g "dactyl/dactylref01.Int") [vi L[i].length] H = some (.own 1 ((intBytes L[i].length).map encByte), H, []) := he.int _ (ok_len (by omega))
      have hc1 := intBytes_len (ok_len (n := L[i].length) (by omega))
      have hle0 := flat_take_le (f := handBytes) (l := L) (i := i)
      have hbl := congrArg List.length hbs
      simp only [List.length_append] at hbl
      have hr : roomy (bs.length + (intBytes L[i].length).length) 1 = true := room (by omega)
      simp only [go_sem, ↓reduceIte, NB, NA, NL, NE, BT, e1, e3, e4, hlt, getElem?_map_of hlt, encHand, hc, headOk_bytes, isEmpty_bytes, int_notEmpty, hr, bytes_append]
      refine mel_bars he hlt hpi (pre := bs ++ intBytes L[i].length) (by simp only [List.length_append]; omega) (by simp only [go_sem, NB, e1]) (by simp only [go_sem, NB]) (by simp only [go_sem, NB, e4]) (by simp only [go_sem]) ?_
      intro ρ2 bs2 o2 o3 o4 o5 o6 o7 hf2 hbs2 g3
      have g4 : ρ2 4 = vi i := by rw [hf2 4 (by decide)]; simp only [go_sem, NB, e4]
      have hsu : pre ++ (L.take (i + 1)).flatMap handBytes = bs2 := by rw [flat_take_succ hlt, hbs2, hbs, handBytes]; simp only [List.append_assoc]
      simp only [go_sem, NB, g3, g4]
      rw [wrap_succ (by omega)]
      exact ⟨hlt, rfl, _, _, _, _, _, _, _, hsu.symm, rfl, rfl⟩
    · have hlt : i = L.length := by
        have : ¬ i < L.length := by simpa using hb
        omega
      subst hlt
      rw [List.take_length] at hbs
      simp only [go_sem, NB]
      exact ⟨bs, _, _, _, _, _, _, _, hbs, e3, rfl⟩
  · rintro ρ2 H2 wr2 ⟨rfl, bs, o0, o2, o3, o4, o5, o6, o7, hbs, e3, rfl⟩ hf
    rw [← hbs] at hfin
    simp only [go_sem, ↓reduceIte, e3, allStill_rows (dataLL_map data_byte _), underLL_of_data (dataLL_map data_byte _), hfin]
end Go.Proofs.AM
end
