/- Part 30 of the proof that stands in the last text of this folder (lemmas; no statement of its own). -/
import Derived.Test.YtjomjnkapjgheaaDoorK24
import Derived.Test.YtjomjnkapjgheaaDoorK27
import Derived.Test.YtjomjnkapjgheaaDoorK29
section
set_option linter.unusedVariables false
set_option maxRecDepth 8000
namespace Go.Proofs.AM
open Go
def Pf {α : Type} (f : α → List UInt8) (P : α → Prop) : Prop := ∀ a b u v, P a → P b → f a ++ u = f b ++ v → a = b ∧ u = v
def valB : List UInt8 → Nat
  | [] => 0
  | d :: r => d.toNat + 256 * valB r
theorem valB_digs : ∀ (k m : Nat), m < k → valB (digs m) = m
  | 0, m, h => by omega
  | k + 1, m, h => by
    rw [digs]
    split
    · rename_i h0; subst h0; rfl
    · rw [valB, valB_digs k (m / 256) (by omega), UInt8.toNat_ofNat']; omega
theorem digs_inj {m n : Nat} (h : digs m = digs n) : m = n := by
  rw [← valB_digs (m + 1) m (by omega), ← valB_digs (n + 1) n (by omega), h]
theorem map_inj' {α β : Type} {f : α → β} (hf : ∀ x y, f x = f y → x = y) : ∀ {l m : List α}, l.map f = m.map f → l = m
  | [], [], _ => rfl
  | [], _ :: _, h => by simp at h
  | _ :: _, [], h => by simp at h
  | a :: l, b :: m, h => by
    simp only [List.map_cons, List.cons.injEq] at h
    rw [hf _ _ h.1, map_inj' hf h.2]
theorem pf_int : Pf intBytes IntOk := by
  intro a b u v ha hb h
  have la := digs_small ha
  have lb := digs_small hb
  unfold intBytes at h
  simp only [List.cons_append, List.cons.injEq] at h
  obtain ⟨hh, ht⟩ := h
  have hn : ∀ n, n < 256 → (UInt8.ofNat n).toNat = n := fun n h => by rw [UInt8.toNat_ofNat']; omega
  have hh' := congrArg UInt8.toNat hh
  unfold headB at hh'
  have key : (a < 0 ↔ b < 0) ∧ (digs (mag a)).length = (digs (mag b)).length := by
    by_cases h1 : a < 0 <;> by_cases h2 : b < 0
    · rw [if_pos h1, if_pos h2, hn _ (by omega), hn _ (by omega)] at hh'
      exact ⟨by simp [h1, h2], by omega⟩
    · rw [if_pos h1, if_neg h2, hn _ (by omega), hn _ (by omega)] at hh'
      omega
    · rw [if_neg h1, if_pos h2, hn _ (by omega), hn _ (by omega)] at hh'
      omega
    · rw [if_neg h1, if_neg h2, hn _ (by omega), hn _ (by omega)] at hh'
      exact ⟨by simp [h1, h2], by omega⟩
  obtain ⟨hs, hl⟩ := key
  obtain ⟨h1, h2⟩ := List.append_inj ht (by simp [hl])
  have hflip : flipB a = flipB b := by funext d; unfold flipB; simp only [hs]
  rw [hflip] at h1
  have hfi : ∀ x y, flipB b x = flipB b y → x = y := by
    intro x y hxy
    unfold flipB at hxy
    split at hxy
    · have := congrArg UInt8.toNat hxy
      have hx := x.toNat_lt
      have hy := y.toNat_lt
      rw [UInt8.toNat_sub_of_le _ _ (by rw [UInt8.le_iff_toNat_le]; show x.toNat ≤ 255; omega), UInt8.toNat_sub_of_le _ _ (by rw [UInt8.le_iff_toNat_le]; show y.toNat ≤ 255; omega)] at this
      have h255 : (255 : UInt8).toNat = 255 := rfl
      rw [h255] at this
      exact UInt8.toNat_inj.1 (by omega)
    · exact hxy
  have h3 := map_inj' hfi h1
  have h4 := digs_inj (List.reverse_inj.1 h3)
  refine ⟨?_, h2⟩
  unfold mag at h4
  by_cases c1 : a < 0
  · have c2 := hs.1 c1
    rw [if_pos c1, if_pos c2] at h4; omega
  · have c2 : ¬ b < 0 := fun h => c1 (hs.2 h)
    rw [if_neg c1, if_neg c2] at h4; omega
theorem pf_flat {α : Type} {f : α → List UInt8} {P : α → Prop} (hf : Pf f P) : ∀ (l m : List α) (u v : List UInt8), l.length = m.length → (∀ a ∈ l, P a) → (∀ a ∈ m, P a) → l.flatMap f ++ u = m.flatMap f ++ v → l = m ∧ u = v
  | [], [], u, v, _, _, _, h => ⟨rfl, by simpa using h⟩
  | [], _ :: _, _, _, hl, _, _, _ => by simp at hl
  | _ :: _, [], _, _, hl, _, _, _ => by simp at hl
  | a :: l, b :: m, u, v, hl, h1, h2, h => by
    simp only [List.flatMap_cons, List.append_assoc] at h
    obtain ⟨rfl, h3⟩ := hf a b _ _ (h1 a List.mem_cons_self) (h2 b List.mem_cons_self) h
    obtain ⟨rfl, h4⟩ := pf_flat hf l m u v (by simpa using hl) (fun x hx => h1 x (List.mem_cons_of_mem _ hx)) (fun x hx => h2 x (List.mem_cons_of_mem _ hx)) h3
    exact ⟨rfl, h4⟩
theorem pf_list {α : Type} {f : α → List UInt8} {P : α → Prop} (hf : Pf f P) : Pf (fun l : List α => intBytes l.length ++ l.flatMap f) (fun l => l.length ≤ 1000000 ∧ ∀ a ∈ l, P a) := by
  intro l m u v hl hm h
  simp only [List.append_assoc] at h
  obtain ⟨h1, h2⟩ := pf_int _ _ _ _ (ok_len hl.1) (ok_len hm.1) h
  exact pf_flat hf l m u v (by omega) hl.2 hm.2 h2
theorem pf_str : Pf strBytes (fun s => s.length ≤ 1000000) := by
  intro s t u v hs ht h
  unfold strBytes at h
  simp only [List.append_assoc] at h
  obtain ⟨h1, h2⟩ := pf_int _ _ _ _ (ok_len hs) (ok_len ht) h
  exact List.append_inj h2 (by omega)
theorem pf_text : Pf strBytes TextOk := fun a b u v ha hb h => pf_str a b u v (by have : a.length ≤ 1000 := ha; omega) (by have : b.length ≤ 1000 := hb; omega) h
theorem pf_ints : Pf intsBytes (fun l => l.length ≤ 1000000 ∧ ∀ a ∈ l, IntOk a) := pf_list pf_int
theorem pf_strs : Pf strsBytes (fun l => l.length ≤ 1000000 ∧ ∀ a ∈ l, TextOk a) := pf_list pf_text
theorem pf_run : Pf runBytes Run.Ok := by
  intro a b u v ha hb h
  unfold runBytes at h
  simp only [List.append_assoc] at h
  obtain ⟨h1, h2⟩ := pf_int _ _ _ _ ha.lang hb.lang h
  obtain ⟨h3, h4⟩ := pf_text _ _ _ _ ha.text hb.text h2
  cases a; cases b; simp_all
theorem pf_runs : Pf runsBytes (fun l => l.length ≤ 1000000 ∧ ∀ a ∈ l, a.Ok) := pf_list pf_run
mutual
theorem pf_expr : ∀ (a b : Expr) (u v : List UInt8), a.Ok → b.Ok → exprBytes a ++ u = exprBytes b ++ v → a = b ∧ u = v
  | .mk o n k, .mk o' n' k', u, v, ha, hb, h => by
    cases ha with
    | mk _ _ _ a1 a2 a3 a4 => cases hb with
      | mk _ _ _ b1 b2 b3 b4 =>
        rw [exprBytes, exprBytes] at h
        simp only [List.append_assoc] at h
        have ok3 : ∀ (x y : Int) (m : Nat), IntOk x → IntOk y → m ≤ 16 → ([x, y, (m : Int)].length ≤ 1000000 ∧ ∀ a ∈ [x, y, (m : Int)], IntOk a) := by
          intro x y m hx hy hm
          refine ⟨by simp, fun a ha => ?_⟩
          simp only [List.mem_cons, List.not_mem_nil, or_false] at ha
          rcases ha with rfl | rfl | rfl
          · exact hx
          · exact hy
          · exact ok_len (by omega)
        obtain ⟨h1, h2⟩ := pf_ints _ _ _ _ (ok3 o n _ a1 a2 a3) (ok3 o' n' _ b1 b2 b3) h
        simp only [List.cons.injEq, and_true] at h1
        obtain ⟨rfl, rfl, h3⟩ := h1
        obtain ⟨rfl, h4⟩ := pf_exprs k k' u v (by omega) a4 b4 h2
        exact ⟨rfl, h4⟩
theorem pf_exprs : ∀ (a b : List Expr) (u v : List UInt8), a.length = b.length → (∀ e ∈ a, e.Ok) → (∀ e ∈ b, e.Ok) → exprsBytes a ++ u = exprsBytes b ++ v → a = b ∧ u = v
  | [], [], u, v, _, _, _, h => ⟨rfl, by simpa [exprsBytes] using h⟩
  | [], _ :: _, _, _, hl, _, _, _ => by simp at hl
  | _ :: _, [], _, _, hl, _, _, _ => by simp at hl
  | a :: l, b :: m, u, v, hl, h1, h2, h => by
    rw [exprsBytes, exprsBytes] at h
    simp only [List.append_assoc] at h
    obtain ⟨rfl, h3⟩ := pf_expr a b _ _ (h1 a List.mem_cons_self) (h2 b List.mem_cons_self) h
    obtain ⟨rfl, h4⟩ := pf_exprs l m u v (by simpa using hl) (fun x hx => h1 x (List.mem_cons_of_mem _ hx)) (fun x hx => h2 x (List.mem_cons_of_mem _ hx)) h3
    exact ⟨rfl, h4⟩
end
theorem flat3_inj : ∀ {l m : List Note}, l.flatMap noteInts = m.flatMap noteInts → l = m
  | [], [], _ => rfl
  | [], b :: m, h => by simp [noteInts] at h
  | a :: l, [], h => by simp [noteInts] at h
  | a :: l, b :: m, h => by
    simp only [List.flatMap_cons, noteInts, List.cons_append, List.nil_append, List.cons.injEq] at h
    obtain ⟨h1, h2, h3, h4⟩ := h
    rw [flat3_inj h4]
    cases a; cases b; simp_all
theorem flat2_inj : ∀ {l m : List (Int × Int)}, l.flatMap pointInts = m.flatMap pointInts → l = m
  | [], [], _ => rfl
  | [], b :: m, h => by simp [pointInts] at h
  | a :: l, [], h => by simp [pointInts] at h
  | a :: l, b :: m, h => by
    simp only [List.flatMap_cons, pointInts, List.cons_append, List.nil_append, List.cons.injEq] at h
    obtain ⟨h1, h2, h4⟩ := h
    rw [flat2_inj h4]
    cases a; cases b; simp_all
theorem pf_bar : Pf barBytes BarOk := by
  intro a b u v ha hb h
  have h1 := barInts_ok ha
  have h2 := barInts_ok hb
  obtain ⟨h3, h4⟩ := pf_ints _ _ _ _ ⟨by omega, h1.2⟩ ⟨by omega, h2.2⟩ h
  exact ⟨flat3_inj h3, h4⟩
theorem pf_hand : Pf handBytes HandOk := fun a b u v ha hb h => pf_list pf_bar a b u v ⟨by have := ha.1; omega, ha.2⟩ ⟨by have := hb.1; omega, hb.2⟩ h
theorem pf_mel : Pf melBytes (fun l => l.length ≤ 1000000 ∧ ∀ a ∈ l, HandOk a) := pf_list pf_hand
theorem pf_shape : Pf shapeBytes Shape.Ok := by
  intro a b u v ha hb h
  have h1 := shapeInts_ok ha
  have h2 := shapeInts_ok hb
  obtain ⟨h3, h4⟩ := pf_ints _ _ _ _ ⟨by omega, h1.2⟩ ⟨by omega, h2.2⟩ h
  unfold shapeInts at h3
  simp only [List.cons.injEq] at h3
  refine ⟨?_, h4⟩
  have := flat2_inj h3.2
  cases a; cases b; simp_all
theorem pf_block : Pf blockBytes Block.Ok := by
  intro a b u v ha hb h
  unfold blockBytes gridBytes figBytes at h
  simp only [List.append_assoc] at h
  obtain ⟨e1, h⟩ := pf_int _ _ _ _ ha.kind hb.kind h
  obtain ⟨e2, h⟩ := pf_runs _ _ _ _ ⟨by have := ha.lenR; omega, ha.runs⟩ ⟨by have := hb.lenR; omega, hb.runs⟩ h
  obtain ⟨e3, h⟩ := pf_expr _ _ _ _ ha.expr hb.expr h
  obtain ⟨e4, h⟩ := pf_int _ _ _ _ ha.sumOp hb.sumOp h
  obtain ⟨e5, h⟩ := pf_ints _ _ _ _ ⟨by have := ha.lenA; omega, ha.sumA⟩ ⟨by have := hb.lenA; omega, hb.sumA⟩ h
  obtain ⟨e6, h⟩ := pf_list pf_strs a.grid b.grid _ _ ⟨by have := ha.lenG; omega, fun r hr => ⟨by have := (ha.grid r hr).1; omega, (ha.grid r hr).2⟩⟩ ⟨by have := hb.lenG; omega, fun r hr => ⟨by have := (hb.grid r hr).1; omega, (hb.grid r hr).2⟩⟩ (by simpa only [List.append_assoc] using h)
  have ok3 : ∀ (x y : Int) (m : Nat), IntOk x → IntOk y → m ≤ 16 → ([x, y, (m : Int)].length ≤ 1000000 ∧ ∀ a ∈ [x, y, (m : Int)], IntOk a) := by
    intro x y m hx hy hm
    refine ⟨by simp, fun a ha => ?_⟩
    simp only [List.mem_cons, List.not_mem_nil, or_false] at ha
    rcases ha with rfl | rfl | rfl
    · exact hx
    · exact hy
    · exact ok_len (by omega)
  obtain ⟨e7, h⟩ := pf_ints _ _ _ _ (ok3 a.w a.h _ ha.w ha.h ha.lenS) (ok3 b.w b.h _ hb.w hb.h hb.lenS) h
  simp only [List.cons.injEq, and_true] at e7
  obtain ⟨e7, e8, e9⟩ := e7
  obtain ⟨e10, h⟩ := pf_flat pf_shape a.shapes b.shapes _ _ (by omega) ha.shapes hb.shapes h
  obtain ⟨e11, h⟩ := pf_mel _ _ _ _ ⟨by have := ha.lenH; omega, ha.hands⟩ ⟨by have := hb.lenH; omega, hb.hands⟩ h
  obtain ⟨e12, h⟩ := pf_strs _ _ _ _ ⟨by have := ha.lenL; omega, ha.lines⟩ ⟨by have := hb.lenL; omega, hb.lines⟩ h
  refine ⟨?_, h⟩
  cases a; cases b; simp_all
theorem pf_fact : Pf factBytes Fact.Ok := by
  intro a b u v ha hb h
  obtain ⟨h3, h4⟩ := pf_ints _ _ _ _ ⟨by simp, factInts_ok ha⟩ ⟨by simp, factInts_ok hb⟩ h
  simp only [List.cons.injEq, and_true] at h3
  refine ⟨?_, h4⟩
  cases a; cases b; simp_all
theorem pf_question : Pf questionBytes Question.Ok := by
  intro a b u v ha hb h
  unfold questionBytes at h
  simp only [List.append_assoc] at h
  obtain ⟨e1, h⟩ := pf_int _ _ _ _ ha.kind hb.kind h
  obtain ⟨e2, h⟩ := pf_runs _ _ _ _ ⟨by have := ha.lenS; omega, ha.stem⟩ ⟨by have := hb.lenS; omega, hb.stem⟩ h
  obtain ⟨e3, h⟩ := pf_strs _ _ _ _ ⟨by have := ha.lenO; omega, ha.options⟩ ⟨by have := hb.lenO; omega, hb.options⟩ h
  obtain ⟨e4, h⟩ := pf_ints _ _ _ _ ⟨by have := ha.lenN; omega, ha.needs⟩ ⟨by have := hb.lenN; omega, hb.needs⟩ h
  obtain ⟨e5, h⟩ := pf_text _ _ _ _ ha.key hb.key h
  obtain ⟨e6, h⟩ := pf_int _ _ _ _ ha.points hb.points h
  obtain ⟨e7, h⟩ := pf_strs _ _ _ _ ⟨by have := ha.lenR; omega, ha.reasons⟩ ⟨by have := hb.lenR; omega, hb.reasons⟩ h
  refine ⟨?_, h⟩
  cases a; cases b; simp_all
theorem pf_item : Pf itemBytes Item.Ok := by
  intro a b u v ha hb h
  unfold itemBytes at h
  simp only [List.append_assoc] at h
  obtain ⟨e1, h⟩ := pf_text _ _ _ _ ha.name hb.name h
  obtain ⟨e2, h⟩ := pf_list pf_block a.blocks b.blocks _ _ ⟨by have := ha.lenB; omega, ha.blocks⟩ ⟨by have := hb.lenB; omega, hb.blocks⟩ (by simpa only [List.append_assoc] using h)
  obtain ⟨e3, h⟩ := pf_list pf_fact a.facts b.facts _ _ ⟨by have := ha.lenF; omega, ha.facts⟩ ⟨by have := hb.lenF; omega, hb.facts⟩ (by simpa only [List.append_assoc] using h)
  obtain ⟨e4, h⟩ := pf_list pf_question a.ask b.ask _ _ ⟨by have := ha.lenA; omega, ha.ask⟩ ⟨by have := hb.lenA; omega, hb.ask⟩ (by simpa only [List.append_assoc] using h)
  refine ⟨?_, h⟩
  cases a; cases b; simp_all
theorem pf_exam : Pf examBytes Exam.Ok := by
  intro a b u v ha hb h
  unfold examBytes at h
  simp only [List.append_assoc] at h
  obtain ⟨e1, h⟩ := pf_text _ _ _ _ ha.title hb.title h
  obtain ⟨e2, h⟩ := pf_list pf_item a.items b.items _ _ ⟨by have := ha.lenI; omega, ha.items⟩ ⟨by have := hb.lenI; omega, hb.items⟩ (by simpa only [List.append_assoc] using h)
  refine ⟨?_, h⟩
  cases a; cases b; simp_all
theorem examBytes_inj {a b : Exam} (ha : a.Ok) (hb : b.Ok) : examBytes a = examBytes b ↔ a = b := by
  constructor
  · intro h
    exact (pf_exam a b [] [] ha hb (by rw [h])).1
  · rintro rfl; rfl
end Go.Proofs.AM
end
section
open Nat renaming reduceBEq → NB, reduceAdd → NA, reduceSub → NS, reduceMul → NM, reduceLT → NL, reduceLeDiff → ND, reduceEqDiff → NE
open Int renaming reduceLT → IL, reduceLE → ID, reduceToNat → IT, reduceEq → IE, reduceBEq → IB, reduceBNe → IN, reduceAdd → IA, reduceSub → IS, reduceNeg → IM
open Bool renaming not_true → BT, not_false → BF
set_option linter.unusedVariables false
set_option maxRecDepth 8000
namespace Go.Proofs.AM
open Go
abbrev dactyllaw31_SecretTwins_d0 (g : String → Nat) : List AOper := [⟨some 22, .load 2 true (.tmp 13), none, []⟩,⟨some 23, .load 2 true (.tmp 13), none, []⟩,⟨some 24, .mov (.tmp 3), none, []⟩,⟨some 25, .mov (.tmp 4), none, []⟩,⟨some 26, .mov (.tmp 5), none, []⟩,⟨some 27, .callv (.const (.fn (g "dactyl/dactylref23.Spoilt") [] [])) [(.tmp 23), (.tmp 24), (.tmp 25), (.tmp 26)], none, [1, 2, 3, 4]⟩,⟨some 28, .mov (.tmp 1), none, []⟩,⟨some 29, .callv (.const (.fn (g "dactyl/dactylref23.Exam") [] [])) [(.tmp 28)], none, [6, 5, 1, 2, 3, 4]⟩,⟨some 30, .load 2 true (.tmp 13), none, []⟩,⟨some 31, .mov (.tmp 3), none, []⟩,⟨some 32, .mov (.tmp 4), none, []⟩,⟨some 33, .callv (.const (.fn (g "dactyl/dactylref31.Open") [] [])) [(.tmp 30), (.tmp 31), (.tmp 32)], none, [8, 9, 10, 7, 6, 5, 1, 2, 3, 4]⟩,⟨some 34, .build [(.str []), (.sl true [])] [], none, []⟩,⟨some 35, .bsl 2 [(.str []), (.sl false [])] 5 [(0, (.tmp 22)), (1, (.tmp 27)), (2, (.tmp 29)), (3, (.tmp 33)), (4, (.tmp 34))], none, [0, 11, 8, 9, 10, 7, 6, 5, 1, 2, 3, 4, 12]⟩,⟨some 14, .mov (.tmp 35), none, [13, 0, 11, 8, 9, 10, 7, 6, 5, 1, 2, 3, 4, 12]⟩]
abbrev dactyllaw31_SecretTwins_k0 : List Nat := [0, 5, 7, 8, 11]
abbrev dactyllaw31_SecretTwins_d1 (g : String → Nat) : List AOper := [⟨some 48, .load 2 true (.tmp 16), none, []⟩,⟨some 49, .mov (.tmp 14), none, []⟩,⟨some 50, .mov (.tmp 15), none, []⟩,⟨some 51, .iaV (.tmp 49) (.tmp 50) 2, none, [1, 2]⟩,⟨some 52, .load 2 true (.tmp 51), none, [3, 1, 2]⟩,⟨some 53, .mov (.tmp 2), none, []⟩,⟨some 54, .callv (.const (.fn (g "dactyl/dactylref31.Twin") [] [])) [(.tmp 52), (.tmp 53)], none, [4, 3, 1, 2, 5]⟩,⟨some 55, .callv (.const (.fn (g "dactyl/syntax.Same") [] [])) [(.tmp 48), (.tmp 54)], none, [0, 6, 4, 3, 1, 2, 5]⟩,⟨some 56, .un .not (.tmp 55), none, [7, 0, 6, 4, 3, 1, 2, 5]⟩,⟨some 57, .mov (.tmp 56), none, [8, 7, 0, 6, 4, 3, 1, 2, 5]⟩,⟨some 58, .mov (.tmp 14), some (some 57, false), [9, 8, 7, 0, 6, 4, 3, 1, 2, 5]⟩,⟨some 59, .mov (.tmp 15), some (some 57, false), [9, 8, 7, 0, 6, 4, 3, 1, 2, 5]⟩,⟨some 60, .iaV (.tmp 58) (.tmp 59) 2, some (some 57, false), [10, 11, 9, 8, 7, 0, 6, 4, 3, 1, 2, 5]⟩,⟨some 61, .load 2 true (.tmp 60), some (some 57, false), [12, 10, 11, 9, 8, 7, 0, 6, 4, 3, 1, 2, 5]⟩,⟨some 62, .load 2 true (.tmp 16), some (some 57, false), [9, 8, 7, 0, 6, 4, 3, 1, 2, 5]⟩,⟨some 63, .callv (.const (.fn (g "dactyl/secret.Only") [] [])) [(.tmp 61), (.tmp 62)], some (some 57, false), [13, 12, 10, 11, 14, 9, 8, 7, 0, 6, 4, 3, 1, 2, 5]⟩,⟨some 64, .un .not (.tmp 63), some (some 57, false), [15, 13, 12, 10, 11, 14, 9, 8, 7, 0, 6, 4, 3, 1, 2, 5]⟩,⟨some 65, .pick (.tmp 57) (.const (.bool true)) (.tmp 64), none, [16, 15, 13, 12, 10, 11, 14, 9, 8, 7, 0, 6, 4, 3, 1, 2, 5]⟩,⟨some 66, .mov (.tmp 65), none, [17, 16, 15, 13, 12, 10, 11, 14, 9, 8, 7, 0, 6, 4, 3, 1, 2, 5]⟩,⟨some 67, .load 2 true (.tmp 16), some (some 66, false), [18, 17, 16, 15, 13, 12, 10, 11, 14, 9, 8, 7, 0, 6, 4, 3, 1, 2, 5]⟩,⟨some 68, .load 2 true (.tmp 16), some (some 66, false), [18, 17, 16, 15, 13, 12, 10, 11, 14, 9, 8, 7, 0, 6, 4, 3, 1, 2, 5]⟩,⟨some 69, .callv (.const (.fn (g "dactyl/source.Erase") [] [])) [(.tmp 68)], some (some 66, false), [20, 18, 17, 16, 15, 13, 12, 10, 11, 14, 9, 8, 7, 0, 6, 4, 3, 1, 2, 5]⟩,⟨some 70, .callv (.const (.fn (g "dactyl/secret.Only") [] [])) [(.tmp 67), (.tmp 69)], some (some 66, false), [19, 21, 20, 18, 17, 16, 15, 13, 12, 10, 11, 14, 9, 8, 7, 0, 6, 4, 3, 1, 2, 5]⟩,⟨some 71, .un .not (.tmp 70), some (some 66, false), [22, 19, 21, 20, 18, 17, 16, 15, 13, 12, 10, 11, 14, 9, 8, 7, 0, 6, 4, 3, 1, 2, 5]⟩,⟨some 72, .pick (.tmp 66) (.const (.bool true)) (.tmp 71), none, [23, 22, 19, 21, 20, 18, 17, 16, 15, 13, 12, 10, 11, 14, 9, 8, 7, 0, 6, 4, 3, 1, 2, 5]⟩]
abbrev dactyllaw31_SecretTwins_k1 : List Nat := [0, 6, 19, 21]
abbrev dactyllaw31_SecretTwins_l1 (g : String → Nat) : ACode := .seq (.seq (.region false [⟨some 73, .mov (.tmp 18), none, []⟩,⟨some 74, .mov (.tmp 14), none, []⟩,⟨some 75, .mov (.tmp 15), none, []⟩,⟨some 76, .iaV (.tmp 74) (.tmp 75) 2, none, [1, 2]⟩,⟨some 77, .fa 1 (.tmp 76), none, [3, 1, 2]⟩,⟨some 78, .load 1 false (.tmp 77), none, [4, 3, 1, 2]⟩,⟨some 79, .lenV (.tmp 78), none, [5, 4, 3, 1, 2]⟩,⟨some 80, .bin .lss .no (.tmp 73) (.tmp 79), none, [0, 6, 5, 4, 3, 1, 2]⟩]) <| .cond (.tmp 80) (.skip) (.exit 2)) <| .seq (.block 3 (.region false [⟨some 83, .mov (.tmp 17), none, []⟩,⟨some 84, .mov (.tmp 14), none, []⟩,⟨some 85, .mov (.tmp 15), none, []⟩,⟨some 86, .iaV (.tmp 84) (.tmp 85) 2, none, [1, 2]⟩,⟨some 87, .fa 1 (.tmp 86), none, [3, 1, 2]⟩,⟨some 88, .load 1 false (.tmp 87), none, [4, 3, 1, 2]⟩,⟨some 89, .mov (.tmp 18), none, []⟩,⟨some 90, .iaV (.tmp 88) (.tmp 89) 4, none, [5, 4, 3, 1, 2, 6]⟩,⟨some 91, .fa 3 (.tmp 90), none, [7, 5, 4, 3, 1, 2, 6]⟩,⟨some 92, .load 1 false (.tmp 91), none, [8, 7, 5, 4, 3, 1, 2, 6]⟩,⟨some 93, .lenV (.tmp 92), none, [9, 8, 7, 5, 4, 3, 1, 2, 6]⟩,⟨some 94, .bin .add .no (.tmp 83) (.tmp 93), none, [0, 10, 9, 8, 7, 5, 4, 3, 1, 2, 6]⟩,⟨some 17, .mov (.tmp 94), none, [11, 0, 10, 9, 8, 7, 5, 4, 3, 1, 2, 6]⟩])) <| .region false [⟨some 81, .mov (.tmp 18), none, []⟩,⟨some 82, .bin .add .no (.tmp 81) (.const (.int .i64 1)), none, [0]⟩,⟨some 18, .mov (.tmp 82), none, [1, 0]⟩]
abbrev dactyllaw31_SecretTwins_w1 : List Nat := [73, 74, 75, 76, 77, 78, 79, 80, 83, 84, 85, 86, 87, 88, 89, 90, 91, 92, 93, 94, 17, 81, 82, 18]
abbrev dactyllaw31_SecretTwins_d2 (g : String → Nat) : List AOper := [⟨some 95, .mov (.tmp 17), none, []⟩,⟨some 96, .bin .gtr .no (.tmp 95) (.const (.int .i64 0)), none, [0]⟩,⟨some 97, .mov (.tmp 96), none, [1, 0]⟩,⟨some 98, .load 2 true (.tmp 16), some (some 97, true), [2, 1, 0]⟩,⟨some 99, .mov (.tmp 14), some (some 97, true), [2, 1, 0]⟩,⟨some 100, .mov (.tmp 15), some (some 97, true), [2, 1, 0]⟩,⟨some 101, .iaV (.tmp 99) (.tmp 100) 2, some (some 97, true), [4, 5, 2, 1, 0]⟩,⟨some 102, .load 2 true (.tmp 101), some (some 97, true), [6, 4, 5, 2, 1, 0]⟩,⟨some 103, .callv (.const (.fn (g "dactyl/syntax.Same") [] [])) [(.tmp 98), (.tmp 102)], some (some 97, true), [3, 7, 6, 4, 5, 2, 1, 0]⟩,⟨some 104, .pick (.tmp 97) (.tmp 103) (.const (.bool false)), none, [8, 3, 7, 6, 4, 5, 2, 1, 0]⟩]
abbrev dactyllaw31_SecretTwins_k2 : List Nat := []
abbrev dactyllaw31_SecretTwins_d3 (g : String → Nat) : List AOper := [⟨some 111, .load 2 true (.tmp 16), none, []⟩,⟨some 112, .mov (.tmp 14), none, []⟩,⟨some 113, .mov (.tmp 19), none, []⟩,⟨some 114, .iaV (.tmp 112) (.tmp 113) 2, none, [1, 2]⟩,⟨some 115, .load 2 true (.tmp 114), none, [3, 1, 2]⟩,⟨some 116, .callv (.const (.fn (g "dactyl/secret.Only") [] [])) [(.tmp 111), (.tmp 115)], none, [0, 4, 3, 1, 2]⟩,⟨some 117, .load 2 true (.tmp 16), none, []⟩,⟨some 118, .mov (.tmp 14), none, []⟩,⟨some 119, .mov (.tmp 19), none, []⟩,⟨some 120, .iaV (.tmp 118) (.tmp 119) 2, none, [7, 8]⟩,⟨some 121, .load 2 true (.tmp 120), none, [9, 7, 8]⟩,⟨some 122, .callv (.const (.fn (g "dactyl/dactylref31.Only") [] [])) [(.tmp 117), (.tmp 121)], none, [6, 10, 9, 7, 8, 5, 0, 4, 3, 1, 2]⟩,⟨some 123, .bin .neq .bool (.tmp 116) (.tmp 122), none, [11, 6, 10, 9, 7, 8, 5, 0, 4, 3, 1, 2]⟩]
abbrev dactyllaw31_SecretTwins_k3 : List Nat := [5, 6, 10]
abbrev dactyllaw31_SecretTwins_l2 (g : String → Nat) : ACode := .seq (.seq (.region false [⟨some 105, .mov (.tmp 19), none, []⟩,⟨some 106, .mov (.tmp 14), none, []⟩,⟨some 107, .lenV (.tmp 106), none, [1]⟩,⟨some 108, .bin .lss .no (.tmp 105) (.tmp 107), none, [0, 2, 1]⟩]) <| .cond (.tmp 108) (.skip) (.exit 4)) <| .seq (.block 5 (.seq (.region true (dactyllaw31_SecretTwins_d3 g)) <| .cond (.tmp 123) (.seq (.region false [⟨some 12, .mov (.const (.bool false)), none, []⟩]) <| .ret) (.skip))) <| .region false [⟨some 109, .mov (.tmp 19), none, []⟩,⟨some 110, .bin .add .no (.tmp 109) (.const (.int .i64 1)), none, [0]⟩,⟨some 19, .mov (.tmp 110), none, [1, 0]⟩]
abbrev dactyllaw31_SecretTwins_w2 : List Nat := [105, 106, 107, 108, 111, 112, 113, 114, 115, 116, 117, 118, 119, 120, 121, 122, 123, 12, 109, 110, 19]
abbrev dactyllaw31_SecretTwins_l0 (g : String → Nat) : ACode := .seq (.seq (.region false [⟨some 36, .mov (.tmp 15), none, []⟩,⟨some 37, .mov (.tmp 14), none, []⟩,⟨some 38, .lenV (.tmp 37), none, [1]⟩,⟨some 39, .bin .lss .no (.tmp 36) (.tmp 38), none, [0, 2, 1]⟩]) <| .cond (.tmp 39) (.skip) (.exit 0)) <| .seq (.block 1 (.seq (.region false [⟨some 42, .mov (.tmp 14), none, []⟩,⟨some 43, .mov (.tmp 15), none, []⟩,⟨some 44, .iaV (.tmp 42) (.tmp 43) 2, none, [0, 1]⟩,⟨some 45, .load 2 true (.tmp 44), none, [2, 0, 1]⟩,⟨some 46, .mov (.tmp 2), none, []⟩,⟨some 47, .callv (.const (.fn (g "dactyl/secret.Twin") [] [])) [(.tmp 45), (.tmp 46)], none, [3, 2, 0, 1, 4]⟩,⟨some 16, .alloc [(.str []), (.sl true [])], none, []⟩,⟨none, .store 2 (.tmp 16) (.tmp 47), none, [5, 3, 2, 0, 1, 4, 6]⟩]) <| .seq (.seq (.region true (dactyllaw31_SecretTwins_d1 g)) <| .cond (.tmp 72) (.seq (.region false [⟨some 12, .mov (.const (.bool false)), none, []⟩]) <| .ret) (.skip)) <| .seq (.region false [⟨some 17, .mov (.const (.int .i64 0)), none, []⟩]) <| .seq (.seq (.region false [⟨some 18, .mov (.const (.int .i64 0)), none, []⟩]) <| .block 2 (.loop (dactyllaw31_SecretTwins_l1 g))) <| .seq (.seq (.region true (dactyllaw31_SecretTwins_d2 g)) <| .cond (.tmp 104) (.seq (.region false [⟨some 12, .mov (.const (.bool false)), none, []⟩]) <| .ret) (.skip)) <| .seq (.region false [⟨some 19, .mov (.const (.int .i64 0)), none, []⟩]) <| .block 4 (.loop (dactyllaw31_SecretTwins_l2 g)))) <| .region false [⟨some 40, .mov (.tmp 15), none, []⟩,⟨some 41, .bin .add .no (.tmp 40) (.const (.int .i64 1)), none, [0]⟩,⟨some 15, .mov (.tmp 41), none, [1, 0]⟩]
abbrev dactyllaw31_SecretTwins_w0 : List Nat := [36, 37, 38, 39, 42, 43, 44, 45, 46, 47, 16, 48, 49, 50, 51, 52, 53, 54, 55, 56, 57, 58, 59, 60, 61, 62, 63, 64, 65, 66, 67, 68, 69, 70, 71, 72, 12, 17, 18, 73, 74, 75, 76, 77, 78, 79, 80, 83, 84, 85, 86, 87, 88, 89, 90, 91, 92, 93, 94, 17, 81, 82, 18, 95, 96, 97, 98, 99, 100, 101, 102, 103, 104, 12, 19, 105, 106, 107, 108, 111, 112, 113, 114, 115, 116, 117, 118, 119, 120, 121, 122, 123, 12, 109, 110, 19, 40, 41, 15]
def dactyllaw31_SecretTwins (g : String → Nat) : AFn := ⟨125, [13, 16], [.tmp 12],
  .seq (.region false [⟨some 12, .mov (.const (.bool false)), none, []⟩]) <|
  .seq (.region false [⟨some 20, .mov (.tmp 0), none, []⟩,
    ⟨some 21, .callv (.const (.fn (g "dactyl/dactylref23.Exam") [] [])) [(.tmp 20)], none, [0]⟩,
    ⟨some 13, .alloc [(.str []), (.sl true [])], none, []⟩,
    ⟨none, .store 2 (.tmp 13) (.tmp 21), none, [1, 0, 2]⟩]) <|
  .seq (.region true (dactyllaw31_SecretTwins_d0 g)) <|
  .seq (.seq (.region false [⟨some 15, .mov (.const (.int .i64 0)), none, []⟩]) <|
  .block 0 (.loop (dactyllaw31_SecretTwins_l0 g))) <|
  .seq (.region false [⟨some 124, .callv (.const (.fn (g "dactyl/dactyllaw31.lives") [] [])) [], none, []⟩,
    ⟨some 12, .mov (.tmp 124), none, [0]⟩]) <|
  .ret⟩
def encXR (x : Exam) : List AV := [.str x.title, .sl false (x.items.map encItem)]
theorem encExam_xr (x : Exam) : encExam x = .agg (encXR x) := rfl
theorem len_xr (x : Exam) : (encXR x).length = 2 := rfl
theorem take_xr (x : Exam) : List.take 2 (encXR x) = encXR x := List.take_of_length_le (Nat.le_refl _)
theorem drop_xr (x : Exam) : List.drop 2 (encXR x) = [] := rfl
theorem data_xr (x : Exam) : dataL (encXR x) = true := by simp [encXR, dataL, AV.data, AV.cellOk, dataLL_map data_item]
structure TwinSpecs (A : AProg) (g : String → Nat) : Prop where
  exam : ∀ {l : List Int}, ListOk l → ∀ H, ∃ v H' wr, callI A (g "dactyl/dactylref23.Exam") [.sl false (l.map encInt)] H = some (v, H', wr) ∧ (H' = H ∧ wr = [] ∧ IsExam v)
  spoilt : ∀ {x : Exam}, x.Ok → XSlack x → ∀ {at' how by' : Int}, IntOk at' → IntOk by' → ∀ H, ∃ v H' wr, callI A (g "dactyl/dactylref23.Spoilt") [encExam x, vi at', vi how, vi by'] H = some (v, H', wr) ∧ (H' = H ∧ wr = [] ∧ IsExam' v)
  opn : ∀ {x : Exam}, x.Ok → XSlack x → ∀ {at' how : Int}, IntOk at' → IntOk how → ∀ H, ∃ v H' wr, callI A (g "dactyl/dactylref31.Open") [encExam x, vi at', vi how] H = some (v, H', wr) ∧ (H' = H ∧ wr = [] ∧ IsExam' v)
  twin : ∀ {x : Exam}, x.Ok → ∀ n H, callI A (g "dactyl/secret.Twin") [encExam x, vi n] H = some (encExam (twinExam n x), H, [])
  twin31 : ∀ {x : Exam}, x.Ok → ∀ n H, callI A (g "dactyl/dactylref31.Twin") [encExam x, vi n] H = some (encExam (twinExam n x), H, [])
  same : ∀ {a b : Exam}, a.Ok → b.Ok → ∀ H, callI A (g "dactyl/syntax.Same") [encExam a, encExam b] H = some (.bool (eqv a b), H, [])
  only : ∀ {a b : Exam}, a.Ok → b.Ok → ∀ H, callI A (g "dactyl/secret.Only") [encExam a, encExam b] H = some (.bool (eqv (eraseExam a) (eraseExam b)), H, [])
  only31 : ∀ {a b : Exam}, a.Ok → b.Ok → ∀ H, callI A (g "dactyl/dactylref31.Only") [encExam a, encExam b] H = some (.bool (eqv (eraseExam a) (eraseExam b)), H, [])
  erase : ∀ {x : Exam}, x.Ok → ∀ H, callI A (g "dactyl/source.Erase") [encExam x] H = some (encExam (eraseExam x), H, [])
  lives : ∀ H, callI A (g "dactyl/dactyllaw31.lives") [] H = some (.bool true, H, [])
def asks (l : List Item) : Nat := (l.map fun i => i.ask.length).sum
theorem asks_take (l : List Item) (k : Nat) (h : k < l.length) : asks (l.take (k + 1)) = asks (l.take k) + l[k].ask.length := by
  unfold asks
  rw [List.take_succ_eq_append_getElem h, List.map_append, List.sum_append]
  simp only [List.map_cons, List.map_nil, List.sum_cons, List.sum_nil, Nat.add_zero]
theorem asks_le {l : List Item} (h : ∀ i ∈ l, i.ask.length ≤ 16) : asks l ≤ 16 * l.length := by
  induction l with
  | nil => simp [asks]
  | cons a r ih =>
    have h1 := h a (by simp)
    have h2 := ih fun i hi => h i (by simp [hi])
    simp only [asks, List.map_cons, List.sum_cons, List.length_cons] at h2 ⊢
    omega
theorem asks_pos {l : List Item} (h : 0 < asks l) : ∃ i ∈ l, ∃ q, q ∈ i.ask := by
  induction l with
  | nil => simp [asks] at h
  | cons a r ih =>
    by_cases ha : a.ask = []
    · have : 0 < asks r := by simpa [asks, ha] using h
      obtain ⟨i, hi, q, hq⟩ := ih this
      exact ⟨i, by simp [hi], q, hq⟩
    · obtain ⟨q, hq⟩ := List.exists_mem_of_ne_nil _ ha
      exact ⟨a, by simp, q, hq⟩
theorem t_count {A : AProg} {g : String → Nat} {H : List AObj} {Q : AExit → SEnv → List AObj → List Nat → Prop} {tg} {L : List Exam} (hL : ∀ x ∈ L, x.Ok) {i : Nat} (hi : i < L.length)
    {ρ : SEnv} (e14 : ρ 14 = .sl true (L.map encXR)) (e15 : ρ 15 = vi i) (e17 : ρ 17 = vi 0) (e18 : ρ 18 = vi 0) {H1 : List AObj}
    (hQ : ∀ ρ', (∀ t, dactyllaw31_SecretTwins_w1.contains t = false → ρ' t = ρ t) → ρ' 17 = vi (asks L[i].items) → Q (.exit 2) ρ' H1 []) :
    wl A 125 ⟨H.length, [13, 16]⟩ (dactyllaw31_SecretTwins_l1 g) ρ H1 [] Q tg := by
  have hok := hL _ (List.getElem_mem hi)
  have hln := hok.lenI
  refine wl_for2 (W := dactyllaw31_SecretTwins_w1) (fun k ρ1 H2 wr => wr = [] ∧ H2 = H1 ∧ ρ1 18 = vi k ∧ k ≤ L[i].items.length ∧ ρ1 17 = vi (asks (L[i].items.take k))) L[i].items.length
    (fun ρ1 H2 wr => wr = [] ∧ H2 = H1 ∧ ρ1 17 = vi (asks L[i].items))
    (by kernel_rfl) (by rfl) ⟨rfl, rfl, e18, Nat.zero_le _, by rw [e17]; rfl⟩ ?_ (by
      rintro ρ' H' wr' ⟨rfl, rfl, h1⟩ hf
      exact hQ ρ' hf h1)
  rintro k ρ1 H2 wr1 hkl ⟨rfl, rfl, e18, hk, e17⟩ hf
  have f14 : ρ1 14 = .sl true (L.map encXR) := (hf 14 (by decide)).trans e14
  have f15 : ρ1 15 = vi i := (hf 15 (by decide)).trans e15
  have hget : (L.map encXR)[i]? = some (encXR L[i]) := getElem?_map_of hi
  simp only [go_sem, ↓bnd_eq, ↓reduceIte, NB, NA, f14, f15, e18, hget, encXR]
  refine branch_intro (fun hb => ?_) (fun hb => ?_)
  · have hlt : k < L[i].items.length := by simpa using hb
    have hgeti : (L[i].items.map encItem)[k]? = some (encItem L[i].items[k]) := getElem?_map_of hlt
    have hal : asks (L[i].items.take k) ≤ 16 * 16 := by
      have h1 := asks_le (l := L[i].items.take k) fun x hx => (hok.items x (List.mem_of_mem_take hx)).lenA
      have h2 : (L[i].items.take k).length ≤ 16 := by rw [List.length_take]; omega
      omega
    have hl1 := (hok.items _ (List.getElem_mem hlt)).lenA
    have hw : IntKind.i64.wrap (((asks (L[i].items.take k) : Nat) : Int) + ((L[i].items[k].ask.length : Nat) : Int)) = ((asks (L[i].items.take (k + 1)) : Nat) : Int) := by
      rw [asks_take _ _ hlt, wrap_i64 (by omega) (by omega)]; omega
    simp only [go_sem, ↓bnd_eq, ↓reduceIte, NB, NA, f14, f15, e17, e18, hget, hgeti, encXR, encItem, hw]
    rw [wrap_succ (by omega)]
    exact ⟨hlt, rfl, by omega⟩
  · have hlt : k = L[i].items.length := by
      have : ¬ k < L[i].items.length := by simpa using hb
      omega
    subst hlt
    rw [List.take_length] at e17
    simp only [go_sem, NB, e17]
theorem t_only {A : AProg} {g : String → Nat} (T : TwinSpecs A g) {H : List AObj} {Q : AExit → SEnv → List AObj → List Nat → Prop} {tg} {L : List Exam} (hL : ∀ x ∈ L, x.Ok) (hlen : L.length = 5) {a : Exam} (ha : a.Ok) {va : Nat} {o0 : AObj}
    {ρ : SEnv} (e14 : ρ 14 = .sl true (L.map encXR)) (e16 : ρ 16 = .ptr (H.length + 1) va 0) (e19 : ρ 19 = vi 0)
    (hQ : ∀ ρ', (∀ t, dactyllaw31_SecretTwins_w2.contains t = false → ρ' t = ρ t) → Q (.exit 4) ρ' (H ++ [o0, .box va (encXR a)]) []) :
    wl A 125 ⟨H.length, [13, 16]⟩ (dactyllaw31_SecretTwins_l2 g) ρ (H ++ [o0, .box va (encXR a)]) [] Q tg := by
  refine wl_for2 (W := dactyllaw31_SecretTwins_w2) (fun k ρ1 H2 wr => wr = [] ∧ H2 = H ++ [o0, .box va (encXR a)] ∧ ρ1 19 = vi k) 5
    (fun ρ1 H2 wr => wr = [] ∧ H2 = H ++ [o0, .box va (encXR a)])
    (by kernel_rfl) (by rfl) ⟨rfl, rfl, e19⟩ ?_ (by
      rintro ρ' H' wr' ⟨rfl, rfl⟩ hf
      exact hQ ρ' hf)
  rintro k ρ1 H2 wr1 hkl ⟨rfl, rfl, e19⟩ hf
  have f14 : ρ1 14 = .sl true (L.map encXR) := (hf 14 (by decide)).trans e14
  have f16 : ρ1 16 = .ptr (H.length + 1) va 0 := (hf 16 (by decide)).trans e16
  simp only [go_sem, ↓bnd_eq, NB, f14, e19, hlen]
  refine branch_intro (fun hb => ?_) (fun hb => ?_)
  · have hlt : k < L.length := by simp at hb; omega
    have hget : (L.map encXR)[k]? = some (encXR L[k]) := getElem?_map_of hlt
    have hx := hL _ (List.getElem_mem hlt)
    have c1 := T.only ha hx
    have c2 := T.only31 ha hx
    simp only [encExam_xr] at c1 c2
    simp only [go_sem]
    refine wc_draw' (keep := dactyllaw31_SecretTwins_k3) (by rfl) (by rfl) ?_
    simp only [go_sem, ↓bnd_eq, ↓reduceIte, NB, NA, NE, BT, BF, dactyllaw31_SecretTwins_k3, f14, f16, e19, hget, len_xr, take_xr, lendL_of_data (data_xr _), map_strip1_of_data (data_xr _), c1, c2, logOk, apartL, orderOk_intro]
    rw [wrap_succ (by omega)]
    exact ⟨by omega, rfl⟩
  · simp only [go_sem]
theorem twin_Ok (n : Int) {x : Exam} (h : x.Ok) : (twinExam n x).Ok := twinExam_ok n h
set_option maxHeartbeats 3200000 in
theorem t_rounds {A : AProg} {g : String → Nat} (T : TwinSpecs A g) {H : List AObj} {Q : AExit → SEnv → List AObj → List Nat → Prop} {tg} {L : List Exam} (hL : ∀ x ∈ L, x.Ok) (hlen : L.length = 5) {n : Int} {o0 o1 : AObj}
    {ρ : SEnv} (e2 : ρ 2 = vi n) (e14 : ρ 14 = .sl true (L.map encXR)) (e15 : ρ 15 = vi 0)
    (hQ : ∀ ρ' o1, (∀ t, dactyllaw31_SecretTwins_w0.contains t = false → ρ' t = ρ t) → Q (.exit 0) ρ' (H ++ [o0, o1]) []) :
    wl A 125 ⟨H.length, [13, 16]⟩ (dactyllaw31_SecretTwins_l0 g) ρ (H ++ [o0, o1]) [] Q tg := by
  refine wl_for2 (W := dactyllaw31_SecretTwins_w0) (fun i ρ1 H2 wr => wr = [] ∧ ρ1 15 = vi i ∧ ∃ o1, H2 = H ++ [o0, o1]) 5
    (fun ρ1 H2 wr => wr = [] ∧ ∃ o1, H2 = H ++ [o0, o1])
    (by kernel_rfl) (by rfl) ⟨rfl, e15, o1, rfl⟩ ?_ (by
      rintro ρ' H' wr' ⟨rfl, o1, rfl⟩ hf
      exact hQ ρ' o1 hf)
  rintro i ρ1 H2 wr1 hil ⟨rfl, e15, o1, rfl⟩ hf
  have f2 : ρ1 2 = vi n := (hf 2 (by decide)).trans e2
  have f14 : ρ1 14 = .sl true (L.map encXR) := (hf 14 (by decide)).trans e14
  simp only [go_sem, ↓bnd_eq, NB, f14, e15, hlen]
  refine branch_intro (fun hb => ?_) (fun hb => ?_)
  · have hlt : i < L.length := by simp at hb; omega
    have hget : (L.map encXR)[i]? = some (encXR L[i]) := getElem?_map_of hlt
    have hx := hL _ (List.getElem_mem hlt)
    have ha := twin_Ok n hx
    have c1 := T.twin hx n
    have c2 := T.twin31 hx n
    have c3 := T.same ha ha
    have c4 := T.only hx ha
    have c5 := T.erase ha
    have c6 := T.only ha (eraseExam_ok ha)
    have c7 := T.same ha hx
    rw [eqv_self] at c3
    rw [erase_twin, eqv_self] at c4
    rw [erase_erase, eqv_self] at c6
    simp only [encExam_xr] at c1 c2 c3 c4 c5 c6 c7
    simp only [go_sem, ↓bnd_eq, ↓reduceIte, NB, NA, NL, NE, f2, f14, e15, hget, len_xr, take_xr, lendL_of_data (data_xr _), map_strip1_of_data (data_xr _), allCellOk_of_data (data_xr _), c1]
    refine wc_draw' (keep := dactyllaw31_SecretTwins_k1) (by rfl) (by rfl) ?_
    simp only [go_sem, ↓bnd_eq, ↓reduceIte, NB, NA, NE, BT, BF, dactyllaw31_SecretTwins_k1, f2, f14, e15, hget, len_xr, take_xr, lendL_of_data (data_xr _), map_strip1_of_data (data_xr _), c2, c3, c4, c5, c6, logOk, apartL, orderOk_intro]
    refine t_count (H := H) hL hlt (by simp only [go_sem, NB, f14]) (by simp only [go_sem, NB, e15]) (by simp only [go_sem, NB]) (by simp only [go_sem]) ?_
    intro ρ2 hf2 g17
    have g14 : ρ2 14 = .sl true (L.map encXR) := by rw [hf2 14 (by decide)]; simp only [go_sem, NB, f14]
    have g15 : ρ2 15 = vi i := by rw [hf2 15 (by decide)]; simp only [go_sem, NB, e15]
    have g16 : ρ2 16 = .ptr (H.length + 1) (o1.ver + 1) 0 := by rw [hf2 16 (by decide)]; simp only [go_sem, NB]
    simp only [go_sem]
    refine wc_draw' (keep := dactyllaw31_SecretTwins_k2) (by rfl) (by rfl) ?_
    have rest : ∀ (ρ4 : SEnv), ρ4 14 = .sl true (L.map encXR) → ρ4 16 = .ptr (H.length + 1) (o1.ver + 1) 0 → ρ4 19 = vi 0 → ρ4 15 = vi i →
      wl A 125 ⟨H.length, [13, 16]⟩ (dactyllaw31_SecretTwins_l2 g) ρ4 (H ++ [o0, .box (o1.ver + 1) (encXR (twinExam n L[i]))]) []
        (blockQ 4 (blockQ 1 (thenQ A 125 ⟨H.length, [13, 16]⟩ (.region false [⟨some 40, .mov (.tmp 15), none, []⟩,⟨some 41, .bin .add .no (.tmp 40) (.const (.int .i64 1)), none, [0]⟩,⟨some 15, .mov (.tmp 41), none, [1, 0]⟩])
          (forQ (fun i ρ1 H2 wr => wr = [] ∧ ρ1 15 = vi i ∧ ∃ o1, H2 = H ++ [o0, o1]) 5 i (exitQ 0 (fun ρ1 H2 wr => wr = [] ∧ ∃ o1, H2 = H ++ [o0, o1]) Q ⟨⟩) ⟨⟩) ⟨⟩) ⟨⟩) ⟨⟩) ⟨⟩ := by
      intro ρ4 h14 h16 h19 h15
      refine t_only T hL hlen ha h14 h16 h19 ?_
      intro ρ5 hf5
      have k15 : ρ5 15 = vi i := by rw [hf5 15 (by decide)]; exact h15
      simp only [go_sem, ↓bnd_eq, k15]
      rw [wrap_succ (by omega)]
      exact ⟨by omega, rfl, _, rfl⟩
    by_cases hp : 0 < asks L[i].items
    · obtain ⟨it, hit, q, hq⟩ := asks_pos hp
      rw [eqv_false (twin_ne n hit hq)] at c7
      have hgt : decide (((asks L[i].items : Nat) : Int) > 0) = true := by simp; omega
      simp only [go_sem, ↓bnd_eq, ↓reduceIte, NB, NA, NE, dactyllaw31_SecretTwins_k2, g14, g15, g16, g17, hgt, hget, len_xr, take_xr, lendL_of_data (data_xr _), map_strip1_of_data (data_xr _), c7]
      exact rest _ (by simp only [go_sem, NB, g14]) (by simp only [go_sem, NB, g16]) (by simp only [go_sem]) (by simp only [go_sem, NB, g15])
    · have hgt : decide (((asks L[i].items : Nat) : Int) > 0) = false := by simp; omega
      simp only [go_sem, ↓bnd_eq, ↓reduceIte, NB, NA, dactyllaw31_SecretTwins_k2, g17, hgt]
      exact rest _ (by simp only [go_sem, NB, g14]) (by simp only [go_sem, NB, g16]) (by simp only [go_sem]) (by simp only [go_sem, NB, g15])
  · simp only [go_sem]
    exact ⟨o1, rfl⟩
end Go.Proofs.AM
end
section
open Nat renaming reduceBEq → NB, reduceAdd → NA, reduceSub → NS, reduceMul → NM, reduceLT → NL, reduceLeDiff → ND, reduceEqDiff → NE
open Int renaming reduceLT → IL, reduceLE → ID, reduceToNat → IT, reduceEq → IE, reduceBEq → IB, reduceBNe → IN, reduceAdd → IA, reduceSub → IS, reduceNeg → IM
open Bool renaming not_true → BT, not_false → BF
set_option linter.unusedVariables false
set_option maxRecDepth 8000
namespace Go.Proofs.AM
open Go
set_option maxHeartbeats 3200000 in
theorem twins_spec {A : AProg} {g : String → Nat} (h : Has A g "dactyl/dactyllaw31.SecretTwins" (dactyllaw31_SecretTwins g)) (T : TwinSpecs A g) {l m : List Int} (hl : ListOk l) (hm : ListOk m) {n at' how by' : Int} (hat : IntOk at') (hhow : IntOk how) (hby : IntOk by') (H : List AObj) :
    callI A (g "dactyl/dactyllaw31.SecretTwins") [.sl false (l.map encInt), .sl false (m.map encInt), vi n, vi at', vi how, vi by'] H = some (.bool true, H, []) := by
  refine h.call (by simp [dactyllaw31_SecretTwins]) (by kernel_rfl) ?_
  simp only [dactyllaw31_SecretTwins]
  simp only [go_sem, ↓bnd_eq, ↓reduceIte, NB, NA, NE]
  refine call_ex (T.exam hl _) ?_
  rintro v1 H1 wr1 ⟨rfl, rfl, x, rfl, hx, hs⟩
  simp only [go_sem, ↓bnd_eq, ↓reduceIte, NB, NA, NL, encExam_xr, len_xr, allCellOk_of_data (data_xr _)]
  refine wc_draw' (keep := dactyllaw31_SecretTwins_k0) (by rfl) (by rfl) ?_
  simp only [go_sem, ↓bnd_eq, ↓reduceIte, NB, NA, NE, dactyllaw31_SecretTwins_k0, len_xr, take_xr, lendL_of_data (data_xr _), map_strip1_of_data (data_xr _)]
  have hsp := T.spoilt hx hs (how := how) hat hby
  simp only [encExam_xr] at hsp
  refine call_exD (hsp _) ?_
  rintro v2 H2 wr2 ⟨rfl, rfl, x2, rfl, hx2⟩
  simp only [go_sem, ↓bnd_eq, ↓reduceIte, NB, NA, NE, encExam_xr]
  refine call_exD (T.exam hm _) ?_
  rintro v3 H3 wr3 ⟨rfl, rfl, x3, rfl, hx3, hs3⟩
  simp only [go_sem, ↓bnd_eq, ↓reduceIte, NB, NA, NE, encExam_xr, len_xr, take_xr, lendL_of_data (data_xr _), map_strip1_of_data (data_xr _)]
  have hop := T.opn hx hs (how := how) hat hhow
  simp only [encExam_xr] at hop
  refine call_exD (hop _) ?_
  rintro v4 H4 wr4 ⟨rfl, rfl, x4, rfl, hx4⟩
  have hL : [encXR x, encXR x2, encXR x3, encXR x4, [.str [], .sl false []]] = [x, x2, x3, x4, Exam.mk [] []].map encXR := rfl
  simp only [go_sem, ↓bnd_eq, ↓reduceIte, NB, NA, NL, NE, BF, encExam_xr, len_xr, map_strip1_of_data (data_xr _), allStill_of_data (data_xr _), logOk, apartL, orderOk_intro]
  refine t_rounds T (L := [x, x2, x3, x4, Exam.mk [] []]) (n := n) ?_ rfl (by simp only [go_sem, NB]) (by simp only [go_sem, NB]; rfl) (by simp only [go_sem]) ?_
  · intro y hy
    simp only [List.mem_cons, List.not_mem_nil, or_false] at hy
    rcases hy with rfl | rfl | rfl | rfl | rfl
    · exact hx
    · exact hx2
    · exact hx3
    · exact hx4
    · exact ⟨by decide, by decide, by simp⟩
  intro ρ2 o1 hf2
  have hlv := T.lives
  simp only [go_sem, ↓bnd_eq, ↓reduceIte, NE, hlv]
end Go.Proofs.AM
end
