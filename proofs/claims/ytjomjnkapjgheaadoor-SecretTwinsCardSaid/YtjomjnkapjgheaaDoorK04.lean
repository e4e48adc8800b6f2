/- Part 4 of the proof that stands in the last text of this folder (lemmas; no statement of its own). -/
import Derived.Test.YtjomjnkapjgheaaDoorK03
import Derived.Laws.Tables
import Derived.Lib.ConvBytes
import Derived.MapKept
section
namespace Go.Proofs.AM
open Go
section
variable {P : Program} {glob : Nat → Option (List AV)} {g : G} {H : List AObj} {w : World} {ρ : List AV} {a : Act}
variable {dst : Option Tmp} {type : TypeId} {pos : String} {after : Array Edge} {guard : Option (Nat × Bool)}
theorem foldl_set (off : Nat) : ∀ (l : List Value) (k : Nat) (vs : Array Value), off + k + l.length ≤ vs.size →
    ((l.zipIdx k).foldl (fun cs p => cs.setIfInBounds (off + p.2) p.1) vs).toList = vs.toList.take (off + k) ++ l ++ vs.toList.drop (off + k + l.length)
  | [], k, vs, _ => by simp
  | x :: l, k, vs, h => by
    simp only [List.zipIdx_cons, List.foldl_cons]
    rw [foldl_set off l (k + 1) _ (by simp at h ⊢; omega)]
    simp at h
    apply List.ext_getElem?
    intro i
    simp only [Array.toList_setIfInBounds, List.getElem?_append, List.getElem?_take, List.getElem?_set, List.length_take, List.length_set, Array.length_toList, List.getElem?_drop, List.length_append, List.length_cons]
    by_cases h1 : i < off + k
    · have e1 : i < min (off + (k + 1)) vs.size + l.length := by omega
      have e2 : i < min (off + (k + 1)) vs.size := by omega
      have e3 : i < min (off + k) vs.size + (l.length + 1) := by omega
      have e4 : i < min (off + k) vs.size := by omega
      have e5 : i < off + (k + 1) := by omega
      have e6 : ¬ (off + k = i) := by omega
      simp [e1, e2, e3, e4, e5, e6, h1]
    · by_cases h2 : i = off + k
      · subst h2
        have e1 : off + k < min (off + (k + 1)) vs.size + l.length := by omega
        have e2 : off + k < min (off + (k + 1)) vs.size := by omega
        have e3 : off + k < min (off + k) vs.size + (l.length + 1) := by omega
        have e4 : ¬ (off + k < min (off + k) vs.size) := by omega
        have e5 : off + k < off + (k + 1) := by omega
        have e6 : off + k - min (off + k) vs.size = 0 := by omega
        have e7 : off + k < vs.size := by omega
        simp [e1, e2, e3, e4, e5, e6, e7]
      · by_cases h3 : i < off + k + 1 + l.length
        · have e1 : i < min (off + (k + 1)) vs.size + l.length := by omega
          have e2 : ¬ (i < min (off + (k + 1)) vs.size) := by omega
          have e3 : i < min (off + k) vs.size + (l.length + 1) := by omega
          have e4 : ¬ (i < min (off + k) vs.size) := by omega
          have e5 : i - min (off + k) vs.size = (i - min (off + (k + 1)) vs.size) + 1 := by omega
          simp [e1, e2, e3, e4, e5]
        · have e1 : ¬ (i < min (off + (k + 1)) vs.size + l.length) := by omega
          have e3 : ¬ (i < min (off + k) vs.size + (l.length + 1)) := by omega
          have e6 : off + (k + 1) + l.length + (i - (min (off + (k + 1)) vs.size + l.length)) = i := by omega
          have e7 : off + k + (l.length + 1) + (i - (min (off + k) vs.size + (l.length + 1))) = i := by omega
          have e8 : ¬ (off + k = i) := by omega
          simp [e1, e3, e6, e7, e8]
theorem fill_step {place : Nat → Option (Nat × Nat)} {cells : Array Value} {i off : Nat} {v : Value} {rest : List (Nat × Value)} (hp : place i = some (off, v.cells.size)) (h : off + v.cells.size ≤ cells.size) :
    ∃ cells' : Array Value, cells'.toList = cells.toList.take off ++ v.cells.toList ++ cells.toList.drop (off + v.cells.size) ∧ Instr.fill place cells ((i, v) :: rest) = Instr.fill place cells' rest := by
  refine ⟨v.cells.zipIdx.foldl (fun cs p => cs.setIfInBounds (off + p.2) p.1) cells, ?_, ?_⟩
  · have := foldl_set off v.cells.toList 0 cells (by simpa using h)
    rw [← Array.foldl_toList, Array.toList_zipIdx]
    simpa using this
  · simp only [Instr.fill, hp]
    have h1 : ¬ (cells.size < off + v.cells.size) := by omega
    simp [h1]
theorem fillRow_get (cells : List AV) (off : Nat) (vs : List AV) (h : off + vs.length ≤ cells.length) (i : Nat) :
    (fillRow cells off vs)[i]? = if off ≤ i ∧ i < off + vs.length then vs[i - off]? else cells[i]? := by
  unfold fillRow
  simp only [List.getElem?_append, List.getElem?_take, List.length_take, List.length_append, List.getElem?_drop]
  by_cases h1 : i < off
  · have e1 : i < min off cells.length + vs.length := by omega
    have e2 : i < min off cells.length := by omega
    have e3 : ¬ (off ≤ i ∧ i < off + vs.length) := by omega
    simp [e1, e2, e3, h1]
  · by_cases h2 : i < off + vs.length
    · have e3 : off ≤ i ∧ i < off + vs.length := by omega
      have e4 : min off cells.length = off := by omega
      simp [e3, e4, h1]
    · have e1 : ¬ (i < min off cells.length + vs.length) := by omega
      have e3 : ¬ (off ≤ i ∧ i < off + vs.length) := by omega
      have e4 : off + vs.length + (i - (min off cells.length + vs.length)) = i := by omega
      simp [e1, e3, e4]
theorem fillRow_len (cells : List AV) (off : Nat) (vs : List AV) (h : off + vs.length ≤ cells.length) : (fillRow cells off vs).length = cells.length := by
  unfold fillRow; simp; omega
theorem splice_get (cells : List Value) (off : Nat) (vs : List Value) (h : off + vs.length ≤ cells.length) (i : Nat) :
    (cells.take off ++ vs ++ cells.drop (off + vs.length))[i]? = if off ≤ i ∧ i < off + vs.length then vs[i - off]? else cells[i]? := by
  simp only [List.getElem?_append, List.getElem?_take, List.length_take, List.length_append, List.getElem?_drop]
  by_cases h1 : i < off
  · have e1 : i < min off cells.length + vs.length := by omega
    have e2 : i < min off cells.length := by omega
    have e3 : ¬ (off ≤ i ∧ i < off + vs.length) := by omega
    simp [e1, e2, e3, h1]
  · by_cases h2 : i < off + vs.length
    · have e3 : off ≤ i ∧ i < off + vs.length := by omega
      have e4 : min off cells.length = off := by omega
      simp [e3, e4, h1]
    · have e1 : ¬ (i < min off cells.length + vs.length) := by omega
      have e3 : ¬ (off ≤ i ∧ i < off + vs.length) := by omega
      have e4 : off + vs.length + (i - (min off cells.length + vs.length)) = i := by omega
      simp [e1, e3, e4]
theorem LRel.fill {cs : List AV} {xs : List Value} (h : LRel g cs xs) {vs : List AV} {ys : List Value} (hv : LRel g vs ys) {off : Nat} (ho : off + vs.length ≤ cs.length) :
    LRel g (fillRow cs off vs) (xs.take off ++ ys ++ xs.drop (off + ys.length)) := by
  have h1 := h.1
  have h2 := hv.1
  refine ⟨by rw [fillRow_len _ _ _ ho]; simp; omega, fun i c x hc hx => ?_⟩
  rw [fillRow_get _ _ _ ho] at hc
  rw [splice_get _ _ _ (by omega)] at hx
  by_cases hi : off ≤ i ∧ i < off + vs.length
  · rw [if_pos hi] at hc
    rw [if_pos (by omega)] at hx
    exact hv.2 _ c x hc hx
  · rw [if_neg hi] at hc
    rw [if_neg (by omega)] at hx
    exact h.2 _ c x hc hx
theorem fill_sound {place : Nat → Option (Nat × Nat)} : ∀ (parts : List (Nat × Operand)) (aps : List (Nat × Nat × AOpd)),
    parts.length = aps.length → (∀ (j : Nat) i X o s x, parts[j]? = some (i, X) → aps[j]? = some (o, s, x) → place i = some (o, s) ∧ ((x.ev ρ).cells.length = s → (x.ev ρ).cells.all AV.cellOk = true → LRel g (x.ev ρ).cells (a.eval X).cells.toList)) →
    ∀ (cs : List AV) (cells : Array Value), LRel g cs cells.toList → ∀ out, buildCells ρ cs aps = some out →
    ∃ cells' : Array Value, Instr.fill place cells (parts.map fun p => (p.1, a.eval p.2)) = some cells' ∧ LRel g out cells'.toList
  | [], aps, hl, _, cs, cells, hr, out, h => by
    cases aps with
    | nil => simp only [buildCells, Option.some.injEq] at h; subst h; exact ⟨cells, rfl, hr⟩
    | cons _ _ => simp at hl
  | (i, X) :: parts, aps, hl, hp, cs, cells, hr, out, h => by
    cases aps with
    | nil => simp at hl
    | cons p aps =>
      obtain ⟨o, s, x⟩ := p
      simp only [buildCells] at h
      split at h
      · rename_i hc
        obtain ⟨h1, h2⟩ := hp 0 i X o s x rfl rfl
        have hv := h2 hc.1 hc.2.2
        have hlv := hv.1
        have hlc := hr.1
        simp only [Array.length_toList] at hlv hlc
        obtain ⟨cells1, e1, e2⟩ := fill_step (place := place) (cells := cells) (i := i) (off := o) (v := a.eval X) (rest := parts.map fun p => (p.1, a.eval p.2)) (by rw [h1]; simp; omega) (by omega)
        have hr1 : LRel g (fillRow cs o (x.ev ρ).cells) cells1.toList := by
          rw [e1]
          have := hr.fill hv (off := o) (by omega)
          simpa using this
        obtain ⟨cells', e3, e4⟩ := fill_sound parts aps (by simpa using hl) (fun j i X o s x h1 h2 => hp (j + 1) i X o s x (by simpa using h1) (by simpa using h2)) _ cells1 hr1 out h
        exact ⟨cells', by simp only [List.map_cons]; rw [e2]; exact e3, e4⟩
      · cases h
theorem zeroCells?_spec {t : TypeId} {zs : List AV} (h : zeroCells? P t = some zs) : ∃ i z, P.info? t = some i ∧ i.zero = some z ∧ ∀ g, LRel g zs z.cells.toList := by
  unfold zeroCells? at h
  cases hi : P.info? t with
  | none => simp [hi] at h
  | some i =>
    simp only [hi, Option.bind_some] at h
    cases hz : i.zero with
    | none => simp [hz] at h
    | some z => simp only [hz, Option.bind_some] at h; exact ⟨i, z, rfl, hz, ofVL_sound h⟩
theorem mapM_places : ∀ (l : List Field), (∀ f ∈ l, (size? P f.type).isSome = true) →
    l.mapM (fun f => (P.info? f.type).map fun i => (f.offset, i.size)) = some (l.map fun f => (f.offset, (size? P f.type).getD 0))
  | [], _ => rfl
  | f :: l, h => by
    have ih := mapM_places l fun f hf => h f (List.mem_cons_of_mem _ hf)
    have h0 := h f (by simp)
    obtain ⟨n, hn⟩ := Option.isSome_iff_exists.1 h0
    obtain ⟨i, hi, hs⟩ := size?_info hn
    simp [List.mapM_cons, hi, ih, hn, hs]
theorem partsS_spec {fields : Array Field} : ∀ {parts : List (Nat × Operand)} {aps : List (Nat × Nat × AOpd)}, partsS P glob fields parts = some aps →
    parts.length = aps.length ∧ ∀ (j : Nat) i X o s x, parts[j]? = some (i, X) → aps[j]? = some (o, s, x) → ∃ f, fields[i]? = some f ∧ size? P f.type = some s ∧ o = f.offset ∧ opnd glob X = some x
  | [], aps, h => by simp only [partsS, Option.some.injEq] at h; subst h; exact ⟨rfl, fun j i X o s x h1 _ => by simp at h1⟩
  | (i, X) :: r, aps, h => by
    unfold partsS at h
    split at h
    · cases h
    · rename_i f hf
      split at h
      · rename_i n x r' hn hx hr'
        cases h
        obtain ⟨h1, h2⟩ := partsS_spec hr'
        refine ⟨by simp [h1], fun j i' X' o s x' e1 e2 => ?_⟩
        cases j with
        | zero => simp at e1 e2; obtain ⟨rfl, rfl⟩ := e1; obtain ⟨rfl, rfl, rfl⟩ := e2; exact ⟨f, hf, hn, rfl, hx⟩
        | succ j => exact h2 j i' X' o s x' (by simpa using e1) (by simpa using e2)
      · cases h
theorem partsA_spec {n : Nat} : ∀ {parts : List (Nat × Operand)} {aps : List (Nat × Nat × AOpd)}, partsA glob n parts = some aps →
    parts.length = aps.length ∧ ∀ (j : Nat) i X o s x, parts[j]? = some (i, X) → aps[j]? = some (o, s, x) → o = i * n ∧ s = n ∧ opnd glob X = some x
  | [], aps, h => by simp only [partsA, Option.some.injEq] at h; subst h; exact ⟨rfl, fun j i X o s x h1 _ => by simp at h1⟩
  | (i, X) :: r, aps, h => by
    unfold partsA at h
    split at h
    · rename_i x r' hx hr'
      cases h
      obtain ⟨h1, h2⟩ := partsA_spec hr'
      refine ⟨by simp [h1], fun j i' X' o s x' e1 e2 => ?_⟩
      cases j with
      | zero => simp at e1 e2; obtain ⟨rfl, rfl⟩ := e1; obtain ⟨rfl, rfl, rfl⟩ := e2; exact ⟨rfl, rfl, hx⟩
      | succ j => exact h2 j i' X' o s x' (by simpa using e1) (by simpa using e2)
    · cases h
theorem r_build {t : TypeId} {parts : Array (Nat × Operand)} {zs : List AV} {aps : List (Nat × Nat × AOpd)} (hz : zeroCells? P t = some zs)
    (hd : (∃ fields : Array Field, P.underlying t = some (.struct fields) ∧ fields.all (fun f => (size? P f.type).isSome) = true ∧ partsS P glob fields parts.toList = some aps) ∨
      (∃ n e k, P.underlying t = some (.array n e) ∧ size? P e = some k ∧ partsA glob k parts.toList = some aps))
    {av : AV} (h : evR H ρ (.build zs aps) = some av) (hw : WF g H w) (hg : GlobOk glob g) (hs : SlotRel g ρ a.tmps) :
    Gives P ⟨dst, .build t parts, type, pos, after, guard⟩ a w (QPost g H w av) := by
  simp only [evR] at h
  obtain ⟨out, hout, rfl⟩ := map_some h
  obtain ⟨it, z, hi, hzz, hzr⟩ := zeroCells?_spec hz
  have cellsOk : ∀ (X : Operand) (x : AOpd), opnd glob X = some x → (x.ev ρ).cells.all AV.cellOk = true → LRel g (x.ev ρ).cells (a.eval X).cells.toList := fun X x hx hok => (opnd_sound hx hg hs).cells hok
  have key : ∃ cells : Array Value, P.built t (parts.map fun p => (p.1, a.eval p.2)).toList = some cells ∧ LRel g out cells.toList := by
    rcases hd with ⟨fields, hu, hall, hp⟩ | ⟨n, e, k, hu, hk, hp⟩
    · obtain ⟨h1, h2⟩ := partsS_spec hp
      have hall' : ∀ f ∈ fields.toList, (size? P f.type).isSome = true := fun f hf => by
        rw [Array.all_eq_true_iff_forall_mem] at hall
        exact hall f (by simpa using hf)
      obtain ⟨cells, e1, e2⟩ := fill_sound (g := g) (a := a) (ρ := ρ) (place := fun i => ((fields.toList.map fun f => (f.offset, (size? P f.type).getD 0)).toArray)[i]?) parts.toList aps h1
        (fun j i X o s x e1 e2 => by
          obtain ⟨f, hf, hsz, ho, hx⟩ := h2 j i X o s x e1 e2
          refine ⟨?_, fun _ hok => cellsOk X x hx hok⟩
          simp [hf, hsz, ho]) zs z.cells (hzr g) out hout
      refine ⟨cells, ?_, e2⟩
      unfold Program.built
      simp only [hi, hu, hzz, mapM_places fields.toList hall', Array.toList_map]
      exact e1
    · obtain ⟨h1, h2⟩ := partsA_spec hp
      obtain ⟨ie, hie, hsz⟩ := size?_info hk
      obtain ⟨cells, e1, e2⟩ := fill_sound (g := g) (a := a) (ρ := ρ) (place := fun i => some (i * ie.size, ie.size)) parts.toList aps h1
        (fun j i X o s x e1 e2 => by
          obtain ⟨ho, hs', hx⟩ := h2 j i X o s x e1 e2
          refine ⟨?_, fun _ hok => cellsOk X x hx hok⟩
          simp [ho, hs', hsz]) zs z.cells (hzr g) out hout
      refine ⟨cells, ?_, e2⟩
      unfold Program.built
      simp only [hi, hu, hzz, hie, Array.toList_map]
      exact e1
  obtain ⟨cells, e1, e2⟩ := key
  refine gives_of (w' := w) (v := .agg cells) ?_ (.same hw e2.agg)
  simp only [execOp, Sem.run_bind, run_build w t _ cells e1, Result.andThen_ok, Sem.run_pure]
end
end Go.Proofs.AM
end
section
namespace Go.Proofs.AM
open Go
section
variable {P : Program} {glob : Nat → Option (List AV)} {g : G} {H : List AObj} {w : World} {ρ : List AV} {a : Act}
variable {dst : Option Tmp} {type : TypeId} {pos : String} {after : Array Edge} {guard : Option (Nat × Bool)}
structure RowsRel (g : G) (k : Nat) (rows : List (List AV)) (cells : List Value) : Prop where
  len : cells.length = rows.length * k
  row : ∀ row ∈ rows, row.length = k
  rel : ∀ (i j : Nat) (row : List AV) c x, rows[i]? = some row → row[j]? = some c → cells[i * k + j]? = some x → VRel g c x
theorem RowsRel.mono {g g' : G} (hg : g.le g') {k : Nat} {rows : List (List AV)} {cells : List Value} (h : RowsRel g k rows cells) : RowsRel g' k rows cells :=
  ⟨h.len, h.row, fun i j row c x h1 h2 h3 => (h.rel i j row c x h1 h2 h3).mono hg⟩
theorem lt_of_div {i j n k : Nat} (hi : i < n) (hj : j < k) : i * k + j < n * k := by
  have : (i + 1) * k ≤ n * k := Nat.mul_le_mul_right _ hi
  rw [Nat.add_mul, Nat.one_mul] at this
  omega
theorem cell_inj {i j i' j' k : Nat} (hj : j < k) (hj' : j' < k) (h : i * k + j = i' * k + j') : i = i' ∧ j = j' := by
  have h1 : (i * k + j) / k = i := by rw [Nat.mul_comm, Nat.mul_add_div (by omega)]; rw [Nat.div_eq_of_lt hj]; omega
  have h2 : (i' * k + j') / k = i' := by rw [Nat.mul_comm, Nat.mul_add_div (by omega)]; rw [Nat.div_eq_of_lt hj']; omega
  have : i = i' := by rw [← h1, ← h2, h]
  subst this
  exact ⟨rfl, by omega⟩
theorem RowsRel.set {k : Nat} {rows : List (List AV)} {cells : List Value} (h : RowsRel g k rows cells) {i : Nat} (hi : i < rows.length) {vs : List AV} {ys : List Value} (hv : LRel g vs ys) (hk : vs.length = k) :
    RowsRel g k (rows.set i vs) (cells.take (i * k) ++ ys ++ cells.drop (i * k + ys.length)) := by
  have hl := hv.1
  have hb : i * k + k ≤ rows.length * k := by
    have : (i + 1) * k ≤ rows.length * k := Nat.mul_le_mul_right _ hi
    rwa [Nat.add_mul, Nat.one_mul] at this
  have hlen := h.len
  refine ⟨by simp; omega, fun row hm => ?_, fun i' j row c x h1 h2 h3 => ?_⟩
  · rcases List.mem_or_eq_of_mem_set hm with hm' | rfl
    · exact h.row row hm'
    · exact hk
  · have hj : j < row.length := (List.getElem?_eq_some_iff.1 h2).1
    rw [splice_get _ _ _ (by omega)] at h3
    by_cases e : i' = i
    · subst e
      simp [hi] at h1
      subst h1
      rw [if_pos (by omega), show i' * k + j - i' * k = j by omega] at h3
      exact hv.2 j c x h2 h3
    · rw [getElem?_set_ne' _ _ (Ne.symm e)] at h1
      have hrk := h.row row (List.mem_of_getElem? h1)
      have hjk : j < k := hrk ▸ hj
      clear hrk hj
      rw [if_neg (fun hh => e (cell_inj (j := j) (j' := i' * k + j - i * k) hjk (by omega) (by omega)).1)] at h3
      exact h.rel i' j row c x h1 h2 h3
theorem VRel.sl_new {k : Nat} {rows : List (List AV)} {b : Nat} {cells : Array Value} {f : Bool} {cap : Nat} (hst : rows.all (fun r => r.all AV.still) = true) (hcap : rows.length ≤ cap) (hf : f = true → cap = rows.length)
    (h : RowsRel (g.addPerm b fun i => cells[i]?) k rows ((cells.toList).take (rows.length * k))) : VRel (g.addPerm b fun i => cells[i]?) (.sl f rows) (.slice (some ⟨b, 0, none⟩) rows.length cap) := by
  have hsz : rows.length * k ≤ cells.size := by have := h.len; simp at this; omega
  refine .sl f rows b 0 cap k hcap hf h.row (List.all_eq_true.1 hst) (fun i j hi hj => ?_) fun i j row c x h1 h2 h3 => ?_
  · have := lt_of_div hi hj
    simp only [G.addPerm, if_true, Nat.zero_add]
    rw [Array.getElem?_eq_getElem (by omega)]; rfl
  · have hi : i < rows.length := (List.getElem?_eq_some_iff.1 h1).1
    have hj : j < row.length := (List.getElem?_eq_some_iff.1 h2).1
    have hjk : j < k := by have := h.row row (List.mem_of_getElem? h1); omega
    have := lt_of_div hi hjk
    simp only [G.addPerm, if_true, Nat.zero_add] at h3
    refine h.rel i j row c x h1 h2 ?_
    rw [List.getElem?_take, if_pos this]
    simpa using h3
theorem partsL_spec {len : Nat} : ∀ {parts : List (Nat × Operand)} {aps : List (Nat × AOpd)}, partsL glob len parts = some aps →
    parts.length = aps.length ∧ ∀ (j : Nat) i X i' x, parts[j]? = some (i, X) → aps[j]? = some (i', x) → i' = i ∧ i < len ∧ opnd glob X = some x
  | [], aps, h => by simp only [partsL, Option.some.injEq] at h; subst h; exact ⟨rfl, fun j i X o s h1 _ => by simp at h1⟩
  | (i, X) :: r, aps, h => by
    unfold partsL at h
    split at h
    · rename_i x r' hx hr'
      split at h
      · rename_i hi
        cases h
        obtain ⟨h1, h2⟩ := partsL_spec hr'
        refine ⟨by simp [h1], fun j i' X' i2 x' e1 e2 => ?_⟩
        cases j with
        | zero => simp at e1 e2; obtain ⟨rfl, rfl⟩ := e1; obtain ⟨rfl, rfl⟩ := e2; exact ⟨rfl, hi, hx⟩
        | succ j => exact h2 j i' X' i2 x' (by simpa using e1) (by simpa using e2)
      · cases h
    · cases h
theorem still_cellOk {v : AV} (h : v.still = true) : v.cellOk = true := by cases v <;> simp_all [AV.still, AV.cellOk]
theorem all_still_cellOk {l : List AV} (h : l.all AV.still = true) : l.all AV.cellOk = true := by
  rw [List.all_eq_true] at h ⊢
  exact fun v hv => still_cellOk (h v hv)
theorem rows_still_cellOk {rows : List (List AV)} (h : rows.all (fun r => r.all AV.still) = true) : rows.all (fun r => r.all AV.cellOk) = true := by
  rw [List.all_eq_true] at h ⊢
  exact fun r hr => all_still_cellOk (h r hr)
theorem fillRows_sound {k : Nat} : ∀ (parts : List (Nat × Operand)) (aps : List (Nat × AOpd)),
    parts.length = aps.length → (∀ (j : Nat) i X i' x, parts[j]? = some (i, X) → aps[j]? = some (i', x) → i' = i ∧ VRel g (x.ev ρ) (a.eval X)) →
    ∀ (rows : List (List AV)) (cells : Array Value), RowsRel g k rows cells.toList → rows.all (fun r => r.all AV.still) = true → ∀ out, buildRows ρ k rows aps = some out →
    ∃ cells' : Array Value, Instr.fill (fun i => some (i * k, k)) cells (parts.map fun p => (p.1, a.eval p.2)) = some cells' ∧ RowsRel g k out cells'.toList ∧ out.length = rows.length ∧ out.all (fun r => r.all AV.still) = true
  | [], aps, hl, _, rows, cells, hr, hst, out, h => by
    cases aps with
    | nil => simp only [buildRows, Option.some.injEq] at h; subst h; exact ⟨cells, rfl, hr, rfl, hst⟩
    | cons _ _ => simp at hl
  | (i, X) :: parts, aps, hl, hp, rows, cells, hr, hst, out, h => by
    cases aps with
    | nil => simp at hl
    | cons p aps =>
      obtain ⟨i', x⟩ := p
      simp only [buildRows] at h
      split at h
      · rename_i hc
        obtain ⟨h1, h2⟩ := hp 0 i X i' x rfl rfl
        subst h1
        have hv := h2.strip.cells (all_still_cellOk hc.2.2)
        have hlv := hv.1
        simp only [Array.length_toList] at hlv
        have hlen := hr.len
        simp only [Array.length_toList] at hlen
        have hb : i' * k + k ≤ rows.length * k := by
          have : (i' + 1) * k ≤ rows.length * k := Nat.mul_le_mul_right _ hc.2.1
          rwa [Nat.add_mul, Nat.one_mul] at this
        obtain ⟨cells1, e1, e2⟩ := fill_step (place := fun i => some (i * k, k)) (cells := cells) (i := i') (off := i' * k) (v := a.eval X) (rest := parts.map fun p => (p.1, a.eval p.2)) (by simp; omega) (by omega)
        have hr1 : RowsRel g k (rows.set i' (x.ev ρ).strip.cells) cells1.toList := by
          rw [e1]
          have := hr.set hc.2.1 hv hc.1
          simpa using this
        have hst1 : (rows.set i' (x.ev ρ).strip.cells).all (fun r => r.all AV.still) = true := by
          rw [List.all_eq_true] at hst ⊢
          intro r hm
          rcases List.mem_or_eq_of_mem_set hm with hm' | rfl
          · exact hst r hm'
          · exact hc.2.2
        obtain ⟨cells', e3, e4, e5, e6⟩ := fillRows_sound parts aps (by simpa using hl) (fun j i X o x h1 h2 => hp (j + 1) i X o x (by simpa using h1) (by simpa using h2)) _ cells1 hr1 hst1 out h
        exact ⟨cells', by simp only [List.map_cons]; rw [e2]; exact e3, e4, by rw [e5]; simp, e6⟩
      · cases h
theorem fillRowsC_sound {k : Nat} : ∀ (parts : List (Nat × Operand)) (aps : List (Nat × AOpd)),
    parts.length = aps.length → (∀ (j : Nat) i X i' x, parts[j]? = some (i, X) → aps[j]? = some (i', x) → i' = i ∧ VRel g (x.ev ρ) (a.eval X)) →
    ∀ (rows : List (List AV)) (cells : Array Value), RowsRel g k rows cells.toList → rows.all (fun r => r.all AV.cellOk) = true → ∀ out, buildRowsC ρ k rows aps = some out →
    ∃ cells' : Array Value, Instr.fill (fun i => some (i * k, k)) cells (parts.map fun p => (p.1, a.eval p.2)) = some cells' ∧ RowsRel g k out cells'.toList ∧ out.length = rows.length ∧ out.all (fun r => r.all AV.cellOk) = true
  | [], aps, hl, _, rows, cells, hr, hst, out, h => by
    cases aps with
    | nil => simp only [buildRowsC, Option.some.injEq] at h; subst h; exact ⟨cells, rfl, hr, rfl, hst⟩
    | cons _ _ => simp at hl
  | (i, X) :: parts, aps, hl, hp, rows, cells, hr, hst, out, h => by
    cases aps with
    | nil => simp at hl
    | cons p aps =>
      obtain ⟨i', x⟩ := p
      simp only [buildRowsC] at h
      split at h
      · rename_i hc
        obtain ⟨h1, h2⟩ := hp 0 i X i' x rfl rfl
        subst h1
        have hv := h2.strip.cells hc.2.2
        have hlv := hv.1
        simp only [Array.length_toList] at hlv
        have hlen := hr.len
        simp only [Array.length_toList] at hlen
        have hb : i' * k + k ≤ rows.length * k := by
          have : (i' + 1) * k ≤ rows.length * k := Nat.mul_le_mul_right _ hc.2.1
          rwa [Nat.add_mul, Nat.one_mul] at this
        obtain ⟨cells1, e1, e2⟩ := fill_step (place := fun i => some (i * k, k)) (cells := cells) (i := i') (off := i' * k) (v := a.eval X) (rest := parts.map fun p => (p.1, a.eval p.2)) (by simp; omega) (by omega)
        have hr1 : RowsRel g k (rows.set i' (x.ev ρ).strip.cells) cells1.toList := by
          rw [e1]
          have := hr.set hc.2.1 hv hc.1
          simpa using this
        have hst1 : (rows.set i' (x.ev ρ).strip.cells).all (fun r => r.all AV.cellOk) = true := by
          rw [List.all_eq_true] at hst ⊢
          intro r hm
          rcases List.mem_or_eq_of_mem_set hm with hm' | rfl
          · exact hst r hm'
          · exact hc.2.2
        obtain ⟨cells', e3, e4, e5, e6⟩ := fillRowsC_sound parts aps (by simpa using hl) (fun j i X o x h1 h2 => hp (j + 1) i X o x (by simpa using h1) (by simpa using h2)) _ cells1 hr1 hst1 out h
        exact ⟨cells', by simp only [List.map_cons]; rw [e2]; exact e3, e4, by rw [e5]; simp, e6⟩
      · cases h
theorem zeroRows {k n : Nat} {zs : List AV} {z : Array Value} (hz : LRel g zs z.toList) (hk : zs.length = k) :
    RowsRel g k (List.replicate n zs) (((Array.range (n * k)).map (z[· % z.size]!)).toList) := by
  have hzs : z.size = k := by have := hz.1; simp at this; omega
  refine ⟨by simp, fun row hm => by rw [(List.mem_replicate.1 hm).2, hk], fun i j row c x h1 h2 h3 => ?_⟩
  have hrow : row = zs := (List.mem_replicate.1 (List.mem_of_getElem? h1)).2
  subst hrow
  have hi : i < n := by have := (List.getElem?_eq_some_iff.1 h1).1; simpa using this
  have hj : j < k := by have := (List.getElem?_eq_some_iff.1 h2).1; omega
  have hlt := lt_of_div hi hj
  have hmod : (i * k + j) % k = j := by rw [Nat.mul_comm, Nat.mul_add_mod, Nat.mod_eq_of_lt hj]
  have hjz : j < z.size := by omega
  simp [hlt, hzs, hmod] at h3
  refine hz.2 j c x h2 ?_
  rw [← h3]
  simp [hjz]
theorem strip1_still {v : AV} (h : v.still = true) : v.strip1.still = true := by cases v <;> simp_all [AV.still, AV.strip1]
theorem map_strip1_still {l : List AV} (h : l.all AV.still = true) : (l.map AV.strip1).all AV.still = true := by
  rw [List.all_eq_true] at h ⊢
  intro v hv
  obtain ⟨u, hu, rfl⟩ := List.mem_map.1 hv
  exact strip1_still (h u hu)
theorem run_buildSlice {t e : TypeId} {k n : Nat} {i : TypeInfo} {z : Value} (ht : P.underlying t = some (.slice e)) (hi : P.info? e = some i) (hsz : i.size = k) (hz : i.zero = some z) (hn : n * k ≤ 16777216)
    {parts : Array (Nat × Value)} {cells : Array Value} (hf : Instr.fill (fun i => some (i * k, k)) ((Array.range (n * k)).map (z.cells[· % z.cells.size]!)) parts.toList = some cells) :
    (Instr.buildSlice t n parts).run P w = .ok (.slice (some ⟨w.heap.size, 0, none⟩) n n) (w.alloc (.cells cells e)) := by
  have : ¬ (n * k > 2 ^ 24) := by simp; omega
  by_cases hz0 : n * k = 0
  · have he : ((Array.range (n * k)).map fun (x : Nat) => (#[] : Array Value)[x % (#[] : Array Value).size]!) = ((Array.range (n * k)).map (z.cells[· % z.cells.size]!)) := by simp [hz0]
    rw [← he] at hf
    simp only [Instr.buildSlice, Sem.run_bind, run_underlying ht, Result.andThen_ok, sizeOf, typeInfo, run_program, hi, hsz, Sem.run_pure, Sem.run_ite, hz0, if_true]
    rw [hz0] at hf this
    simp only [this, if_false, Sem.run_pure, Result.andThen_ok, hf, newRow, run_newObj, Sem.run_bind, World.alloc_eq]
  · simp only [Instr.buildSlice, Sem.run_bind, run_underlying ht, Result.andThen_ok, sizeOf, typeInfo, run_program, hi, hsz, Sem.run_pure, Sem.run_ite, zeroValue, hz, hz0, if_false]
    simp only [this, if_false, Sem.run_pure, Result.andThen_ok, hf, newRow, run_newObj, Sem.run_bind, World.alloc_eq]
theorem r_bsl {t e : TypeId} {k n : Nat} {parts : Array (Nat × Operand)} {zs : List AV} {aps : List (Nat × AOpd)} (ht : P.underlying t = some (.slice e)) (hk : size? P e = some k) (hz : zeroCells? P e = some zs) (hp : partsL glob n parts.toList = some aps)
    (hzl : zs.length = k) (hn : n * k ≤ 16777216) (hst : zs.all AV.still = true)
    {av : AV} (h : evR H ρ (.bsl k (zs.map AV.strip1) n aps) = some av) (hw : WF g H w) (hg : GlobOk glob g) (hs : SlotRel g ρ a.tmps) :
    Gives P ⟨dst, .buildSlice t n parts, type, pos, after, guard⟩ a w (QPost g H w av) := by
  simp only [evR] at h
  obtain ⟨out, hout, rfl⟩ := map_some h
  obtain ⟨it, z, hi, hzz, hzr⟩ := zeroCells?_spec hz
  obtain ⟨i', hi', hsz⟩ := size?_info hk
  rw [hi] at hi'
  cases hi'
  obtain ⟨h1, h2⟩ := partsL_spec hp
  have hz0 : RowsRel g k (List.replicate n (zs.map AV.strip1)) (((Array.range (n * k)).map (z.cells[· % z.cells.size]!)).toList) := zeroRows (hzr g).strip1 (by simpa using hzl)
  obtain ⟨cells, e1, e2, e3, e4⟩ := fillRows_sound (g := g) (a := a) (ρ := ρ) parts.toList aps h1 (fun j i X i' x e1 e2 => by
    obtain ⟨ho, _, hx⟩ := h2 j i X i' x e1 e2
    exact ⟨ho, opnd_sound hx hg hs⟩) _ _ hz0 (by rw [List.all_eq_true]; intro r hm; rw [(List.mem_replicate.1 hm).2]; exact map_strip1_still hst) out hout
  have hlen : out.length = n := by rw [e3]; simp
  have hstep := Step.allocPerm (w' := w.alloc (.cells cells e)) hw cells e (0, 0) rfl
  refine gives_of (v := .slice (some ⟨w.heap.size, 0, none⟩) n n) (w' := w.alloc (.cells cells e)) ?_ ⟨_, hstep, ?_⟩
  · have hf : Instr.fill (fun i => some (i * k, k)) ((Array.range (n * k)).map (z.cells[· % z.cells.size]!)) (parts.map fun p => (p.1, a.eval p.2)).toList = some cells := by rw [Array.toList_map]; exact e1
    simp only [execOp, Sem.run_bind, run_buildSlice ht hi hsz hzz hn hf, Result.andThen_ok, Sem.run_pure]
  · have hr : RowsRel (g.addPerm w.heap.size fun i => cells[i]?) k out (cells.toList.take (out.length * k)) := by
      have hl := (e2.mono hstep.le).len
      rw [List.take_of_length_le (by omega)]
      exact e2.mono hstep.le
    have := VRel.sl_new (f := true) (cap := n) e4 (by omega) (fun _ => hlen.symm) hr
    rwa [hlen] at this
end
end Go.Proofs.AM
end
section
namespace Go.Proofs.AM
open Go
section
variable {P : Program} {glob : Nat → Option (List AV)} {g : G} {H : List AObj} {w : World} {ρ : List AV} {a : Act}
variable {dst : Option Tmp} {type : TypeId} {pos : String} {after : Array Edge} {guard : Option (Nat × Bool)}
theorem rowsOf_sound (hw : WF g H w) {av : AV} {rows : List (List AV)} (h : rowsOf H av = some rows) {x : Value} (hx : VRel g av x) :
    (rows = [] ∧ ∃ cap, x = .slice none 0 cap) ∨ ∃ (b off cap k : Nat) (cells : List Value), x = .slice (some ⟨b, off, none⟩) rows.length cap ∧ rows.length ≤ cap ∧ RowsRel g k rows cells ∧
      (∀ (row : List AV), row ∈ rows → row.all AV.cellOk = true) ∧ ∀ (j : Nat) v, cells[j]? = some v → w.cell? ⟨b, off + j, none⟩ = some v := by
  have build : ∀ (b off k : Nat) (rows : List (List AV)), (∀ row ∈ rows, row.length = k) → (∀ (i j : Nat) (row : List AV) c, rows[i]? = some row → row[j]? = some c → ∃ y, w.cell? ⟨b, off + (i * k + j), none⟩ = some y ∧ VRel g c y) →
      ∃ cells : List Value, RowsRel g k rows cells ∧ ∀ (j : Nat) v, cells[j]? = some v → w.cell? ⟨b, off + j, none⟩ = some v := by
    intro b off k rows hk hc
    refine ⟨(List.range (rows.length * k)).map fun j => (w.cell? ⟨b, off + j, none⟩).getD Go.undef,⟨by simp, hk, fun i j row c x h1 h2 h3 => ?_⟩, fun j v hv => ?_⟩
    · obtain ⟨y, hy, hr⟩ := hc i j row c h1 h2
      rw [List.getElem?_map] at h3
      have hi : i < rows.length := (List.getElem?_eq_some_iff.1 h1).1
      have hj : j < k := by rw [← hk row (List.mem_of_getElem? h1)]; exact (List.getElem?_eq_some_iff.1 h2).1
      have := lt_of_div hi hj
      simp [this, hy] at h3
      subst h3; exact hr
    · rw [List.getElem?_map] at hv
      by_cases hj : j < rows.length * k
      · have hk0 : 0 < k := by rcases Nat.eq_zero_or_pos k with e | e; · subst e; simp at hj
                               · exact e
        have hi : j / k < rows.length := by rw [Nat.div_lt_iff_lt_mul hk0]; exact hj
        have hm : j % k < k := Nat.mod_lt _ hk0
        have hrk := hk rows[j / k] (List.getElem_mem hi)
        obtain ⟨y, hy, _⟩ := hc (j / k) (j % k) rows[j / k] (rows[j / k][j % k]'(by omega)) (by simp [hi]) (by simp [hrk, hm])
        have e : j / k * k + j % k = j := by rw [Nat.mul_comm]; exact Nat.div_add_mod j k
        rw [e] at hy
        simp [hj, hy] at hv
        rw [hy, hv]
      · simp [hj] at hv
  unfold rowsOf at h
  split at h
  · cases h
    rcases hx.sl_inv with ⟨er, ex⟩ | ⟨b, off, cap, k, ex, hcap, _, hk, hst, hp, hrel⟩
    · exact .inl ⟨er, 0, ex⟩
    · refine .inr ⟨b, off, cap, k, ?_⟩
      obtain ⟨cells, h1, h2⟩ := build b off k _ hk fun i j row c h1 h2 => by
        have hi := (List.getElem?_eq_some_iff.1 h1).1
        have hj : j < k := by rw [← hk row (List.mem_of_getElem? h1)]; exact (List.getElem?_eq_some_iff.1 h2).1
        have := hp i j hi hj
        cases hq : g.perm b (off + i * k + j) with
        | none => simp [hq] at this
        | some y => exact ⟨y, by rw [← Nat.add_assoc]; exact hw.perm _ _ _ hq, hrel i j row c y h1 h2 hq⟩
      exact ⟨cells, ex, hcap, h1, fun row hm => all_still_cellOk (hst row hm), h2⟩
  · split at h
    · rename_i o v n _ v' k rows' hH
      split at h
      · rename_i hc
        cases h
        obtain ⟨rfl, hlen⟩ := hc
        cases hx with
        | sr o v n l b cap hl hv hn hh =>
          have hst : l.st = v' := by
            have := hw.st o _ l hH hl
            simp only [AObj.ver] at this
            omega
          obtain ⟨h0, hlk, hcap, _, hk, _, hcell⟩ := hw.obj o l _ ⟨hH, rfl, hl, hst⟩
          obtain ⟨rfl, rfl⟩ := hh hst (by omega)
          refine .inr ⟨l.b, 0, l.cap, k, ?_⟩
          obtain ⟨cells, h1, h2⟩ := build l.b 0 k _ hk fun i j row c h1 h2 => by
            obtain ⟨_, y, hy, hr⟩ := hcell i j row c h1 h2
            exact ⟨y, by rw [Nat.zero_add]; exact hy, hr⟩
          refine ⟨cells, by rw [hlen], by omega, h1, fun row hm => ?_, h2⟩
          obtain ⟨i, hi⟩ := List.mem_iff_getElem?.1 hm
          rw [List.all_eq_true]
          intro c hc
          obtain ⟨j, hj⟩ := List.mem_iff_getElem?.1 hc
          exact (hcell i j row c hi hj).1
      · cases h
    · cases h
  · cases h
theorem LRel.nil : LRel g [] [] := ⟨rfl, fun i c x h _ => by simp at h⟩
theorem VRel.ep_new {row : List AV} {b : Nat} {cells : Array Value} (hst : row.all AV.still = true) (h : LRel (g.addPerm b fun i => cells[i]?) row cells.toList) :
    VRel (g.addPerm b fun i => cells[i]?) (.ep row 0) (.pointer (some ⟨b, 0, none⟩)) := by
  refine .ep row 0 b 0 hst (fun j hj => ?_) fun j c x hc hx => ?_
  · have := h.1
    simp at this
    simp only [G.addPerm, if_true, Nat.zero_add]
    rw [Array.getElem?_eq_getElem (by omega)]; rfl
  · simp only [G.addPerm, if_true, Nat.zero_add] at hx
    exact h.2 j c x hc (by simpa using hx)
theorem r_alloc {t : TypeId} {zs : List AV} (hz : zeroCells? P t = some zs) {av : AV} (h : evR H ρ (.alloc zs) = some av) (hw : WF g H w) :
    Gives P ⟨dst, .alloc t, type, pos, after, guard⟩ a w (QPost g H w av) := by
  simp only [evR] at h
  split at h
  · rename_i hst
    cases h
    obtain ⟨it, z, hi, hzz, hzr⟩ := zeroCells?_spec hz
    have hstep := Step.allocPerm (w' := w.alloc (.cells z.cells t)) hw z.cells t (0, 0) rfl
    refine gives_of (v := .pointer (some ⟨w.heap.size, 0, none⟩)) (w' := w.alloc (.cells z.cells t)) ?_ ⟨_, hstep, VRel.ep_new (map_strip1_still hst) (hzr _).strip1⟩
    simp [execOp, Instr.alloc, zeroValue, typeInfo, hi, hzz, newVar, newRow]
  · cases h
theorem r_box {t : TypeId} {k : Nat} {X : Operand} {x : AOpd} (hx : opnd glob X = some x) {av : AV} (h : evR H ρ (.box k x) = some av)
    (hw : WF g H w) (hg : GlobOk glob g) (hs : SlotRel g ρ a.tmps) : Gives P ⟨dst, .box t X, type, pos, after, guard⟩ a w (QPost g H w av) := by
  simp only [evR] at h
  split at h
  · rename_i hc
    cases h
    have hl := (opnd_sound hx hg hs).strip.cells (all_still_cellOk hc.2)
    have hstep := Step.allocPerm (w' := w.alloc (.cells (a.eval X).cells t)) hw (a.eval X).cells t (0, 0) rfl
    refine gives_of (v := .pointer (some ⟨w.heap.size, 0, none⟩)) (w' := w.alloc (.cells (a.eval X).cells t)) ?_ ⟨_, hstep, VRel.ep_new hc.2 (hl.mono hstep.le)⟩
    simp [execOp, Instr.box, newVar, newRow]
  · cases h
theorem r_mkf {f : Nat} {F C : Array Operand} {first caps : List AOpd} (hf : opnds glob F.toList = some first) (hc : opnds glob C.toList = some caps) {av : AV} (h : evR H ρ (.mkf f first caps) = some av)
    (hw : WF g H w) (hg : GlobOk glob g) (hs : SlotRel g ρ a.tmps) : Gives P ⟨dst, .makeFunc (.func f) F C, type, pos, after, guard⟩ a w (QPost g H w av) := by
  simp only [evR] at h
  split at h
  · cases h
    have h1 := (opnds_sound hf hg hs).strip1
    have h2 := (opnds_sound hc hg hs).strip1
    rw [List.map_map] at h1 h2
    refine gives_of (v := .func (.func f) (F.map a.eval) (C.map a.eval)) (w' := w) (by simp [execOp, Instr.makeFunc]) (.same hw (.fn f _ _ _ _ ?_ ?_ ?_ ?_))
    · have := h1.1; simpa using this
    · have := h2.1; simpa using this
    · intro i c x h3 h4; exact h1.2 i c x h3 (by simpa using h4)
    · intro i c x h3 h4; exact h2.2 i c x h3 (by simpa using h4)
  · cases h
theorem mm2_sound {mx : Bool} {x y z : AV} (h : mm2 mx x y = some z) {u v : Value} (hx : VRel g x u) (hy : VRel g y v) :
    ∃ c, (if mx then Builtin.max2 u v else Builtin.min2 u v).run P w = .ok c w ∧ VRel g z c := by
  unfold mm2 at h
  split at h
  · split at h
    · rename_i e
      subst e
      cases h
      cases hx.int_inv; cases hy.int_inv
      cases mx
      · exact ⟨_, by simp only [Bool.false_eq_true, if_false, Builtin.min2, Sem.run_pure], .int _ _⟩
      · exact ⟨_, by simp only [if_true, Builtin.max2, Sem.run_pure], .int _ _⟩
    · cases h
  · cases h
theorem mmFold_sound {mx : Bool} : ∀ (l : List AV) (x z : AV), mmFold mx x l = some z → ∀ (u : Value) (vs : List Value), VRel g x u → LRel g l vs →
    ∃ c, (vs.foldlM (fun p q => if mx then Builtin.max2 p q else Builtin.min2 p q) u).run P w = .ok c w ∧ VRel g z c
  | [], x, z, h, u, vs, hx, hl => by
    simp only [mmFold, Option.some.injEq] at h
    subst h
    have : vs = [] := List.eq_nil_of_length_eq_zero (by have := hl.1; simpa using this.symm)
    subst this
    exact ⟨u, by simp, hx⟩
  | y :: l, x, z, h, u, vs, hx, hl => by
    simp only [mmFold] at h
    split at h
    · rename_i z1 hz
      cases vs with
      | nil => have := hl.1; simp at this
      | cons v vs =>
        obtain ⟨c, h1, h2⟩ := mm2_sound (P := P) (w := w) hz hx (hl.2 0 y v rfl rfl)
        obtain ⟨c', h3, h4⟩ := mmFold_sound l z1 z h c vs h2 ⟨by have := hl.1; simpa using this, fun i a b ha hb => hl.2 (i + 1) a b (by simpa using ha) (by simpa using hb)⟩
        refine ⟨c', ?_, h4⟩
        simp only [List.foldlM_cons, Sem.run_bind, h1, Result.andThen_ok, h3]
    · cases h
theorem r_mm {mx : Bool} {ty : TypeId} {ts : Array TypeId} {X : Array Operand} {xs : List AOpd} (hx : opnds glob X.toList = some xs) {av : AV} (h : evR H ρ (.mm mx xs) = some av)
    (hw : WF g H w) (hg : GlobOk glob g) (hs : SlotRel g ρ a.tmps) : Gives P ⟨dst, .call { callee := .builtin (if mx then .max else .min), args := X, argTypes := ts }, ty, pos, after, guard⟩ a w (QPost g H w av) := by
  have hl := opnds_sound hx hg hs
  simp only [evR] at h
  generalize hxs : xs.map (AOpd.ev ρ) = l at h hl
  cases l with
  | nil => simp [mmV] at h
  | cons y r =>
    simp only [mmV] at h
    generalize hvs : X.toList.map a.eval = vs at hl
    cases vs with
    | nil => have := hl.1; simp at this
    | cons v vs =>
      obtain ⟨c, h1, h2⟩ := mmFold_sound (P := P) (w := w) (mx := mx) r y av h v vs (hl.2 0 y v rfl rfl) ⟨by have := hl.1; simpa using this, fun i a b ha hb => hl.2 (i + 1) a b (by simpa using ha) (by simpa using hb)⟩
      refine gives_of (v := c) (w' := w) ?_ (.same hw h2)
      have harr : (X.map a.eval).toList = v :: vs := by rw [Array.toList_map]; exact hvs
      cases mx
      · simp only [Bool.false_eq_true, if_false] at h1
        simp [execOp, resolve, invoke, builtin, Builtin.min_, hvs, h1]
      · simp only [if_true] at h1
        simp [execOp, resolve, invoke, builtin, Builtin.max_, hvs, h1]
theorem bytesOfRows_spec : ∀ {rows : List (List AV)} {l : List UInt8}, bytesOfRows rows = some l → ∃ ns : List Int, rows = ns.map (fun n => [AV.int .u8 n]) ∧ l = ns.map fun n => UInt8.ofNat n.toNat
  | [], l, h => by simp only [bytesOfRows, Option.some.injEq] at h; subst h; exact ⟨[], rfl, rfl⟩
  | row :: r, l, h => by
    unfold bytesOfRows at h
    split at h
    · simp_all
    · rename_i n r' e
      obtain ⟨l', hl', rfl⟩ := map_some h
      cases e
      obtain ⟨ns, rfl, rfl⟩ := bytesOfRows_spec hl'
      exact ⟨n :: ns, rfl, rfl⟩
    · cases h
theorem foldl_push (ns : List Int) : ∀ s : ByteArray, (ns.foldl (fun r n => r.push (UInt8.ofNat n.toNat)) s).data.toList = s.data.toList ++ ns.map fun n => UInt8.ofNat n.toNat := by
  induction ns with
  | nil => intro s; simp
  | cons n ns ih =>
    intro s
    simp only [List.foldl_cons, ih, List.map_cons]
    show (s.data.push _).toList ++ _ = _
    simp
theorem bytesWorld_heap (w : World) (e : TypeId) (s : ByteArray) : (Lib.bytesWorld w e s).heap = w.heap.push (.cells (Lib.bytesCells w e s) e ((Lib.bytesCells w e s).size, (Lib.bytesCells w e s).size + 1)) := by
  apply Array.ext_getElem?
  intro i
  rw [Array.getElem?_push]
  rcases Nat.lt_trichotomy i w.heap.size with h | h | h
  · have : i ≠ w.heap.size := by omega
    rw [Lib.bytesWorld_at_old w e s i h]
    simp [this]
  · subst h
    rw [Lib.bytesWorld_at_new]
    simp
  · have : i ≠ w.heap.size := by omega
    rw [Array.getElem?_eq_none (by rw [Lib.bytesWorld_size]; omega), if_neg this, Array.getElem?_eq_none (by omega)]
theorem isU8_spec {e : TypeId} (h : isU8 P e = true) : P.underlying e = some (.int .u8) ∧ size? P e = some 1 := by
  unfold isU8 at h
  split at h
  · rename_i hd; exact ⟨hd, by simpa using h⟩
  · cases h
theorem r_conv {src d : TypeId} {c : AConv} {X : Operand} {x : AOpd} (hc : convK P src d = some c) (hx : opnd glob X = some x) {av : AV} (h : evR H ρ (.conv c x) = some av)
    (hw : WF g H w) (hg : GlobOk glob g) (hs : SlotRel g ρ a.tmps) : Gives P ⟨dst, .convert src d X, type, pos, after, guard⟩ a w (QPost g H w av) := by
  have hr := opnd_sound hx hg hs
  simp only [evR] at h
  unfold convK at hc
  generalize hxv : x.ev ρ = xv at h hr
  split at hc
  · rename_i k0 k h1 h2
    cases hc
    cases xv <;> simp [convV] at h
    subst h
    have e := hr.int_inv
    exact gives_of (w' := w) (v := .int k (k.wrap _)) (by simp [execOp, convert, run_underlying h1, run_underlying h2, e, Conv.intToInt]) (.same hw (.int _ _))
  · rename_i k0 h1 h2
    cases hc
    cases xv <;> simp [convV] at h
    rename_i k n
    obtain ⟨hn, rfl⟩ := h
    have e := hr.int_inv
    refine gives_of (w' := w) (v := .string (Utf8.encode n)) (by simp [execOp, convert, run_underlying h1, run_underlying h2, e, Conv.intToString]) (.same hw ?_)
    have hen : (Utf8.encode n).data.toList = [UInt8.ofNat n.toNat] := by
      have hv : Utf8.valid n = true := by unfold Utf8.valid; simp; omega
      have hlt : n.toNat < 128 := by omega
      simp [Utf8.encode, hv, hlt]
    rw [← hen]
    exact .str _
  · rename_i h1 h2
    cases hc
    cases xv <;> simp [convV] at h
    subst h
    obtain ⟨s, e, hs'⟩ := hr.str_inv
    exact gives_of (w' := w) (v := .string s) (by simp [execOp, convert, run_underlying h1, run_underlying h2, e]) (.same hw (e ▸ hr))
  · rename_i e h1 h2
    split at hc
    · rename_i hu
      cases hc
      obtain ⟨hu1, hu2⟩ := isU8_spec hu
      cases xv <;> simp [convV] at h
      rename_i l
      obtain ⟨hlen, rfl⟩ := h
      obtain ⟨s, ex, hs'⟩ := hr.str_inv
      have hstep := Step.allocPerm (w' := Lib.bytesWorld w e s) hw _ e _ (bytesWorld_heap w e s)
      refine gives_of (w' := Lib.bytesWorld w e s) (v := .slice (some ⟨w.heap.size, 0, none⟩) s.size (grownCap w s.size 0 e)) ?_ ⟨_, hstep, ?_⟩
      · simp only [execOp, ex, Sem.run_bind, Lib.run_convert_string_bytes w src d e s h1 h2 hu1, Result.andThen_ok, Sem.run_pure]
      · have hl : (rowsOfBytes l).length = s.size := by rw [str_size hs']; simp [rowsOfBytes]
        rw [← hl]
        refine VRel.sl_new (k := 1) ?_ (by rw [hl]; exact grownCap_ge w s.size 0 e) (by simp) ⟨?_, ?_, ?_⟩
        · simp [rowsOfBytes, AV.still]
        · have := grownCap_ge w s.size 0 e
          have h4 : s.data.size = s.size := rfl
          rw [hl]; simp [Lib.bytesCells, h4]
        · intro row hm
          simp only [rowsOfBytes, List.mem_map] at hm
          obtain ⟨b, _, rfl⟩ := hm
          rfl
        · intro i j row c y h3 h4 h5
          simp only [rowsOfBytes, List.getElem?_map] at h3
          cases hb : l[i]? with
          | none => simp [hb] at h3
          | some b =>
            simp [hb] at h3
            subst h3
            cases j with
            | succ j => simp at h4
            | zero =>
              simp at h4
              subst h4
              have hi : i < l.length := (List.getElem?_eq_some_iff.1 hb).1
              rw [← hs'] at hb
              rw [List.getElem?_take, hl] at h5
              have hi' : i < s.size := by rw [str_size hs']; exact hi
              have hi2 : i < s.data.size := hi'
              have hi3 : i < s.data.toList.length := by simpa using hi2
              simp only [Nat.mul_one, Nat.add_zero, hi', if_true, Lib.bytesCells, Array.toList_append, Array.toList_map, List.getElem?_append, List.length_map, hi3, List.getElem?_map, List.getElem?_eq_getElem hi3, Option.map_some, Option.some.injEq, Array.getElem_toList] at h5
              rw [Array.getElem?_toList, Array.getElem?_eq_getElem hi2] at hb
              cases hb
              rw [← h5]
              exact .int _ _
    · cases hc
  · rename_i e h1 h2
    split at hc
    · rename_i hu
      cases hc
      obtain ⟨hu1, hu2⟩ := isU8_spec hu
      simp only [convV] at h
      cases hrows : rowsOf H xv with
      | none => simp [hrows] at h
      | some rows =>
        simp only [hrows] at h
        obtain ⟨l, hl, rfl⟩ := map_some h
        obtain ⟨ns, hns, rfl⟩ := bytesOfRows_spec hl
        have hun : ∀ A n c, (convert src d (.slice A n c)).run P w = (Conv.bytesToString (.slice A n c)).run P w := fun A n c => by
          simp [convert, run_underlying h1, run_underlying h2, run_underlying hu1]
        rcases rowsOf_sound hw hrows hr with ⟨er, cap, ex⟩ | ⟨b, off, cap, k, cells, ex, hcap, hrr, hst, hcell⟩
        · subst er
          have : ns = [] := by cases ns with | nil => rfl | cons n ns => simp at hns
          subst this
          refine gives_of (w' := w) (v := .string .empty) ?_ (.same hw (.str' rfl))
          simp only [execOp, ex, Sem.run_bind, hun, Conv.bytesToString, Sem.run_pure, Result.andThen_ok]
        · have hcells : cells = ns.map (Value.int .u8) := by
            by_cases hne : ns = []
            · subst hne
              have := hrr.len
              rw [hns] at this
              simpa using this
            · have hk1 : k = 1 := by
                cases ns with
                | nil => exact absurd rfl hne
                | cons n ns => have := hrr.row [.int .u8 n] (by rw [hns]; simp); simp at this; exact this.symm
              subst hk1
              have hlen := hrr.len
              rw [hns] at hlen
              simp at hlen
              apply List.ext_getElem?
              intro i
              rw [List.getElem?_map]
              by_cases hi : i < ns.length
              · have h3 : cells[i]? = some (cells[i]'(by omega)) := by simp [hlen, hi]
                have h4 := hrr.rel i 0 [.int .u8 ns[i]] (.int .u8 ns[i]) (cells[i]'(by omega)) (by rw [hns]; simp [hi]) rfl (by simp)
                rw [h3]
                simp [hi, h4.int_inv]
              · simp [hi, hlen]
          have hld := run_loadCells_list (P := P) w ⟨b, off, none⟩ cells (fun j v hv => by rw [add_none]; exact hcell j v hv)
          have hlenr : rows.length = ns.length := by rw [hns]; simp
          have hlc : cells.length = rows.length := by rw [hcells, hlenr]; simp
          rw [hlc] at hld
          have hb := run_bytesToString (P := P) w ⟨b, off, none⟩ rows.length cap ns (by rw [hld, hcells])
          refine gives_of (w' := w) ?_ (.same hw (.str' (foldl_push ns ByteArray.empty)))
          simp only [execOp, ex, Sem.run_bind, hun, hb, Result.andThen_ok, Sem.run_pure]
    · cases hc
  · cases hc
end
end Go.Proofs.AM
end
section
namespace Go.Proofs.AM
open Go Go.MapKept
section
variable {P : Program} {glob : Nat → Option (List AV)} {g : G} {H : List AObj} {w w' : World} {ρ : List AV} {a : Act}
variable {dst : Option Tmp} {type : TypeId} {pos : String} {after : Array Edge} {guard : Option (Nat × Bool)}
def ERel (g : G) (es : List (AV × AV)) (xs : List MapEntry) : Prop :=
  es.length = xs.length ∧ ∀ (i : Nat) k v e, es[i]? = some (k, v) → xs[i]? = some e → VRel g k e.key ∧ VRel g v e.val
theorem ERel.tail {k v : AV} {es : List (AV × AV)} {e : MapEntry} {xs : List MapEntry} (h : ERel g ((k, v) :: es) (e :: xs)) : ERel g es xs :=
  ⟨by simpa using h.1, fun i k v e h1 h2 => h.2 (i + 1) k v e (by simpa using h1) (by simpa using h2)⟩
theorem findKey_sound {K : IntKind} {key : AV} {x : Value} (hx : VRel g key x) : ∀ (es : List (AV × AV)) (xs : List MapEntry) (i : Nat) (r : Option (Nat × AV)), ERel g es xs → findKey key es i = some r →
    match r with
    | none => Instr.findNow (.int K) x xs i = some none
    | some (j, v) => ∃ j' e k n, j = i + j' ∧ xs[j']? = some e ∧ es[j']? = some (.int k n, v) ∧ key = .int k n ∧ Instr.findNow (.int K) x xs i = some (some (j, e.val))
  | [], xs, i, r, hr, h => by
    simp only [findKey, Option.some.injEq] at h
    subst h
    have := hr.1
    cases xs with
    | nil => rfl
    | cons _ _ => simp at this
  | (k', v) :: es, xs, i, r, hr, h => by
    cases xs with
    | nil => have := hr.1; simp at this
    | cons e xs =>
      obtain ⟨hk, hv⟩ := hr.2 0 k' v e rfl rfl
      unfold findKey at h
      split at h
      · rename_i he
        cases h
        unfold eqKey at he
        split at he
        · rename_i k a k2 b
          split at he
          · rename_i hkk
            subst hkk
            simp at he
            subst he
            cases hx
            cases hk' : e.key <;> rw [hk'] at hk <;> cases hk
            exact ⟨0, e, k, a, rfl, rfl, rfl, rfl, by simp [Instr.findNow, hk', Instr.sameNow]⟩
          · cases he
        · cases he
      · rename_i he
        have ih := findKey_sound (K := K) hx es xs (i + 1) r hr.tail h
        have hnow : Instr.sameNow (.int K) x e.key = some false := by
          unfold eqKey at he
          split at he
          · rename_i k a k2 b
            split at he
            · rename_i hkk
              subst hkk
              simp at he
              cases hx
              cases hk' : e.key <;> rw [hk'] at hk <;> cases hk
              simp [Instr.sameNow, he]
            · cases he
          · cases he
        have hstep : Instr.findNow (.int K) x (e :: xs) i = Instr.findNow (.int K) x xs (i + 1) := by
          simp [Instr.findNow, hnow]
        cases r with
        | none => simp only at ih ⊢; rw [hstep]; exact ih
        | some jv =>
          obtain ⟨j, v'⟩ := jv
          simp only at ih ⊢
          obtain ⟨j', e', k, n, h1, h2, h3, h4, h5⟩ := ih
          exact ⟨j' + 1, e', k, n, by omega, by simpa using h2, by simpa using h3, h4, by rw [hstep]; exact h5⟩
      · cases h
theorem run_checkKey_int {kt : TypeId} {K : IntKind} (hd : P.underlying kt = some (.int K)) (b : Bool) (n : Nat) (x : Value) : (Instr.checkKey b (n + 1) kt x).run P w = .ok () w := by
  unfold Instr.checkKey
  simp only [Sem.run_bind, run_underlying hd, Result.andThen]
  cases x <;> rfl
theorem mp_backed (hw : WF g H w) {o v v' : Nat} {es : List (AV × AV)} (ho : H[o]? = some (.map v' es)) (hv : v' = v) {x : Value} (hx : VRel g (.mp o v) x) :
    ∃ l entries clock, Backed g H o l (.map v es) ∧ x = .map (some l.b) ∧ w.heap[l.b]? = some (.map entries clock) ∧ ERel g es entries.toList ∧ l.len = 0 := by
  subst hv
  cases hx with
  | mp _ _ l r hl hv h =>
    have hst : l.st = v' := by have := hw.st o _ l ho hl; simp only [AObj.ver] at this; omega
    have hb : Backed g H o l (.map v' es) := ⟨ho, rfl, hl, hst⟩
    obtain ⟨h0, entries, clock, h2, h3, h4⟩ := hw.obj o l _ hb
    refine ⟨l, entries, clock, hb, by rw [h hst h0], h2,⟨by simpa using h3, fun i k v e h5 h6 => h4 i k v e h5 (by simpa using h6)⟩, h0⟩
theorem zeroV?_spec {t : TypeId} {z : AV} (h : zeroV? P t = some z) : ∃ zv, (∀ w, (zeroValue t).run P w = .ok zv w) ∧ ∀ g, VRel g z zv := by
  unfold zeroV? at h
  cases hi : P.info? t with
  | none => rw [hi] at h; simp at h
  | some i =>
    rw [hi] at h
    simp only [Option.bind_some] at h
    cases hz : i.zero with
    | none => rw [hz] at h; simp at h
    | some zv =>
      rw [hz] at h
      simp only [Option.bind_some] at h
      exact ⟨zv, fun w => by simp [zeroValue, typeInfo, hi, hz], fun g => ofV_sound h g⟩
theorem VRel.tup2 {b c : AV} {x y : Value} (h1 : VRel g b x) (h2 : VRel g c y) : VRel g (.tup [b, c]) (.tuple #[x, y]) := by
  refine VRel.tup _ _ rfl fun i a z ha hz => ?_
  match i with
  | 0 => simp at ha hz; subst ha; subst hz; exact h1
  | 1 => simp at ha hz; subst ha; subst hz; exact h2
  | i + 2 => simp at ha
theorem r_look {t kt et : TypeId} {K : IntKind} {M X : Operand} {m k : AOpd} {zero : AV} {ok : Bool} (ht : P.underlying t = some (.map kt et)) (hk : P.underlying kt = some (.int K)) (hz : zeroV? P et = some zero)
    (hM : opnd glob M = some m) (hX : opnd glob X = some k) {av : AV} (h : evR H ρ (.look zero m k ok) = some av) (hw : WF g H w) (hg : GlobOk glob g) (hs : SlotRel g ρ a.tmps) :
    Gives P ⟨dst, .lookup t M X ok, type, pos, after, guard⟩ a w (QPost g H w av) := by
  have hm := opnd_sound hM hg hs
  have hx := opnd_sound hX hg hs
  simp only [evR] at h
  split at h
  · rename_i o v e
    rw [e] at hm
    split at h
    · rename_i v' es ho
      split at h
      · rename_i hv
        obtain ⟨l, entries, clock, hb, hmv, hheap, hrel, _⟩ := mp_backed hw ho hv hm
        obtain ⟨zv, hz1, hz2⟩ := zeroV?_spec hz
        have hck : ∀ b, (Instr.checkKey b 10000 kt (a.eval X)).run P w = .ok () w := fun b => run_checkKey_int hk b 9999 (a.eval X)
        split at h
        · rename_i j x hf
          obtain ⟨j', e', k', n, h1, h2, h3, h4, h5⟩ := findKey_sound (K := K) hx es entries.toList 0 _ hrel hf
          have hval := (hrel.2 j' _ _ e' h3 h2).2
          have hfk := run_findKey (w := w) hk h5
          have hrun : (Instr.lookup t (a.eval M) (a.eval X) ok).run P w = .ok (if ok then .tuple #[e'.val, .bool true] else e'.val) w := by
            simp [Instr.lookup, run_underlying ht, hmv, MapKept.run_getObj_map hheap, hck, hfk, Result.andThen]
          refine gives_of (v := if ok then .tuple #[e'.val, .bool true] else e'.val) (w' := w) (by simp [execOp, hrun]) (.same hw ?_)
          cases ok with
          | true => simp at h; subst h; exact VRel.tup2 hval (.bool true)
          | false => simp at h; subst h; exact hval
        · rename_i hf
          have h5 := findKey_sound (K := K) hx es entries.toList 0 _ hrel hf
          have hfk := run_findKey (w := w) hk h5
          have hrun : (Instr.lookup t (a.eval M) (a.eval X) ok).run P w = .ok (if ok then .tuple #[zv, .bool false] else zv) w := by
            simp [Instr.lookup, run_underlying ht, hmv, MapKept.run_getObj_map hheap, hck, hfk, hz1, Result.andThen]
          refine gives_of (v := if ok then .tuple #[zv, .bool false] else zv) (w' := w) (by simp [execOp, hrun]) (.same hw ?_)
          cases ok with
          | true => simp at h; subst h; exact VRel.tup2 (hz2 g) (.bool false)
          | false => simp at h; subst h; exact hz2 g
        · cases h
      · cases h
    · cases h
  · cases h
theorem isNilSl_spec {t : TypeId} {Y : Operand} (h : isNilSl P t Y = true) : (∃ e, P.underlying t = some (.slice e)) ∧ Y = .const (.slice none 0 0) := by
  unfold isNilSl at h
  split at h
  · rename_i e he
    exact ⟨⟨e, he⟩, rfl⟩
  · cases h
theorem r_isnil {t yt : TypeId} {op : BinOp} {X Y : Operand} {x : AOpd} (hx : opnd glob X = some x) (hn : isNilSl P t Y = true) {neg : Bool} (hop : (op = .eql ∧ neg = false) ∨ (op = .neq ∧ neg = true)) {av : AV}
    (h : evR H ρ (.isnil neg x) = some av) (hw : WF g H w) (hg : GlobOk glob g) (hs : SlotRel g ρ a.tmps) :
    Gives P ⟨dst, .binOp op t X Y yt, type, pos, after, guard⟩ a w (QPost g H w av) := by
  obtain ⟨⟨e, ht⟩, rfl⟩ := isNilSl_spec hn
  have hv := opnd_sound hx hg hs
  have key : ∀ (b : Addr) n c, a.eval X = .slice (some b) n c → av = .bool neg → Gives P ⟨dst, .binOp op t X (.const (.slice none 0 0)) yt, type, pos, after, guard⟩ a w (QPost g H w av) := by
    intro b n c e1 e2
    subst e2
    have hq : ∀ d, (Op.equalIn (d + 1) t (.slice (some b) n c) (.slice none 0 0)).run P w = .ok false w := fun d => by simp [Op.equalIn, run_underlying ht]
    have hq' : (Op.equal t (.slice (some b) n c) (.slice none 0 0)).run P w = .ok false w := hq 9999
    have hgd : (eqGuard op t X (.const (.slice none 0 0)) (.slice (some b) n c) (.slice none 0 0)).run P w = .ok () w := by simp [eqGuard_at_slice]
    have hev : a.eval (.const (.slice none 0 0)) = .slice none 0 0 := rfl
    refine gives_of (v := .bool neg) (w' := w) ?_ (.same hw (.bool neg))
    rcases hop with ⟨rfl, rfl⟩ | ⟨rfl, rfl⟩
    · simp [execOp, e1, hev, hgd, binOp, hq']
    · simp [execOp, e1, hev, hgd, binOp, hq']
  simp only [evR] at h
  split at h
  · rename_i f r rs e1
    rw [e1] at hv
    cases h
    generalize hz : a.eval X = z at hv
    cases hv with
    | sl full rows b off cap k => exact key _ _ _ hz rfl
  · rename_i o v n e1
    rw [e1] at hv
    cases h
    generalize hz : a.eval X = z at hv
    cases hv
    exact key _ _ _ hz rfl
  · cases h
end
end Go.Proofs.AM
end
