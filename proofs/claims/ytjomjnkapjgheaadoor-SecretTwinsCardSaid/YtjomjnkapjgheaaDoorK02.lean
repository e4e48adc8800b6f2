/- Part 2 of the proof that stands in the last text of this folder (lemmas; no statement of its own). -/
import Derived.Test.YtjomjnkapjgheaaDoorK01
import Derived.WalkKit
section
namespace Go.Proofs.AM
open Go
theorem WF.of_heap {g : G} {H : List AObj} {w w' : World} (h : WF g H w) (e : w'.heap = w.heap) (io : w'.os = w.os ∧ w'.output = w.output := by exact ⟨rfl, rfl⟩) : WF g H w' := by
  have hc : ∀ a, w'.cell? a = w.cell? a := fun a => by simp only [World.cell?, e]
  refine ⟨fun b i x hx => by rw [hc]; exact h.perm b i x hx, h.lt, fun o l hl => by rw [e]; exact h.blk o l hl, h.st, fun o l x hb => ?_, h.priv, h.inj, h.whole.keep rfl rfl io (fun b _ _ => by rw [e]) fun o l hl => .inr ⟨o, l, hl, rfl⟩⟩
  exact (h.obj o l x hb).keep (G.le.refl g) (by rw [e])
theorem Frame.refl (g : G) (wr : List Nat) (w : World) : Frame g wr w w := ⟨Nat.le_refl _, fun _ _ _ => rfl⟩
theorem Step.refl {g : G} {H : List AObj} {w : World} (h : WF g H w) : Step g H w g H w [] :=
  ⟨G.le.refl g, h, Frame.refl g _ w, fun _ _ _ => rfl, Nat.le_refl _, fun _ l' hl => .inr ⟨l', hl, rfl⟩, fun _ _ _ => rfl⟩
theorem Step.of_heap {g : G} {H : List AObj} {w w' : World} (h : WF g H w) (e : w'.heap = w.heap) (io : w'.os = w.os ∧ w'.output = w.output := by exact ⟨rfl, rfl⟩) : Step g H w g H w' [] :=
  ⟨G.le.refl g, h.of_heap e io,⟨by rw [e]; exact Nat.le_refl _, fun _ _ _ => by rw [e]⟩, fun _ _ _ => rfl, Nat.le_refl _, fun _ l' hl => .inr ⟨l', hl, rfl⟩, fun _ _ _ => rfl⟩
theorem Step.trans {g g1 g2 : G} {H H1 H2 : List AObj} {w w1 w2 : World} {a b : List Nat} (h : Step g H w g1 H1 w1 a) (h' : Step g1 H1 w1 g2 H2 w2 b) :
    Step g H w g2 H2 w2 (a ++ b) := by
  refine ⟨h.le.trans h'.le, h'.wf,⟨Nat.le_trans h.frame.1 h'.frame.1, fun x hx ho => ?_⟩, fun o hl ho => ?_, Nat.le_trans h.len h'.len, fun o l' hl => ?_, fun o hl ho => ?_⟩
  · rw [← h.frame.2 x hx fun o hm l hl => ho o (List.mem_append_left _ hm) l hl]
    refine h'.frame.2 x (Nat.lt_of_lt_of_le hx h.frame.1) fun o hm l hl => ?_
    rcases h.track o l hl with hge | ⟨l0, h0, e0⟩
    · omega
    · rw [← e0]; exact ho o (List.mem_append_right _ hm) l0 h0
  · simp only [List.mem_append, not_or] at ho
    rw [h'.same o (Nat.lt_of_lt_of_le hl h.len) ho.2, h.same o hl ho.1]
  · rcases h'.track o l' hl with hge | ⟨l0, h0, e0⟩
    · exact .inl (Nat.le_trans h.frame.1 hge)
    · rcases h.track o l0 h0 with hge | ⟨l1, h1, e1⟩
      · exact .inl (by omega)
      · exact .inr ⟨l1, h1, by omega⟩
  · simp only [List.mem_append, not_or] at ho
    rw [h'.keep o (Nat.lt_of_lt_of_le hl h.len) ho.2, h.keep o hl ho.1]
theorem Frame.weaken {g : G} {wr wr' : List Nat} {w w' : World} (h : Frame g wr w w') (hs : ∀ o ∈ wr, o ∈ wr') : Frame g wr' w w' :=
  ⟨h.1, fun b hb ho => h.2 b hb fun o hm => ho o (hs o hm)⟩
theorem Step.weaken {g g' : G} {H H' : List AObj} {w w' : World} {wr wr' : List Nat} (h : Step g H w g' H' w' wr) (hs : ∀ o ∈ wr, o ∈ wr') : Step g H w g' H' w' wr' :=
  ⟨h.le, h.wf, h.frame.weaken hs, fun o hl ho => h.same o hl fun hm => ho (hs o hm), h.len, h.track, fun o hl ho => h.keep o hl fun hm => ho (hs o hm)⟩
theorem WF.perm_lt {g : G} {H : List AObj} {w : World} (h : WF g H w) {b i : Nat} {x : Value} (hx : g.perm b i = some x) : b < w.heap.size :=
  World.block_lt_of_cell? (a := ⟨b, i, none⟩) w (h.perm b i x hx)
def G.addPerm (g : G) (b : Nat) (f : Nat → Option Value) : G := { g with perm := fun b' i => if b' = b then f i else g.perm b' i }
theorem alloc_heap_old {w w' : World} {o : Obj} {b : Nat} (e : w'.heap = w.heap.push o) (h : b < w.heap.size) : w'.heap[b]? = w.heap[b]? := by
  rw [e, Array.getElem?_push]
  have : b ≠ w.heap.size := by omega
  simp [this]
theorem Step.allocPerm {g : G} {H : List AObj} {w w' : World} (h : WF g H w) (c : Array Value) (t : TypeId) (fz : Nat × Nat)
    (e : w'.heap = w.heap.push (.cells c t fz)) (io : w'.os = w.os ∧ w'.output = w.output := by exact ⟨rfl, rfl⟩) : Step g H w (g.addPerm w.heap.size fun i => c[i]?) H w' [] := by
  have hle : g.le (g.addPerm w.heap.size fun i => c[i]?) := by
    refine ⟨fun b i x hx => ?_, fun o l hl => ⟨l, hl, Nat.le_refl _, fun _ => ⟨Nat.le_refl _, fun _ => rfl⟩⟩, fun _ _ hx => hx, rfl⟩
    have := h.perm_lt hx
    have hne : b ≠ w.heap.size := by omega
    simp only [G.addPerm, hne, if_false]
    exact hx
  have hbk : ∀ o l x, Backed (g.addPerm w.heap.size fun i => c[i]?) H o l x → Backed g H o l x := fun o l x hb => ⟨hb.at_, hb.alive, hb.loc, hb.st⟩
  refine ⟨hle,⟨fun b i x hx => ?_, h.lt, fun o l hl => ?_, h.st, fun o l x hb => ?_, fun o l x hb j => ?_, fun o o' l l' x x' hb hb' => h.inj o o' l l' x x' (hbk _ _ _ hb) (hbk _ _ _ hb'),
      h.whole.keep rfl rfl io (fun b hb _ => alloc_heap_old e hb) fun o l hl => .inr ⟨o, l, hl, rfl⟩⟩,
    ⟨?_, fun b hb _ => alloc_heap_old e hb⟩, fun _ _ _ => rfl, Nat.le_refl _, fun _ l' hl => .inr ⟨l', hl, rfl⟩, fun _ _ _ => rfl⟩
  · by_cases hb : b = w.heap.size
    · subst hb
      simp only [G.addPerm, if_true] at hx
      simp only [World.cell?, e, Array.getElem?_push, if_true]
      exact hx
    · simp only [G.addPerm, hb, if_false] at hx
      rw [cell_of_heap (alloc_heap_old e (h.perm_lt hx))]
      exact h.perm b i x hx
  · have := h.blk o l hl
    rw [e]; simp; omega
  · exact (h.obj o l x (hbk o l x hb)).keep hle (alloc_heap_old e (h.blk o l hb.loc))
  · have := h.blk o l hb.loc
    have hne : l.b ≠ w.heap.size := by omega
    simp only [G.addPerm, hne, if_false]
    exact h.priv o l x (hbk o l x hb) j
  · rw [e]; simp
def G.setObj (g : G) (o : Nat) (l : Loc) : G := { g with obj := fun o' => if o' = o then some l else g.obj o' }
theorem getElem?_set_ne' {α : Type} (l : List α) {i j : Nat} (x : α) (h : i ≠ j) : (l.set i x)[j]? = l[j]? := by
  simp [h]
theorem Step.update {g : G} {H : List AObj} {w w' : World} (h : WF g H w) (o : Nat) (x' : AObj) (l' : Loc) (ho : o < H.length)
    (hsz : w.heap.size ≤ w'.heap.size)
    (hother : ∀ b, b < w.heap.size → (∀ l x, Backed g H o l x → l.b ≠ b) → w'.heap[b]? = w.heap[b]?)
    (hb : l'.b < w'.heap.size)
    (hnew : w.heap.size ≤ l'.b ∨ ∃ l x, Backed g H o l x ∧ l.b = l'.b)
    (hst : l'.st = x'.ver) (hal : x'.alive = true)
    (hver : ∀ l, g.obj o = some l → l.st ≤ l'.st ∧ (l'.st = l.st → l.len ≤ l'.len ∧ (l'.len = l.len → l' = l)))
    (hobj : g.le (g.setObj o l') → ObjAt (g.setObj o l') w' l' x') (io : w'.os = w.os ∧ w'.output = w.output := by exact ⟨rfl, rfl⟩) :
    Step g H w (g.setObj o l') (H.set o x') w' [o] := by
  have hle : g.le (g.setObj o l') := by
    refine ⟨fun _ _ _ hx => hx, fun o' l hl => ?_, fun _ _ hx => hx, rfl⟩
    by_cases e : o' = o
    · subst e
      exact ⟨l', by simp [G.setObj], (hver l hl).1, (hver l hl).2⟩
    · exact ⟨l, by simp only [G.setObj, e, if_false]; exact hl, Nat.le_refl _, fun _ => ⟨Nat.le_refl _, fun _ => rfl⟩⟩
  have hpb : ∀ b i x, g.perm b i = some x → w'.heap[b]? = w.heap[b]? := fun b i x hx => by
    refine hother b (h.perm_lt hx) fun l y hb e => ?_
    have := h.priv o l y hb i
    rw [e, hx] at this
    cases this
  have hbk : ∀ o' l x, o' ≠ o → Backed (g.setObj o l') (H.set o x') o' l x → Backed g H o' l x := fun o' l x hne hb =>
    ⟨by rw [← getElem?_set_ne' H x' (Ne.symm hne)]; exact hb.at_, hb.alive, by have := hb.loc; simpa only [G.setObj, hne, if_false] using this, hb.st⟩
  have hself : ∀ l x, Backed (g.setObj o l') (H.set o x') o l x → l = l' ∧ x = x' := fun l x hb => by
    have h1 := hb.at_
    have h2 := hb.loc
    simp [ho] at h1
    simp [G.setObj] at h2
    exact ⟨h2.symm, h1.symm⟩
  have hkeepB : ∀ o' l x, o' ≠ o → Backed g H o' l x → w'.heap[l.b]? = w.heap[l.b]? := fun o' l x hne hb =>
    hother l.b (h.blk o' l hb.loc) fun l0 x0 hb0 e => hne (h.inj o' o l l0 x x0 hb hb0 e.symm)
  refine ⟨hle,⟨fun b i x hx => ?_, fun o' l hl => ?_, fun o' l hl => ?_, fun o' x l hx hl => ?_, fun o' l x hb' => ?_, fun o' l x hb' j => ?_, fun o1 o2 l1 l2 x1 x2 hb1 hb2 e => ?_,
      h.whole.keep rfl rfl io (fun b hb hno => hother b hb fun l x hbk' => hno o l hbk'.loc) fun o' l hl => by
        by_cases e : o' = o
        · subst e
          simp [G.setObj] at hl
          subst hl
          rcases hnew with hge | ⟨l0, x0, hb0, e0⟩
          · exact .inl hge
          · exact .inr ⟨_, l0, hb0.loc, e0⟩
        · simp only [G.setObj, e, if_false] at hl
          exact .inr ⟨o', l, hl, rfl⟩⟩,
    ⟨hsz, fun b hb hw => hother b hb fun l x hbk' => hw o (by simp) l hbk'.loc⟩, fun o' hl hm => ?_, by simp, fun o' l hl => ?_, fun o' hl hm => ?_⟩
  · rw [cell_of_heap (hpb b i x hx)]; exact h.perm b i x hx
  · by_cases e : o' = o
    · subst e; simpa using ho
    · simp only [G.setObj, e, if_false] at hl
      simpa using h.lt o' l hl
  · by_cases e : o' = o
    · subst e
      simp [G.setObj] at hl
      subst hl; exact hb
    · simp only [G.setObj, e, if_false] at hl
      exact Nat.lt_of_lt_of_le (h.blk o' l hl) hsz
  · by_cases e : o' = o
    · subst e
      simp [G.setObj] at hl
      simp [ho] at hx
      subst hl; subst hx
      exact Nat.le_of_eq hst
    · simp only [G.setObj, e, if_false] at hl
      rw [getElem?_set_ne' H x' (Ne.symm e)] at hx
      exact h.st o' x l hx hl
  · by_cases e : o' = o
    · subst e
      obtain ⟨rfl, rfl⟩ := hself l x hb'
      exact hobj hle
    · exact (h.obj o' l x (hbk o' l x e hb')).keep hle (hkeepB o' l x e (hbk o' l x e hb'))
  · by_cases e : o' = o
    · subst e
      obtain ⟨rfl, rfl⟩ := hself l x hb'
      rcases hnew with hge | ⟨l0, x0, hb0, e0⟩
      · cases hq : (g.setObj o' l).perm l.b j with
        | none => rfl
        | some y => have := h.perm_lt (b := l.b) (i := j) (x := y) hq; omega
      · rw [← e0]; exact h.priv o' l0 x0 hb0 j
    · exact h.priv o' l x (hbk o' l x e hb') j
  · by_cases e1 : o1 = o
    · by_cases e2 : o2 = o
      · rw [e1, e2]
      · subst e1
        obtain ⟨rfl, rfl⟩ := hself l1 x1 hb1
        have hb2' := hbk o2 l2 x2 e2 hb2
        rcases hnew with hge | ⟨l0, x0, hb0, e0⟩
        · have := h.blk o2 l2 hb2'.loc; omega
        · exact h.inj o1 o2 l0 l2 x0 x2 hb0 hb2' (by omega)
    · by_cases e2 : o2 = o
      · subst e2
        obtain ⟨rfl, rfl⟩ := hself l2 x2 hb2
        have hb1' := hbk o1 l1 x1 e1 hb1
        rcases hnew with hge | ⟨l0, x0, hb0, e0⟩
        · have := h.blk o1 l1 hb1'.loc; omega
        · exact h.inj o1 o2 l1 l0 x1 x0 hb1' hb0 (by omega)
      · exact h.inj o1 o2 l1 l2 x1 x2 (hbk _ _ _ e1 hb1) (hbk _ _ _ e2 hb2) e
  · simp only [List.mem_singleton] at hm
    exact getElem?_set_ne' H x' (Ne.symm hm)
  · by_cases e : o' = o
    · subst e
      simp [G.setObj] at hl
      subst hl
      rcases hnew with hge | ⟨l0, x0, hb0, e0⟩
      · exact .inl hge
      · exact .inr ⟨l0, hb0.loc, e0⟩
    · simp only [G.setObj, e, if_false] at hl
      exact .inr ⟨l, hl, rfl⟩
  · simp only [List.mem_singleton] at hm
    simp [G.setObj, hm]
theorem Step.gone {g : G} {H : List AObj} {w : World} (h : WF g H w) {o : Nat} {l : Loc} {x : AObj} (hb : Backed g H o l x) :
    Step g H w (g.addPerm l.b fun i => w.cell? ⟨l.b, i, none⟩) (H.set o (.gone x.ver)) w [o] := by
  have ho : o < H.length := h.lt o l hb.loc
  have hle : g.le (g.addPerm l.b fun i => w.cell? ⟨l.b, i, none⟩) := by
    refine ⟨fun b i y hy => ?_, fun o l hl => ⟨l, hl, Nat.le_refl _, fun _ => ⟨Nat.le_refl _, fun _ => rfl⟩⟩, fun _ _ hx => hx, rfl⟩
    by_cases e : b = l.b
    · subst e; have := h.priv o l x hb i; rw [hy] at this; cases this
    · simp only [G.addPerm, e, if_false]; exact hy
  have hbk : ∀ o' l' x', Backed (g.addPerm l.b fun i => w.cell? ⟨l.b, i, none⟩) (H.set o (.gone x.ver)) o' l' x' → o' ≠ o ∧ Backed g H o' l' x' := fun o' l' x' hb' => by
    have hne : o' ≠ o := fun e => by
      subst e
      have h1 := hb'.at_
      simp [ho] at h1
      have h2 := hb'.alive
      subst h1
      simp [AObj.alive] at h2
    exact ⟨hne,⟨by rw [← getElem?_set_ne' H (.gone x.ver) (Ne.symm hne)]; exact hb'.at_, hb'.alive, hb'.loc, hb'.st⟩⟩
  refine ⟨hle,⟨fun b i y hy => ?_, fun o' l' hl => by simpa using h.lt o' l' hl, h.blk, fun o' x' l' hx hl => ?_, fun o' l' x' hb' => ?_, fun o' l' x' hb' j => ?_, fun o1 o2 l1 l2 x1 x2 hb1 hb2 e => ?_, h.whole.keep rfl rfl ⟨rfl, rfl⟩ (fun _ _ _ => rfl) fun o l hl => .inr ⟨o, l, hl, rfl⟩⟩,
    Frame.refl _ _ _, fun o' hl hm => ?_, by simp, fun o' l' hl => .inr ⟨l', hl, rfl⟩, fun _ _ _ => rfl⟩
  · by_cases e : b = l.b
    · subst e; simpa only [G.addPerm, if_true] using hy
    · simp only [G.addPerm, e, if_false] at hy; exact h.perm b i y hy
  · by_cases e : o' = o
    · subst e
      simp [ho] at hx
      subst hx
      exact h.st o' x l' hb.at_ hl
    · rw [getElem?_set_ne' H (.gone x.ver) (Ne.symm e)] at hx
      exact h.st o' x' l' hx hl
  · exact (h.obj o' l' x' (hbk _ _ _ hb').2).keep hle rfl
  · obtain ⟨hne, hb0⟩ := hbk _ _ _ hb'
    have hnb : l'.b ≠ l.b := fun e => hne (h.inj o' o l' l x' x hb0 hb e)
    simp only [G.addPerm, hnb, if_false]
    exact h.priv o' l' x' hb0 j
  · exact h.inj o1 o2 l1 l2 x1 x2 (hbk _ _ _ hb1).2 (hbk _ _ _ hb2).2 e
  · simp only [List.mem_singleton] at hm
    exact getElem?_set_ne' H (.gone x.ver) (Ne.symm hm)
end Go.Proofs.AM
end
section
namespace Go.Proofs.AM
open Go
def ofV1 : Value → Option AV
  | .bool b => some (.bool b)
  | .int k n => some (.int k n)
  | .string s => some (.str s.data.toList)
  | .func (.func f) vf vc => if vf.size = 0 ∧ vc.size = 0 then some (.fn f [] []) else none
  | .nilFunc => some .nilFn
  | .pointer none => some .nilPtr
  | .slice none 0 0 => some (.sl true [])
  | _ => none
def ofVL : List Value → Option (List AV)
  | [] => some []
  | v :: r => match ofV1 v with
    | none => none
    | some a => match ofVL r with
      | none => none
      | some as => some (a :: as)
def ofV : Value → Option AV
  | .agg cs => (ofVL cs.toList).map .agg
  | v => ofV1 v
section
variable (P : Program) (glob : Nat → Option (List AV))
def opnd : Operand → Option AOpd
  | .tmp t => some (.tmp t)
  | .const v => (ofV v).map .const
  | .func f => some (.const (.fn f [] []))
  | .global g => (glob g).map fun row => .const (.ep row 0)
def opnds : List Operand → Option (List AOpd)
  | [] => some []
  | x :: r => match opnd glob x with
    | none => none
    | some a => match opnds r with
      | none => none
      | some as => some (a :: as)
def oopnd : Option Operand → Option (Option AOpd)
  | none => some none
  | some x => (opnd glob x).map some
def size? (t : TypeId) : Option Nat := (P.info? t).map (·.size)
def zeroCells? (t : TypeId) : Option (List AV) := ((P.info? t).bind (·.zero)).bind fun z => ofVL z.cells.toList
def zeroV? (t : TypeId) : Option AV := ((P.info? t).bind (·.zero)).bind ofV
def aggT (t : TypeId) : Bool :=
  match P.underlying t with
  | some (.struct _) | some (.array ..) => true
  | _ => false
def shapeOf (t : TypeId) : Option (Nat × Bool) :=
  match size? P t, P.underlying t with
  | some n, some _ => if aggT P t then some (n, true) else if n = 1 then some (1, false) else none
  | _, _ => none
def partsS (fields : Array Field) : List (Nat × Operand) → Option (List (Nat × Nat × AOpd))
  | [] => some []
  | (i, x) :: r =>
    match fields[i]? with
    | none => none
    | some f => match size? P f.type, opnd glob x, partsS fields r with
      | some n, some a, some r' => some ((f.offset, n, a) :: r')
      | _, _, _ => none
def partsA (n : Nat) : List (Nat × Operand) → Option (List (Nat × Nat × AOpd))
  | [] => some []
  | (i, x) :: r => match opnd glob x, partsA n r with
    | some a, some r' => some ((i * n, n, a) :: r')
    | _, _ => none
def partsL (len : Nat) : List (Nat × Operand) → Option (List (Nat × AOpd))
  | [] => some []
  | (i, x) :: r => match opnd glob x, partsL len r with
    | some a, some r' => if i < len then some ((i, a) :: r') else none
    | _, _ => none
def tagOf (t : TypeId) : Option Tag :=
  match P.underlying t with
  | some .bool => some .bool
  | some (.int _) => some .int
  | some .string => some .str
  | _ => none
def plainFields : Nat → List Field → Option (List Tag)
  | _, [] => some []
  | i, f :: r =>
    match tagOf P f.type, plainFields (i + 1) r with
    | some t, some ts => if f.name ≠ "_" ∧ f.offset = i then some (t :: ts) else none
    | _, _ => none
def eqK (t : TypeId) : EqK :=
  match P.underlying t with
  | some (.struct fields) => match plainFields P 0 fields.toList with
    | some ts => if P.stoodInHeld t || P.eqGuardType P.depth t then .no else .cells ts
    | none => .no
  | some .bool => .bool
  | some (.func ..) => .func
  | some (.pointer _) => .ptr
  | _ => .no
def isU8 (e : TypeId) : Bool :=
  match P.underlying e with
  | some (.int .u8) => size? P e == some 1
  | _ => false
def convK (src dst : TypeId) : Option AConv :=
  match P.underlying src, P.underlying dst with
  | some (.int _), some (.int k) => some (.toInt k)
  | some (.int _), some .string => some .i2s
  | some .string, some .string => some .same
  | some .string, some (.slice e) => if isU8 P e then some .s2b else none
  | some (.slice e), some .string => if isU8 P e then some .b2s else none
  | _, _ => none
def isNilSl (t : TypeId) (y : Operand) : Bool :=
  match P.underlying t, y with
  | some (.slice _), .const (.slice none 0 0) => true
  | _, _ => false
def cOp (o : Oper) : Option AOp :=
  match o.op with
  | .move x | .assign x => (opnd glob x).map .mov
  | .pick c a b => match opnd glob c, opnd glob a, opnd glob b with
    | some c, some a, some b => some (.pick c a b)
    | _, _, _ => none
  | .alloc t => (zeroCells? P t).map .alloc
  | .box t x => match size? P t, opnd glob x with
    | some n, some x => some (.box n x)
    | _, _ => none
  | .build t parts => match zeroCells? P t, P.underlying t with
    | some zs, some (.struct fields) => if fields.all (fun f => (size? P f.type).isSome) then (partsS P glob fields parts.toList).map (.build zs) else none
    | some zs, some (.array _ e) => match size? P e with
      | some n => (partsA glob n parts.toList).map (.build zs)
      | none => none
    | _, _ => none
  | .buildSlice t len parts => match P.underlying t with
    | some (.slice e) => match size? P e, zeroCells? P e, partsL glob len parts.toList with
      | some k, some zs, some ps => if 0 < k ∧ zs.length = k ∧ len * k ≤ 16777216 ∧ zs.all AV.still then some (.bsl k (zs.map AV.strip1) len ps) else none
      | _, _, _ => none
    | _ => none
  | .load t x => match shapeOf P t, opnd glob x with
    | some (n, agg), some x => some (.load n agg x)
    | _, _ => none
  | .store t x v => match size? P t, opnd glob x, opnd glob v with
    | some n, some x, some v => some (.store n x v)
    | _, _, _ => none
  | .nilCheck x => (opnd glob x).map .nilck
  | .binOp op t x y _ => if isNilSl P t y then
      match op with
      | .eql => (opnd glob x).map (.isnil false)
      | .neq => (opnd glob x).map (.isnil true)
      | _ => none
    else match opnd glob x, opnd glob y with
    | some x, some y => some (.bin op (eqK P t) x y)
    | _, _ => none
  | .unOp op _ x => (opnd glob x).map (.un op)
  | .convert src dst x => match convK P src dst, opnd glob x with
    | some c, some x => some (.conv c x)
    | _, _ => none
  | .makeFunc (.func f) first caps => match opnds glob first.toList, opnds glob caps.toList with
    | some a, some b => some (.mkf f a b)
    | _, _ => none
  | .makeSlice t len cap => match P.underlying t with
    | some (.slice e) => match P.info? e, zeroCells? P e, opnd glob len, opnd glob cap with
      | some i, some zs, some l, some c => if 0 < i.size ∧ zs.length = i.size ∧ zs.all AV.still then some (.mks i.size i.bytes zs l c) else none
      | _, _, _, _ => none
    | _ => none
  | .slice t x lo hi mx => match P.underlying t, opnd glob x, oopnd glob lo, oopnd glob hi, oopnd glob mx with
    | some .string, some x, some lo, some hi, some none => some (.sliceS x lo hi)
    | some (.slice e), some x, some lo, some hi, some mx => match size? P e with
      | some k => if 0 < k then some (.sliceV k x lo hi mx) else none
      | none => none
    | some (.array n e), some x, some lo, some hi, some mx => match size? P e with
      | some k => if 0 < k then some (.sliceA n k x lo hi mx) else none
      | none => none
    | _, _, _, _, _ => none
  | .fieldAddr s x f => match P.underlying s, opnd glob x with
    | some (.struct fields), some x => match fields[f]? with
      | some fd => match size? P fd.type with
        | some (_ + 1) => some (.fa fd.offset x)
        | _ => none
      | none => none
    | _, _ => none
  | .field s x f => match P.underlying s, opnd glob x with
    | some (.struct fields), some x => match fields[f]? with
      | some fd => match shapeOf P fd.type with
        | some (n, agg) => some (.fld fd.offset n agg x)
        | none => none
      | none => none
    | _, _ => none
  | .indexAddr t x i => match P.underlying t, opnd glob x, opnd glob i with
    | some (.array n e), some x, some i => match size? P e with
      | some k => some (.iaA n k x i)
      | none => none
    | some (.slice e), some x, some i => match size? P e with
      | some k => if 0 < k then some (.iaV x i k) else none
      | none => none
    | _, _, _ => none
  | .index t x i => match P.underlying t, opnd glob x, opnd glob i with
    | some (.array n e), some x, some i => match shapeOf P e with
      | some (k, agg) => some (.ixA n k agg x i)
      | none => none
    | some .string, some x, some i => some (.ixS x i)
    | _, _, _ => none
  | .extract x i => (opnd glob x).map (.ext i)
  | .makeMap _ none => some .mkmap
  | .insert t m k v => match P.underlying t with
    | some (.map kt _) => match P.underlying kt, opnd glob m, opnd glob k, opnd glob v with
      | some (.int _), some m, some k, some v => some (.ins m k v)
      | _, _, _, _ => none
    | _ => none
  | .lookup t m k ok => match P.underlying t with
    | some (.map kt et) => match P.underlying kt, zeroV? P et, opnd glob m, opnd glob k with
      | some (.int _), some z, some m, some k => some (.look z m k ok)
      | _, _, _, _ => none
    | _ => none
  | .call { callee := .builtin b, args, argTypes } => match b, opnds glob args.toList, argTypes.toList with
    | .len, some [x], [t] => match P.underlying t with
      | some .string => some (.lenS x)
      | some (.slice _) => some (.lenV x)
      | some (.array n _) => some (.lenC n)
      | _ => none
    | .append, some [s, x], [t, u] => match P.underlying t, P.underlying u with
      | some (.slice e), some d => if d matches .int _ then none else match P.info? e with
        | some i => match i.zero with
          | some z => if 0 < i.size ∧ z.cells.size = i.size then some (.app i.size i.bytes s x) else none
          | none => none
        | none => none
      | _, _ => none
    | .max, some xs, _ => some (.mm true xs)
    | .min, some xs, _ => some (.mm false xs)
    | _, _, _ => none
  | .call { callee := .value f, args, .. } => match opnd glob f, opnds glob args.toList with
    | some f, some xs => some (.callv f xs)
    | _, _ => none
  | _ => none
def guardOf (ops : List Oper) (g : Option (Nat × Bool)) : Option (Option Nat × Bool) :=
  match g with
  | none => none
  | some (j, want) => some ((ops[j]?).bind (·.dst), want)
def once : List Nat → List Nat | [] => [] | x :: r => let d := once r; if d.contains x then d else x :: d
theorem mem_once (a : Nat) : ∀ (l : List Nat), a ∈ once l ↔ a ∈ l
  | [] => by simp [once]
  | x :: r => by
    have ih := mem_once a r
    simp only [once]
    split
    · rename_i h
      simp only [List.contains_iff_mem] at h
      rw [List.mem_cons, ← ih]
      exact ⟨.inr, fun h1 => h1.elim (fun e => e ▸ h) id⟩
    · rw [List.mem_cons, List.mem_cons, ih]
def preOf (pres : List (List Nat)) (o : Oper) : List Nat :=
  once (o.after.toList.flatMap fun e => if Region.binds .any e then e.on :: (pres[e.on]?).getD [] else [])
def cOps (all : List Oper) : List Oper → List (List Nat) → List AOper
  | [], _ => []
  | o :: r, pres => ⟨o.dst, (cOp P glob o).getD .bad, guardOf all o.guard, preOf pres o⟩ :: cOps all r (pres ++ [preOf pres o])
def cCode (frz : Nat → List (Nat × Nat)) : Code → ACode
  | .skip => .skip
  | .region id ops draw =>
    let r := .region draw (cOps P glob ops.toList ops.toList [])
    match frz id with
    | [] => r
    | ts => .seq (.frz ts) r
  | .seq a b => .seq (cCode frz a) (cCode frz b)
  | .cond (.tmp t) a b => .cond (.tmp t) (cCode frz a) (cCode frz b)
  | .block id c => .block id (cCode frz c)
  | .loop c => .loop (cCode frz c)
  | .exit id => .exit id
  | .ret => .ret
  | _ => .bad
def cRes : ResultVar → Option ARes
  | .tmp t => some (.tmp t)
  | .cell a t => (shapeOf P t).map fun (n, agg) => .cell a n agg
def cRess : List ResultVar → Option (List ARes)
  | [] => some []
  | r :: rs => match cRes P r, cRess rs with
    | some a, some as => some (a :: as)
    | _, _ => none
end
end Go.Proofs.AM
end
section
namespace Go.Proofs.AM
open Go
def SlotRel (g : G) (ρ : List AV) (tmps : Array Value) : Prop :=
  ρ.length = tmps.size ∧ ∀ t, VRel g ((ρ[t]?).getD .undef) (tmps.getD t Go.undef)
theorem SlotRel.mono {g g' : G} (hg : g.le g') {ρ : List AV} {tmps : Array Value} (h : SlotRel g ρ tmps) : SlotRel g' ρ tmps :=
  ⟨h.1, fun t => (h.2 t).mono hg⟩
def GlobOk (glob : Nat → Option (List AV)) (g : G) : Prop :=
  ∀ n row, glob n = some row → VRel g (.ep row 0) (.pointer (some ⟨n, 0, none⟩)) ∧ ∃ cs t fz, g.whole n = some (.cells cs t fz) ∧ cs.size = row.length
theorem GlobOk.mono {glob : Nat → Option (List AV)} {g g' : G} (hg : g.le g') (h : GlobOk glob g) : GlobOk glob g' :=
  fun n row e => by
    obtain ⟨h1, cs, t, fz, h2, h3⟩ := h n row e
    exact ⟨h1.mono hg, cs, t, fz, hg.whole _ _ h2, h3⟩
theorem ofV1_sound {v : Value} {a : AV} (h : ofV1 v = some a) (g : G) : VRel g a v := by
  unfold ofV1 at h
  split at h
  · cases h; exact .bool _
  · cases h; exact .int _ _
  · cases h; exact .str _
  · split at h
    · rename_i hs
      cases h
      refine .fn _ [] [] _ _ (by simp [hs.1]) (by simp [hs.2]) (fun i a x hi _ => by simp at hi) (fun i a x hi _ => by simp at hi)
    · cases h
  · cases h; exact .nilFn
  · cases h; exact .nilPtr
  · cases h; exact .slNil _
  · cases h
theorem ofVL_sound : ∀ {l : List Value} {as : List AV}, ofVL l = some as → ∀ g, LRel g as l
  | [], as, h, g => by simp only [ofVL, Option.some.injEq] at h; subst h; exact ⟨rfl, fun i a x hi _ => by simp at hi⟩
  | v :: r, as, h, g => by
    unfold ofVL at h
    split at h
    · cases h
    · rename_i a ha
      split at h
      · cases h
      · rename_i as' has
        cases h
        have ih := ofVL_sound has g
        refine ⟨by simp [ih.1], fun i b x hb hx => ?_⟩
        cases i with
        | zero => simp at hb hx; subst hb; subst hx; exact ofV1_sound ha g
        | succ i => simp at hb hx; exact ih.2 i b x hb hx
theorem LRel.agg {g : G} {as : List AV} {vs : Array Value} (h : LRel g as vs.toList) : VRel g (.agg as) (.agg vs) :=
  .agg as vs (by simpa using h.1) fun i a x ha hx => h.2 i a x ha (by simpa using hx)
theorem ofV_sound {v : Value} {a : AV} (h : ofV v = some a) (g : G) : VRel g a v := by
  unfold ofV at h
  split at h
  · cases hq : ofVL (‹Array Value›).toList with
    | none => simp [hq] at h
    | some as => simp [hq] at h; subst h; exact (ofVL_sound hq g).agg
  · exact ofV1_sound h g
theorem opnd_sound {glob : Nat → Option (List AV)} {X : Operand} {x : AOpd} (h : opnd glob X = some x) {g : G} (hg : GlobOk glob g)
    {ρ : List AV} {a : Act} (hs : SlotRel g ρ a.tmps) : VRel g (x.ev ρ) (a.eval X) := by
  cases X with
  | tmp t => simp only [opnd, Option.some.injEq] at h; subst h; exact hs.2 t
  | const v =>
    simp only [opnd] at h
    cases hv : ofV v with
    | none => simp [hv] at h
    | some y => simp [hv] at h; subst h; exact ofV_sound hv g
  | func f =>
    simp only [opnd, Option.some.injEq] at h; subst h
    exact .fn f [] [] #[] #[] rfl rfl (fun i a x hi _ => by simp at hi) (fun i a x hi _ => by simp at hi)
  | global n =>
    simp only [opnd] at h
    cases hv : glob n with
    | none => simp [hv] at h
    | some y => simp [hv] at h; subst h; exact (hg n y hv).1
theorem opnds_sound {glob : Nat → Option (List AV)} : ∀ {X : List Operand} {x : List AOpd}, opnds glob X = some x → ∀ {g : G}, GlobOk glob g →
    ∀ {ρ : List AV} {a : Act}, SlotRel g ρ a.tmps → LRel g (x.map (AOpd.ev ρ)) (X.map a.eval)
  | [], x, h, g, _, ρ, a, _ => by simp only [opnds, Option.some.injEq] at h; subst h; exact ⟨rfl, fun i a x hi _ => by simp at hi⟩
  | X :: r, x, h, g, hg, ρ, a, hs => by
    unfold opnds at h
    split at h
    · cases h
    · rename_i y hy
      split at h
      · cases h
      · rename_i ys hys
        cases h
        have ih := opnds_sound hys hg hs
        refine ⟨by simpa using ih.1, fun i b x hb hx => ?_⟩
        cases i with
        | zero => simp at hb hx; subst hb; subst hx; exact opnd_sound hy hg hs
        | succ i => exact ih.2 i b x (by simpa using hb) (by simpa using hx)
theorem VRel.strip1 {g : G} {a : AV} {x : Value} (h : VRel g a x) : VRel g a.strip1 x := by
  cases h with
  | slNil full => exact .slNil false
  | sl full rows b off cap k hcap hfull hk hst hp h => exact .sl false rows b off cap k hcap (by simp) hk hst hp h
  | undef x => exact .undef x
  | bool b => exact .bool b
  | int k n => exact .int k n
  | str s => exact .str s
  | fn f first caps vf vc hf hc h1 h2 => exact .fn f first caps vf vc hf hc h1 h2
  | nilFn => exact .nilFn
  | ptr o v off l a hl hv h => exact .ptr o v off l a hl hv h
  | vp o v n k i off l a hl hv hn h => exact .vp o v n k i off l a hl hv hn h
  | nilPtr => exact .nilPtr
  | ep row off b base hst hp h => exact .ep row off b base hst hp h
  | sr o v n l a cap hl hv hn h => exact .sr o v n l a cap hl hv hn h
  | mp o v l r hl hv h => exact .mp o v l r hl hv h
  | agg cs vs hs h => exact .agg cs vs hs h
  | tup cs vs hs h => exact .tup cs vs hs h
theorem LRel.strip1 {g : G} {as : List AV} {xs : List Value} (h : LRel g as xs) : LRel g (as.map AV.strip1) xs := by
  refine ⟨by simpa using h.1, fun i a x ha hx => ?_⟩
  rw [List.getElem?_map] at ha
  cases hq : as[i]? with
  | none => simp [hq] at ha
  | some b => simp [hq] at ha; subst ha; exact (h.2 i b x hq hx).strip1
theorem VRel.agg_list {g : G} {cs : List AV} {x : Value} (h : VRel g (.agg cs) x) : ∃ vs : Array Value, x = .agg vs ∧ LRel g cs vs.toList := by
  cases h with
  | agg cs vs hs h => exact ⟨vs, rfl, by simpa using hs, fun i a x ha hx => h i a x ha (by simpa using hx)⟩
theorem VRel.tup_list {g : G} {cs : List AV} {x : Value} (h : VRel g (.tup cs) x) : ∃ vs : Array Value, x = .tuple vs ∧ LRel g cs vs.toList := by
  cases h with
  | tup cs vs hs h => exact ⟨vs, rfl, by simpa using hs, fun i a x ha hx => h i a x ha (by simpa using hx)⟩
theorem VRel.strip {g : G} {a : AV} {x : Value} (h : VRel g a x) : VRel g a.strip x := by
  unfold AV.strip
  split
  · obtain ⟨vs, rfl, hl⟩ := h.agg_list
    exact hl.strip1.agg
  · obtain ⟨vs, rfl, hl⟩ := h.tup_list
    refine .tup _ vs (by simpa using hl.1) fun i a x ha hx => ?_
    rw [List.getElem?_map] at ha
    cases hq : (‹List AV›)[i]? with
    | none => simp [hq] at ha
    | some b =>
      simp [hq] at ha
      have hb := hl.2 i b x hq (by simpa using hx)
      subst ha
      split
      · obtain ⟨vs', rfl, hl'⟩ := hb.agg_list
        exact hl'.strip1.agg
      · exact hb.strip1
  · exact h.strip1
theorem VRel.cells {g : G} {a : AV} {x : Value} (h : VRel g a x) (hok : a.cells.all AV.cellOk = true) : LRel g a.cells x.cells.toList := by
  have one : ∀ {a : AV} {x : Value}, VRel g a x → x.cells = #[x] → LRel g [a] x.cells.toList := fun {a x} h e => by
    rw [e]
    refine ⟨rfl, fun i b y hb hy => ?_⟩
    cases i with
    | zero => simp at hb hy; subst hb; subst hy; exact h
    | succ i => simp at hb
  cases a with
  | agg cs => obtain ⟨vs, rfl, hl⟩ := h.agg_list; exact hl
  | undef => simp [AV.cells, AV.cellOk] at hok
  | tup vs => simp [AV.cells, AV.cellOk] at hok
  | own k rows => simp [AV.cells, AV.cellOk] at hok
  | _ => cases h <;> exact one (by first | assumption | constructor <;> assumption) rfl
end Go.Proofs.AM
end
section
namespace Go.Proofs.AM
open Go
section
variable {P : Program} {glob : Nat → Option (List AV)} {g : G} {H : List AObj} {w : World}
theorem add_none (b o n : Nat) : (⟨b, o, none⟩ : Addr).add n = ⟨b, o + n, none⟩ := Addr.add_lit b o n
theorem readCells_sound (hw : WF g H w) {k : Nat} {pv : AV} {cs : List AV} (h : readCells H k pv = some cs) {x : Value} (hx : VRel g pv x) :
    ∃ (b off : Nat) (vs : List Value), x = .pointer (some ⟨b, off, none⟩) ∧ cs.length = k ∧ LRel g cs vs ∧ ∀ (j : Nat) v, vs[j]? = some v → w.cell? ⟨b, off + j, none⟩ = some v := by
  have build : ∀ (cs : List AV) (b off : Nat), (∀ (j : Nat) a, cs[j]? = some a → ∃ y, w.cell? ⟨b, off + j, none⟩ = some y ∧ VRel g a y) →
      ∃ vs : List Value, LRel g cs vs ∧ ∀ (j : Nat) v, vs[j]? = some v → w.cell? ⟨b, off + j, none⟩ = some v := by
    intro cs b off hc
    refine ⟨(List.range cs.length).map fun j => (w.cell? ⟨b, off + j, none⟩).getD Go.undef,⟨by simp, fun i a y ha hy => ?_⟩, fun j v hv => ?_⟩
    · have hi : i < cs.length := (List.getElem?_eq_some_iff.1 ha).1
      obtain ⟨z, hz, hr⟩ := hc i a ha
      simp [hi, hz] at hy
      subst hy; exact hr
    · rw [List.getElem?_map] at hv
      by_cases hj : j < cs.length
      · obtain ⟨z, hz, _⟩ := hc j cs[j] (by simp [hj])
        simp [hj, hz] at hv
        rw [hz, hv]
      · simp [hj] at hv
  cases hx with
  | ptr o v off l a hl hv hh =>
    simp only [readCells] at h
    split at h
    · rename_i v' cells hH
      split at h
      · rename_i hc
        simp only [Option.some.injEq] at h
        obtain ⟨rfl, hlen⟩ := hc
        have hst : l.st = v' := by
          have := hw.st o _ l hH hl
          simp only [AObj.ver] at this
          omega
        have hb : Backed g H o l (.box v' cells) := ⟨hH, rfl, hl, hst⟩
        obtain ⟨h0, _, hcell⟩ := hw.obj o l _ hb
        have ha := hh hst h0
        subst ha
        have hlen' : cs.length = k := by rw [← h]; simp; omega
        obtain ⟨vs, hv1, hv2⟩ := build cs l.b off fun j a ha => by
          have hj : j < cs.length := (List.getElem?_eq_some_iff.1 ha).1
          refine hcell (off + j) a ?_
          rw [← h, List.getElem?_take, List.getElem?_drop] at ha
          rwa [if_pos (by omega)] at ha
        exact ⟨l.b, off, vs, rfl, hlen', hv1, hv2⟩
      · cases h
    · cases h
  | vp o v n k1 i off l a hl hv hn hh =>
    simp only [readCells] at h
    split at h
    · rename_i v' k' rows hH
      split at h
      · rename_i hc
        obtain ⟨rfl, hlen, rfl⟩ := hc
        split at h
        · rename_i row hrow
          split at h
          · rename_i hlt
            simp only [Option.some.injEq] at h
            have hst : l.st = v' := by
              have := hw.st o _ l hH hl
              simp only [AObj.ver] at this
              omega
            have hb : Backed g H o l (.vec v' k' rows) := ⟨hH, rfl, hl, hst⟩
            obtain ⟨h0, hk, _, _, _, _, hcell⟩ := hw.obj o l _ hb
            have ha := hh hst (by omega)
            subst ha
            have hlen' : cs.length = k := by rw [← h]; simp; omega
            obtain ⟨vs, hv1, hv2⟩ := build cs l.b (i * k' + off) fun j a ha => by
              have hj : j < cs.length := (List.getElem?_eq_some_iff.1 ha).1
              rw [← h, List.getElem?_take, List.getElem?_drop, if_pos (by omega)] at ha
              obtain ⟨_, y, hy, hr⟩ := hcell i (off + j) row a hrow ha
              exact ⟨y, by rw [Nat.add_assoc]; exact hy, hr⟩
            exact ⟨l.b, i * k' + off, vs, rfl, hlen', hv1, hv2⟩
          · cases h
        · cases h
      · cases h
    · cases h
  | ep row off b base hst hp hh =>
    simp only [readCells] at h
    split at h
    · rename_i hlt
      simp only [Option.some.injEq] at h
      have hlen' : cs.length = k := by rw [← h]; simp; omega
      obtain ⟨vs, hv1, hv2⟩ := build cs b (base + off) fun j a ha => by
        have hj : j < cs.length := (List.getElem?_eq_some_iff.1 ha).1
        rw [← h, List.getElem?_take, List.getElem?_drop, if_pos (by omega)] at ha
        have hi : off + j < row.length := (List.getElem?_eq_some_iff.1 ha).1
        have := hp (off + j) hi
        cases hq : g.perm b (base + (off + j)) with
        | none => simp [hq] at this
        | some y => exact ⟨y, by rw [Nat.add_assoc]; exact hw.perm _ _ _ hq, hh (off + j) a y ha hq⟩
      exact ⟨b, base + off, vs, rfl, hlen', hv1, hv2⟩
    · cases h
  | undef x => simp [readCells] at h
  | bool b => simp [readCells] at h
  | int k n => simp [readCells] at h
  | str s => simp [readCells] at h
  | fn f first caps vf vc hf hc h1 h2 => simp [readCells] at h
  | nilFn => simp [readCells] at h
  | nilPtr => simp [readCells] at h
  | slNil full => simp [readCells] at h
  | sl full rows b off cap k hcap hfull hk hst hp h' => simp [readCells] at h
  | sr o v n l a cap hl hv hn h' => simp [readCells] at h
  | mp o v l r hl hv h' => simp [readCells] at h
  | agg cs vs hs h' => simp [readCells] at h
  | tup cs vs hs h' => simp [readCells] at h
theorem size?_info {t : TypeId} {n : Nat} (h : size? P t = some n) : ∃ i, P.info? t = some i ∧ i.size = n := by
  unfold size? at h
  cases hq : P.info? t with
  | none => simp [hq] at h
  | some i => exact ⟨i, rfl, by simpa [hq] using h⟩
theorem run_sizeOf' {t : TypeId} {n : Nat} (h : size? P t = some n) (w : World) : (sizeOf t).run P w = .ok n w := by
  obtain ⟨i, hi, hn⟩ := size?_info h
  simp [sizeOf, typeInfo, hi, hn]
theorem run_isAgg' {t : TypeId} {d : TypeDesc} (h : P.underlying t = some d) (w : World) : (isAgg t).run P w = .ok (aggT P t) w := by
  unfold aggT
  simp only [isAgg, Sem.run_bind, run_underlying h, Result.andThen_ok, h]
  cases d <;> rfl
theorem shapeOf_spec {t : TypeId} {n : Nat} {agg : Bool} (h : shapeOf P t = some (n, agg)) :
    size? P t = some n ∧ aggT P t = agg ∧ (∃ d, P.underlying t = some d) ∧ (agg = false → n = 1) := by
  unfold shapeOf at h
  split at h
  · rename_i m d hm hd
    split at h
    · rename_i ha; cases h; exact ⟨hm, ha,⟨_, hd⟩, fun e => by cases e⟩
    · split at h
      · rename_i ha h1; cases h; subst h1; exact ⟨hm, by simpa using ha,⟨_, hd⟩, fun _ => rfl⟩
      · cases h
  · cases h
theorem run_loadVar' {t : TypeId} {n : Nat} {agg : Bool} (hs : shapeOf P t = some (n, agg)) (w : World) (b off : Nat) (vs : List Value) (hn : vs.length = n)
    (hc : ∀ (j : Nat) v, vs[j]? = some v → w.cell? ⟨b, off + j, none⟩ = some v) :
    (loadVar t ⟨b, off, none⟩).run P w = .ok (if agg then .agg vs.toArray else vs.headD Go.undef) w := by
  obtain ⟨h1, h2,⟨d, h3⟩, h4⟩ := shapeOf_spec hs
  simp only [loadVar, Sem.run_bind, run_isAgg' h3, Result.andThen_ok, h2, Sem.run_ite]
  cases agg with
  | true =>
    have := run_loadCells_list (P := P) w ⟨b, off, none⟩ vs (fun j v hv => by rw [add_none]; exact hc j v hv)
    subst hn
    simp [run_sizeOf' h1, this]
  | false =>
    have hn1 := h4 rfl
    cases vs with
    | nil => simp at hn; omega
    | cons v r =>
      have := hc 0 v rfl
      simp only [Nat.add_zero] at this
      simp [this]
theorem ofCells_sound {agg : Bool} {cs : List AV} {av : AV} (h : ofCells agg cs = some av) {vs : List Value} (hl : LRel g cs vs) :
    VRel g av (if agg then .agg vs.toArray else vs.headD Go.undef) := by
  cases agg with
  | true =>
    simp only [ofCells, if_true, Option.some.injEq] at h
    subst h
    exact LRel.agg (by simpa using hl)
  | false =>
    cases cs with
    | nil => simp [ofCells] at h
    | cons c r =>
      cases r with
      | nil =>
        simp [ofCells] at h
        subst h
        cases vs with
        | nil => have := hl.1; simp at this
        | cons v r => simpa using hl.2 0 c v rfl rfl
      | cons d r => simp [ofCells] at h
def Gives (P : Program) (o : Oper) (a : Act) (w : World) (R : Value → World → Prop) : Prop :=
  ∃ v w', (execOp a.eval o).run P w = .ok (.value v) w' ∧ R v w'
def QPost (g : G) (H : List AObj) (w : World) (av : AV) (v : Value) (w' : World) : Prop :=
  ∃ g', Step g H w g' H w' [] ∧ VRel g' av v
theorem QPost.same (hw : WF g H w) {av : AV} {v : Value} (h : VRel g av v) : QPost g H w av v w := ⟨g, .refl hw, h⟩
end
end Go.Proofs.AM
end
