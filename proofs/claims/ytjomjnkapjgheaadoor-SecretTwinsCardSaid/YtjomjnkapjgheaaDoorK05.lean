/- Part 5 of the proof that stands in the last text of this folder (lemmas; no statement of its own). -/
import Derived.Test.YtjomjnkapjgheaaDoorK04
section
namespace Go.Proofs.AM
open Go
section
variable {P : Program} {glob : Nat → Option (List AV)} {g : G} {H : List AObj} {w w' : World} {ρ : List AV} {a : Act}
variable {dst : Option Tmp} {type : TypeId} {pos : String} {after : Array Edge} {guard : Option (Nat × Bool)}
theorem r_mks {t e : TypeId} {i : TypeInfo} {L C : Operand} {l c : AOpd} {zs : List AV} (ht : P.underlying t = some (.slice e)) (hi : P.info? e = some i) (hz : zeroCells? P e = some zs) (hL : opnd glob L = some l) (hC : opnd glob C = some c)
    (hzl : zs.length = i.size) (hst : zs.all AV.still = true) {av : AV} (h : evR H ρ (.mks i.size i.bytes zs l c) = some av) (hw : WF g H w) (hg : GlobOk glob g) (hs : SlotRel g ρ a.tmps) :
    Gives P ⟨dst, .makeSlice t L C, type, pos, after, guard⟩ a w (QPost g H w av) := by
  simp only [evR] at h
  have hrl := opnd_sound hL hg hs
  have hrc := opnd_sound hC hg hs
  split at h
  · rename_i k1 n k2 m e1 e2
    rw [e1] at hrl
    rw [e2] at hrc
    have el := hrl.int_inv
    have ec := hrc.int_inv
    split at h
    · rename_i hcond
      obtain ⟨h0, rfl, hroom⟩ := hcond
      obtain ⟨it, z, hi', hzz, hzr⟩ := zeroCells?_spec hz
      rw [hi] at hi'
      cases hi'
      obtain ⟨n', rfl⟩ := Int.eq_ofNat_of_zero_le h0
      simp only [roomy, decide_eq_true_eq, Int.toNat_natCast] at hroom
      have hb1 : n' * i.bytes ≤ n' * (i.bytes + 1) := Nat.mul_le_mul_left _ (by omega)
      have hb2 : n' ≤ n' * (i.bytes + 1) := Nat.le_mul_of_pos_right _ (by omega)
      have hwrap : IntKind.i64.wrap (n' : Int) = (n' : Int) := by
        unfold IntKind.wrap
        simp only [IntKind.bits, IntKind.signed]
        have : ((n' : Int) % 2 ^ 64) = n' := Int.emod_eq_of_lt (by omega) (by omega)
        simp; omega
      have hcast : (i.bytes : Int) * (n' : Int) ≤ 281474976710656 := by
        have : ((i.bytes * n' : Nat) : Int) = (i.bytes : Int) * (n' : Int) := by simp
        rw [← this, Nat.mul_comm]; omega
      have hrun : (Instr.makeSlice t (.int k1 n') (.int k2 n')).run P w = .ok (.slice (some ⟨w.heap.size, 0, none⟩) n' n') (w.alloc (.cells ((Array.range (n' * i.size)).map (z.cells[· % z.cells.size]!)) e)) := by
        have hn1 : ¬ ((n' : Int) < 0) := by omega
        have hn2 : ¬ ((i.bytes : Int) * (n' : Int) > 281474976710656) := by omega
        by_cases hz0 : n' * i.size = 0
        · simp [Instr.makeSlice, run_underlying ht, asInt, asIntOf, typeInfo, hi, hwrap, hn1, hn2, sizeOf, hz0, newRow, Array.range_zero']
        · simp [Instr.makeSlice, run_underlying ht, asInt, asIntOf, typeInfo, hi, hwrap, hn1, hn2, sizeOf, hz0, zeroValue, hzz, newRow]
      have hrow0 : RowsRel g i.size (List.replicate n' (zs.map AV.strip1)) (((Array.range (n' * i.size)).map (z.cells[· % z.cells.size]!)).toList) := zeroRows (hzr g).strip1 (by simpa using hzl)
      have hst0 : (List.replicate n' (zs.map AV.strip1)).all (fun r => r.all AV.still) = true := by
        rw [List.all_eq_true]; intro r hm; rw [(List.mem_replicate.1 hm).2]; exact map_strip1_still hst
      have hlen0 : (List.replicate n' (zs.map AV.strip1)).length = n' := by simp
      have htake : (((Array.range (n' * i.size)).map (z.cells[· % z.cells.size]!)).toList).take ((List.replicate n' (zs.map AV.strip1)).length * i.size) = ((Array.range (n' * i.size)).map (z.cells[· % z.cells.size]!)).toList :=
        List.take_of_length_le (by simp)
      simp only [Int.toNat_natCast] at h
      cases h
      have hstep := Step.allocPerm (w' := w.alloc (.cells ((Array.range (n' * i.size)).map (z.cells[· % z.cells.size]!)) e)) hw ((Array.range (n' * i.size)).map (z.cells[· % z.cells.size]!)) e (0, 0) rfl
      have hv := VRel.sl_new (f := true) (cap := n') (b := w.heap.size) hst0 (by omega) (fun _ => hlen0.symm) (by rw [htake]; exact hrow0.mono hstep.le)
      rw [hlen0] at hv
      exact ⟨.slice (some ⟨w.heap.size, 0, none⟩) n' n', _, by simp only [execOp, el, ec, Sem.run_bind, hrun, Result.andThen_ok, Sem.run_pure], _, hstep, hv⟩
    · cases h
  · cases h
end
end Go.Proofs.AM
end
section
namespace Go.Proofs.AM
open Go
section
variable {P : Program} {glob : Nat → Option (List AV)} {g : G} {H : List AObj} {w : World} {ρ : List AV} {a : Act}
theorem oopnd_none {X : Option Operand} (h : oopnd glob X = some none) : X = none := by
  cases X with
  | none => rfl
  | some x => simp only [oopnd] at h; obtain ⟨z, _, hz⟩ := map_some h; cases hz
theorem opnds_one {X : Array Operand} {x : AOpd} (h : opnds glob X.toList = some [x]) : ∃ Y, X = #[Y] ∧ opnd glob Y = some x := by
  obtain ⟨l⟩ := X
  simp only at h
  cases l with
  | nil => simp [opnds] at h
  | cons Y r =>
    simp only [opnds] at h
    split at h
    · cases h
    · rename_i y hy
      split at h
      · cases h
      · rename_i ys hys
        cases h
        cases r with
        | nil => exact ⟨Y, rfl, hy⟩
        | cons Z r =>
          simp only [opnds] at hys
          split at hys
          · cases hys
          · split at hys <;> cases hys
theorem opnds_two {X : Array Operand} {x y : AOpd} (h : opnds glob X.toList = some [x, y]) : ∃ Y Z, X = #[Y, Z] ∧ opnd glob Y = some x ∧ opnd glob Z = some y := by
  obtain ⟨l⟩ := X
  simp only at h
  cases l with
  | nil => simp [opnds] at h
  | cons Y r =>
    simp only [opnds] at h
    split at h
    · cases h
    · rename_i z hz
      split at h
      · cases h
      · rename_i ys hys
        cases h
        obtain ⟨Z, e, hZ⟩ := opnds_one (X := r.toArray) (by simpa using hys)
        have : r = [Z] := by simpa using congrArg Array.toList e
        subst this
        exact ⟨Y, Z, rfl, hz, hZ⟩
theorem toList_one {α : Type} {X : Array α} {t : α} (h : X.toList = [t]) : X = #[t] := by
  obtain ⟨l⟩ := X
  simp at h
  rw [h]
theorem toList_two {α : Type} {X : Array α} {t u : α} (h : X.toList = [t, u]) : X = #[t, u] := by
  obtain ⟨l⟩ := X
  simp at h
  rw [h]
theorem evR_sound {o : Oper} {op : AOp} (hc : cOp P glob o = some op) {av : AV} (h : evR H ρ op = some av) (hw : WF g H w) (hg : GlobOk glob g) (hs : SlotRel g ρ a.tmps) :
    Gives P o a w (QPost g H w av) := by
  obtain ⟨dst, o, type, pos, after, guard⟩ := o
  unfold cOp at hc
  dsimp only at hc
  split at hc
  · obtain ⟨x, hx, rfl⟩ := map_some hc
    simp only [evR, Option.some.injEq] at h
    subst h
    exact r_move hx hw hg hs
  · obtain ⟨x, hx, rfl⟩ := map_some hc
    simp only [evR, Option.some.injEq] at h
    subst h
    exact r_assign hx hw hg hs
  · split at hc
    · rename_i c x y h1 h2 h3
      cases hc
      simp only [evR] at h
      split at h
      · rename_i t ht
        cases h
        exact r_pick h1 h2 h3 ht hw hg hs
      · cases h
    · cases hc
  · obtain ⟨zs, hz, rfl⟩ := map_some hc
    exact r_alloc hz h hw
  · split at hc
    · rename_i n x h1 h2
      cases hc
      exact r_box h2 h hw hg hs
    · cases hc
  · split at hc
    · rename_i zs fields h1 h2
      split at hc
      · rename_i hall
        obtain ⟨aps, hp, rfl⟩ := map_some hc
        exact r_build h1 (.inl ⟨fields, h2, hall, hp⟩) h hw hg hs
      · cases hc
    · rename_i zs n e h1 h2
      split at hc
      · rename_i k hk
        obtain ⟨aps, hp, rfl⟩ := map_some hc
        exact r_build h1 (.inr ⟨n, e, k, h2, hk, hp⟩) h hw hg hs
      · cases hc
    · cases hc
  · split at hc
    · rename_i e ht
      split at hc
      · rename_i k zs ps h1 h2 h3
        split at hc
        · rename_i hcond
          cases hc
          exact r_bsl ht h1 h2 h3 hcond.2.1 hcond.2.2.1 hcond.2.2.2 h hw hg hs |> fun f => f
        · cases hc
      · cases hc
    · cases hc
  · split at hc
    · rename_i n agg x h1 h2
      cases hc
      simp only [evR] at h
      split at h
      · rename_i cs hcs
        exact r_load h2 h1 hcs h hw hg hs
      · cases h
    · cases hc
  · split at hc
    · cases hc
      simp [evR] at h
    · cases hc
  · obtain ⟨x, hx, rfl⟩ := map_some hc
    exact r_nilck hx h hw hg hs
  · split at hc
    · rename_i hn
      split at hc
      · obtain ⟨x, hx, rfl⟩ := map_some hc
        exact r_isnil hx hn (.inl ⟨rfl, rfl⟩) h hw hg hs
      · obtain ⟨x, hx, rfl⟩ := map_some hc
        exact r_isnil hx hn (.inr ⟨rfl, rfl⟩) h hw hg hs
      · cases hc
    · split at hc
      · rename_i x y h1 h2
        cases hc
        exact r_bin h1 h2 h hw hg hs
      · cases hc
  · obtain ⟨x, hx, rfl⟩ := map_some hc
    exact r_un hx h hw hg hs
  · split at hc
    · rename_i c x h1 h2
      cases hc
      exact r_conv h1 h2 h hw hg hs
    · cases hc
  · split at hc
    · rename_i x y h1 h2
      cases hc
      exact r_mkf h1 h2 h hw hg hs
    · cases hc
  · split at hc
    · rename_i e ht
      split at hc
      · rename_i i zs l c h1 h2 h3 h4
        split at hc
        · rename_i hcond
          cases hc
          exact r_mks ht h1 h2 h3 h4 hcond.2.1 hcond.2.2 h hw hg hs
        · cases hc
      · cases hc
    · cases hc
  · split at hc
    · rename_i x lo hi h1 h2 h3 h4 h5
      cases hc
      cases oopnd_none h5
      exact r_sliceS h2 h3 h4 h1 h hw hg hs
    · rename_i e x lo hi mx h1 h2 h3 h4 h5
      split at hc
      · rename_i k hk
        split at hc
        · cases hc
          exact r_sliceV h2 h3 h4 h5 h1 hk h hw hg hs
        · cases hc
      · cases hc
    · rename_i n e x lo hi mx h1 h2 h3 h4 h5
      split at hc
      · rename_i k hk
        split at hc
        · cases hc
          exact r_sliceA h2 h3 h4 h5 h1 hk h hw hg hs
        · cases hc
      · cases hc
    · cases hc
  · split at hc
    · rename_i fields x h1 h2
      split at hc
      · rename_i fd hfd
        split at hc
        · rename_i n hn
          cases hc
          exact r_fa h2 h1 hfd hn h hw hg hs
        · cases hc
      · cases hc
    · cases hc
  · split at hc
    · rename_i fields x h1 h2
      split at hc
      · rename_i fd hfd
        split at hc
        · rename_i n agg hn
          cases hc
          exact r_fld h2 h1 hfd hn h hw hg hs
        · cases hc
      · cases hc
    · cases hc
  · split at hc
    · rename_i n e x i h1 h2 h3
      split at hc
      · rename_i k hk
        cases hc
        exact r_iaA h2 h3 h1 hk h hw hg hs
      · cases hc
    · rename_i e x i h1 h2 h3
      split at hc
      · rename_i k hk
        split at hc
        · cases hc
          exact r_iaV h2 h3 h1 hk h hw hg hs
        · cases hc
      · cases hc
    · cases hc
  · split at hc
    · rename_i n e x i h1 h2 h3
      split at hc
      · rename_i k agg hk
        cases hc
        exact r_ixA h2 h3 h1 hk h hw hg hs
      · cases hc
    · rename_i x i h1 h2 h3
      cases hc
      exact r_ixS h2 h3 h1 h hw hg hs
    · cases hc
  · obtain ⟨x, hx, rfl⟩ := map_some hc
    exact r_ext hx h hw hg hs
  · cases hc
    simp [evR] at h
  · split at hc
    · split at hc
      · cases hc
        simp [evR] at h
      · cases hc
    · cases hc
  · split at hc
    · rename_i kt et ht
      split at hc
      · rename_i K z m k hk hz h1 h2
        cases hc
        exact r_look ht hk hz h1 h2 h hw hg hs
      · cases hc
    · cases hc
  · split at hc
    · rename_i x t h1 h2
      obtain ⟨X, rfl, hx⟩ := opnds_one h1
      cases toList_one h2
      split at hc
      · rename_i ht
        cases hc
        exact r_lenS hx ht h hw hg hs
      · rename_i e ht
        cases hc
        exact r_lenV hx ht h hw hg hs
      · rename_i n e ht
        cases hc
        simp only [evR, Option.some.injEq] at h
        subst h
        exact r_lenC ht hw
      · cases hc
    · repeat' split at hc
      all_goals first | (cases hc; done) | (cases hc; simp [evR] at h)
    · rename_i xs h1
      cases hc
      exact r_mm (mx := true) h1 h hw hg hs
    · rename_i xs h1
      cases hc
      exact r_mm (mx := false) h1 h hw hg hs
    · cases hc
  · split at hc
    · cases hc
      simp [evR] at h
    · cases hc
  · cases hc
end
end Go.Proofs.AM
end
section
namespace Go.Proofs.AM
open Go
section
variable {P : Program} {glob : Nat → Option (List AV)} {g : G} {H : List AObj} {w : World} {ρ : List AV} {a : Act}
variable {dst : Option Tmp} {type : TypeId} {pos : String} {after : Array Edge} {guard : Option (Nat × Bool)}
def Does (P : Program) (o : Oper) (a : Act) (w : World) (R : Value → World → Prop) : Prop :=
  (∃ v w', (execOp a.eval o).run P w = .ok (.value v) w' ∧ R v w') ∨ (∃ w', (execOp a.eval o).run P w = .ok .skip w' ∧ R Go.undef w') ∨
  (∃ f args w1, (execOp a.eval o).run P w = .ok (.enter f args) w1 ∧ Calls P f args w1 fun e w' => match e with | .returned v => R v w' | _ => False)
theorem Does.wp {o : Oper} {R : Value → World → Prop} (h : Does P o a w R) {next : Act → World → Prop} {Q : Exit → Act → World → Prop} (hn : ∀ v w', R v w' → next (a.put o.dst v) w') :
    o.wp P a w next Q := by
  unfold Oper.wp
  rcases h with ⟨v, w', hr, hR⟩ | ⟨w', hr, hR⟩ | ⟨f, args, w1, hr, hR⟩
  · rw [hr]; exact hn v w' hR
  · rw [hr]; exact hn _ w' hR
  · rw [hr]
    refine Calls.mono hR fun e w' he => ?_
    cases e with
    | returned v => exact hn v w' he
    | panicked c => exact he.elim
    | outgrown => exact he.elim
theorem Gives.does {o : Oper} {R : Value → World → Prop} (h : Gives P o a w R) : Does P o a w R := .inl h
theorem setCells_heap (b : Nat) : ∀ (vs : List Value) (o : Nat) (w : World), (w.setCells b o vs).heap.size = w.heap.size ∧ ∀ b', b' ≠ b → (w.setCells b o vs).heap[b']? = w.heap[b']?
  | [], _, _ => ⟨rfl, fun _ _ => rfl⟩
  | v :: r, o, w => by
    obtain ⟨h1, h2⟩ := setCells_heap b r (o + 1) (w.setCell ⟨b, o, none⟩ v)
    refine ⟨by rw [World.setCells, h1, World.size_setCell], fun b' hb => ?_⟩
    rw [World.setCells, h2 b' hb]
    simp [World.setCell, Array.getElem?_modify, Ne.symm hb]
theorem VRel.oneCell {v : AV} {x : Value} (h : VRel g v x) (hok : v.cellOk = true) : x.oneCell' = true := by
  cases h <;> first | rfl | (simp [AV.cellOk] at hok)
theorem LRel.oneCell {vs : List AV} {xs : List Value} (h : LRel g vs xs) (hok : vs.all AV.cellOk = true) : ∀ x ∈ xs, x.oneCell' = true := by
  intro x hx
  obtain ⟨i, hi⟩ := List.mem_iff_getElem?.1 hx
  have hlt : i < vs.length := by rw [h.1]; exact (List.getElem?_eq_some_iff.1 hi).1
  exact (h.2 i vs[i] x (by simp [hlt]) hi).oneCell (List.all_eq_true.1 hok _ (List.getElem_mem hlt))
theorem setCell_io (w : World) (a : Addr) (v : Value) : (w.setCell a v).os = w.os ∧ (w.setCell a v).output = w.output := by
  unfold World.setCell
  split <;> exact ⟨rfl, rfl⟩
theorem setCells_io (b : Nat) : ∀ (vs : List Value) (off : Nat) (w : World), (w.setCells b off vs).os = w.os ∧ (w.setCells b off vs).output = w.output
  | [], _, _ => ⟨rfl, rfl⟩
  | v :: vs, off, w => by
    have h1 := setCell_io w ⟨b, off, none⟩ v
    have h2 := setCells_io b vs (off + 1) (w.setCell ⟨b, off, none⟩ v)
    exact ⟨h2.1.trans h1.1, h2.2.trans h1.2⟩
theorem Step.write (hw : WF g H w) {o : Nat} {l : Loc} {x x' : AObj} (hb : Backed g H o l x) {off : Nat} {xs : List Value}
    (hver : x'.ver = x.ver) (hal : x'.alive = true)
    (hobj : ObjAt g (w.setCells l.b off xs) l x') : Step g H w g (H.set o x') (w.setCells l.b off xs) [o] := by
  obtain ⟨h1, h2⟩ := setCells_heap l.b xs off w
  have hg : g.setObj o l = g := by
    cases g with
    | mk p ob wh io =>
      have := hb.loc
      simp only [G.setObj, G.mk.injEq, true_and, and_true]
      funext o'
      by_cases e : o' = o
      · subst e; simpa using this.symm
      · simp [e]
  have := Step.update (w' := w.setCells l.b off xs) hw o x' l (hw.lt o l hb.loc) (by rw [h1]; exact Nat.le_refl _)
    (fun b _ hne => h2 b (Ne.symm (hne l x hb))) (by rw [h1]; exact hw.blk o l hb.loc) (.inr ⟨l, x, hb, rfl⟩) (by rw [hver]; exact hb.st) hal
    (fun l0 h0 => by rw [hb.loc] at h0; cases h0; exact ⟨Nat.le_refl _, fun _ => ⟨Nat.le_refl _, fun _ => rfl⟩⟩)
    (fun _ => by rw [hg]; exact hobj) (setCells_io _ _ _ _)
  rwa [hg] at this
theorem storeCells_sound (hw : WF g H w) {vs : List AV} {pv : AV} {H' : List AObj} {wr : List Nat} (h : storeCells H vs pv = some (H', wr)) {x : Value} (hx : VRel g pv x)
    {xs : List Value} (hl : LRel g vs xs) :
    ∃ b off, x = .pointer (some ⟨b, off, none⟩) ∧ (∀ j, j < xs.length → (w.cell? ⟨b, off + j, none⟩).isSome = true) ∧ (∀ j, j < xs.length → w.frozen? ⟨b, off + j, none⟩ = false) ∧
      Step g H w g H' (w.setCells b off xs) wr := by
  cases hx with
  | ptr o v off l ad hlo hv hh =>
    simp only [storeCells] at h
    split at h
    · rename_i v' cells hH
      split at h
      · rename_i hc
        simp only [Option.some.injEq, Prod.mk.injEq] at h
        obtain ⟨rfl, rfl⟩ := h
        obtain ⟨rfl, hlen⟩ := hc
        have hst : l.st = v' := by
          have := hw.st o _ l hH hlo
          simp only [AObj.ver] at this
          omega
        have hb : Backed g H o l (.box v' cells) := ⟨hH, rfl, hlo, hst⟩
        obtain ⟨h0, hsoft, hcell⟩ := hw.obj o l _ hb
        have ha := hh hst h0
        subst ha
        have hin : ∀ j, j < xs.length → (w.cell? ⟨l.b, off + j, none⟩).isSome = true := fun j hj => by
          have := hl.1
          obtain ⟨y, hy, _⟩ := hcell (off + j) (cells[off + j]'(by omega)) (by simp)
          rw [hy]; rfl
        refine ⟨l.b, off, rfl, hin, fun j hj => hsoft _ (hin j hj), Step.write hw hb rfl rfl ⟨h0, fun j hj => ?_, fun j c hc => ?_⟩⟩
        · rw [World.frozen?_setCells]
          refine hsoft j ?_
          by_cases hr : off ≤ j ∧ j < off + xs.length
          · have := hin (j - off) (by omega)
            rwa [show off + (j - off) = j by omega] at this
          · rwa [World.cell?_setCells_out l.b xs off w ⟨l.b, j, none⟩ (fun _ _ => by simp; omega)] at hj
        · rw [fillRow_get _ _ _ hlen] at hc
          have hlx := hl.1
          by_cases hr : off ≤ j ∧ j < off + vs.length
          · rw [if_pos hr] at hc
            have := World.cell?_setCells_in l.b xs off w hin (j - off) (by omega)
            rw [show off + (j - off) = j by omega] at this
            exact ⟨_, this, hl.2 (j - off) c _ hc (by simp)⟩
          · rw [if_neg hr] at hc
            obtain ⟨y, hy, hr'⟩ := hcell j c hc
            exact ⟨y, by rw [World.cell?_setCells_out l.b xs off w ⟨l.b, j, none⟩ (fun _ _ => by simp; omega)]; exact hy, hr'⟩
      · cases h
    · cases h
  | vp o v n k1 i off l ad hlo hv hn hh =>
    simp only [storeCells] at h
    split at h
    · rename_i v' k rows hH
      split at h
      · rename_i hc
        obtain ⟨rfl, hlen, rfl⟩ := hc
        split at h
        · rename_i row hrow
          split at h
          · rename_i hcc
            simp only [Option.some.injEq, Prod.mk.injEq] at h
            obtain ⟨rfl, rfl⟩ := h
            have hst : l.st = v' := by
              have := hw.st o _ l hH hlo
              simp only [AObj.ver] at this
              omega
            have hb : Backed g H o l (.vec v' k rows) := ⟨hH, rfl, hlo, hst⟩
            obtain ⟨h0, hlk, hcap, hsoft, hk, hsome, hcell⟩ := hw.obj o l _ hb
            have ha := hh hst (by omega)
            subst ha
            have hls := hl.strip1
            have hlx := hls.1
            simp only [List.length_map] at hlx
            have hi : i < rows.length := (List.getElem?_eq_some_iff.1 hrow).1
            have hrk := hk row (List.mem_of_getElem? hrow)
            have hin : ∀ j, j < xs.length → (w.cell? ⟨l.b, i * k + off + j, none⟩).isSome = true := fun j hj => by
              rw [Nat.add_assoc]
              obtain ⟨_, y, hy, _⟩ := hcell i (off + j) row (row[off + j]'(by omega)) hrow (by simp)
              rw [hy]; rfl
            refine ⟨l.b, i * k + off, rfl, hin, fun j hj => hsoft _ (hin j hj), Step.write hw hb rfl rfl ⟨by simpa using h0, hlk, by simpa using hcap, fun j hj => ?_, fun r hr => ?_, fun j hj => ?_, fun i' j r c h1 h2 => ?_⟩⟩
            · rw [World.frozen?_setCells]
              refine hsoft j ?_
              by_cases hr : i * k + off ≤ j ∧ j < i * k + off + xs.length
              · have := hin (j - (i * k + off)) (by omega)
                rwa [show i * k + off + (j - (i * k + off)) = j by omega] at this
              · rwa [World.cell?_setCells_out l.b xs (i * k + off) w ⟨l.b, j, none⟩ (fun _ _ => by simp; omega)] at hj
            · rcases List.mem_or_eq_of_mem_set hr with hr' | rfl
              · exact hk r hr'
              · rw [fillRow_len _ _ _ (by simpa using hcc.1)]; exact hrk
            · by_cases hr : i * k + off ≤ j ∧ j < i * k + off + xs.length
              · have := World.cell?_setCells_in l.b xs (i * k + off) w hin (j - (i * k + off)) (by omega)
                rw [show i * k + off + (j - (i * k + off)) = j by omega] at this
                rw [this]; rfl
              · rw [World.cell?_setCells_out l.b xs (i * k + off) w ⟨l.b, j, none⟩ (fun _ _ => by simp; omega)]
                exact hsome j hj
            · by_cases e : i' = i
              · subst e
                simp [hi] at h1
                subst h1
                rw [fillRow_get _ _ _ (by simpa using hcc.1)] at h2
                simp only [List.length_map] at h2
                by_cases hr : off ≤ j ∧ j < off + vs.length
                · rw [if_pos hr] at h2
                  have := World.cell?_setCells_in l.b xs (i' * k + off) w hin (j - off) (by omega)
                  rw [show i' * k + off + (j - off) = i' * k + j by omega] at this
                  exact ⟨List.all_eq_true.1 hcc.2 c (List.mem_of_getElem? h2), _, this, hls.2 (j - off) c _ h2 (by simp)⟩
                · rw [if_neg hr] at h2
                  obtain ⟨hs, y, hy, hr'⟩ := hcell i' j row c hrow h2
                  exact ⟨hs, y, by rw [World.cell?_setCells_out l.b xs (i' * k + off) w ⟨l.b, i' * k + j, none⟩ (fun _ _ => by simp; omega)]; exact hy, hr'⟩
              · rw [getElem?_set_ne' _ _ (Ne.symm e)] at h1
                obtain ⟨hs, y, hy, hr'⟩ := hcell i' j r c h1 h2
                refine ⟨hs, y, ?_, hr'⟩
                rw [World.cell?_setCells_out l.b xs (i * k + off) w ⟨l.b, i' * k + j, none⟩ (fun _ _ => ?_)]
                · exact hy
                · have hj : j < k := by
                    have := (List.getElem?_eq_some_iff.1 h2).1
                    have := hk r (List.mem_of_getElem? h1)
                    omega
                  by_cases hlt : i' * k + j < i * k + off
                  · exact .inl hlt
                  · by_cases hge : i * k + off + xs.length ≤ i' * k + j
                    · exact .inr hge
                    · exfalso
                      have hoff : i' * k + j - i * k < k := by have := hcc.1; omega
                      exact e (cell_inj (j := j) (j' := i' * k + j - i * k) hj hoff (by omega)).1
          · cases h
        · cases h
      · cases h
    · cases h
  | _ => simp [storeCells] at h
theorem w_store {t : TypeId} {n : Nat} {X V : Operand} {x v : AOpd} (ht : size? P t = some n) (hx : opnd glob X = some x) (hv : opnd glob V = some v) {call : Nat → List AV → List AObj → Out} {site : Option Nat}
    {av : AV} {H' : List AObj} {wr : List Nat} (h : evW call H ρ site (.store n x v) = some (av, H', wr)) (hw : WF g H w) (hg : GlobOk glob g) (hs : SlotRel g ρ a.tmps) :
    Does P ⟨dst, .store t X V, type, pos, after, guard⟩ a w fun v w' => ∃ g', Step g H w g' H' w' wr ∧ VRel g' av v := by
  simp only [evW] at h
  split at h
  · rename_i hc
    split at h
    · rename_i H1 wr1 hst
      cases h
      have hl := (opnd_sound hv hg hs).cells hc.2
      obtain ⟨b, off, ex, hin, hfr, hstep⟩ := storeCells_sound hw hst (opnd_sound hx hg hs) hl
      have hrun := run_storeCells_cells (P := P) b off (a.eval V).cells.toList 0 w (by simpa using hin) (by simpa using hfr) (hl.oneCell hc.2)
      have hsz : (a.eval V).cells.size = n := by have := hl.1; simp at this; omega
      refine .inr (.inl ⟨_, ?_, g, hstep, .undef _⟩)
      simp only [execOp, ex, Instr.storeAt, Sem.run_bind, Instr.sureAddr, Sem.run_pure, Result.andThen_ok, storeVar, run_sizeOf' ht, hsz, ne_eq, not_true_eq_false, if_false, hrun, Nat.add_zero]
    · cases h
  · cases h
end
end Go.Proofs.AM
end
section
namespace Go.Proofs.AM
open Go
section
variable {P : Program} {glob : Nat → Option (List AV)} {g : G} {H : List AObj} {w w' : World} {ρ : List AV} {a : Act}
variable {dst : Option Tmp} {type : TypeId} {pos : String} {after : Array Edge} {guard : Option (Nat × Bool)}
theorem Step.newObj (hw : WF g H w) {id : Nat} (hid : id < H.length) {c : Array Value} {t : TypeId} (e : w'.heap = w.heap.push (.cells c t)) {l' : Loc} (hb : l'.b = w.heap.size) (hst : l'.st = verAt H id)
    {x' : AObj} (hver : x'.ver = verAt H id) (hal : x'.alive = true) (hobj : g.le (g.setObj id l') → ObjAt (g.setObj id l') w' l' x') (io : w'.os = w.os ∧ w'.output = w.output := by exact ⟨rfl, rfl⟩) :
    Step g H w (g.setObj id l') (H.set id x') w' [id] := by
  refine Step.update hw id x' l' hid (by rw [e]; simp) (fun b hb' _ => alloc_heap_old e hb') (by rw [e, hb]; simp) (.inl (by omega)) (by omega) hal (fun l hl => ?_) hobj io
  have hx : H[id]? = some H[id] := by simp [hid]
  have := hw.st id _ l hx hl
  have hv : verAt H id = H[id].ver + 1 := by simp [verAt, hid]
  omega
theorem cell_new {c : Array Value} {t : TypeId} (e : w'.heap = w.heap.push (.cells c t)) (j : Nat) : w'.cell? ⟨w.heap.size, j, none⟩ = c[j]? := by
  simp [World.cell?, e]
theorem soft_new {c : Array Value} {t : TypeId} (e : w'.heap = w.heap.push (.cells c t)) : Soft w' w.heap.size := fun j _ => by
  simp [World.frozen?, e]
theorem Step.newBox (hw : WF g H w) {id : Nat} (hid : id < H.length) {c : Array Value} {t : TypeId} (e : w'.heap = w.heap.push (.cells c t)) {cs : List AV} (hl : LRel g cs c.toList) (io : w'.os = w.os ∧ w'.output = w.output := by exact ⟨rfl, rfl⟩) :
    ∃ g', Step g H w g' (make H id (.box · cs)) w' [id] ∧ VRel g' (.ptr id (verAt H id) 0) (.pointer (some ⟨w.heap.size, 0, none⟩)) := by
  refine ⟨g.setObj id ⟨w.heap.size, verAt H id, 0, 0, 0⟩, Step.newObj hw hid e rfl rfl rfl rfl (fun hle => ⟨rfl, soft_new e, fun j a ha => ?_⟩) io, ?_⟩
  · have hj : j < cs.length := (List.getElem?_eq_some_iff.1 ha).1
    have hlen := hl.1
    simp at hlen
    rw [cell_new e]
    exact ⟨c[j]'(by omega), by simp, (hl.2 j a _ ha (by simp)).mono hle⟩
  · exact .ptr id _ 0 _ _ (by simp [G.setObj]; rfl) (Nat.le_refl _) fun _ _ => rfl
theorem Step.newVec (hw : WF g H w) {id : Nat} (hid : id < H.length) {c : Array Value} {t : TypeId} (e : w'.heap = w.heap.push (.cells c t)) {k cap : Nat} {rows : List (List AV)}
    (hr : RowsRel g k rows (c.toList.take (rows.length * k))) (hst : rows.all (fun r => r.all AV.cellOk) = true) (hcap : rows.length ≤ cap) (hsz : c.size = cap * k) (io : w'.os = w.os ∧ w'.output = w.output := by exact ⟨rfl, rfl⟩) :
    ∃ g', Step g H w g' (make H id (.vec · k rows)) w' [id] ∧ VRel g' (.sr id (verAt H id) rows.length) (.slice (some ⟨w.heap.size, 0, none⟩) rows.length cap) := by
  refine ⟨g.setObj id ⟨w.heap.size, verAt H id, rows.length, k, cap⟩, Step.newObj hw hid e rfl rfl rfl rfl (fun hle => ⟨rfl, rfl, hcap, soft_new e, hr.row, fun j hj => ?_, fun i j row a h1 h2 => ?_⟩) io, ?_⟩
  · rw [cell_new e]
    have : j < c.size := by rw [hsz]; exact hj
    simp [this]
  · have hi : i < rows.length := (List.getElem?_eq_some_iff.1 h1).1
    have hj : j < row.length := (List.getElem?_eq_some_iff.1 h2).1
    have hjk : j < k := by rw [← hr.row row (List.mem_of_getElem? h1)]; exact hj
    have hlt := lt_of_div hi hjk
    have hle' : rows.length * k ≤ cap * k := Nat.mul_le_mul_right _ hcap
    have hs := List.all_eq_true.1 (List.all_eq_true.1 hst row (List.mem_of_getElem? h1)) a (List.mem_of_getElem? h2)
    rw [cell_new e]
    refine ⟨hs, c[i * k + j]'(by omega), by simp, (hr.rel i j row a _ h1 h2 ?_).mono hle⟩
    rw [List.getElem?_take, if_pos hlt]
    simp
  · exact .sr id _ _ _ _ _ (by simp [G.setObj]; rfl) (Nat.le_refl _) (fun _ => Nat.le_refl _) fun _ _ => ⟨rfl, rfl⟩
theorem w_alloc {t : TypeId} {zs : List AV} (hz : zeroCells? P t = some zs) {call : Nat → List AV → List AObj → Out} {site : Option Nat}
    {av : AV} {H' : List AObj} {wr : List Nat} (h : evW call H ρ site (.alloc zs) = some (av, H', wr)) (hw : WF g H w) :
    Does P ⟨dst, .alloc t, type, pos, after, guard⟩ a w fun v w' => ∃ g', Step g H w g' H' w' wr ∧ VRel g' av v := by
  simp only [evW] at h
  split at h
  · rename_i id
    split at h
    · rename_i hid
      cases h
      obtain ⟨it, z, hi, hzz, hzr⟩ := zeroCells?_spec hz
      obtain ⟨g', h1, h2⟩ := Step.newBox (w' := w.alloc (.cells z.cells t)) hw hid (c := z.cells) (t := t) rfl (hzr g)
      exact .inl ⟨.pointer (some ⟨w.heap.size, 0, none⟩), w.alloc (.cells z.cells t), by simp [execOp, Instr.alloc, zeroValue, typeInfo, hi, hzz, newVar, newRow], g', h1, h2⟩
    · cases h
  · cases h
theorem w_box {t : TypeId} {n : Nat} {X : Operand} {x : AOpd} (hx : opnd glob X = some x) {call : Nat → List AV → List AObj → Out} {site : Option Nat}
    {av : AV} {H' : List AObj} {wr : List Nat} (h : evW call H ρ site (.box n x) = some (av, H', wr)) (hw : WF g H w) (hg : GlobOk glob g) (hs : SlotRel g ρ a.tmps) :
    Does P ⟨dst, .box t X, type, pos, after, guard⟩ a w fun v w' => ∃ g', Step g H w g' H' w' wr ∧ VRel g' av v := by
  simp only [evW] at h
  split at h
  · rename_i id
    split at h
    · rename_i hc
      cases h
      have hl := (opnd_sound hx hg hs).cells hc.2.2
      obtain ⟨g', h1, h2⟩ := Step.newBox (w' := w.alloc (.cells (a.eval X).cells t)) hw hc.1 (c := (a.eval X).cells) (t := t) rfl hl
      exact .inl ⟨.pointer (some ⟨w.heap.size, 0, none⟩), w.alloc (.cells (a.eval X).cells t), by simp [execOp, Instr.box, newVar, newRow], g', h1, h2⟩
    · cases h
  · cases h
theorem w_mks {t e : TypeId} {i : TypeInfo} {L C : Operand} {l c : AOpd} {zs : List AV} (ht : P.underlying t = some (.slice e)) (hi : P.info? e = some i) (hz : zeroCells? P e = some zs) (hL : opnd glob L = some l) (hC : opnd glob C = some c)
    (hzl : zs.length = i.size) (hst : zs.all AV.still = true) {call : Nat → List AV → List AObj → Out} {site : Option Nat}
    {av : AV} {H' : List AObj} {wr : List Nat} (h : evW call H ρ site (.mks i.size i.bytes zs l c) = some (av, H', wr)) (hw : WF g H w) (hg : GlobOk glob g) (hs : SlotRel g ρ a.tmps) :
    Does P ⟨dst, .makeSlice t L C, type, pos, after, guard⟩ a w fun v w' => ∃ g', Step g H w g' H' w' wr ∧ VRel g' av v := by
  simp only [evW] at h
  have hrl := opnd_sound hL hg hs
  have hrc := opnd_sound hC hg hs
  split at h
  · rename_i k1 n k2 m e1 e2
    rw [e1] at hrl
    rw [e2] at hrc
    have el := hrl.int_inv
    have ec := hrc.int_inv
    split at h
    · rename_i hcond
      obtain ⟨h0, rfl, hroom⟩ := hcond
      obtain ⟨it, z, hi', hzz, hzr⟩ := zeroCells?_spec hz
      rw [hi] at hi'
      cases hi'
      obtain ⟨n', rfl⟩ := Int.eq_ofNat_of_zero_le h0
      simp only [roomy, decide_eq_true_eq, Int.toNat_natCast] at hroom
      have hb1 : n' * i.bytes ≤ n' * (i.bytes + 1) := Nat.mul_le_mul_left _ (by omega)
      have hb2 : n' ≤ n' * (i.bytes + 1) := Nat.le_mul_of_pos_right _ (by omega)
      have hwrap : IntKind.i64.wrap (n' : Int) = (n' : Int) := by
        unfold IntKind.wrap
        simp only [IntKind.bits, IntKind.signed]
        have : ((n' : Int) % 2 ^ 64) = n' := Int.emod_eq_of_lt (by omega) (by omega)
        simp; omega
      have hcast : (i.bytes : Int) * (n' : Int) ≤ 281474976710656 := by
        have : ((i.bytes * n' : Nat) : Int) = (i.bytes : Int) * (n' : Int) := by simp
        rw [← this, Nat.mul_comm]; omega
      have hrun : (Instr.makeSlice t (.int k1 n') (.int k2 n')).run P w = .ok (.slice (some ⟨w.heap.size, 0, none⟩) n' n') (w.alloc (.cells ((Array.range (n' * i.size)).map (z.cells[· % z.cells.size]!)) e)) := by
        have hn1 : ¬ ((n' : Int) < 0) := by omega
        have hn2 : ¬ ((i.bytes : Int) * (n' : Int) > 281474976710656) := by omega
        by_cases hz0 : n' * i.size = 0
        · simp [Instr.makeSlice, run_underlying ht, asInt, asIntOf, typeInfo, hi, hwrap, hn1, hn2, sizeOf, hz0, newRow, Array.range_zero']
        · simp [Instr.makeSlice, run_underlying ht, asInt, asIntOf, typeInfo, hi, hwrap, hn1, hn2, sizeOf, hz0, zeroValue, hzz, newRow]
      have hrow0 : RowsRel g i.size (List.replicate n' (zs.map AV.strip1)) (((Array.range (n' * i.size)).map (z.cells[· % z.cells.size]!)).toList) := zeroRows (hzr g).strip1 (by simpa using hzl)
      have hst0 : (List.replicate n' (zs.map AV.strip1)).all (fun r => r.all AV.still) = true := by
        rw [List.all_eq_true]; intro r hm; rw [(List.mem_replicate.1 hm).2]; exact map_strip1_still hst
      have hlen0 : (List.replicate n' (zs.map AV.strip1)).length = n' := by simp
      have htake : (((Array.range (n' * i.size)).map (z.cells[· % z.cells.size]!)).toList).take ((List.replicate n' (zs.map AV.strip1)).length * i.size) = ((Array.range (n' * i.size)).map (z.cells[· % z.cells.size]!)).toList :=
        List.take_of_length_le (by simp)
      simp only [Int.toNat_natCast] at h
      split at h
      · rename_i id
        split at h
        · rename_i hid
          cases h
          obtain ⟨g', h1, h2⟩ := Step.newVec (w' := w.alloc (.cells ((Array.range (n' * i.size)).map (z.cells[· % z.cells.size]!)) e)) hw hid (t := e) rfl (k := i.size) (cap := n') (by rw [htake]; exact hrow0) (rows_still_cellOk hst0) (by omega) (by simp)
          rw [hlen0] at h2
          exact .inl ⟨.slice (some ⟨w.heap.size, 0, none⟩) n' n', _, by simp only [execOp, el, ec, Sem.run_bind, hrun, Result.andThen_ok, Sem.run_pure], g', h1, h2⟩
        · cases h
      · cases h
        have hstep := Step.allocPerm (w' := w.alloc (.cells ((Array.range (n' * i.size)).map (z.cells[· % z.cells.size]!)) e)) hw ((Array.range (n' * i.size)).map (z.cells[· % z.cells.size]!)) e (0, 0) rfl
        have hv := VRel.sl_new (f := true) (cap := n') (b := w.heap.size) hst0 (by omega) (fun _ => hlen0.symm) (by rw [htake]; exact hrow0.mono hstep.le)
        rw [hlen0] at hv
        exact .inl ⟨.slice (some ⟨w.heap.size, 0, none⟩) n' n', _, by simp only [execOp, el, ec, Sem.run_bind, hrun, Result.andThen_ok, Sem.run_pure], _, hstep, hv⟩
    · cases h
  · cases h
end
end Go.Proofs.AM
end
section
namespace Go.Proofs.AM
open Go
section
variable {P : Program} {glob : Nat → Option (List AV)} {g : G} {H : List AObj} {w w' : World} {ρ : List AV} {a : Act}
theorem vec_fixed (hw : WF g H w) {o : Nat} {l : Loc} {v k : Nat} {rows : List (List AV)} (hb : Backed g H o l (.vec v k rows)) (hstill : rows.all (fun r => r.all AV.still) = true) :
    VRel (g.addPerm l.b fun i => w.cell? ⟨l.b, i, none⟩) (.sl false rows) (.slice (some ⟨l.b, 0, none⟩) rows.length l.cap) := by
  obtain ⟨h0, hlk, hcap, hsoft, hk, hsome, hcell⟩ := hw.obj o l _ hb
  have hle := (Step.gone hw hb).le
  refine .sl false rows l.b 0 l.cap k hcap (by simp) hk (fun row hm => ?_) (fun i j hi hj => ?_) fun i j row c x h1 h2 h3 => ?_
  · obtain ⟨i, hi⟩ := List.mem_iff_getElem?.1 hm
    rw [List.all_eq_true]
    intro c hc
    exact List.all_eq_true.1 (List.all_eq_true.1 hstill row hm) c hc
  · have hrk := hk rows[i] (List.getElem_mem hi)
    obtain ⟨_, y, hy, _⟩ := hcell i j rows[i] (rows[i][j]'(by omega)) (by simp [hi]) (by simp)
    simp only [G.addPerm, if_true, Nat.zero_add, hy]; rfl
  · obtain ⟨_, y, hy, hr⟩ := hcell i j row c h1 h2
    simp only [G.addPerm, if_true, Nat.zero_add, hy, Option.some.injEq] at h3
    subst h3
    exact hr.mono hle
structure Lent (g : G) (H : List AObj) (g' : G) (l : List Nat) : Prop where
  le : g.le g'
  vec : ∀ o lc v k rows, o ∈ l → Backed g H o lc (.vec v k rows) → rows.all (fun r => r.all AV.still) = true → VRel g' (.sl false rows) (.slice (some ⟨lc.b, 0, none⟩) rows.length lc.cap)
theorem Lent.sub {g' : G} {l l' : List Nat} (h : Lent g H g' l) (hs : ∀ o ∈ l', o ∈ l) : Lent g H g' l' := ⟨h.le, fun o lc v k rows ho => h.vec o lc v k rows (hs o ho)⟩
theorem goneAll_sound : ∀ (l : List Nat) (g : G) (H : List AObj), WF g H w → (∀ o ∈ l, (∃ lc x, Backed g H o lc x) ∨ ∃ v, H[o]? = some (.gone v)) →
    ∃ g', Step g H w g' (goneAll H l) w l ∧ Lent g H g' l
  | [], g, H, hw, _ => ⟨g, .refl hw, G.le.refl g, fun o lc v k rows ho => by simp at ho⟩
  | o :: r, g, H, hw, ho => by
    have hcase : (∃ v, H[o]? = some (.gone v)) ∨ ∃ lc x, Backed g H o lc x := (ho o (by simp)).symm
    rcases hcase with ⟨v, hv⟩ | ⟨lc, x, hb⟩
    · have hlt : o < H.length := (List.getElem?_eq_some_iff.1 hv).1
      have hset : H.set o (.gone ((H[o]?).elim 0 AObj.ver)) = H := by
        apply List.ext_getElem?
        intro i
        by_cases e : i = o
        · subst e
          have hg : H[i] = .gone v := by have := hv; simp [hlt] at this; exact this
          simp [hlt, hg, AObj.ver]
        · rw [getElem?_set_ne' _ _ (Ne.symm e)]
      obtain ⟨g', h1, h2⟩ := goneAll_sound r g H hw fun o' hm => ho o' (List.mem_cons_of_mem _ hm)
      refine ⟨g', ?_, h2.le, fun o' lc v' k rows hm hb hst => ?_⟩
      · simp only [goneAll, hset]
        exact h1.weaken fun o' hm => List.mem_cons_of_mem _ hm
      · rcases List.mem_cons.1 hm with rfl | hm
        · have := hb.at_; rw [hv] at this; cases this
        · exact h2.vec o' lc v' k rows hm hb hst
    · have hver : (H[o]?).elim 0 AObj.ver = x.ver := by rw [hb.at_]; rfl
      have h1 := Step.gone hw hb
      have hlt : o < H.length := hw.lt o lc hb.loc
      have hback : ∀ o' lc' x', o' ≠ o → Backed g H o' lc' x' → Backed (g.addPerm lc.b fun i => w.cell? ⟨lc.b, i, none⟩) (H.set o (.gone x.ver)) o' lc' x' := fun o' lc' x' hne hb' =>
        ⟨by rw [getElem?_set_ne' _ _ (Ne.symm hne)]; exact hb'.at_, hb'.alive, hb'.loc, hb'.st⟩
      obtain ⟨g', h2, h3⟩ := goneAll_sound r _ _ h1.wf fun o' hm => by
        by_cases e : o' = o
        · subst e; exact .inr ⟨x.ver, by simp [hlt]⟩
        · rcases ho o' (List.mem_cons_of_mem _ hm) with ⟨lc', x', hb'⟩ | ⟨v, hv⟩
          · exact .inl ⟨lc', x', hback o' lc' x' e hb'⟩
          · exact .inr ⟨v, by rw [getElem?_set_ne' _ _ (Ne.symm e)]; exact hv⟩
      refine ⟨g', ?_, h1.le.trans h3.le, fun o' lc' v k rows hm hb' hst => ?_⟩
      · simp only [goneAll, hver]
        exact h1.trans h2
      · by_cases e : o' = o
        · subst e
          have hl : lc' = lc := by have := hb'.loc; rw [hb.loc] at this; exact (Option.some.inj this).symm
          subst hl
          exact (vec_fixed hw hb' hst).mono h3.le
        · rcases List.mem_cons.1 hm with rfl | hm
          · exact absurd rfl e
          · exact h3.vec o' lc' v k rows hm (hback o' lc' _ e hb') hst
theorem lend1_sound (hw : WF g H w) {v v' : AV} {l : List Nat} (h : lend1 H v = some (v', l)) {x : Value} (hx : VRel g v x) :
    (∀ o ∈ l, ∃ lc y, Backed g H o lc y) ∧ ∀ g', Lent g H g' l → VRel g' v' x := by
  unfold lend1 at h
  split at h
  · rename_i o ve n
    split at h
    · rename_i v0 k rows hH
      split at h
      · rename_i hc
        cases h
        obtain ⟨rfl, hlen, hstill⟩ := hc
        cases hx with
        | sr o v n lc b cap hl hv hn hh =>
          have hst : lc.st = v0 := by
            have := hw.st o _ lc hH hl
            simp only [AObj.ver] at this
            omega
          have hb : Backed g H o lc (.vec v0 k rows) := ⟨hH, rfl, hl, hst⟩
          obtain ⟨h0, _⟩ := hw.obj o lc _ hb
          obtain ⟨rfl, rfl⟩ := hh hst (by omega)
          refine ⟨fun o' ho => ?_, fun g' hl' => ?_⟩
          · simp only [List.mem_singleton] at ho; subst ho; exact ⟨lc, _, hb⟩
          · rw [← hlen]; exact hl'.vec o lc v0 k rows (by simp) hb hstill
      · cases h
    · cases h
  · cases h
  · cases h
  · cases h; exact ⟨fun o ho => by simp at ho, fun g' hl => hx.mono hl.le⟩
theorem lendL_sound (hw : WF g H w) : ∀ {vs vs' : List AV} {l : List Nat}, lendL H vs = some (vs', l) → ∀ {xs : List Value}, LRel g vs xs →
    (∀ o ∈ l, ∃ lc y, Backed g H o lc y) ∧ ∀ g', Lent g H g' l → LRel g' vs' xs
  | [], vs', l, h, xs, hx => by
    simp only [lendL, Option.some.injEq, Prod.mk.injEq] at h
    obtain ⟨rfl, rfl⟩ := h
    exact ⟨fun o ho => by simp at ho, fun g' hl => hx.mono hl.le⟩
  | v :: r, vs', l, h, xs, hx => by
    unfold lendL at h
    split at h
    · cases h
    · rename_i v1 l1 h1
      split at h
      · cases h
      · rename_i r1 l2 h2
        cases h
        cases xs with
        | nil => have := hx.1; simp at this
        | cons x xs =>
          obtain ⟨a1, a2⟩ := lend1_sound hw h1 (hx.2 0 v x rfl rfl)
          obtain ⟨b1, b2⟩ := lendL_sound hw h2 (xs := xs) ⟨by have := hx.1; simpa using this, fun i c y hc hy => hx.2 (i + 1) c y (by simpa using hc) (by simpa using hy)⟩
          refine ⟨fun o ho => ?_, fun g' hl => ?_⟩
          · rcases List.mem_append.1 ho with h | h
            · exact a1 o h
            · exact b1 o h
          · have c1 := a2 g' (hl.sub fun o ho => List.mem_append_left _ ho)
            have c2 := b2 g' (hl.sub fun o ho => List.mem_append_right _ ho)
            refine ⟨by simp [c2.1], fun i c y hc hy => ?_⟩
            cases i with
            | zero => simp at hc hy; subst hc; subst hy; exact c1
            | succ i => exact c2.2 i c y (by simpa using hc) (by simpa using hy)
theorem lend_sound (hw : WF g H w) {v v' : AV} {l : List Nat} (h : lend H v = some (v', l)) {x : Value} (hx : VRel g v x) :
    (∀ o ∈ l, ∃ lc y, Backed g H o lc y) ∧ ∀ g', Lent g H g' l → VRel g' v' x := by
  unfold lend at h
  split at h
  · split at h
    · rename_i cs' l' hl
      cases h
      obtain ⟨vs, rfl, hr⟩ := hx.agg_list
      obtain ⟨a1, a2⟩ := lendL_sound hw hl hr
      exact ⟨a1, fun g' hg => (a2 g' hg).agg⟩
    · cases h
  · cases h
  · exact lend1_sound hw h hx
theorem lendAll_sound (hw : WF g H w) : ∀ {vs vs' : List AV} {l : List Nat}, lendAll H vs = some (vs', l) → ∀ {xs : List Value}, LRel g vs xs →
    (∀ o ∈ l, ∃ lc y, Backed g H o lc y) ∧ ∀ g', Lent g H g' l → LRel g' vs' xs
  | [], vs', l, h, xs, hx => by
    simp only [lendAll, Option.some.injEq, Prod.mk.injEq] at h
    obtain ⟨rfl, rfl⟩ := h
    exact ⟨fun o ho => by simp at ho, fun g' hl => hx.mono hl.le⟩
  | v :: r, vs', l, h, xs, hx => by
    unfold lendAll at h
    split at h
    · cases h
    · rename_i v1 l1 h1
      split at h
      · cases h
      · rename_i r1 l2 h2
        cases h
        cases xs with
        | nil => have := hx.1; simp at this
        | cons x xs =>
          obtain ⟨a1, a2⟩ := lend_sound hw h1 (hx.2 0 v x rfl rfl)
          obtain ⟨b1, b2⟩ := lendAll_sound hw h2 (xs := xs) ⟨by have := hx.1; simpa using this, fun i c y hc hy => hx.2 (i + 1) c y (by simpa using hc) (by simpa using hy)⟩
          refine ⟨fun o ho => ?_, fun g' hl => ?_⟩
          · rcases List.mem_append.1 ho with h | h
            · exact a1 o h
            · exact b1 o h
          · have c1 := a2 g' (hl.sub fun o ho => List.mem_append_left _ ho)
            have c2 := b2 g' (hl.sub fun o ho => List.mem_append_right _ ho)
            refine ⟨by simp [c2.1], fun i c y hc hy => ?_⟩
            cases i with
            | zero => simp at hc hy; subst hc; subst hy; exact c1
            | succ i => exact c2.2 i c y (by simpa using hc) (by simpa using hy)
theorem fix_sound (hw : WF g H w) {v v' : AV} {H' : List AObj} {l : List Nat} (h : fix H v = some (v', H', l)) {x : Value} (hx : VRel g v x) :
    ∃ g', Step g H w g' H' w l ∧ VRel g' v' x := by
  unfold fix at h
  split at h
  · rename_i v1 l1 hl
    cases h
    obtain ⟨a1, a2⟩ := lend_sound hw hl hx
    obtain ⟨g', h1, h2⟩ := goneAll_sound l g H hw fun o ho => .inl (a1 o ho)
    exact ⟨g', h1, (a2 g' h2).strip⟩
  · cases h
end
end Go.Proofs.AM
end
section
namespace Go.Proofs.AM
open Go
section
variable {P : Program} {glob : Nat → Option (List AV)} {g : G} {H : List AObj} {w w' : World} {ρ : List AV} {a : Act}
variable {dst : Option Tmp} {type : TypeId} {pos : String} {after : Array Edge} {guard : Option (Nat × Bool)}
structure News (P : Program) (w : World) (k : Nat) (x : Value) (n : Nat) (news : List Value) : Prop where
  len : ∀ w2, (Builtin.lenOf x).run P w2 = .ok n w2
  cells : ∀ w2 : World, w2.heap = w.heap → (Builtin.firstCells k n x).run P w2 = .ok news.toArray w2
  size : news.length = n * k
theorem appRows_sound (hw : WF g H w) {k : Nat} {v : AV} {new : List (List AV)} (h : appRows H v = some new) (hh : headOk k new = true) {x : Value} (hx : VRel g v x) :
    ∃ news, News P w k x new.length news ∧ RowsRel g k new news ∧ new.all (fun r => r.all AV.cellOk) = true := by
  have viaRows : ∀ v, rowsOf H v = some new → VRel g v x → ∃ news, News P w k x new.length news ∧ RowsRel g k new news ∧ new.all (fun r => r.all AV.cellOk) = true := by
    intro v h hx
    rcases rowsOf_sound hw h hx with ⟨rfl, cap, rfl⟩ | ⟨b, off, cap, k', cells, rfl, hcap, hrr, hst, hcell⟩
    · exact ⟨[],⟨fun _ => rfl, fun _ _ => rfl, by simp⟩,⟨by simp, fun r hr => by simp at hr, fun i j r c x h => by simp at h⟩, rfl⟩
    · have hk := headOk_all hh hrr.row
      have hlen : cells.length = new.length * k := by
        cases new with
        | nil => have := hrr.len; simpa using this
        | cons r rs => have h1 := hrr.row r (by simp); have h2 := hk r (by simp); have := hrr.len; rw [this]; congr 1; omega
      refine ⟨cells,⟨fun _ => rfl, fun w2 e => ?_, hlen⟩,⟨hlen, hk, fun i j row c y h1 h2 h3 => ?_⟩, List.all_eq_true.2 fun r hr => hst r hr⟩
      · have := run_loadCells_list (P := P) w2 ⟨b, off, none⟩ cells (fun j v hv => by rw [add_none]; simp only [World.cell?, e]; exact hcell j v hv)
        simp only [Builtin.firstCells]
        rw [← hlen]; exact this
      · have hkk : k' = k := by rw [← hrr.row row (List.mem_of_getElem? h1)]; exact hk row (List.mem_of_getElem? h1)
        exact hrr.rel i j row c y h1 h2 (by rw [hkk]; exact h3)
  unfold appRows at h
  split at h
  · rename_i l
    cases h
    obtain ⟨s, rfl, hs⟩ := hx.str_inv
    have hl : (rowsOfBytes l).length = s.size := by rw [str_size hs]; simp [rowsOfBytes]
    have hk : l ≠ [] → k = 1 := fun hne => by
      cases l with
      | nil => exact absurd rfl hne
      | cons b r => simp [rowsOfBytes, headOk] at hh; omega
    rw [hl]
    have harr : (Array.map (fun b : UInt8 => Value.int IntKind.u8 (b.toNat : Int)) s.data).extract 0 s.size = Array.map (fun b : UInt8 => Value.int IntKind.u8 (b.toNat : Int)) s.data := by
      have hsz : s.size = (Array.map (fun b : UInt8 => Value.int IntKind.u8 (b.toNat : Int)) s.data).size := by rw [Array.size_map]; rfl
      rw [hsz, Array.extract_size]
    have hnews : ((s.extract 0 s.size).data.map fun b => Value.int .u8 b.toNat) = ((l.map fun b => Value.int .u8 b.toNat)).toArray := by
      apply Array.ext'
      rw [Array.toList_map, str_extract hs]
      have : (l.take s.size).drop 0 = l := by rw [List.drop_zero, List.take_of_length_le (by rw [str_size hs]; exact Nat.le_refl _)]
      rw [this]
    refine ⟨l.map fun b => Value.int .u8 b.toNat,⟨fun _ => rfl, fun w2 _ => ?_, ?_⟩,⟨?_, ?_, ?_⟩, ?_⟩
    · simp only [Builtin.firstCells, hnews, Sem.run_pure]
    · by_cases hne : l = []
      · subst hne; have := str_size hs; simp at this; simp [this]
      · rw [hk hne, str_size hs]; simp
    · by_cases hne : l = []
      · subst hne; simp [rowsOfBytes]
      · rw [hk hne]; simp [rowsOfBytes]
    · intro row hm
      have hne : l ≠ [] := fun e => by subst e; simp [rowsOfBytes] at hm
      rw [hk hne]
      simp only [rowsOfBytes, List.mem_map] at hm
      obtain ⟨b, _, rfl⟩ := hm
      rfl
    · intro i j row c y h1 h2 h3
      simp only [rowsOfBytes, List.getElem?_map] at h1
      cases hb : l[i]? with
      | none => simp [hb] at h1
      | some b =>
        have hne : l ≠ [] := fun e => by subst e; simp at hb
        simp [hb] at h1
        subst h1
        cases j with
        | succ j => simp at h2
        | zero =>
          simp at h2
          subst h2
          rw [hk hne] at h3
          simp only [Nat.mul_one, Nat.add_zero, List.getElem?_map, hb, Option.map_some, Option.some.injEq] at h3
          subst h3
          exact .int _ _
    · simp [rowsOfBytes, AV.cellOk]
  · exact viaRows _ h hx
section
variable {t u e ty : TypeId} {i : TypeInfo} {z : Value} {d : TypeDesc}
theorem run_append_fit (ht : P.underlying t = some (.slice e)) (hu : P.underlying u = some d) (hd : ∀ k, d ≠ .int k) (hi : P.info? e = some i) {base : Option Addr} {sLen sCap n : Nat} {x : Value} {news : List Value} {w' : World}
    (hn : News P w i.size x n news) (hroom : sLen + n ≤ sCap)
    (hst : (match base with | some a => Go.storeCells (a.add (sLen * i.size)) news | none => (pure () : Sem Unit)).run P w = .ok () w') :
    (Builtin.append_ #[t, u] ty #[.slice base sLen sCap, x]).run P w = .ok (.slice base (sLen + n) sCap) w' := by
  cases base with
  | none =>
    simp only [Sem.run_pure, Result.ok.injEq, true_and] at hst
    subst hst
    simp [Builtin.append_, run_underlying ht, run_underlying hu, sizeOf, typeInfo, hi, hn.len, hroom, hn.cells w rfl]
  | some a =>
    simp only at hst
    simp [Builtin.append_, run_underlying ht, run_underlying hu, sizeOf, typeInfo, hi, hn.len, hroom, hn.cells w rfl, hst]
theorem run_append_more (ht : P.underlying t = some (.slice e)) (hu : P.underlying u = some d) (hd : ∀ k, d ≠ .int k) (hi : P.info? e = some i) (hz : i.zero = some z) {base : Option Addr} {sLen sCap n : Nat} {x : Value} {news olds : List Value}
    (hn : News P w i.size x n news) (ho : ∀ w2 : World, w2.heap = w.heap → (Builtin.firstCells i.size sLen (.slice base sLen sCap)).run P w2 = .ok olds.toArray w2)
    (hroom : sCap < sLen + n) (hfit : (sLen + n) * (i.bytes + 1) ≤ 1099511627776) :
    (Builtin.append_ #[t, u] ty #[.slice base sLen sCap, x]).run P w =
      .ok (.slice (some ⟨w.heap.size, 0, none⟩) (sLen + n) (grownCap w (sLen + n) sCap e)) (w.drew.alloc (.cells (olds.toArray ++ (news.toArray ++ Builtin.zeroCells z.cells (grownCap w (sLen + n) sCap e - (sLen + n)))) e)) := by
  have hn' : ¬ (sLen + n ≤ sCap) := by omega
  have hb1 : (sLen + n) * i.bytes ≤ (sLen + n) * (i.bytes + 1) := Nat.mul_le_mul_left _ (by omega)
  have hb2 : sLen + n ≤ (sLen + n) * (i.bytes + 1) := Nat.le_mul_of_pos_right _ (by omega)
  have h63' : ¬ (9223372036854775807 < ((sLen : Int) + (n : Int))) := by omega
  have h48 := growslice_fits (need := sLen + n) (old := sCap) (bytes := i.bytes) (by omega) (by omega)
  have h48' : ¬ (281474976710656 < Builtin.nextslicecap (sLen + n) sCap * i.bytes) := by omega
  have hf := hn.cells w.drew rfl
  have hfo := ho w.drew rfl
  simp [Builtin.append_, run_underlying ht, run_underlying hu, sizeOf, typeInfo, zeroValue, hi, hz, hn.len, hn', h63', h48', Question.forced, hf, hfo, newRow, grownCap]
end
theorem RowsRel.append {k : Nat} {r1 r2 : List (List AV)} {c1 c2 : List Value} (h1 : RowsRel g k r1 c1) (h2 : RowsRel g k r2 c2) : RowsRel g k (r1 ++ r2) (c1 ++ c2) := by
  refine ⟨by simp [h1.len, h2.len, Nat.add_mul], fun row hm => ?_, fun i j row c x e1 e2 e3 => ?_⟩
  · rcases List.mem_append.1 hm with h | h
    · exact h1.row row h
    · exact h2.row row h
  · rw [List.getElem?_append] at e1
    have hl := h1.len
    split at e1
    · rename_i hi
      have hj : j < k := by rw [← h1.row row (List.mem_of_getElem? e1)]; exact (List.getElem?_eq_some_iff.1 e2).1
      have := lt_of_div hi hj
      rw [List.getElem?_append, if_pos (by omega)] at e3
      exact h1.rel i j row c x e1 e2 e3
    · rename_i hi
      have hge : r1.length * k ≤ i * k := Nat.mul_le_mul_right _ (by omega)
      rw [List.getElem?_append, if_neg (by omega)] at e3
      refine h2.rel (i - r1.length) j row c x e1 e2 ?_
      rw [Nat.sub_mul, show i * k - r1.length * k + j = i * k + j - c1.length by omega]
      exact e3
end
end Go.Proofs.AM
end
