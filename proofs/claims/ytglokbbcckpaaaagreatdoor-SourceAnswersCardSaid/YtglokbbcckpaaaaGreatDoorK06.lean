/- Part 6 of the proof that stands in the last text of this folder (lemmas; no statement of its own). -/
import Derived.Test.YtglokbbcckpaaaaGreatDoorK05
set_option linter.unusedVariables false
set_option linter.unusedSimpArgs false
section
namespace Go.AM
open Go
section
variable {P : Program} {glob : Glob} {g : G} {H : List AObj} {w w' : World} {ρ : List AV} {a : Act}
variable {dst : Option Tmp} {type : TypeId} {pos : String} {after : Array Edge} {guard : Option (Nat × Bool)}
theorem Step.newObj (hw : WF g H w) {id : Nat} (hid : id < H.length) {c : Array Value} {t : TypeId} (e : w'.heap = w.heap.push (.cells c t)) {l' : Loc} (hb : l'.b = w.heap.size) (hst : l'.st = aaDZ H id)
  {x' : AObj} (hver : x'.ver = aaDZ H id) (hal : x'.alive = true) (hobj : g.le (g.setObj id l') -> alMZ (g.setObj id l') w' l' x') (io : w'.os = w.os /\ w'.output = w.output := by exact ⟨rfl, rfl⟩) :
  Step g H w (g.setObj id l') (H.set id x') w' [id] := by
 refine Step.update hw id x' l' hid (by rw [e]; simp) (fun b hb' _ => abtZ e hb') (by rw [e, hb]; simp) (.inl (by omega)) (by omega) hal (fun l hl => ?_) hobj io
 have hx : H[id]? = some H[id] := by simp [hid]
 have := hw.st id _ l hx hl
 have hv : aaDZ H id = H[id].ver + 1 := by simp [aaDZ, hid]
 omega
theorem aeeZ {c : Array Value} {t : TypeId} (e : w'.heap = w.heap.push (.cells c t)) (j : Nat) : w'.cell? ⟨w.heap.size, j, none⟩ = c[j]? := by
 simp [World.cell?, e]
theorem aiCZ {c : Array Value} {t : TypeId} (e : w'.heap = w.heap.push (.cells c t)) : Soft w' w.heap.size := fun j _ => by
 simp [World.frozen?, e]
theorem Step.newBox (hw : WF g H w) {id : Nat} (hid : id < H.length) {c : Array Value} {t : TypeId} (e : w'.heap = w.heap.push (.cells c t)) {cs : List AV} (hl : LRel g cs c.toList) (io : w'.os = w.os /\ w'.output = w.output := by exact ⟨rfl, rfl⟩) :
  ∃ g', Step g H w g' (make H id (.box · cs)) w' [id] /\ VRel g' (.ptr id (aaDZ H id) 0) (.pointer (some ⟨w.heap.size, 0, none⟩)) := by
 refine ⟨g.setObj id ⟨w.heap.size, aaDZ H id, 0, 0, 0⟩, Step.newObj hw hid e rfl rfl rfl rfl (fun hle => ⟨rfl, aiCZ e, fun j a ha => ?_⟩) io, ?_⟩
 ·have hj : j < cs.length := (List.getElem?_eq_some_iff.1 ha).1
  have hlen := hl.1
  simp at hlen
  rw [aeeZ e]
  exact ⟨c[j]'(by omega), by simp, (hl.2 j a _ ha (by simp)).mono hle⟩
 ·exact .ptr id _ 0 _ _ (by simp [G.setObj]; rfl) (Nat.le_refl _) fun _ _ => rfl
theorem Step.newVec (hw : WF g H w) {id : Nat} (hid : id < H.length) {c : Array Value} {t : TypeId} (e : w'.heap = w.heap.push (.cells c t)) {k cap : Nat} {rows : List (List AV)}
  (hr : RowsRel g k rows (c.toList.take (rows.length * k))) (hst : rows.all (fun r => r.all AV.cellOk) = true) (hcap : rows.length <= cap) (hsz : c.size = cap * k) (io : w'.os = w.os /\ w'.output = w.output := by exact ⟨rfl, rfl⟩) :
  ∃ g', Step g H w g' (make H id (.vec · k rows)) w' [id] /\ VRel g' (.sr id (aaDZ H id) rows.length) (.slice (some ⟨w.heap.size, 0, none⟩) rows.length cap) := by
 refine ⟨g.setObj id ⟨w.heap.size, aaDZ H id, rows.length, k, cap⟩, Step.newObj hw hid e rfl rfl rfl rfl (fun hle => ⟨rfl, rfl, hcap, aiCZ e, hr.row, fun j hj => ?_, fun i j row a h1 h2 => ?_⟩) io, ?_⟩
 ·rw [aeeZ e]
  have : j < c.size := by rw [hsz]; exact hj
  simp [this]
 ·have hi : i < rows.length := (List.getElem?_eq_some_iff.1 h1).1
  have hj : j < row.length := (List.getElem?_eq_some_iff.1 h2).1
  have hjk : j < k := by rw [<- hr.row row (List.mem_of_getElem? h1)]; exact hj
  have hlt := abRZ hi hjk
  have hle' : rows.length * k <= cap * k := Nat.mul_le_mul_right _ hcap
  have hs := List.all_eq_true.1 (List.all_eq_true.1 hst row (List.mem_of_getElem? h1)) a (List.mem_of_getElem? h2)
  rw [aeeZ e]
  refine ⟨hs, c[i * k + j]'(by omega), by simp, (hr.rel i j row a _ h1 h2 ?_).mono hle⟩
  rw [List.getElem?_take, if_pos hlt]
  simp
 ·exact .sr id _ _ _ _ _ (by simp [G.setObj]; rfl) (Nat.le_refl _) (fun _ => Nat.le_refl _) fun _ _ => ⟨rfl, rfl⟩
theorem Step.newTVec (hw : WF g H w) {id : Nat} (hid : id < H.length) {c : Array Value} {t : TypeId} (e : w'.heap = w.heap.push (.cells c t)) {k cap : Nat} {rows : List (List AV)}
  (hr : RowsRel g k rows (c.toList.take (rows.length * k))) (hst : rows.all (fun r => r.all AV.cellOk) = true) (hcap : rows.length <= cap) (hsz : c.size = cap * k) (io : w'.os = w.os /\ w'.output = w.output := by exact ⟨rfl, rfl⟩) :
  ∃ g', Step g H w g' (make H id (.tvec · t k rows)) w' [id] /\ VRel g' (.sr id (aaDZ H id) rows.length) (.slice (some ⟨w.heap.size, 0, none⟩) rows.length cap) := by
 refine ⟨g.setObj id ⟨w.heap.size, aaDZ H id, rows.length, k, cap⟩, Step.newObj hw hid e rfl rfl rfl rfl (fun hle => ⟨⟨rfl, rfl, hcap, aiCZ e, hr.row, fun j hj => ?_, fun i j row a h1 h2 => ?_⟩, c, by rw [e]; simp⟩) io, ?_⟩
 ·rw [aeeZ e]
  have : j < c.size := by rw [hsz]; exact hj
  simp [this]
 ·have hi : i < rows.length := (List.getElem?_eq_some_iff.1 h1).1
  have hj : j < row.length := (List.getElem?_eq_some_iff.1 h2).1
  have hjk : j < k := by rw [<- hr.row row (List.mem_of_getElem? h1)]; exact hj
  have hlt := abRZ hi hjk
  have hle' : rows.length * k <= cap * k := Nat.mul_le_mul_right _ hcap
  have hs := List.all_eq_true.1 (List.all_eq_true.1 hst row (List.mem_of_getElem? h1)) a (List.mem_of_getElem? h2)
  rw [aeeZ e]
  refine ⟨hs, c[i * k + j]'(by omega), by simp, (hr.rel i j row a _ h1 h2 ?_).mono hle⟩
  rw [List.getElem?_take, if_pos hlt]
  simp
 ·exact .sr id _ _ _ _ _ (by simp [G.setObj]; rfl) (Nat.le_refl _) (fun _ => Nat.le_refl _) fun _ _ => ⟨rfl, rfl⟩
theorem ayoZ {t : TypeId} {zs : List AV} (hz : zeroCells? P glob t = some zs) {call : Nat -> List AV -> List AObj -> Out} {site : Option Nat}
  {av : AV} {H' : List AObj} {wr : List Nat} (h : evW call H ρ site (.alloc zs) = some (av, H', wr)) (hw : WF g H w) :
  Does P ⟨dst, .alloc t, type, pos, after, guard⟩ a w fun v w' => ∃ g', Step g H w g' H' w' wr /\ VRel g' av v := by
 simp only [evW] at h
 split at h
 ·rename_i id
  split at h
  ·rename_i hid
   cases h
   obtain ⟨it, z, hi, hzz, hzr⟩ := zeroCells?_spec hz
   obtain ⟨g', h1, h2⟩ := Step.newBox (w' := w.alloc (.cells z.cells t)) hw hid (c := z.cells) (t := t) rfl (hzr g)
   exact .inl ⟨.pointer (some ⟨w.heap.size, 0, none⟩), w.alloc (.cells z.cells t), by simp [execOp, Instr.alloc, zeroValue, typeInfo, hi, hzz, newVar, newRow], g', h1, h2⟩
  ·cases h
 ·cases h
theorem awvZ {t : TypeId} {zs : List AV} (hz : zeroCells? P glob t = some zs) {call : Nat -> List AV -> List AObj -> Out} {site : Option Nat}
  {av : AV} {H' : List AObj} {wr : List Nat} (h : evW call H ρ site (.talloc t zs) = some (av, H', wr)) (hw : WF g H w) :
  Does P ⟨dst, .alloc t, type, pos, after, guard⟩ a w fun v w' => ∃ g', Step g H w g' H' w' wr /\ VRel g' av v := by
 simp only [evW] at h
 split at h
 ·rename_i id
  split at h
  ·rename_i hid
   cases h
   obtain ⟨it, z, hi, hzz, hzr⟩ := zeroCells?_spec hz
   have e : (w.alloc (.cells z.cells t)).heap = w.heap.push (.cells z.cells t) := rfl
   have hl := hzr g
   have hs := Step.newObj (w' := w.alloc (.cells z.cells t)) (l' := ⟨w.heap.size, aaDZ H id, 0, 0, 0⟩) (x' := .tbox (aaDZ H id) t zs) hw hid e rfl rfl rfl rfl (fun hle => ⟨rfl,⟨z.cells, by rw [e]; simp, by simpa using hl.1.symm⟩, fun j a ha => by
    have hj : j < zs.length := (List.getElem?_eq_some_iff.1 ha).1
    have hlen := hl.1
    simp at hlen
    rw [aeeZ e]
    exact ⟨z.cells[j]'(by omega), by simp, (hl.2 j a _ ha (by simp)).mono hle⟩⟩)
   exact .inl ⟨.pointer (some ⟨w.heap.size, 0, none⟩), w.alloc (.cells z.cells t), by simp [execOp, Instr.alloc, zeroValue, typeInfo, hi, hzz, newVar, newRow], _, hs, .ptr id _ 0 _ _ (by simp [G.setObj]; rfl) (Nat.le_refl _) fun _ _ => rfl⟩
  ·cases h
 ·cases h
theorem aDBZ {t : TypeId} {n : Nat} {X : Operand} {x : AOpd} (hx : opnd glob X = some x) {call : Nat -> List AV -> List AObj -> Out} {site : Option Nat}
  {av : AV} {H' : List AObj} {wr : List Nat} (h : evW call H ρ site (.box n x) = some (av, H', wr)) (hw : WF g H w) (hg : aauZ glob g) (hs : aanZ g ρ a.tmps) :
  Does P ⟨dst, .box t X, type, pos, after, guard⟩ a w fun v w' => ∃ g', Step g H w g' H' w' wr /\ VRel g' av v := by
 simp only [evW] at h
 split at h
 ·rename_i id
  split at h
  ·rename_i hc
   cases h
   have hl := (aaiZ hx hg hs).cells hc.2.2
   obtain ⟨g', h1, h2⟩ := Step.newBox (w' := w.alloc (.cells (a.eval X).cells t)) hw hc.1 (c := (a.eval X).cells) (t := t) rfl hl
   exact .inl ⟨.pointer (some ⟨w.heap.size, 0, none⟩), w.alloc (.cells (a.eval X).cells t), by simp [execOp, Instr.box, newVar, newRow], g', h1, h2⟩
  ·cases h
 ·cases h
theorem aDCZ {t : TypeId} {n : Nat} {X : Operand} {x : AOpd} (hx : opnd glob X = some x) {call : Nat -> List AV -> List AObj -> Out} {site : Option Nat}
  {av : AV} {H' : List AObj} {wr : List Nat} (h : evW call H ρ site (.tbx t n x) = some (av, H', wr)) (hw : WF g H w) (hg : aauZ glob g) (hs : aanZ g ρ a.tmps) :
  Does P ⟨dst, .box t X, type, pos, after, guard⟩ a w fun v w' => ∃ g', Step g H w g' H' w' wr /\ VRel g' av v := by
 simp only [evW] at h
 split at h
 ·rename_i id
  split at h
  ·rename_i hc
   cases h
   have hl := (aaiZ hx hg hs).cells hc.2.2
   have e : (w.alloc (.cells (a.eval X).cells t)).heap = w.heap.push (.cells (a.eval X).cells t) := rfl
   have hs := Step.newObj (w' := w.alloc (.cells (a.eval X).cells t)) (l' := ⟨w.heap.size, aaDZ H id, 0, 0, 0⟩) (x' := .tbox (aaDZ H id) t (x.ev ρ).cells) hw hc.1 e rfl rfl rfl rfl (fun hle => ⟨rfl,⟨(a.eval X).cells, by rw [e]; simp, by simpa using hl.1.symm⟩, fun j c ha => by
    have hj : j < (x.ev ρ).cells.length := (List.getElem?_eq_some_iff.1 ha).1
    have hlen := hl.1
    simp at hlen
    rw [aeeZ e]
    exact ⟨(a.eval X).cells[j]'(by omega), by simp, (hl.2 j c _ ha (by simp)).mono hle⟩⟩)
   exact .inl ⟨.pointer (some ⟨w.heap.size, 0, none⟩), w.alloc (.cells (a.eval X).cells t), by simp [execOp, Instr.box, newVar, newRow], _, hs, .ptr id _ 0 _ _ (by simp [G.setObj]; rfl) (Nat.le_refl _) fun _ _ => rfl⟩
  ·cases h
 ·cases h
theorem aDDZ {t e : TypeId} {i : TypeInfo} {L C : Operand} {l c : AOpd} {zs : List AV} (ht : P.underlying t = some (.slice e)) (hi : P.info? e = some i) (hz : zeroCells? P glob e = some zs) (hL : opnd glob L = some l) (hC : opnd glob C = some c)
  (hzl : zs.length = i.size) (hst : zs.all AV.still = true) {call : Nat -> List AV -> List AObj -> Out} {site : Option Nat}
  {av : AV} {H' : List AObj} {wr : List Nat} (h : evW call H ρ site (.mks i.size i.bytes zs l c) = some (av, H', wr)) (hw : WF g H w) (hg : aauZ glob g) (hs : aanZ g ρ a.tmps) :
  Does P ⟨dst, .makeSlice t L C, type, pos, after, guard⟩ a w fun v w' => ∃ g', Step g H w g' H' w' wr /\ VRel g' av v := by
 simp only [evW] at h
 have hrl := aaiZ hL hg hs
 have hrc := aaiZ hC hg hs
 split at h
 ·rename_i k1 n k2 m e1 e2
  rw [e1] at hrl
  rw [e2] at hrc
  have el := hrl.int_inv
  have ec := hrc.int_inv
  split at h
  ·rename_i hcond
   obtain ⟨h0, rfl, hroom⟩ := hcond
   obtain ⟨it, z, hi', hzz, hzr⟩ := zeroCells?_spec hz
   rw [hi] at hi'
   cases hi'
   obtain ⟨n', rfl⟩ := Int.eq_ofNat_of_zero_le h0
   simp only [abNZ, decide_eq_true_eq, Int.toNat_natCast] at hroom
   have hb1 : n' * i.bytes <= n' * (i.bytes + 1) := Nat.mul_le_mul_left _ (by omega)
   have hb2 : n' <= n' * (i.bytes + 1) := Nat.le_mul_of_pos_right _ (by omega)
   have hwrap : IntKind.i64.wrap (n' : Int) = (n' : Int) := by
    unfold IntKind.wrap
    simp only [IntKind.bits, IntKind.signed]
    have : ((n' : Int) % 2 ^ 64) = n' := Int.emod_eq_of_lt (by omega) (by omega)
    simp; omega
   have hcast : (i.bytes : Int) * (n' : Int) <= 281474976710656 := by
    have : ((i.bytes * n' : Nat) : Int) = (i.bytes : Int) * (n' : Int) := by simp
    rw [<- this, Nat.mul_comm]; omega
   have hrun : (Instr.makeSlice t (.int k1 n') (.int k2 n')).run P w = .ok (.slice (some ⟨w.heap.size, 0, none⟩) n' n') (w.alloc (.cells ((Array.range (n' * i.size)).map (z.cells[· % z.cells.size]!)) e)) := by
    have hn1 : ¬ ((n' : Int) < 0) := by omega
    have hn2 : ¬ ((i.bytes : Int) * (n' : Int) > 281474976710656) := by omega
    by_cases hz0 : n' * i.size = 0
    ·simp [Instr.makeSlice, run_underlying ht, asInt, asIntOf, typeInfo, hi, hwrap, hn1, hn2, sizeOf, hz0, newRow, Array.range_zero']
    ·simp [Instr.makeSlice, run_underlying ht, asInt, asIntOf, typeInfo, hi, hwrap, hn1, hn2, sizeOf, hz0, zeroValue, hzz, newRow]
   have hrow0 : RowsRel g i.size (List.replicate n' (zs.map AV.strip1)) (((Array.range (n' * i.size)).map (z.cells[· % z.cells.size]!)).toList) := alXZ (hzr g).strip1 (by simpa using hzl)
   have hst0 : (List.replicate n' (zs.map AV.strip1)).all (fun r => r.all AV.still) = true := by
    rw [List.all_eq_true]; intro r hm; rw [(List.mem_replicate.1 hm).2]; exact acGZ hst
   have hlen0 : (List.replicate n' (zs.map AV.strip1)).length = n' := by simp
   have htake : (((Array.range (n' * i.size)).map (z.cells[· % z.cells.size]!)).toList).take ((List.replicate n' (zs.map AV.strip1)).length * i.size) = ((Array.range (n' * i.size)).map (z.cells[· % z.cells.size]!)).toList :=
    List.take_of_length_le (by simp)
   simp only [Int.toNat_natCast] at h
   split at h
   ·rename_i id
    split at h
    ·rename_i hid
     cases h
     obtain ⟨g', h1, h2⟩ := Step.newVec (w' := w.alloc (.cells ((Array.range (n' * i.size)).map (z.cells[· % z.cells.size]!)) e)) hw hid (t := e) rfl (k := i.size) (cap := n') (by rw [htake]; exact hrow0) (agGZ hst0) (by omega) (by simp)
     rw [hlen0] at h2
     exact .inl ⟨.slice (some ⟨w.heap.size, 0, none⟩) n' n', _, by simp only [execOp, el, ec, Sem.run_bind, hrun, Result.andThen_ok, Sem.run_pure], g', h1, h2⟩
    ·cases h
   ·cases h
    have hstep := Step.allocPerm (w' := w.alloc (.cells ((Array.range (n' * i.size)).map (z.cells[· % z.cells.size]!)) e)) hw ((Array.range (n' * i.size)).map (z.cells[· % z.cells.size]!)) e (0, 0) rfl
    have hv := VRel.sl_new (f := true) (cap := n') (b := w.heap.size) hst0 (by omega) (fun _ => hlen0.symm) (by rw [htake]; exact hrow0.mono hstep.le)
    rw [hlen0] at hv
    exact .inl ⟨.slice (some ⟨w.heap.size, 0, none⟩) n' n', _, by simp only [execOp, el, ec, Sem.run_bind, hrun, Result.andThen_ok, Sem.run_pure], _, hstep, hv⟩
  ·split at h
   ·rename_i id
    split at h
    ·rename_i hc
     cases h
     obtain ⟨rfl, hpos, hroom, hid⟩ := hc
     obtain ⟨it, z, hi', hzz, hzr⟩ := zeroCells?_spec hz
     rw [hi] at hi'
     cases hi'
     obtain ⟨m', rfl⟩ := Int.eq_ofNat_of_zero_le (Int.le_of_lt hpos)
     simp only [abNZ, decide_eq_true_eq, Int.toNat_natCast] at hroom
     have hb1 : m' * i.bytes <= m' * (i.bytes + 1) := Nat.mul_le_mul_left _ (by omega)
     have hb2 : m' <= m' * (i.bytes + 1) := Nat.le_mul_of_pos_right _ (by omega)
     have hwrap : IntKind.i64.wrap (m' : Int) = (m' : Int) := by
      unfold IntKind.wrap
      simp only [IntKind.bits, IntKind.signed]
      have : ((m' : Int) % 2 ^ 64) = m' := Int.emod_eq_of_lt (by omega) (by omega)
      simp; omega
     have hwrap0 : IntKind.i64.wrap 0 = 0 := by decide
     have hcast : (i.bytes : Int) * (m' : Int) <= 281474976710656 := by
      have : ((i.bytes * m' : Nat) : Int) = (i.bytes : Int) * (m' : Int) := by simp
      rw [<- this, Nat.mul_comm]; omega
     have hrun : (Instr.makeSlice t (.int k1 0) (.int k2 m')).run P w = .ok (.slice (some ⟨w.heap.size, 0, none⟩) 0 m') (w.alloc (.cells ((Array.range (m' * i.size)).map (z.cells[· % z.cells.size]!)) e)) := by
      have hn1 : ¬ ((m' : Int) < 0) := by omega
      have hn2 : ¬ ((i.bytes : Int) * (m' : Int) > 281474976710656) := by omega
      by_cases hz0 : m' * i.size = 0
      ·simp [Instr.makeSlice, run_underlying ht, asInt, asIntOf, typeInfo, hi, hwrap, hwrap0, hn1, hn2, sizeOf, hz0, newRow, Array.range_zero']
      ·simp [Instr.makeSlice, run_underlying ht, asInt, asIntOf, typeInfo, hi, hwrap, hwrap0, hn1, hn2, sizeOf, hz0, zeroValue, hzz, newRow]
     obtain ⟨g', h1, h2⟩ := Step.newVec (w' := w.alloc (.cells ((Array.range (m' * i.size)).map (z.cells[· % z.cells.size]!)) e)) hw hid (t := e) rfl (k := i.size) (cap := m') (rows := [])
      ⟨by simp, fun r hr => by simp at hr, fun i j r c x h => by simp at h⟩ rfl (Nat.zero_le _) (by simp)
     exact .inl ⟨.slice (some ⟨w.heap.size, 0, none⟩) 0 m', _, by simp only [execOp, el, ec, Sem.run_bind, hrun, Result.andThen_ok, Sem.run_pure], g', h1, h2⟩
    ·cases h
   ·cases h
 ·cases h
end
end Go.AM
end
section
namespace Go.AM
open Go
section
variable {P : Program} {glob : Glob} {g : G} {H : List AObj} {w w' : World} {ρ : List AV} {a : Act}
theorem auxZ (hw : WF g H w) {o : Nat} {l : Loc} {v k : Nat} {rows : List (List AV)} (hb : Backed g H o l (.vec v k rows)) (hstill : rows.all (fun r => r.all AV.still) = true) :
  VRel (g.addPerm l.b fun i => w.cell? ⟨l.b, i, none⟩) (.sl false rows) (.slice (some ⟨l.b, 0, none⟩) rows.length l.cap) := by
 obtain ⟨h0, hlk, hcap, hsoft, hk, hsome, hcell⟩ := hw.obj o l _ hb
 have hle := (Step.gone hw hb).le
 refine .sl false rows l.b 0 l.cap k hcap (by simp) hk (fun row hm => ?_) (fun i j hi hj => ?_) fun i j row c x h1 h2 h3 => ?_
 ·obtain ⟨i, hi⟩ := List.mem_iff_getElem?.1 hm
  rw [List.all_eq_true]
  intro c hc
  exact List.all_eq_true.1 (List.all_eq_true.1 hstill row hm) c hc
 ·have hrk := hk rows[i] (List.getElem_mem hi)
  obtain ⟨_, y, hy, _⟩ := hcell i j rows[i] (rows[i][j]'(by omega)) (by simp [hi]) (by simp)
  simp only [G.addPerm, if_true, Nat.zero_add, hy]; rfl
 ·obtain ⟨_, y, hy, hr⟩ := hcell i j row c h1 h2
  simp only [G.addPerm, if_true, Nat.zero_add, hy, Option.some.injEq] at h3
  subst h3
  exact hr.mono hle
structure Lent (g : G) (H : List AObj) (g' : G) (l : List Nat) : Prop where
 le : g.le g'
 vec : ∀ o lc v k rows, o ∈ l -> Backed g H o lc (.vec v k rows) -> rows.all (fun r => r.all AV.still) = true -> VRel g' (.sl false rows) (.slice (some ⟨lc.b, 0, none⟩) rows.length lc.cap)
theorem Lent.sub {g' : G} {l l' : List Nat} (h : Lent g H g' l) (hs : ∀ o ∈ l', o ∈ l) : Lent g H g' l' := ⟨h.le, fun o lc v k rows ho => h.vec o lc v k rows (hs o ho)⟩
theorem aevZ : ∀ (l : List Nat) (g : G) (H : List AObj), WF g H w -> (∀ o ∈ l, (∃ lc x, Backed g H o lc x) ∨ ∃ v, H[o]? = some (.gone v)) ->
  ∃ g', Step g H w g' (aaOZ H l) w l /\ Lent g H g' l
 | [], g, H, hw, _ => ⟨g, .refl hw, G.le.refl g, fun o lc v k rows ho => by simp at ho⟩
 | o :: r, g, H, hw, ho => by
  have hcase : (∃ v, H[o]? = some (.gone v)) ∨ ∃ lc x, Backed g H o lc x := (ho o (by simp)).symm
  rcases hcase with ⟨v, hv⟩ | ⟨lc, x, hb⟩
  ·have hlt : o < H.length := (List.getElem?_eq_some_iff.1 hv).1
   have hset : H.set o (.gone ((H[o]?).elim 0 AObj.ver)) = H := by
    apply List.ext_getElem?
    intro i
    by_cases e : i = o
    ·subst e
     have hg : H[i] = .gone v := by have := hv; simp [hlt] at this; exact this
     simp [hlt, hg, AObj.ver]
    ·rw [getElem?_set_ne' _ _ (Ne.symm e)]
   obtain ⟨g', h1, h2⟩ := aevZ r g H hw fun o' hm => ho o' (List.mem_cons_of_mem _ hm)
   refine ⟨g', ?_, h2.le, fun o' lc v' k rows hm hb hst => ?_⟩
   ·simp only [aaOZ, hset]
    exact h1.weaken fun o' hm => List.mem_cons_of_mem _ hm
   ·rcases List.mem_cons.1 hm with rfl | hm
    ·have := hb.at_; rw [hv] at this; cases this
    ·exact h2.vec o' lc v' k rows hm hb hst
  ·have hver : (H[o]?).elim 0 AObj.ver = x.ver := by rw [hb.at_]; rfl
   have h1 := Step.gone hw hb
   have hlt : o < H.length := hw.lt o lc hb.loc
   have hback : ∀ o' lc' x', o' ≠ o -> Backed g H o' lc' x' -> Backed (g.addPerm lc.b fun i => w.cell? ⟨lc.b, i, none⟩) (H.set o (.gone x.ver)) o' lc' x' := fun o' lc' x' hne hb' =>
    ⟨by rw [getElem?_set_ne' _ _ (Ne.symm hne)]; exact hb'.at_, hb'.alive, hb'.loc, hb'.st⟩
   obtain ⟨g', h2, h3⟩ := aevZ r _ _ h1.wf fun o' hm => by
    by_cases e : o' = o
    ·subst e; exact .inr ⟨x.ver, by simp [hlt]⟩
    ·rcases ho o' (List.mem_cons_of_mem _ hm) with ⟨lc', x', hb'⟩ | ⟨v, hv⟩
     ·exact .inl ⟨lc', x', hback o' lc' x' e hb'⟩
     ·exact .inr ⟨v, by rw [getElem?_set_ne' _ _ (Ne.symm e)]; exact hv⟩
   refine ⟨g', ?_, h1.le.trans h3.le, fun o' lc' v k rows hm hb' hst => ?_⟩
   ·simp only [aaOZ, hver]
    exact h1.trans h2
   ·by_cases e : o' = o
    ·subst e
     have hl : lc' = lc := by have := hb'.loc; rw [hb.loc] at this; exact (Option.some.inj this).symm
     subst hl
     exact (auxZ hw hb' hst).mono h3.le
    ·rcases List.mem_cons.1 hm with rfl | hm
     ·exact absurd rfl e
     ·exact h3.vec o' lc' v k rows hm (hback o' lc' _ e hb') hst
theorem amqZ (hw : WF g H w) {v v' : AV} {l : List Nat} (h : ajDZ H v = some (v', l)) {x : Value} (hx : VRel g v x) :
  (∀ o ∈ l, ∃ lc y, Backed g H o lc y) /\ ∀ g', Lent g H g' l -> VRel g' v' x := by
 unfold ajDZ at h
 split at h
 ·rename_i o ve n
  split at h
  ·rename_i v0 k rows hH
   split at h
   ·rename_i hc
    cases h
    obtain ⟨rfl, hlen, hstill⟩ := hc
    cases hx with
    | sr o v n lc b cap hl hv hn hh =>
     have hst : lc.st = v0 := by
      have := hw.st o _ lc hH hl
      simp only [AObj.ver] at this
      omega
     have hb : Backed g H o lc (.vec v0 k rows) := ⟨hH, rfl, hl, hst⟩
     obtain ⟨h0, _⟩ := hw.obj o lc _ hb
     obtain ⟨rfl, rfl⟩ := hh hst (by omega)
     refine ⟨fun o' ho => ?_, fun g' hl' => ?_⟩
     ·simp only [List.mem_singleton] at ho; subst ho; exact ⟨lc, _, hb⟩
     ·rw [<- hlen]; exact hl'.vec o lc v0 k rows (by simp) hb hstill
   ·cases h
  ·cases h
 ·cases h
 ·cases h
 ·cases h
 ·cases h; exact ⟨fun o ho => by simp at ho, fun g' hl => hx.mono hl.le⟩
theorem amrZ (hw : WF g H w) : ∀ {vs vs' : List AV} {l : List Nat}, alLZ H vs = some (vs', l) -> ∀ {xs : List Value}, LRel g vs xs ->
  (∀ o ∈ l, ∃ lc y, Backed g H o lc y) /\ ∀ g', Lent g H g' l -> LRel g' vs' xs
 | [], vs', l, h, xs, hx => by
  simp only [alLZ, Option.some.injEq, Prod.mk.injEq] at h
  obtain ⟨rfl, rfl⟩ := h
  exact ⟨fun o ho => by simp at ho, fun g' hl => hx.mono hl.le⟩
 | v :: r, vs', l, h, xs, hx => by
  unfold alLZ at h
  split at h
  ·cases h
  ·rename_i v1 l1 h1
   split at h
   ·cases h
   ·rename_i r1 l2 h2
    cases h
    cases xs with
    | nil => have := hx.1; simp at this
    | cons x xs =>
     obtain ⟨a1, a2⟩ := amqZ hw h1 (hx.2 0 v x rfl rfl)
     obtain ⟨b1, b2⟩ := amrZ hw h2 (xs := xs) ⟨by have := hx.1; simpa using this, fun i c y hc hy => hx.2 (i + 1) c y (by simpa using hc) (by simpa using hy)⟩
     refine ⟨fun o ho => ?_, fun g' hl => ?_⟩
     ·rcases List.mem_append.1 ho with h | h
      ·exact a1 o h
      ·exact b1 o h
     ·have c1 := a2 g' (hl.sub fun o ho => List.mem_append_left _ ho)
      have c2 := b2 g' (hl.sub fun o ho => List.mem_append_right _ ho)
      refine ⟨by simp [c2.1], fun i c y hc hy => ?_⟩
      cases i with
      | zero => simp at hc hy; subst hc; subst hy; exact c1
      | succ i => exact c2.2 i c y (by simpa using hc) (by simpa using hy)
theorem anZZ (hw : WF g H w) {v v' : AV} {l : List Nat} (h : lend H v = some (v', l)) {x : Value} (hx : VRel g v x) :
  (∀ o ∈ l, ∃ lc y, Backed g H o lc y) /\ ∀ g', Lent g H g' l -> VRel g' v' x := by
 unfold lend at h
 split at h
 ·split at h
  ·rename_i cs' l' hl
   cases h
   obtain ⟨vs, rfl, hr⟩ := hx.agg_list
   obtain ⟨a1, a2⟩ := amrZ hw hl hr
   exact ⟨a1, fun g' hg => (a2 g' hg).agg⟩
  ·cases h
 ·cases h
 ·exact amqZ hw h hx
theorem agXZ (hw : WF g H w) : ∀ {vs vs' : List AV} {l : List Nat}, aeYZ H vs = some (vs', l) -> ∀ {xs : List Value}, LRel g vs xs ->
  (∀ o ∈ l, ∃ lc y, Backed g H o lc y) /\ ∀ g', Lent g H g' l -> LRel g' vs' xs
 | [], vs', l, h, xs, hx => by
  simp only [aeYZ, Option.some.injEq, Prod.mk.injEq] at h
  obtain ⟨rfl, rfl⟩ := h
  exact ⟨fun o ho => by simp at ho, fun g' hl => hx.mono hl.le⟩
 | v :: r, vs', l, h, xs, hx => by
  unfold aeYZ at h
  split at h
  ·cases h
  ·rename_i v1 l1 h1
   split at h
   ·cases h
   ·rename_i r1 l2 h2
    cases h
    cases xs with
    | nil => have := hx.1; simp at this
    | cons x xs =>
     obtain ⟨a1, a2⟩ := anZZ hw h1 (hx.2 0 v x rfl rfl)
     obtain ⟨b1, b2⟩ := agXZ hw h2 (xs := xs) ⟨by have := hx.1; simpa using this, fun i c y hc hy => hx.2 (i + 1) c y (by simpa using hc) (by simpa using hy)⟩
     refine ⟨fun o ho => ?_, fun g' hl => ?_⟩
     ·rcases List.mem_append.1 ho with h | h
      ·exact a1 o h
      ·exact b1 o h
     ·have c1 := a2 g' (hl.sub fun o ho => List.mem_append_left _ ho)
      have c2 := b2 g' (hl.sub fun o ho => List.mem_append_right _ ho)
      refine ⟨by simp [c2.1], fun i c y hc hy => ?_⟩
      cases i with
      | zero => simp at hc hy; subst hc; subst hy; exact c1
      | succ i => exact c2.2 i c y (by simpa using hc) (by simpa using hy)
theorem afyZ (hw : WF g H w) {v v' : AV} {H' : List AObj} {l : List Nat} (h : fix H v = some (v', H', l)) {x : Value} (hx : VRel g v x) :
  ∃ g', Step g H w g' H' w l /\ VRel g' v' x := by
 unfold fix at h
 split at h
 ·rename_i v1 l1 hl
  cases h
  obtain ⟨a1, a2⟩ := anZZ hw hl hx
  obtain ⟨g', h1, h2⟩ := aevZ l g H hw fun o ho => .inl (a1 o ho)
  exact ⟨g', h1, (a2 g' h2).strip⟩
 ·cases h
end
end Go.AM
end
section
namespace Go.AM
open Go
section
variable {P : Program} {glob : Glob} {g : G} {H : List AObj} {w w' : World} {ρ : List AV} {a : Act}
variable {dst : Option Tmp} {type : TypeId} {pos : String} {after : Array Edge} {guard : Option (Nat × Bool)}
structure News (P : Program) (w : World) (k : Nat) (x : Value) (n : Nat) (news : List Value) : Prop where
 len : ∀ w2, (Builtin.lenOf x).run P w2 = .ok n w2
 cells : ∀ w2 : World, w2.heap = w.heap -> (Builtin.firstCells k n x).run P w2 = .ok news.toArray w2
 size : news.length = n * k
theorem acxZ (hw : WF g H w) {k : Nat} {v : AV} {new : List (List AV)} (h : adkZ H v = some new) (hh : abkZ k new = true) {x : Value} (hx : VRel g v x) :
  ∃ news, News P w k x new.length news /\ RowsRel g k new news /\ new.all (fun r => r.all AV.cellOk) = true := by
 have viaRows : ∀ v, aeOZ H v = some new -> VRel g v x -> ∃ news, News P w k x new.length news /\ RowsRel g k new news /\ new.all (fun r => r.all AV.cellOk) = true := by
  intro v h hx
  rcases ahOZ hw h hx with ⟨rfl, cap, rfl⟩ | ⟨b, off, cap, k', cells, rfl, hcap, hrr, hst, hcell⟩
  ·exact ⟨[],⟨fun _ => rfl, fun _ _ => rfl, by simp⟩,⟨by simp, fun r hr => by simp at hr, fun i j r c x h => by simp at h⟩, rfl⟩
  ·have hk := anWZ hh hrr.row
   have hlen : cells.length = new.length * k := by
    cases new with
    | nil => have := hrr.len; simpa using this
    | cons r rs => have h1 := hrr.row r (by simp); have h2 := hk r (by simp); have := hrr.len; rw [this]; congr 1; omega
   refine ⟨cells,⟨fun _ => rfl, fun w2 e => ?_, hlen⟩,⟨hlen, hk, fun i j row c y h1 h2 h3 => ?_⟩, List.all_eq_true.2 fun r hr => hst r hr⟩
   ·have := run_loadCells_list (P := P) w2 ⟨b, off, none⟩ cells (fun j v hv => by rw [acuZ]; simp only [World.cell?, e]; exact hcell j v hv)
    simp only [Builtin.firstCells]
    rw [<- hlen]; exact this
   ·have hkk : k' = k := by rw [<- hrr.row row (List.mem_of_getElem? h1)]; exact hk row (List.mem_of_getElem? h1)
    exact hrr.rel i j row c y h1 h2 (by rw [hkk]; exact h3)
 unfold adkZ at h
 split at h
 ·rename_i l
  cases h
  obtain ⟨s, rfl, hs⟩ := hx.str_inv
  have hl : (aayZ l).length = s.size := by rw [agaZ hs]; simp [aayZ]
  have hk : l ≠ [] -> k = 1 := fun hne => by
   cases l with
   | nil => exact absurd rfl hne
   | cons b r => simp [aayZ, abkZ] at hh; omega
  rw [hl]
  have harr : (Array.map (fun b : UInt8 => Value.int IntKind.u8 (b.toNat : Int)) s.data).extract 0 s.size = Array.map (fun b : UInt8 => Value.int IntKind.u8 (b.toNat : Int)) s.data := by
   have hsz : s.size = (Array.map (fun b : UInt8 => Value.int IntKind.u8 (b.toNat : Int)) s.data).size := by rw [Array.size_map]; rfl
   rw [hsz, Array.extract_size]
  have hnews : ((s.extract 0 s.size).data.map fun b => Value.int .u8 b.toNat) = ((l.map fun b => Value.int .u8 b.toNat)).toArray := by
   apply Array.ext'
   rw [Array.toList_map, amjZ hs]
   have : (l.take s.size).drop 0 = l := by rw [List.drop_zero, List.take_of_length_le (by rw [agaZ hs]; exact Nat.le_refl _)]
   rw [this]
  refine ⟨l.map fun b => Value.int .u8 b.toNat,⟨fun _ => rfl, fun w2 _ => ?_, ?_⟩,⟨?_, ?_, ?_⟩, ?_⟩
  ·simp only [Builtin.firstCells, hnews, Sem.run_pure]
  ·by_cases hne : l = []
   ·subst hne; have := agaZ hs; simp at this; simp [this]
   ·rw [hk hne, agaZ hs]; simp
  ·by_cases hne : l = []
   ·subst hne; simp [aayZ]
   ·rw [hk hne]; simp [aayZ]
  ·intro row hm
   have hne : l ≠ [] := fun e => by subst e; simp [aayZ] at hm
   rw [hk hne]
   simp only [aayZ, List.mem_map] at hm
   obtain ⟨b, _, rfl⟩ := hm
   rfl
  ·intro i j row c y h1 h2 h3
   simp only [aayZ, List.getElem?_map] at h1
   cases hb : l[i]? with
   | none => simp [hb] at h1
   | some b =>
    have hne : l ≠ [] := fun e => by subst e; simp at hb
    simp [hb] at h1
    subst h1
    cases j with
    | succ j => simp at h2
    | zero =>
     simp at h2
     subst h2
     rw [hk hne] at h3
     simp only [Nat.mul_one, Nat.add_zero, List.getElem?_map, hb, Option.map_some, Option.some.injEq] at h3
     subst h3
     exact .int _ _
  ·simp [aayZ, AV.cellOk]
 ·exact viaRows _ h hx
section
variable {t u e ty : TypeId} {i : TypeInfo} {z : Value} {d : TypeDesc}
theorem abMZ (ht : P.underlying t = some (.slice e)) (hu : P.underlying u = some d) (hd : ∀ k, d ≠ .int k) (hi : P.info? e = some i) {base : Option Addr} {sLen sCap n : Nat} {x : Value} {news : List Value} {w' : World}
  (hn : News P w i.size x n news) (hroom : sLen + n <= sCap)
  (hst : (match base with | some a => Go.storeCells (a.add (sLen * i.size)) news | none => (pure () : Sem Unit)).run P w = .ok () w') :
  (Builtin.append_ #[t, u] ty #[.slice base sLen sCap, x]).run P w = .ok (.slice base (sLen + n) sCap) w' := by
 cases base with
 | none =>
  simp only [Sem.run_pure, Result.ok.injEq, true_and] at hst
  subst hst
  simp [Builtin.append_, run_underlying ht, run_underlying hu, sizeOf, typeInfo, hi, hn.len, hroom, hn.cells w rfl]
 | some a =>
  simp only at hst
  simp [Builtin.append_, run_underlying ht, run_underlying hu, sizeOf, typeInfo, hi, hn.len, hroom, hn.cells w rfl, hst]
theorem adlZ (ht : P.underlying t = some (.slice e)) (hu : P.underlying u = some d) (hd : ∀ k, d ≠ .int k) (hi : P.info? e = some i) (hz : i.zero = some z) {base : Option Addr} {sLen sCap n : Nat} {x : Value} {news olds : List Value}
  (hn : News P w i.size x n news) (ho : ∀ w2 : World, w2.heap = w.heap -> (Builtin.firstCells i.size sLen (.slice base sLen sCap)).run P w2 = .ok olds.toArray w2)
  (hroom : sCap < sLen + n) (hfit : (sLen + n) * (i.bytes + 1) <= 1099511627776) :
  (Builtin.append_ #[t, u] ty #[.slice base sLen sCap, x]).run P w =
   .ok (.slice (some ⟨w.heap.size, 0, none⟩) (sLen + n) (grownCap w (sLen + n) sCap e)) (w.drew.alloc (.cells (olds.toArray ++ (news.toArray ++ Builtin.zeroCells z.cells (grownCap w (sLen + n) sCap e - (sLen + n)))) e)) := by
 have hn' : ¬ (sLen + n <= sCap) := by omega
 have hb1 : (sLen + n) * i.bytes <= (sLen + n) * (i.bytes + 1) := Nat.mul_le_mul_left _ (by omega)
 have hb2 : sLen + n <= (sLen + n) * (i.bytes + 1) := Nat.le_mul_of_pos_right _ (by omega)
 have h63' : ¬ (9223372036854775807 < ((sLen : Int) + (n : Int))) := by omega
 have h48 := growslice_fits (need := sLen + n) (old := sCap) (bytes := i.bytes) (by omega) (by omega)
 have h48' : ¬ (281474976710656 < Builtin.nextslicecap (sLen + n) sCap * i.bytes) := by omega
 have hf := hn.cells w.drew rfl
 have hfo := ho w.drew rfl
 simp [Builtin.append_, run_underlying ht, run_underlying hu, sizeOf, typeInfo, zeroValue, hi, hz, hn.len, hn', h63', h48', Question.forced, hf, hfo, newRow, grownCap]
end
theorem RowsRel.append {k : Nat} {r1 r2 : List (List AV)} {c1 c2 : List Value} (h1 : RowsRel g k r1 c1) (h2 : RowsRel g k r2 c2) : RowsRel g k (r1 ++ r2) (c1 ++ c2) := by
 refine ⟨by simp [h1.len, h2.len, Nat.add_mul], fun row hm => ?_, fun i j row c x e1 e2 e3 => ?_⟩
 ·rcases List.mem_append.1 hm with h | h
  ·exact h1.row row h
  ·exact h2.row row h
 ·rw [List.getElem?_append] at e1
  have hl := h1.len
  split at e1
  ·rename_i hi
   have hj : j < k := by rw [<- h1.row row (List.mem_of_getElem? e1)]; exact (List.getElem?_eq_some_iff.1 e2).1
   have := abRZ hi hj
   rw [List.getElem?_append, if_pos (by omega)] at e3
   exact h1.rel i j row c x e1 e2 e3
  ·rename_i hi
   have hge : r1.length * k <= i * k := Nat.mul_le_mul_right _ (by omega)
   rw [List.getElem?_append, if_neg (by omega)] at e3
   refine h2.rel (i - r1.length) j row c x e1 e2 ?_
   rw [Nat.sub_mul, show i * k - r1.length * k + j = i * k + j - c1.length by omega]
   exact e3
end
end Go.AM
end
