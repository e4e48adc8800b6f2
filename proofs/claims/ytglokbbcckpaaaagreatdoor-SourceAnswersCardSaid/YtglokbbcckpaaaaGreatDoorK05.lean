/- Part 5 of the proof that stands in the last text of this folder (lemmas; no statement of its own). -/
import Derived.Test.YtglokbbcckpaaaaGreatDoorK04
import Derived.MapKept
set_option linter.unusedVariables false
set_option linter.unusedSimpArgs false
section
namespace Go.AM
open Go
section
variable {P : Program} {glob : Glob} {g : G} {H : List AObj} {w : World} {ρ : List AV} {a : Act}
variable {dst : Option Tmp} {type : TypeId} {pos : String} {after : Array Edge} {guard : Option (Nat × Bool)}
theorem ahOZ (hw : WF g H w) {av : AV} {rows : List (List AV)} (h : aeOZ H av = some rows) {x : Value} (hx : VRel g av x) :
  (rows = [] /\ ∃ cap, x = .slice none 0 cap) ∨ ∃ (b off cap k : Nat) (cells : List Value), x = .slice (some ⟨b, off, none⟩) rows.length cap /\ rows.length <= cap /\ RowsRel g k rows cells /\
   (∀ (row : List AV), row ∈ rows -> row.all AV.cellOk = true) /\ ∀ (j : Nat) v, cells[j]? = some v -> w.cell? ⟨b, off + j, none⟩ = some v := by
 have build : ∀ (b off k : Nat) (rows : List (List AV)), (∀ row ∈ rows, row.length = k) -> (∀ (i j : Nat) (row : List AV) c, rows[i]? = some row -> row[j]? = some c -> ∃ y, w.cell? ⟨b, off + (i * k + j), none⟩ = some y /\ VRel g c y) ->
   ∃ cells : List Value, RowsRel g k rows cells /\ ∀ (j : Nat) v, cells[j]? = some v -> w.cell? ⟨b, off + j, none⟩ = some v := by
  intro b off k rows hk hc
  refine ⟨(List.range (rows.length * k)).map fun j => (w.cell? ⟨b, off + j, none⟩).getD Go.undef,⟨by simp, hk, fun i j row c x h1 h2 h3 => ?_⟩, fun j v hv => ?_⟩
  ·obtain ⟨y, hy, hr⟩ := hc i j row c h1 h2
   rw [List.getElem?_map] at h3
   have hi : i < rows.length := (List.getElem?_eq_some_iff.1 h1).1
   have hj : j < k := by rw [<- hk row (List.mem_of_getElem? h1)]; exact (List.getElem?_eq_some_iff.1 h2).1
   have := abRZ hi hj
   simp [this, hy] at h3
   subst h3; exact hr
  ·rw [List.getElem?_map] at hv
   by_cases hj : j < rows.length * k
   ·have hk0 : 0 < k := (Nat.eq_zero_or_pos k).elim (fun e => by subst e; simp at hj) id
    have hi : j / k < rows.length := by rw [Nat.div_lt_iff_lt_mul hk0]; exact hj
    have hm : j % k < k := Nat.mod_lt _ hk0
    have hrk := hk rows[j / k] (List.getElem_mem hi)
    obtain ⟨y, hy, _⟩ := hc (j / k) (j % k) rows[j / k] (rows[j / k][j % k]'(by omega)) (by simp [hi]) (by simp [hrk, hm])
    have e : j / k * k + j % k = j := by rw [Nat.mul_comm]; exact Nat.div_add_mod j k
    rw [e] at hy
    simp [hj, hy] at hv
    rw [hy, hv]
   ·simp [hj] at hv
 unfold aeOZ at h
 split at h
 ·cases h
  rcases hx.sl_inv with ⟨er, ex⟩ | ⟨b, off, cap, k, ex, hcap, _, hk, hst, hp, hrel⟩
  ·exact .inl ⟨er, 0, ex⟩
  ·refine .inr ⟨b, off, cap, k, ?_⟩
   obtain ⟨cells, h1, h2⟩ := build b off k _ hk fun i j row c h1 h2 => by
    have hi := (List.getElem?_eq_some_iff.1 h1).1
    have hj : j < k := by rw [<- hk row (List.mem_of_getElem? h1)]; exact (List.getElem?_eq_some_iff.1 h2).1
    have := hp i j hi hj
    cases hq : g.perm b (off + i * k + j) with
    | none => simp [hq] at this
    | some y => exact ⟨y, by rw [<- Nat.add_assoc]; exact hw.perm _ _ _ hq, hrel i j row c y h1 h2 hq⟩
   exact ⟨cells, ex, hcap, h1, fun row hm => acFZ (hst row hm), h2⟩
 ·cases h
  cases hx
  exact .inl ⟨rfl, 0, rfl⟩
 ·split at h
  ·rename_i o v n _ v' k rows' hH
   split at h
   ·rename_i hc
    cases h
    obtain ⟨rfl, hlen⟩ := hc
    cases hx with
    | sr o v n l b cap hl hv hn hh =>
     have hst : l.st = v' := by
      have := hw.st o _ l hH hl
      simp only [AObj.ver] at this
      omega
     obtain ⟨h0, hlk, hcap, _, hk, _, hcell⟩ := hw.obj o l _ ⟨hH, rfl, hl, hst⟩
     obtain ⟨rfl, rfl⟩ := hh hst (by omega)
     refine .inr ⟨l.b, 0, l.cap, k, ?_⟩
     obtain ⟨cells, h1, h2⟩ := build l.b 0 k _ hk fun i j row c h1 h2 => by
      obtain ⟨_, y, hy, hr⟩ := hcell i j row c h1 h2
      exact ⟨y, by rw [Nat.zero_add]; exact hy, hr⟩
     refine ⟨cells, by rw [hlen], by omega, h1, fun row hm => ?_, h2⟩
     obtain ⟨i, hi⟩ := List.mem_iff_getElem?.1 hm
     rw [List.all_eq_true]
     intro c hc
     obtain ⟨j, hj⟩ := List.mem_iff_getElem?.1 hc
     exact (hcell i j row c hi hj).1
   ·cases h
  ·rename_i o v n _ v' ty k rows' hH
   split at h
   ·rename_i hc
    cases h
    obtain ⟨rfl, hlen⟩ := hc
    cases hx with
    | sr o v n l b cap hl hv hn hh =>
     have hst : l.st = v' := by
      have := hw.st o _ l hH hl
      simp only [AObj.ver] at this
      omega
     obtain ⟨⟨h0, hlk, hcap, _, hk, _, hcell⟩, _⟩ := hw.obj o l _ ⟨hH, rfl, hl, hst⟩
     obtain ⟨rfl, rfl⟩ := hh hst (by omega)
     refine .inr ⟨l.b, 0, l.cap, k, ?_⟩
     obtain ⟨cells, h1, h2⟩ := build l.b 0 k _ hk fun i j row c h1 h2 => by
      obtain ⟨_, y, hy, hr⟩ := hcell i j row c h1 h2
      exact ⟨y, by rw [Nat.zero_add]; exact hy, hr⟩
     refine ⟨cells, by rw [hlen], by omega, h1, fun row hm => ?_, h2⟩
     obtain ⟨i, hi⟩ := List.mem_iff_getElem?.1 hm
     rw [List.all_eq_true]
     intro c hc
     obtain ⟨j, hj⟩ := List.mem_iff_getElem?.1 hc
     exact (hcell i j row c hi hj).1
   ·cases h
  ·cases h
 ·cases h
theorem VRel.ep_new {row : List AV} {b : Nat} {cells : Array Value} (hst : row.all AV.still = true) (h : LRel (g.addPerm b fun i => cells[i]?) row cells.toList) :
  VRel (g.addPerm b fun i => cells[i]?) (.ep row 0) (.pointer (some ⟨b, 0, none⟩)) := by
 refine .ep row 0 b 0 hst (fun j hj => ?_) fun j c x hc hx => ?_
 ·have := h.1
  simp at this
  simp only [G.addPerm, if_true, Nat.zero_add]
  rw [Array.getElem?_eq_getElem (by omega)]; rfl
 ·simp only [G.addPerm, if_true, Nat.zero_add] at hx
  exact h.2 j c x hc (by simpa using hx)
theorem aymZ {t : TypeId} {zs : List AV} (hz : zeroCells? P glob t = some zs) {av : AV} (h : evR H ρ (.alloc zs) = some av) (hw : WF g H w) :
  acpZ P ⟨dst, .alloc t, type, pos, after, guard⟩ a w (acvZ g H w av) := by
 simp only [evR] at h
 split at h
 ·rename_i hst
  cases h
  obtain ⟨it, z, hi, hzz, hzr⟩ := zeroCells?_spec hz
  have hstep := Step.allocPerm (w' := w.alloc (.cells z.cells t)) hw z.cells t (0, 0) rfl
  refine aarZ (v := .pointer (some ⟨w.heap.size, 0, none⟩)) (w' := w.alloc (.cells z.cells t)) ?_ ⟨_, hstep, VRel.ep_new (acGZ hst) (hzr _).strip1⟩
  simp [execOp, Instr.alloc, zeroValue, typeInfo, hi, hzz, newVar, newRow]
 ·cases h
theorem aDyZ {t : TypeId} {k : Nat} {X : Operand} {x : AOpd} (hx : opnd glob X = some x) {av : AV} (h : evR H ρ (.box k x) = some av)
  (hw : WF g H w) (hg : aauZ glob g) (hs : aanZ g ρ a.tmps) : acpZ P ⟨dst, .box t X, type, pos, after, guard⟩ a w (acvZ g H w av) := by
 simp only [evR] at h
 split at h
 ·rename_i hc
  cases h
  have hl := (aaiZ hx hg hs).strip.cells (acFZ hc.2)
  have hstep := Step.allocPerm (w' := w.alloc (.cells (a.eval X).cells t)) hw (a.eval X).cells t (0, 0) rfl
  refine aarZ (v := .pointer (some ⟨w.heap.size, 0, none⟩)) (w' := w.alloc (.cells (a.eval X).cells t)) ?_ ⟨_, hstep, VRel.ep_new hc.2 (hl.mono hstep.le)⟩
  simp [execOp, Instr.box, newVar, newRow]
 ·cases h
theorem aDzZ {f : Nat} {F C : Array Operand} {first caps : List AOpd} (hf : agkZ glob F.toList = some first) (hc : agkZ glob C.toList = some caps) {av : AV} (h : evR H ρ (.mkf f first caps) = some av)
  (hw : WF g H w) (hg : aauZ glob g) (hs : aanZ g ρ a.tmps) : acpZ P ⟨dst, .makeFunc (.func f) F C, type, pos, after, guard⟩ a w (acvZ g H w av) := by
 simp only [evR] at h
 split at h
 ·cases h
  have h1 := (aeDZ hf hg hs).strip1
  have h2 := (aeDZ hc hg hs).strip1
  rw [List.map_map] at h1 h2
  refine aarZ (v := .func (.func f) (F.map a.eval) (C.map a.eval)) (w' := w) (by simp [execOp, Instr.makeFunc]) (.same hw (.fn f _ _ _ _ ?_ ?_ ?_ ?_))
  ·have := h1.1; simpa using this
  ·have := h2.1; simpa using this
  ·intro i c x h3 h4; exact h1.2 i c x h3 (by simpa using h4)
  ·intro i c x h3 h4; exact h2.2 i c x h3 (by simpa using h4)
 ·cases h
theorem auvZ {mx : Bool} {x y z : AV} (h : mm2 mx x y = some z) {u v : Value} (hx : VRel g x u) (hy : VRel g y v) :
  ∃ c, (if mx then Builtin.max2 u v else Builtin.min2 u v).run P w = .ok c w /\ VRel g z c := by
 unfold mm2 at h
 split at h
 ·split at h
  ·rename_i e
   subst e
   cases h
   cases hx.int_inv; cases hy.int_inv
   cases mx
   ·exact ⟨_, by simp only [Bool.false_eq_true, if_false, Builtin.min2, Sem.run_pure], .int _ _⟩
   ·exact ⟨_, by simp only [if_true, Builtin.max2, Sem.run_pure], .int _ _⟩
  ·cases h
 ·cases h
theorem alcZ {mx : Bool} : ∀ (l : List AV) (x z : AV), akZZ mx x l = some z -> ∀ (u : Value) (vs : List Value), VRel g x u -> LRel g l vs ->
  ∃ c, (vs.foldlM (fun p q => if mx then Builtin.max2 p q else Builtin.min2 p q) u).run P w = .ok c w /\ VRel g z c
 | [], x, z, h, u, vs, hx, hl => by
  simp only [akZZ, Option.some.injEq] at h
  subst h
  have : vs = [] := List.eq_nil_of_length_eq_zero (by have := hl.1; simpa using this.symm)
  subst this
  exact ⟨u, by simp, hx⟩
 | y :: l, x, z, h, u, vs, hx, hl => by
  simp only [akZZ] at h
  split at h
  ·rename_i z1 hz
   cases vs with
   | nil => have := hl.1; simp at this
   | cons v vs =>
    obtain ⟨c, h1, h2⟩ := auvZ (P := P) (w := w) hz hx (hl.2 0 y v rfl rfl)
    obtain ⟨c', h3, h4⟩ := alcZ l z1 z h c vs h2 ⟨by have := hl.1; simpa using this, fun i a b ha hb => hl.2 (i + 1) a b (by simpa using ha) (by simpa using hb)⟩
    refine ⟨c', ?_, h4⟩
    simp only [List.foldlM_cons, Sem.run_bind, h1, Result.andThen_ok, h3]
  ·cases h
theorem r_mm {mx : Bool} {ty : TypeId} {ts : Array TypeId} {X : Array Operand} {xs : List AOpd} (hx : agkZ glob X.toList = some xs) {av : AV} (h : evR H ρ (.mm mx xs) = some av)
  (hw : WF g H w) (hg : aauZ glob g) (hs : aanZ g ρ a.tmps) : acpZ P ⟨dst, .call { callee := .builtin (if mx then .max else .min), args := X, argTypes := ts }, ty, pos, after, guard⟩ a w (acvZ g H w av) := by
 have hl := aeDZ hx hg hs
 simp only [evR] at h
 generalize hxs : xs.map (AOpd.ev ρ) = l at h hl
 cases l with
 | nil => simp [mmV] at h
 | cons y r =>
  simp only [mmV] at h
  generalize hvs : X.toList.map a.eval = vs at hl
  cases vs with
  | nil => have := hl.1; simp at this
  | cons v vs =>
   obtain ⟨c, h1, h2⟩ := alcZ (P := P) (w := w) (mx := mx) r y av h v vs (hl.2 0 y v rfl rfl) ⟨by have := hl.1; simpa using this, fun i a b ha hb => hl.2 (i + 1) a b (by simpa using ha) (by simpa using hb)⟩
   refine aarZ (v := c) (w' := w) ?_ (.same hw h2)
   have harr : (X.map a.eval).toList = v :: vs := by rw [Array.toList_map]; exact hvs
   cases mx
   ·simp only [Bool.false_eq_true, if_false] at h1
    simp [execOp, resolve, invoke, builtin, Builtin.min_, hvs, h1]
   ·simp only [if_true] at h1
    simp [execOp, resolve, invoke, builtin, Builtin.max_, hvs, h1]
theorem ahwZ : ∀ {rows : List (List AV)} {l : List UInt8}, abqZ rows = some l -> ∃ ns : List Int, rows = ns.map (fun n => [AV.int .u8 n]) /\ l = ns.map fun n => UInt8.ofNat n.toNat
 | [], l, h => by simp only [abqZ, Option.some.injEq] at h; subst h; exact ⟨[], rfl, rfl⟩
 | row :: r, l, h => by
  unfold abqZ at h
  split at h
  ·simp_all
  ·rename_i n r' e
   obtain ⟨l', hl', rfl⟩ := map_some h
   cases e
   obtain ⟨ns, rfl, rfl⟩ := ahwZ hl'
   exact ⟨n :: ns, rfl, rfl⟩
  ·cases h
theorem atjZ (ns : List Int) : ∀ s : ByteArray, (ns.foldl (fun r n => r.push (UInt8.ofNat n.toNat)) s).data.toList = s.data.toList ++ ns.map fun n => UInt8.ofNat n.toNat := by
 induction ns with
 | nil => intro s; simp
 | cons n ns ih =>
  intro s
  simp only [List.foldl_cons, ih, List.map_cons]
  show (s.data.push _).toList ++ _ = _
  simp
theorem amoZ (w : World) (e : TypeId) (s : ByteArray) : (Lib.bytesWorld w e s).heap = w.heap.push (.cells (Lib.bytesCells w e s) e ((Lib.bytesCells w e s).size, (Lib.bytesCells w e s).size + 1)) := by
 apply Array.ext_getElem?
 intro i
 rw [Array.getElem?_push]
 rcases Nat.lt_trichotomy i w.heap.size with h | h | h
 ·have : i ≠ w.heap.size := by omega
  rw [Lib.bytesWorld_at_old w e s i h]
  simp [this]
 ·subst h
  rw [Lib.bytesWorld_at_new]
  simp
 ·have : i ≠ w.heap.size := by omega
  rw [Array.getElem?_eq_none (by rw [Lib.bytesWorld_size]; omega), if_neg this, Array.getElem?_eq_none (by omega)]
theorem apOZ {e : TypeId} (h : isU8 P e = true) : P.underlying e = some (.int .u8) /\ size? P e = some 1 := by
 unfold isU8 at h
 split at h
 ·rename_i hd; exact ⟨hd, by simpa using h⟩
 ·cases h
theorem aABZ {src d : TypeId} {c : AConv} {X : Operand} {x : AOpd} (hc : ayiZ P src d = some c) (hx : opnd glob X = some x) {av : AV} (h : evR H ρ (.conv c x) = some av)
  (hw : WF g H w) (hg : aauZ glob g) (hs : aanZ g ρ a.tmps) : acpZ P ⟨dst, .convert src d X, type, pos, after, guard⟩ a w (acvZ g H w av) := by
 have hr := aaiZ hx hg hs
 simp only [evR] at h
 unfold ayiZ at hc
 generalize hxv : x.ev ρ = xv at h hr
 split at hc
 ·rename_i k0 k h1 h2
  cases hc
  cases xv <;> simp [agRZ] at h
  subst h
  have e := hr.int_inv
  exact aarZ (w' := w) (v := .int k (k.wrap _)) (by simp [execOp, convert, run_underlying h1, run_underlying h2, e, Conv.intToInt]) (.same hw (.int _ _))
 ·rename_i k0 h1 h2
  cases hc
  cases xv <;> simp [agRZ] at h
  rename_i k n
  obtain ⟨hn, rfl⟩ := h
  have e := hr.int_inv
  refine aarZ (w' := w) (v := .string (Utf8.encode n)) (by simp [execOp, convert, run_underlying h1, run_underlying h2, e, Conv.intToString]) (.same hw ?_)
  have hen : (Utf8.encode n).data.toList = [UInt8.ofNat n.toNat] := by
   have hv : Utf8.valid n = true := by unfold Utf8.valid; simp; omega
   have hlt : n.toNat < 128 := by omega
   simp [Utf8.encode, hv, hlt]
  rw [<- hen]
  exact .str _
 ·rename_i h1 h2
  cases hc
  cases xv <;> simp [agRZ] at h
  subst h
  obtain ⟨s, e, hs'⟩ := hr.str_inv
  exact aarZ (w' := w) (v := .string s) (by simp [execOp, convert, run_underlying h1, run_underlying h2, e]) (.same hw (e ▸ hr))
 ·rename_i e h1 h2
  split at hc
  ·rename_i hu
   cases hc
   obtain ⟨hu1, hu2⟩ := apOZ hu
   cases xv <;> simp [agRZ] at h
   rename_i l
   obtain ⟨hlen, rfl⟩ := h
   obtain ⟨s, ex, hs'⟩ := hr.str_inv
   have hstep := Step.allocPerm (w' := Lib.bytesWorld w e s) hw _ e _ (amoZ w e s)
   refine aarZ (w' := Lib.bytesWorld w e s) (v := .slice (some ⟨w.heap.size, 0, none⟩) s.size (grownCap w s.size 0 e)) ?_ ⟨_, hstep, ?_⟩
   ·simp only [execOp, ex, Sem.run_bind, Lib.run_convert_string_bytes w src d e s h1 h2 hu1, Result.andThen_ok, Sem.run_pure]
   ·have hl : (aayZ l).length = s.size := by rw [agaZ hs']; simp [aayZ]
    rw [<- hl]
    refine VRel.sl_new (k := 1) ?_ (by rw [hl]; exact grownCap_ge w s.size 0 e) (by simp) ⟨?_, ?_, ?_⟩
    ·simp [aayZ, AV.still]
    ·have := grownCap_ge w s.size 0 e
     have h4 : s.data.size = s.size := rfl
     rw [hl]; simp [Lib.bytesCells, h4]
    ·intro row hm
     simp only [aayZ, List.mem_map] at hm
     obtain ⟨b, _, rfl⟩ := hm
     rfl
    ·intro i j row c y h3 h4 h5
     simp only [aayZ, List.getElem?_map] at h3
     cases hb : l[i]? with
     | none => simp [hb] at h3
     | some b =>
      simp [hb] at h3
      subst h3
      cases j with
      | succ j => simp at h4
      | zero =>
       simp at h4
       subst h4
       have hi : i < l.length := (List.getElem?_eq_some_iff.1 hb).1
       rw [<- hs'] at hb
       rw [List.getElem?_take, hl] at h5
       have hi' : i < s.size := by rw [agaZ hs']; exact hi
       have hi2 : i < s.data.size := hi'
       have hi3 : i < s.data.toList.length := by simpa using hi2
       simp only [Nat.mul_one, Nat.add_zero, hi', if_true, Lib.bytesCells, Array.toList_append, Array.toList_map, List.getElem?_append, List.length_map, hi3, List.getElem?_map, List.getElem?_eq_getElem hi3, Option.map_some, Option.some.injEq, Array.getElem_toList] at h5
       rw [Array.getElem?_toList, Array.getElem?_eq_getElem hi2] at hb
       cases hb
       rw [<- h5]
       exact .int _ _
  ·cases hc
 ·rename_i e h1 h2
  split at hc
  ·rename_i hu
   cases hc
   obtain ⟨hu1, hu2⟩ := apOZ hu
   simp only [agRZ] at h
   cases hrows : aeOZ H xv with
   | none => simp [hrows] at h
   | some rows =>
    simp only [hrows] at h
    obtain ⟨l, hl, rfl⟩ := map_some h
    obtain ⟨ns, hns, rfl⟩ := ahwZ hl
    have hun : ∀ A n c, (convert src d (.slice A n c)).run P w = (Conv.bytesToString (.slice A n c)).run P w := fun A n c => by
     simp [convert, run_underlying h1, run_underlying h2, run_underlying hu1]
    rcases ahOZ hw hrows hr with ⟨er, cap, ex⟩ | ⟨b, off, cap, k, cells, ex, hcap, hrr, hst, hcell⟩
    ·subst er
     have : ns = [] := by cases ns with | nil => rfl | cons n ns => simp at hns
     subst this
     refine aarZ (w' := w) (v := .string .empty) ?_ (.same hw (.str' rfl))
     simp only [execOp, ex, Sem.run_bind, hun, Conv.bytesToString, Sem.run_pure, Result.andThen_ok]
    ·have hcells : cells = ns.map (Value.int .u8) := by
      by_cases hne : ns = []
      ·subst hne
       have := hrr.len
       rw [hns] at this
       simpa using this
      ·have hk1 : k = 1 := by
        cases ns with
        | nil => exact absurd rfl hne
        | cons n ns => have := hrr.row [.int .u8 n] (by rw [hns]; simp); simp at this; exact this.symm
       subst hk1
       have hlen := hrr.len
       rw [hns] at hlen
       simp at hlen
       apply List.ext_getElem?
       intro i
       rw [List.getElem?_map]
       by_cases hi : i < ns.length
       ·have h3 : cells[i]? = some (cells[i]'(by omega)) := by simp [hlen, hi]
        have h4 := hrr.rel i 0 [.int .u8 ns[i]] (.int .u8 ns[i]) (cells[i]'(by omega)) (by rw [hns]; simp [hi]) rfl (by simp)
        rw [h3]
        simp [hi, h4.int_inv]
       ·simp [hi, hlen]
     have hld := run_loadCells_list (P := P) w ⟨b, off, none⟩ cells (fun j v hv => by rw [acuZ]; exact hcell j v hv)
     have hlenr : rows.length = ns.length := by rw [hns]; simp
     have hlc : cells.length = rows.length := by rw [hcells, hlenr]; simp
     rw [hlc] at hld
     have hb := run_bytesToString (P := P) w ⟨b, off, none⟩ rows.length cap ns (by rw [hld, hcells])
     refine aarZ (w' := w) ?_ (.same hw (.str' (atjZ ns ByteArray.empty)))
     simp only [execOp, ex, Sem.run_bind, hun, hb, Result.andThen_ok, Sem.run_pure]
  ·cases hc
 ·cases hc
end
end Go.AM
end
section
namespace Go.AM
open Go Go.MapKept
section
variable {P : Program} {glob : Glob} {g : G} {H : List AObj} {w w' : World} {ρ : List AV} {a : Act}
variable {dst : Option Tmp} {type : TypeId} {pos : String} {after : Array Edge} {guard : Option (Nat × Bool)}
def ERel (g : G) (es : List (AV × AV)) (xs : List MapEntry) : Prop :=
 es.length = xs.length /\ ∀ (i : Nat) k v e, es[i]? = some (k, v) -> xs[i]? = some e -> VRel g k e.key /\ VRel g v e.val
theorem ERel.tail {k v : AV} {es : List (AV × AV)} {e : MapEntry} {xs : List MapEntry} (h : ERel g ((k, v) :: es) (e :: xs)) : ERel g es xs :=
 ⟨by simpa using h.1, fun i k v e h1 h2 => h.2 (i + 1) k v e (by simpa using h1) (by simpa using h2)⟩
theorem acwZ {K : IntKind} {key : AV} {x : Value} (hx : VRel g key x) : ∀ (es : List (AV × AV)) (xs : List MapEntry) (i : Nat) (r : Option (Nat × AV)), ERel g es xs -> aeuZ key es i = some r ->
  match r with
  | none => Instr.findNow (.int K) x xs i = some none
  | some (j, v) => ∃ j' e k n, j = i + j' /\ xs[j']? = some e /\ es[j']? = some (.int k n, v) /\ key = .int k n /\ Instr.findNow (.int K) x xs i = some (some (j, e.val))
 | [], xs, i, r, hr, h => by
  simp only [aeuZ, Option.some.injEq] at h
  subst h
  have := hr.1
  cases xs with
  | nil => rfl
  | cons _ _ => simp at this
 | (k', v) :: es, xs, i, r, hr, h => by
  cases xs with
  | nil => have := hr.1; simp at this
  | cons e xs =>
   obtain ⟨hk, hv⟩ := hr.2 0 k' v e rfl rfl
   unfold aeuZ at h
   split at h
   ·rename_i he
    cases h
    unfold arlZ at he
    split at he
    ·rename_i k a k2 b
     split at he
     ·rename_i hkk
      subst hkk
      simp at he
      subst he
      cases hx
      cases hk' : e.key <;> rw [hk'] at hk <;> cases hk
      exact ⟨0, e, k, a, rfl, rfl, rfl, rfl, by simp [Instr.findNow, hk', Instr.sameNow]⟩
     ·cases he
    ·cases he
   ·rename_i he
    have ih := acwZ (K := K) hx es xs (i + 1) r hr.tail h
    have hnow : Instr.sameNow (.int K) x e.key = some false := by
     unfold arlZ at he
     split at he
     ·rename_i k a k2 b
      split at he
      ·rename_i hkk
       subst hkk
       simp at he
       cases hx
       cases hk' : e.key <;> rw [hk'] at hk <;> cases hk
       simp [Instr.sameNow, he]
      ·cases he
     ·cases he
    have hstep : Instr.findNow (.int K) x (e :: xs) i = Instr.findNow (.int K) x xs (i + 1) := by
     simp [Instr.findNow, hnow]
    cases r with
    | none => simp only at ih ⊢; rw [hstep]; exact ih
    | some jv =>
     obtain ⟨j, v'⟩ := jv
     simp only at ih ⊢
     obtain ⟨j', e', k, n, h1, h2, h3, h4, h5⟩ := ih
     exact ⟨j' + 1, e', k, n, by omega, by simpa using h2, by simpa using h3, h4, by rw [hstep]; exact h5⟩
   ·cases h
theorem afbZ {kt : TypeId} {K : IntKind} (hd : P.underlying kt = some (.int K)) (b : Bool) (n : Nat) (x : Value) : (Instr.checkKey b (n + 1) kt x).run P w = .ok () w := by
 unfold Instr.checkKey
 simp only [Sem.run_bind, run_underlying hd, Result.andThen]
 cases x <;> rfl
theorem ampZ (hw : WF g H w) {o v v' : Nat} {es : List (AV × AV)} (ho : H[o]? = some (.map v' es)) (hv : v' = v) {x : Value} (hx : VRel g (.mp o v) x) :
  ∃ l entries clock, Backed g H o l (.map v es) /\ x = .map (some l.b) /\ w.heap[l.b]? = some (.map entries clock) /\ ERel g es entries.toList /\ l.len = 0 := by
 subst hv
 cases hx with
 | mp _ _ l r hl hv h =>
  have hst : l.st = v' := by have := hw.st o _ l ho hl; simp only [AObj.ver] at this; omega
  have hb : Backed g H o l (.map v' es) := ⟨ho, rfl, hl, hst⟩
  obtain ⟨h0, entries, clock, h2, h3, h4⟩ := hw.obj o l _ hb
  refine ⟨l, entries, clock, hb, by rw [h hst h0], h2,⟨by simpa using h3, fun i k v e h5 h6 => h4 i k v e h5 (by simpa using h6)⟩, h0⟩
theorem zeroV?_spec {t : TypeId} {z : AV} (h : zeroV? P glob t = some z) : ∃ zv, (∀ w, (zeroValue t).run P w = .ok zv w) /\ ∀ g, VRel g z zv := by
 unfold zeroV? at h
 cases hi : P.info? t with
 | none => rw [hi] at h; simp at h
 | some i =>
  rw [hi] at h
  simp only [Option.bind_some] at h
  cases hz : i.zero with
  | none => rw [hz] at h; simp at h
  | some zv =>
   rw [hz] at h
   simp only [Option.bind_some] at h
   exact ⟨zv, fun w => by simp [zeroValue, typeInfo, hi, hz], fun g => apJZ h g⟩
theorem VRel.tup2 {b c : AV} {x y : Value} (h1 : VRel g b x) (h2 : VRel g c y) : VRel g (.tup [b, c]) (.tuple #[x, y]) := by
 refine VRel.tup _ _ rfl fun i a z ha hz => ?_
 match i with
 | 0 => simp at ha hz; subst ha; subst hz; exact h1
 | 1 => simp at ha hz; subst ha; subst hz; exact h2
 | i + 2 => simp at ha
theorem atkZ (hw : WF g H w) {ks vs : List AV} {x : Value} (hx : VRel g (.fmp ks vs) x) :
  ∃ r entries clock, x = .map (some r) /\ w.heap[r]? = some (.map entries clock) /\ ERel g (ks.zip vs) entries.toList := by
 cases hx with
 | fmp _ _ r entries clock hwh hk hv h1 h2 =>
  refine ⟨r, entries, clock, rfl, (hw.whole.blocks _ _ hwh).1, by simp [hk, hv], fun i k v e h5 h6 => ?_⟩
  rw [List.getElem?_zip_eq_some] at h5
  exact ⟨h1 i k e h5.1 (by simpa using h6), h2 i v e h5.2 (by simpa using h6)⟩
theorem aACZ {t kt et : TypeId} {K : IntKind} {M X : Operand} {m k : AOpd} {zero : AV} {ok : Bool} (ht : P.underlying t = some (.map kt et)) (hk : P.underlying kt = some (.int K)) (hz : zeroV? P glob et = some zero)
  (hM : opnd glob M = some m) (hX : opnd glob X = some k) {av : AV} (h : evR H ρ (.look zero m k ok) = some av) (hw : WF g H w) (hg : aauZ glob g) (hs : aanZ g ρ a.tmps) :
  acpZ P ⟨dst, .lookup t M X ok, type, pos, after, guard⟩ a w (acvZ g H w av) := by
 have hm := aaiZ hM hg hs
 have hx := aaiZ hX hg hs
 simp only [evR] at h
 split at h
 ·rename_i o v e
  rw [e] at hm
  split at h
  ·rename_i v' es ho
   split at h
   ·rename_i hv
    obtain ⟨l, entries, clock, hb, hmv, hheap, hrel, _⟩ := ampZ hw ho hv hm
    obtain ⟨zv, hz1, hz2⟩ := zeroV?_spec hz
    have hck : ∀ b, (Instr.checkKey b 10000 kt (a.eval X)).run P w = .ok () w := fun b => afbZ hk b 9999 (a.eval X)
    split at h
    ·rename_i j x hf
     obtain ⟨j', e', k', n, h1, h2, h3, h4, h5⟩ := acwZ (K := K) hx es entries.toList 0 _ hrel hf
     have hval := (hrel.2 j' _ _ e' h3 h2).2
     have hfk := run_findKey (w := w) hk h5
     have hrun : (Instr.lookup t (a.eval M) (a.eval X) ok).run P w = .ok (if ok then .tuple #[e'.val, .bool true] else e'.val) w := by
      simp [Instr.lookup, run_underlying ht, hmv, MapKept.run_getObj_map hheap, hck, hfk, Result.andThen]
     refine aarZ (v := if ok then .tuple #[e'.val, .bool true] else e'.val) (w' := w) (by simp [execOp, hrun]) (.same hw ?_)
     cases ok with
     | true => simp at h; subst h; exact VRel.tup2 hval (.bool true)
     | false => simp at h; subst h; exact hval
    ·rename_i hf
     have h5 := acwZ (K := K) hx es entries.toList 0 _ hrel hf
     have hfk := run_findKey (w := w) hk h5
     have hrun : (Instr.lookup t (a.eval M) (a.eval X) ok).run P w = .ok (if ok then .tuple #[zv, .bool false] else zv) w := by
      simp [Instr.lookup, run_underlying ht, hmv, MapKept.run_getObj_map hheap, hck, hfk, hz1, Result.andThen]
     refine aarZ (v := if ok then .tuple #[zv, .bool false] else zv) (w' := w) (by simp [execOp, hrun]) (.same hw ?_)
     cases ok with
     | true => simp at h; subst h; exact VRel.tup2 (hz2 g) (.bool false)
     | false => simp at h; subst h; exact hz2 g
    ·cases h
   ·cases h
  ·cases h
 ·rename_i ks vs e
  rw [e] at hm
  obtain ⟨l, entries, clock, hmv, hheap, hrel⟩ := atkZ hw hm
  obtain ⟨zv, hz1, hz2⟩ := zeroV?_spec hz
  have hck : ∀ b, (Instr.checkKey b 10000 kt (a.eval X)).run P w = .ok () w := fun b => afbZ hk b 9999 (a.eval X)
  split at h
  ·rename_i j x hf
   obtain ⟨j', e', k', n, h1, h2, h3, h4, h5⟩ := acwZ (K := K) hx (ks.zip vs) entries.toList 0 _ hrel hf
   have hval := (hrel.2 j' _ _ e' h3 h2).2
   have hfk := run_findKey (w := w) hk h5
   have hrun : (Instr.lookup t (a.eval M) (a.eval X) ok).run P w = .ok (if ok then .tuple #[e'.val, .bool true] else e'.val) w := by
    simp [Instr.lookup, run_underlying ht, hmv, MapKept.run_getObj_map hheap, hck, hfk, Result.andThen]
   refine aarZ (v := if ok then .tuple #[e'.val, .bool true] else e'.val) (w' := w) (by simp [execOp, hrun]) (.same hw ?_)
   cases ok with
   | true => simp at h; subst h; exact VRel.tup2 hval (.bool true)
   | false => simp at h; subst h; exact hval
  ·rename_i hf
   have h5 := acwZ (K := K) hx (ks.zip vs) entries.toList 0 _ hrel hf
   have hfk := run_findKey (w := w) hk h5
   have hrun : (Instr.lookup t (a.eval M) (a.eval X) ok).run P w = .ok (if ok then .tuple #[zv, .bool false] else zv) w := by
    simp [Instr.lookup, run_underlying ht, hmv, MapKept.run_getObj_map hheap, hck, hfk, hz1, Result.andThen]
   refine aarZ (v := if ok then .tuple #[zv, .bool false] else zv) (w' := w) (by simp [execOp, hrun]) (.same hw ?_)
   cases ok with
   | true => simp at h; subst h; exact VRel.tup2 (hz2 g) (.bool false)
   | false => simp at h; subst h; exact hz2 g
  ·cases h
 ·cases h
theorem apPZ {t : TypeId} {Y : Operand} (h : aoOZ P t Y = true) : (∃ e, P.underlying t = some (.slice e)) /\ Y = .const (.slice none 0 0) := by
 unfold aoOZ at h
 split at h
 ·rename_i e he
  exact ⟨⟨e, he⟩, rfl⟩
 ·cases h
theorem auwZ {t yt : TypeId} {op : BinOp} {X Y : Operand} {x : AOpd} (hx : opnd glob X = some x) (hn : aoOZ P t Y = true) {neg : Bool} (hop : (op = .eql /\ neg = false) ∨ (op = .neq /\ neg = true)) {av : AV}
  (h : evR H ρ (.isnil neg x) = some av) (hw : WF g H w) (hg : aauZ glob g) (hs : aanZ g ρ a.tmps) :
  acpZ P ⟨dst, .binOp op t X Y yt, type, pos, after, guard⟩ a w (acvZ g H w av) := by
 obtain ⟨⟨e, ht⟩, rfl⟩ := apPZ hn
 have hv := aaiZ hx hg hs
 have key : ∀ (b : Addr) n c, a.eval X = .slice (some b) n c -> av = .bool neg -> acpZ P ⟨dst, .binOp op t X (.const (.slice none 0 0)) yt, type, pos, after, guard⟩ a w (acvZ g H w av) := by
  intro b n c e1 e2
  subst e2
  have hq : ∀ d, (Op.equalIn (d + 1) t (.slice (some b) n c) (.slice none 0 0)).run P w = .ok false w := fun d => by simp [Op.equalIn, run_underlying ht]
  have hq' : (Op.equal t (.slice (some b) n c) (.slice none 0 0)).run P w = .ok false w := hq 9999
  have hgd : (eqGuard op t X (.const (.slice none 0 0)) (.slice (some b) n c) (.slice none 0 0)).run P w = .ok () w := by simp [eqGuard_at_slice]
  have hev : a.eval (.const (.slice none 0 0)) = .slice none 0 0 := rfl
  refine aarZ (v := .bool neg) (w' := w) ?_ (.same hw (.bool neg))
  rcases hop with ⟨rfl, rfl⟩ | ⟨rfl, rfl⟩
  ·simp [execOp, e1, hev, hgd, binOp, hq']
  ·simp [execOp, e1, hev, hgd, binOp, hq']
 simp only [evR] at h
 split at h
 ·rename_i f r rs e1
  rw [e1] at hv
  cases h
  generalize hz : a.eval X = z at hv
  cases hv with
  | sl full rows b off cap k => exact key _ _ _ hz rfl
 ·rename_i o v n e1
  rw [e1] at hv
  cases h
  generalize hz : a.eval X = z at hv
  cases hv
  exact key _ _ _ hz rfl
 ·rename_i e1
  rw [e1] at hv
  cases h
  generalize hz : a.eval X = z at hv
  cases hv
  have hq : ∀ d, (Op.equalIn (d + 1) t (.slice none 0 0) (.slice none 0 0)).run P w = .ok true w := fun d => by simp [Op.equalIn, run_underlying ht]
  have hq' : (Op.equal t (.slice none 0 0) (.slice none 0 0)).run P w = .ok true w := hq 9999
  have hgd : (eqGuard op t X (.const (.slice none 0 0)) (.slice none 0 0) (.slice none 0 0)).run P w = .ok () w := by simp [eqGuard_at_slice]
  have hev : a.eval (.const (.slice none 0 0)) = .slice none 0 0 := rfl
  refine aarZ (v := .bool !neg) (w' := w) ?_ (.same hw (.bool !neg))
  rcases hop with ⟨rfl, rfl⟩ | ⟨rfl, rfl⟩
  ·simp [execOp, hz, hev, hgd, binOp, hq']
  ·simp [execOp, hz, hev, hgd, binOp, hq']
 ·cases h
end
end Go.AM
end
section
namespace Go.AM
open Go
section
variable {P : Program} {glob : Glob} {g : G} {H : List AObj} {w w' : World} {ρ : List AV} {a : Act}
variable {dst : Option Tmp} {type : TypeId} {pos : String} {after : Array Edge} {guard : Option (Nat × Bool)}
theorem aDAZ {t e : TypeId} {i : TypeInfo} {L C : Operand} {l c : AOpd} {zs : List AV} (ht : P.underlying t = some (.slice e)) (hi : P.info? e = some i) (hz : zeroCells? P glob e = some zs) (hL : opnd glob L = some l) (hC : opnd glob C = some c)
  (hzl : zs.length = i.size) (hst : zs.all AV.still = true) {av : AV} (h : evR H ρ (.mks i.size i.bytes zs l c) = some av) (hw : WF g H w) (hg : aauZ glob g) (hs : aanZ g ρ a.tmps) :
  acpZ P ⟨dst, .makeSlice t L C, type, pos, after, guard⟩ a w (acvZ g H w av) := by
 simp only [evR] at h
 have hrl := aaiZ hL hg hs
 have hrc := aaiZ hC hg hs
 split at h
 ·rename_i k1 n k2 m e1 e2
  rw [e1] at hrl
  rw [e2] at hrc
  have el := hrl.int_inv
  have ec := hrc.int_inv
  split at h
  ·rename_i hcond
   obtain ⟨h0, rfl, hroom⟩ := hcond
   obtain ⟨it, z, hi', hzz, hzr⟩ := zeroCells?_spec hz
   rw [hi] at hi'
   cases hi'
   obtain ⟨n', rfl⟩ := Int.eq_ofNat_of_zero_le h0
   simp only [abNZ, decide_eq_true_eq, Int.toNat_natCast] at hroom
   have hb1 : n' * i.bytes <= n' * (i.bytes + 1) := Nat.mul_le_mul_left _ (by omega)
   have hb2 : n' <= n' * (i.bytes + 1) := Nat.le_mul_of_pos_right _ (by omega)
   have hwrap : IntKind.i64.wrap (n' : Int) = (n' : Int) := by
    unfold IntKind.wrap
    simp only [IntKind.bits, IntKind.signed]
    have : ((n' : Int) % 2 ^ 64) = n' := Int.emod_eq_of_lt (by omega) (by omega)
    simp; omega
   have hcast : (i.bytes : Int) * (n' : Int) <= 281474976710656 := by
    have : ((i.bytes * n' : Nat) : Int) = (i.bytes : Int) * (n' : Int) := by simp
    rw [<- this, Nat.mul_comm]; omega
   have hrun : (Instr.makeSlice t (.int k1 n') (.int k2 n')).run P w = .ok (.slice (some ⟨w.heap.size, 0, none⟩) n' n') (w.alloc (.cells ((Array.range (n' * i.size)).map (z.cells[· % z.cells.size]!)) e)) := by
    have hn1 : ¬ ((n' : Int) < 0) := by omega
    have hn2 : ¬ ((i.bytes : Int) * (n' : Int) > 281474976710656) := by omega
    by_cases hz0 : n' * i.size = 0
    ·simp [Instr.makeSlice, run_underlying ht, asInt, asIntOf, typeInfo, hi, hwrap, hn1, hn2, sizeOf, hz0, newRow, Array.range_zero']
    ·simp [Instr.makeSlice, run_underlying ht, asInt, asIntOf, typeInfo, hi, hwrap, hn1, hn2, sizeOf, hz0, zeroValue, hzz, newRow]
   have hrow0 : RowsRel g i.size (List.replicate n' (zs.map AV.strip1)) (((Array.range (n' * i.size)).map (z.cells[· % z.cells.size]!)).toList) := alXZ (hzr g).strip1 (by simpa using hzl)
   have hst0 : (List.replicate n' (zs.map AV.strip1)).all (fun r => r.all AV.still) = true := by
    rw [List.all_eq_true]; intro r hm; rw [(List.mem_replicate.1 hm).2]; exact acGZ hst
   have hlen0 : (List.replicate n' (zs.map AV.strip1)).length = n' := by simp
   have htake : (((Array.range (n' * i.size)).map (z.cells[· % z.cells.size]!)).toList).take ((List.replicate n' (zs.map AV.strip1)).length * i.size) = ((Array.range (n' * i.size)).map (z.cells[· % z.cells.size]!)).toList :=
    List.take_of_length_le (by simp)
   simp only [Int.toNat_natCast] at h
   cases h
   have hstep := Step.allocPerm (w' := w.alloc (.cells ((Array.range (n' * i.size)).map (z.cells[· % z.cells.size]!)) e)) hw ((Array.range (n' * i.size)).map (z.cells[· % z.cells.size]!)) e (0, 0) rfl
   have hv := VRel.sl_new (f := true) (cap := n') (b := w.heap.size) hst0 (by omega) (fun _ => hlen0.symm) (by rw [htake]; exact hrow0.mono hstep.le)
   rw [hlen0] at hv
   exact ⟨.slice (some ⟨w.heap.size, 0, none⟩) n' n', _, by simp only [execOp, el, ec, Sem.run_bind, hrun, Result.andThen_ok, Sem.run_pure], _, hstep, hv⟩
  ·cases h
 ·cases h
end
end Go.AM
end
section
namespace Go.AM
open Go
section
variable {P : Program} {glob : Glob} {g : G} {H : List AObj} {w : World} {ρ : List AV} {a : Act}
theorem atlZ {X : Option Operand} (h : agSZ glob X = some none) : X = none := by
 cases X with
 | none => rfl
 | some x => simp only [agSZ] at h; obtain ⟨z, _, hz⟩ := map_some h; cases hz
theorem apQZ {X : Array Operand} {x : AOpd} (h : agkZ glob X.toList = some [x]) : ∃ Y, X = #[Y] /\ opnd glob Y = some x := by
 obtain ⟨l⟩ := X
 simp only at h
 cases l with
 | nil => simp [agkZ] at h
 | cons Y r =>
  simp only [agkZ] at h
  split at h
  ·cases h
  ·rename_i y hy
   split at h
   ·cases h
   ·rename_i ys hys
    cases h
    cases r with
    | nil => exact ⟨Y, rfl, hy⟩
    | cons Z r =>
     simp only [agkZ] at hys
     split at hys
     ·cases hys
     ·split at hys <;> cases hys
theorem apRZ {X : Array Operand} {x y : AOpd} (h : agkZ glob X.toList = some [x, y]) : ∃ Y Z, X = #[Y, Z] /\ opnd glob Y = some x /\ opnd glob Z = some y := by
 obtain ⟨l⟩ := X
 simp only at h
 cases l with
 | nil => simp [agkZ] at h
 | cons Y r =>
  simp only [agkZ] at h
  split at h
  ·cases h
  ·rename_i z hz
   split at h
   ·cases h
   ·rename_i ys hys
    cases h
    obtain ⟨Z, e, hZ⟩ := apQZ (X := r.toArray) (by simpa using hys)
    have : r = [Z] := by simpa using congrArg Array.toList e
    subst this
    exact ⟨Y, Z, rfl, hz, hZ⟩
theorem atmZ {α : Type} {X : Array α} {t : α} (h : X.toList = [t]) : X = #[t] := by
 obtain ⟨l⟩ := X
 simp at h
 rw [h]
theorem aepZ {α : Type} {X : Array α} {t u : α} (h : X.toList = [t, u]) : X = #[t, u] := by
 obtain ⟨l⟩ := X
 simp at h
 rw [h]
theorem apSZ {o : Oper} {op : AOp} (hc : cOp P glob o = some op) {av : AV} (h : evR H ρ op = some av) (hw : WF g H w) (hg : aauZ glob g) (hs : aanZ g ρ a.tmps) :
  acpZ P o a w (acvZ g H w av) := by
 obtain ⟨dst, o, type, pos, after, guard⟩ := o
 unfold cOp at hc
 dsimp only at hc
 split at hc
 ·obtain ⟨x, hx, rfl⟩ := map_some hc
  simp only [evR, Option.some.injEq] at h
  subst h
  exact aAuZ hx hw hg hs
 ·obtain ⟨x, hx, rfl⟩ := map_some hc
  simp only [evR, Option.some.injEq] at h
  subst h
  exact awsZ hx hw hg hs
 ·split at hc
  ·rename_i c x y h1 h2 h3
   cases hc
   simp only [evR] at h
   split at h
   ·rename_i t ht
    cases h
    exact aAvZ h1 h2 h3 ht hw hg hs
   ·cases h
  ·cases hc
 ·split at hc
  ·obtain ⟨zs, hz, rfl⟩ := map_some hc
   simp [evR] at h
  ·obtain ⟨zs, hz, rfl⟩ := map_some hc
   exact aymZ hz h hw
 ·split at hc
  ·rename_i n x h1 h2
   split at hc
   ·cases hc
    simp [evR] at h
   ·cases hc
    exact aDyZ h2 h hw hg hs
  ·cases hc
 ·split at hc
  ·rename_i zs fields h1 h2
   split at hc
   ·rename_i hall
    obtain ⟨aps, hp, rfl⟩ := map_some hc
    exact auuZ h1 (.inl ⟨fields, h2, hall, hp⟩) h hw hg hs
   ·cases hc
  ·rename_i zs n e h1 h2
   split at hc
   ·rename_i k hk
    obtain ⟨aps, hp, rfl⟩ := map_some hc
    exact auuZ h1 (.inr ⟨n, e, k, h2, hk, hp⟩) h hw hg hs
   ·cases hc
  ·cases hc
 ·split at hc
  ·rename_i e ht
   split at hc
   ·rename_i k zs ps h1 h2 h3
    split at hc
    ·rename_i hcond
     cases hc
     exact aDxZ ht h1 h2 h3 hcond.2.1 hcond.2.2.1 hcond.2.2.2 h hw hg hs |> fun f => f
    ·cases hc
   ·cases hc
  ·cases hc
 ·split at hc
  ·rename_i n agg x h1 h2
   cases hc
   simp only [evR] at h
   split at h
   ·rename_i cs hcs
    exact aAwZ h2 h1 hcs h hw hg hs
   ·cases h
  ·cases hc
 ·split at hc
  ·cases hc
   simp [evR] at h
  ·cases hc
 ·obtain ⟨x, hx, rfl⟩ := map_some hc
  exact ayjZ hx h hw hg hs
 ·split at hc
  ·rename_i hn
   split at hc
   ·obtain ⟨x, hx, rfl⟩ := map_some hc
    exact auwZ hx hn (.inl ⟨rfl, rfl⟩) h hw hg hs
   ·obtain ⟨x, hx, rfl⟩ := map_some hc
    exact auwZ hx hn (.inr ⟨rfl, rfl⟩) h hw hg hs
   ·cases hc
  ·split at hc
   ·rename_i x y h1 h2
    cases hc
    exact aDqZ h1 h2 h hw hg hs
   ·cases hc
 ·obtain ⟨x, hx, rfl⟩ := map_some hc
  exact r_un hx h hw hg hs
 ·split at hc
  ·rename_i c x h1 h2
   cases hc
   exact aABZ h1 h2 h hw hg hs
  ·cases hc
 ·split at hc
  ·rename_i x y h1 h2
   cases hc
   exact aDzZ h1 h2 h hw hg hs
  ·cases hc
 ·split at hc
  ·rename_i e ht
   split at hc
   ·rename_i i zs l c h1 h2 h3 h4
    split at hc
    ·rename_i hcond
     cases hc
     exact aDAZ ht h1 h2 h3 h4 hcond.2.1 hcond.2.2 h hw hg hs
    ·cases hc
   ·cases hc
  ·cases hc
 ·split at hc
  ·rename_i x lo hi h1 h2 h3 h4 h5
   cases hc
   cases atlZ h5
   exact awtZ h2 h3 h4 h1 h hw hg hs
  ·rename_i e x lo hi mx h1 h2 h3 h4 h5
   split at hc
   ·rename_i k hk
    split at hc
    ·split at hc
     ·rename_i hcc
      have e1 : hi = none := by simpa using hcc.2.1
      have e2 : mx = none := by simpa using hcc.2.2
      subst e1
      subst e2
      cases hc
      exact aAxZ h2 h3 h4 h5 h1 hk h hw hg hs
     ·cases hc
      exact asfZ h2 h3 h4 h5 h1 hk h hw hg hs
    ·cases hc
   ·cases hc
  ·rename_i n e x lo hi mx h1 h2 h3 h4 h5
   split at hc
   ·rename_i k hk
    split at hc
    ·cases hc
     exact awuZ h2 h3 h4 h5 h1 hk h hw hg hs
    ·cases hc
   ·cases hc
  ·cases hc
 ·split at hc
  ·rename_i fields x h1 h2
   split at hc
   ·rename_i fd hfd
    split at hc
    ·rename_i n hn
     cases hc
     exact r_fa h2 h1 hfd hn h hw hg hs
    ·cases hc
   ·cases hc
  ·cases hc
 ·split at hc
  ·rename_i fields x h1 h2
   split at hc
   ·rename_i fd hfd
    split at hc
    ·rename_i n agg hn
     cases hc
     exact aDrZ h2 h1 hfd hn h hw hg hs
    ·cases hc
   ·cases hc
  ·cases hc
 ·split at hc
  ·rename_i n e x i h1 h2 h3
   split at hc
   ·rename_i k hk
    cases hc
    exact aDtZ h2 h3 h1 hk h hw hg hs
   ·cases hc
  ·rename_i e x i h1 h2 h3
   split at hc
   ·rename_i k hk
    split at hc
    ·cases hc
     exact aDsZ h2 h3 h1 hk h hw hg hs
    ·cases hc
   ·cases hc
  ·cases hc
 ·split at hc
  ·rename_i n e x i h1 h2 h3
   split at hc
   ·rename_i k agg hk
    cases hc
    exact aDvZ h2 h3 h1 hk h hw hg hs
   ·cases hc
  ·rename_i x i h1 h2 h3
   cases hc
   exact aDuZ h2 h3 h1 h hw hg hs
  ·cases hc
 ·obtain ⟨x, hx, rfl⟩ := map_some hc
  exact aDwZ hx h hw hg hs
 ·split at hc
  ·cases hc
  ·rename_i d hn hd
   obtain ⟨x, hx, rfl⟩ := map_some hc
   exact aylZ hd (fun ms e => hn ms e) hx h hw hg hs
  ·cases hc
 ·cases hc
  simp [evR] at h
 ·split at hc
  ·split at hc
   ·cases hc
    simp [evR] at h
   ·cases hc
  ·cases hc
 ·split at hc
  ·rename_i kt et ht
   split at hc
   ·rename_i K z m k hk hz h1 h2
    cases hc
    exact aACZ ht hk hz h1 h2 h hw hg hs
   ·cases hc
  ·cases hc
 ·split at hc
  ·rename_i x t h1 h2
   obtain ⟨X, rfl, hx⟩ := apQZ h1
   cases atmZ h2
   split at hc
   ·rename_i ht
    cases hc
    exact aAyZ hx ht h hw hg hs
   ·rename_i e ht
    cases hc
    exact aAzZ hx ht h hw hg hs
   ·rename_i n e ht
    cases hc
    simp only [evR, Option.some.injEq] at h
    subst h
    exact aAAZ ht hw
   ·cases hc
  ·repeat' split at hc
   all_goals first | (cases hc; done) | (cases hc; simp [evR] at h)
  ·repeat' split at hc
   all_goals first | (cases hc; done) | (cases hc; simp [evR] at h)
  ·rename_i xs h1
   cases hc
   exact r_mm (mx := true) h1 h hw hg hs
  ·rename_i xs h1
   cases hc
   exact r_mm (mx := false) h1 h hw hg hs
  ·cases hc
 ·split at hc
  ·cases hc
   simp [evR] at h
  ·cases hc
 ·split at hc
  ·cases hc
   simp [evR] at h
  ·cases hc
 ·cases hc
end
end Go.AM
end
section
namespace Go.AM
open Go
section
variable {P : Program} {glob : Glob} {g : G} {H : List AObj} {w : World} {ρ : List AV} {a : Act}
variable {dst : Option Tmp} {type : TypeId} {pos : String} {after : Array Edge} {guard : Option (Nat × Bool)}
def Does (P : Program) (o : Oper) (a : Act) (w : World) (R : Value -> World -> Prop) : Prop :=
 (∃ v w', (execOp a.eval o).run P w = .ok (.value v) w' /\ R v w') ∨ (∃ w', (execOp a.eval o).run P w = .ok .skip w' /\ R Go.undef w') ∨
 (∃ f args w1, (execOp a.eval o).run P w = .ok (.enter f args) w1 /\ Calls P f args w1 fun e w' => match e with | .returned v => R v w' | _ => False)
theorem Does.wp {o : Oper} {R : Value -> World -> Prop} (h : Does P o a w R) {next : Act -> World -> Prop} {Q : Exit -> Act -> World -> Prop} (hn : ∀ v w', R v w' -> next (a.put o.dst v) w') :
  o.wp P a w next Q := by
 unfold Oper.wp
 rcases h with ⟨v, w', hr, hR⟩ | ⟨w', hr, hR⟩ | ⟨f, args, w1, hr, hR⟩
 ·rw [hr]; exact hn v w' hR
 ·rw [hr]; exact hn _ w' hR
 ·rw [hr]
  refine Calls.mono hR fun e w' he => ?_
  cases e with
  | returned v => exact hn v w' he
  | panicked c => exact he.elim
  | outgrown => exact he.elim
theorem acpZ.does {o : Oper} {R : Value -> World -> Prop} (h : acpZ P o a w R) : Does P o a w R := .inl h
theorem afiZ (b : Nat) : ∀ (vs : List Value) (o : Nat) (w : World), (w.setCells b o vs).heap.size = w.heap.size /\ ∀ b', b' ≠ b -> (w.setCells b o vs).heap[b']? = w.heap[b']?
 | [], _, _ => ⟨rfl, fun _ _ => rfl⟩
 | v :: r, o, w => by
  obtain ⟨h1, h2⟩ := afiZ b r (o + 1) (w.setCell ⟨b, o, none⟩ v)
  refine ⟨by rw [World.setCells, h1, World.size_setCell], fun b' hb => ?_⟩
  rw [World.setCells, h2 b' hb]
  simp [World.setCell, Array.getElem?_modify, Ne.symm hb]
theorem aglZ (b : Nat) : ∀ (vs : List Value) (o : Nat) (w : World) (cs : Array Value) (t : TypeId) (fz : Nat × Nat), w.heap[b]? = some (.cells cs t fz) -> ∃ cs', (w.setCells b o vs).heap[b]? = some (.cells cs' t fz) /\ cs'.size = cs.size
 | [], _, _, cs, _, _, h => ⟨cs, h, rfl⟩
 | v :: r, o, w, cs, t, fz, h => by
  have h1 : (w.setCell ⟨b, o, none⟩ v).heap[b]? = some (.cells (cs.setIfInBounds o v) t fz) := by
   simp [World.setCell, Array.getElem?_modify, h]
  obtain ⟨cs', h2, h3⟩ := aglZ b r (o + 1) _ _ t fz h1
  exact ⟨cs', h2, by rw [h3]; simp⟩
theorem atnZ {w : World} {b : Nat} {cs : Array Value} {t : TypeId} (h : w.heap[b]? = some (.cells cs t (0, 0))) : Soft w b := fun j _ => by
 simp [World.frozen?, h]
theorem VRel.oneCell {v : AV} {x : Value} (h : VRel g v x) (hok : v.cellOk = true) : x.oneCell' = true := by
 cases h <;> first | rfl | (simp [AV.cellOk] at hok)
theorem LRel.oneCell {vs : List AV} {xs : List Value} (h : LRel g vs xs) (hok : vs.all AV.cellOk = true) : ∀ x ∈ xs, x.oneCell' = true := by
 intro x hx
 obtain ⟨i, hi⟩ := List.mem_iff_getElem?.1 hx
 have hlt : i < vs.length := by rw [h.1]; exact (List.getElem?_eq_some_iff.1 hi).1
 exact (h.2 i vs[i] x (by simp [hlt]) hi).oneCell (List.all_eq_true.1 hok _ (List.getElem_mem hlt))
theorem agHZ (w : World) (a : Addr) (v : Value) : (w.setCell a v).os = w.os /\ (w.setCell a v).output = w.output := by
 unfold World.setCell
 split <;> exact ⟨rfl, rfl⟩
theorem agWZ (b : Nat) : ∀ (vs : List Value) (off : Nat) (w : World), (w.setCells b off vs).os = w.os /\ (w.setCells b off vs).output = w.output
 | [], _, _ => ⟨rfl, rfl⟩
 | v :: vs, off, w => by
  have h1 := agHZ w ⟨b, off, none⟩ v
  have h2 := agWZ b vs (off + 1) (w.setCell ⟨b, off, none⟩ v)
  exact ⟨h2.1.trans h1.1, h2.2.trans h1.2⟩
theorem Step.write (hw : WF g H w) {o : Nat} {l : Loc} {x x' : AObj} (hb : Backed g H o l x) {off : Nat} {xs : List Value}
  (hver : x'.ver = x.ver) (hal : x'.alive = true)
  (hobj : alMZ g (w.setCells l.b off xs) l x') : Step g H w g (H.set o x') (w.setCells l.b off xs) [o] := by
 obtain ⟨h1, h2⟩ := afiZ l.b xs off w
 have hg : g.setObj o l = g := by
  cases g with
  | mk p ob wh io =>
   have := hb.loc
   simp only [G.setObj, G.mk.injEq, true_and, and_true]
   funext o'
   by_cases e : o' = o
   ·subst e; simpa using this.symm
   ·simp [e]
 have := Step.update (w' := w.setCells l.b off xs) hw o x' l (hw.lt o l hb.loc) (by rw [h1]; exact Nat.le_refl _)
  (fun b _ hne => h2 b (Ne.symm (hne l x hb))) (by rw [h1]; exact hw.blk o l hb.loc) (.inr ⟨l, x, hb, rfl⟩) (by rw [hver]; exact hb.st) hal
  (fun l0 h0 => by rw [hb.loc] at h0; cases h0; exact ⟨Nat.le_refl _, fun _ => ⟨Nat.le_refl _, fun _ => rfl⟩⟩)
  (fun _ => by rw [hg]; exact hobj) (agWZ _ _ _ _)
 rwa [hg] at this
theorem abBZ (hw : WF g H w) {vs : List AV} {pv : AV} {H' : List AObj} {wr : List Nat} (h : storeCells H vs pv = some (H', wr)) {x : Value} (hx : VRel g pv x)
  {xs : List Value} (hl : LRel g vs xs) :
  ∃ b off, x = .pointer (some ⟨b, off, none⟩) /\ (∀ j, j < xs.length -> (w.cell? ⟨b, off + j, none⟩).isSome = true) /\ (∀ j, j < xs.length -> w.frozen? ⟨b, off + j, none⟩ = false) /\
   Step g H w g H' (w.setCells b off xs) wr := by
 cases hx with
 | ptr o v off l ad hlo hv hh =>
  simp only [storeCells] at h
  split at h
  ·rename_i v' cells hH
   split at h
   ·rename_i hc
    simp only [Option.some.injEq, Prod.mk.injEq] at h
    obtain ⟨rfl, rfl⟩ := h
    obtain ⟨rfl, hlen⟩ := hc
    have hst : l.st = v' := by
     have := hw.st o _ l hH hlo
     simp only [AObj.ver] at this
     omega
    have hb : Backed g H o l (.box v' cells) := ⟨hH, rfl, hlo, hst⟩
    obtain ⟨h0, hsoft, hcell⟩ := hw.obj o l _ hb
    have ha := hh hst h0
    subst ha
    have hin : ∀ j, j < xs.length -> (w.cell? ⟨l.b, off + j, none⟩).isSome = true := fun j hj => by
     have := hl.1
     obtain ⟨y, hy, _⟩ := hcell (off + j) (cells[off + j]'(by omega)) (by simp)
     rw [hy]; rfl
    refine ⟨l.b, off, rfl, hin, fun j hj => hsoft _ (hin j hj), Step.write hw hb rfl rfl ⟨h0, fun j hj => ?_, fun j c hc => ?_⟩⟩
    ·rw [World.frozen?_setCells]
     refine hsoft j ?_
     by_cases hr : off <= j /\ j < off + xs.length
     ·have := hin (j - off) (by omega)
      rwa [show off + (j - off) = j by omega] at this
     ·rwa [World.cell?_setCells_out l.b xs off w ⟨l.b, j, none⟩ (fun _ _ => by simp; omega)] at hj
    ·rw [agVZ _ _ _ hlen] at hc
     have hlx := hl.1
     by_cases hr : off <= j /\ j < off + vs.length
     ·rw [if_pos hr] at hc
      have := World.cell?_setCells_in l.b xs off w hin (j - off) (by omega)
      rw [show off + (j - off) = j by omega] at this
      exact ⟨_, this, hl.2 (j - off) c _ hc (by simp)⟩
     ·rw [if_neg hr] at hc
      obtain ⟨y, hy, hr'⟩ := hcell j c hc
      exact ⟨y, by rw [World.cell?_setCells_out l.b xs off w ⟨l.b, j, none⟩ (fun _ _ => by simp; omega)]; exact hy, hr'⟩
   ·cases h
  ·rename_i v' ty cells hH
   split at h
   ·rename_i hc
    simp only [Option.some.injEq, Prod.mk.injEq] at h
    obtain ⟨rfl, rfl⟩ := h
    obtain ⟨rfl, hlen⟩ := hc
    have hst : l.st = v' := by
     have := hw.st o _ l hH hlo
     simp only [AObj.ver] at this
     omega
    have hb : Backed g H o l (.tbox v' ty cells) := ⟨hH, rfl, hlo, hst⟩
    obtain ⟨h0,⟨cs, hblk, hcs⟩, hcell⟩ := hw.obj o l _ hb
    have hsoft : Soft w l.b := atnZ hblk
    have ha := hh hst h0
    subst ha
    have hin : ∀ j, j < xs.length -> (w.cell? ⟨l.b, off + j, none⟩).isSome = true := fun j hj => by
     have := hl.1
     obtain ⟨y, hy, _⟩ := hcell (off + j) (cells[off + j]'(by omega)) (by simp)
     rw [hy]; rfl
    refine ⟨l.b, off, rfl, hin, fun j hj => hsoft _ (hin j hj), Step.write hw hb rfl rfl ⟨h0, ?_, fun j c hc => ?_⟩⟩
    ·obtain ⟨cs', h1, h2⟩ := aglZ l.b xs off w cs ty (0, 0) hblk
     exact ⟨cs', h1, by rw [h2, hcs, ajhZ _ _ _ hlen]⟩
    ·rw [agVZ _ _ _ hlen] at hc
     have hlx := hl.1
     by_cases hr : off <= j /\ j < off + vs.length
     ·rw [if_pos hr] at hc
      have := World.cell?_setCells_in l.b xs off w hin (j - off) (by omega)
      rw [show off + (j - off) = j by omega] at this
      exact ⟨_, this, hl.2 (j - off) c _ hc (by simp)⟩
     ·rw [if_neg hr] at hc
      obtain ⟨y, hy, hr'⟩ := hcell j c hc
      exact ⟨y, by rw [World.cell?_setCells_out l.b xs off w ⟨l.b, j, none⟩ (fun _ _ => by simp; omega)]; exact hy, hr'⟩
   ·cases h
  ·cases h
 | vp o v n k1 i off l ad hlo hv hn hh =>
  simp only [storeCells] at h
  split at h
  ·rename_i v' k rows hH
   split at h
   ·rename_i hc
    obtain ⟨rfl, hlen, rfl⟩ := hc
    split at h
    ·rename_i row hrow
     split at h
     ·rename_i hcc
      simp only [Option.some.injEq, Prod.mk.injEq] at h
      obtain ⟨rfl, rfl⟩ := h
      have hst : l.st = v' := by
       have := hw.st o _ l hH hlo
       simp only [AObj.ver] at this
       omega
      have hb : Backed g H o l (.vec v' k rows) := ⟨hH, rfl, hlo, hst⟩
      obtain ⟨h0, hlk, hcap, hsoft, hk, hsome, hcell⟩ := hw.obj o l _ hb
      have ha := hh hst (by omega)
      subst ha
      have hls := hl.strip1
      have hlx := hls.1
      simp only [List.length_map] at hlx
      have hi : i < rows.length := (List.getElem?_eq_some_iff.1 hrow).1
      have hrk := hk row (List.mem_of_getElem? hrow)
      have hin : ∀ j, j < xs.length -> (w.cell? ⟨l.b, i * k + off + j, none⟩).isSome = true := fun j hj => by
       rw [Nat.add_assoc]
       obtain ⟨_, y, hy, _⟩ := hcell i (off + j) row (row[off + j]'(by omega)) hrow (by simp)
       rw [hy]; rfl
      refine ⟨l.b, i * k + off, rfl, hin, fun j hj => hsoft _ (hin j hj), Step.write hw hb rfl rfl ⟨by simpa using h0, hlk, by simpa using hcap, fun j hj => ?_, fun r hr => ?_, fun j hj => ?_, fun i' j r c h1 h2 => ?_⟩⟩
      ·rw [World.frozen?_setCells]
       refine hsoft j ?_
       by_cases hr : i * k + off <= j /\ j < i * k + off + xs.length
       ·have := hin (j - (i * k + off)) (by omega)
        rwa [show i * k + off + (j - (i * k + off)) = j by omega] at this
       ·rwa [World.cell?_setCells_out l.b xs (i * k + off) w ⟨l.b, j, none⟩ (fun _ _ => by simp; omega)] at hj
      ·rcases List.mem_or_eq_of_mem_set hr with hr' | rfl
       ·exact hk r hr'
       ·rw [ajhZ _ _ _ (by simpa using hcc.1)]; exact hrk
      ·by_cases hr : i * k + off <= j /\ j < i * k + off + xs.length
       ·have := World.cell?_setCells_in l.b xs (i * k + off) w hin (j - (i * k + off)) (by omega)
        rw [show i * k + off + (j - (i * k + off)) = j by omega] at this
        rw [this]; rfl
       ·rw [World.cell?_setCells_out l.b xs (i * k + off) w ⟨l.b, j, none⟩ (fun _ _ => by simp; omega)]
        exact hsome j hj
      ·by_cases e : i' = i
       ·subst e
        simp [hi] at h1
        subst h1
        rw [agVZ _ _ _ (by simpa using hcc.1)] at h2
        simp only [List.length_map] at h2
        by_cases hr : off <= j /\ j < off + vs.length
        ·rw [if_pos hr] at h2
         have := World.cell?_setCells_in l.b xs (i' * k + off) w hin (j - off) (by omega)
         rw [show i' * k + off + (j - off) = i' * k + j by omega] at this
         exact ⟨List.all_eq_true.1 hcc.2 c (List.mem_of_getElem? h2), _, this, hls.2 (j - off) c _ h2 (by simp)⟩
        ·rw [if_neg hr] at h2
         obtain ⟨hs, y, hy, hr'⟩ := hcell i' j row c hrow h2
         exact ⟨hs, y, by rw [World.cell?_setCells_out l.b xs (i' * k + off) w ⟨l.b, i' * k + j, none⟩ (fun _ _ => by simp; omega)]; exact hy, hr'⟩
       ·rw [getElem?_set_ne' _ _ (Ne.symm e)] at h1
        obtain ⟨hs, y, hy, hr'⟩ := hcell i' j r c h1 h2
        refine ⟨hs, y, ?_, hr'⟩
        rw [World.cell?_setCells_out l.b xs (i * k + off) w ⟨l.b, i' * k + j, none⟩ (fun _ _ => ?_)]
        ·exact hy
        ·have hj : j < k := by
          have := (List.getElem?_eq_some_iff.1 h2).1
          have := hk r (List.mem_of_getElem? h1)
          omega
         by_cases hlt : i' * k + j < i * k + off
         ·exact .inl hlt
         ·by_cases hge : i * k + off + xs.length <= i' * k + j
          ·exact .inr hge
          ·exfalso
           have hoff : i' * k + j - i * k < k := by have := hcc.1; omega
           exact e (asgZ (j := j) (j' := i' * k + j - i * k) hj hoff (by omega)).1
     ·cases h
    ·cases h
   ·cases h
  ·cases h
 | _ => simp [storeCells] at h
theorem aynZ {t : TypeId} {n : Nat} {X V : Operand} {x v : AOpd} (ht : size? P t = some n) (hx : opnd glob X = some x) (hv : opnd glob V = some v) {call : Nat -> List AV -> List AObj -> Out} {site : Option Nat}
  {av : AV} {H' : List AObj} {wr : List Nat} (h : evW call H ρ site (.store n x v) = some (av, H', wr)) (hw : WF g H w) (hg : aauZ glob g) (hs : aanZ g ρ a.tmps) :
  Does P ⟨dst, .store t X V, type, pos, after, guard⟩ a w fun v w' => ∃ g', Step g H w g' H' w' wr /\ VRel g' av v := by
 simp only [evW] at h
 split at h
 ·rename_i hc
  split at h
  ·rename_i H1 wr1 hst
   cases h
   have hl := (aaiZ hv hg hs).cells hc.2
   obtain ⟨b, off, ex, hin, hfr, hstep⟩ := abBZ hw hst (aaiZ hx hg hs) hl
   have hrun := run_storeCells_cells (P := P) b off (a.eval V).cells.toList 0 w (by simpa using hin) (by simpa using hfr) (hl.oneCell hc.2)
   have hsz : (a.eval V).cells.size = n := by have := hl.1; simp at this; omega
   refine .inr (.inl ⟨_, ?_, g, hstep, .undef _⟩)
   simp only [execOp, ex, Instr.storeAt, Sem.run_bind, Instr.sureAddr, Sem.run_pure, Result.andThen_ok, storeVar, abPZ ht, hsz, ne_eq, not_true_eq_false, if_false, hrun, Nat.add_zero]
  ·cases h
 ·cases h
end
end Go.AM
end
