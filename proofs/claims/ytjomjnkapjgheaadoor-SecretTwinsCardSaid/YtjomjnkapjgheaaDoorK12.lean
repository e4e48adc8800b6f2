/- Part 12 of the proof that stands in the last text of this folder (lemmas; no statement of its own). -/
import Derived.Test.YtjomjnkapjgheaaDoorK11
import Derived.Laws.BitsLemmas
import Derived.KernelRfl
section
open Nat renaming reduceBEq → NB, reduceAdd → NA, reduceSub → NS, reduceMul → NM, reduceLT → NL, reduceLeDiff → ND, reduceEqDiff → NE
open Int renaming reduceLT → IL, reduceLE → ID, reduceToNat → IT, reduceEq → IE, reduceBEq → IB, reduceBNe → IN, reduceAdd → IA, reduceSub → IS, reduceNeg → IM
open Bool renaming not_true → BT, not_false → BF
namespace Go.Proofs.AM
open Go
@[go_sem] theorem still_bool {b : Bool} : AV.still (.bool b) = true := (rfl)
@[go_sem] theorem cellOk_bool {b : Bool} : AV.cellOk (.bool b) = true := (rfl)
@[go_sem] theorem isUndef_bool {b : Bool} : AV.isUndef (.bool b) = false := (rfl)
@[go_sem] theorem atom_bool {b : Bool} : AV.atom (.bool b) = true := (rfl)
@[go_sem] theorem atomic_bool {b : Bool} : AV.atomic (.bool b) = AV.atom (.bool b) := (rfl)
@[go_sem] theorem strip1_bool {b : Bool} : AV.strip1 (.bool b) = (.bool b) := (rfl)
@[go_sem] theorem strip_bool {b : Bool} : AV.strip (.bool b) = (.bool b) := (rfl)
@[go_sem] theorem cells_bool {b : Bool} : AV.cells (.bool b) = [(.bool b)] := (rfl)
@[go_sem] theorem lend1_bool {H : List AObj} {b : Bool} : lend1 H (.bool b) = some ((.bool b), []) := (rfl)
@[go_sem] theorem lend_bool {H : List AObj} {b : Bool} : lend H (.bool b) = some ((.bool b), []) := (rfl)
@[go_sem] theorem still_int {k : IntKind} {n : Int} : AV.still (.int k n) = true := (rfl)
@[go_sem] theorem cellOk_int {k : IntKind} {n : Int} : AV.cellOk (.int k n) = true := (rfl)
@[go_sem] theorem isUndef_int {k : IntKind} {n : Int} : AV.isUndef (.int k n) = false := (rfl)
@[go_sem] theorem atom_int {k : IntKind} {n : Int} : AV.atom (.int k n) = true := (rfl)
@[go_sem] theorem atomic_int {k : IntKind} {n : Int} : AV.atomic (.int k n) = AV.atom (.int k n) := (rfl)
@[go_sem] theorem strip1_int {k : IntKind} {n : Int} : AV.strip1 (.int k n) = (.int k n) := (rfl)
@[go_sem] theorem strip_int {k : IntKind} {n : Int} : AV.strip (.int k n) = (.int k n) := (rfl)
@[go_sem] theorem cells_int {k : IntKind} {n : Int} : AV.cells (.int k n) = [(.int k n)] := (rfl)
@[go_sem] theorem lend1_int {H : List AObj} {k : IntKind} {n : Int} : lend1 H (.int k n) = some ((.int k n), []) := (rfl)
@[go_sem] theorem lend_int {H : List AObj} {k : IntKind} {n : Int} : lend H (.int k n) = some ((.int k n), []) := (rfl)
@[go_sem] theorem still_str {l : List UInt8} : AV.still (.str l) = true := (rfl)
@[go_sem] theorem cellOk_str {l : List UInt8} : AV.cellOk (.str l) = true := (rfl)
@[go_sem] theorem isUndef_str {l : List UInt8} : AV.isUndef (.str l) = false := (rfl)
@[go_sem] theorem atom_str {l : List UInt8} : AV.atom (.str l) = true := (rfl)
@[go_sem] theorem atomic_str {l : List UInt8} : AV.atomic (.str l) = AV.atom (.str l) := (rfl)
@[go_sem] theorem strip1_str {l : List UInt8} : AV.strip1 (.str l) = (.str l) := (rfl)
@[go_sem] theorem strip_str {l : List UInt8} : AV.strip (.str l) = (.str l) := (rfl)
@[go_sem] theorem cells_str {l : List UInt8} : AV.cells (.str l) = [(.str l)] := (rfl)
@[go_sem] theorem lend1_str {H : List AObj} {l : List UInt8} : lend1 H (.str l) = some ((.str l), []) := (rfl)
@[go_sem] theorem lend_str {H : List AObj} {l : List UInt8} : lend H (.str l) = some ((.str l), []) := (rfl)
@[go_sem] theorem still_fn {f : Nat} {a c : List AV} : AV.still (.fn f a c) = true := (rfl)
@[go_sem] theorem cellOk_fn {f : Nat} {a c : List AV} : AV.cellOk (.fn f a c) = true := (rfl)
@[go_sem] theorem isUndef_fn {f : Nat} {a c : List AV} : AV.isUndef (.fn f a c) = false := (rfl)
@[go_sem] theorem atom_fn {f : Nat} {a c : List AV} : AV.atom (.fn f a c) = false := (rfl)
@[go_sem] theorem atomic_fn {f : Nat} {a c : List AV} : AV.atomic (.fn f a c) = AV.atom (.fn f a c) := (rfl)
@[go_sem] theorem strip1_fn {f : Nat} {a c : List AV} : AV.strip1 (.fn f a c) = (.fn f a c) := (rfl)
@[go_sem] theorem strip_fn {f : Nat} {a c : List AV} : AV.strip (.fn f a c) = (.fn f a c) := (rfl)
@[go_sem] theorem cells_fn {f : Nat} {a c : List AV} : AV.cells (.fn f a c) = [(.fn f a c)] := (rfl)
@[go_sem] theorem lend1_fn {H : List AObj} {f : Nat} {a c : List AV} : lend1 H (.fn f a c) = some ((.fn f a c), []) := (rfl)
@[go_sem] theorem lend_fn {H : List AObj} {f : Nat} {a c : List AV} : lend H (.fn f a c) = some ((.fn f a c), []) := (rfl)
@[go_sem] theorem still_nilFn  : AV.still .nilFn = true := (rfl)
@[go_sem] theorem cellOk_nilFn  : AV.cellOk .nilFn = true := (rfl)
@[go_sem] theorem isUndef_nilFn  : AV.isUndef .nilFn = false := (rfl)
@[go_sem] theorem atom_nilFn  : AV.atom .nilFn = true := (rfl)
@[go_sem] theorem atomic_nilFn  : AV.atomic .nilFn = AV.atom .nilFn := (rfl)
@[go_sem] theorem strip1_nilFn  : AV.strip1 .nilFn = .nilFn := (rfl)
@[go_sem] theorem strip_nilFn  : AV.strip .nilFn = .nilFn := (rfl)
@[go_sem] theorem cells_nilFn  : AV.cells .nilFn = [.nilFn] := (rfl)
@[go_sem] theorem lend1_nilFn {H : List AObj}  : lend1 H .nilFn = some (.nilFn, []) := (rfl)
@[go_sem] theorem lend_nilFn {H : List AObj}  : lend H .nilFn = some (.nilFn, []) := (rfl)
@[go_sem] theorem still_ptr {o v off : Nat} : AV.still (.ptr o v off) = true := (rfl)
@[go_sem] theorem cellOk_ptr {o v off : Nat} : AV.cellOk (.ptr o v off) = true := (rfl)
@[go_sem] theorem isUndef_ptr {o v off : Nat} : AV.isUndef (.ptr o v off) = false := (rfl)
@[go_sem] theorem atom_ptr {o v off : Nat} : AV.atom (.ptr o v off) = false := (rfl)
@[go_sem] theorem atomic_ptr {o v off : Nat} : AV.atomic (.ptr o v off) = AV.atom (.ptr o v off) := (rfl)
@[go_sem] theorem strip1_ptr {o v off : Nat} : AV.strip1 (.ptr o v off) = (.ptr o v off) := (rfl)
@[go_sem] theorem strip_ptr {o v off : Nat} : AV.strip (.ptr o v off) = (.ptr o v off) := (rfl)
@[go_sem] theorem cells_ptr {o v off : Nat} : AV.cells (.ptr o v off) = [(.ptr o v off)] := (rfl)
@[go_sem] theorem lend1_ptr {H : List AObj} {o v off : Nat} : lend1 H (.ptr o v off) = some ((.ptr o v off), []) := (rfl)
@[go_sem] theorem lend_ptr {H : List AObj} {o v off : Nat} : lend H (.ptr o v off) = some ((.ptr o v off), []) := (rfl)
@[go_sem] theorem still_vp {o v n k i off : Nat} : AV.still (.vp o v n k i off) = true := (rfl)
@[go_sem] theorem cellOk_vp {o v n k i off : Nat} : AV.cellOk (.vp o v n k i off) = true := (rfl)
@[go_sem] theorem isUndef_vp {o v n k i off : Nat} : AV.isUndef (.vp o v n k i off) = false := (rfl)
@[go_sem] theorem atom_vp {o v n k i off : Nat} : AV.atom (.vp o v n k i off) = false := (rfl)
@[go_sem] theorem atomic_vp {o v n k i off : Nat} : AV.atomic (.vp o v n k i off) = AV.atom (.vp o v n k i off) := (rfl)
@[go_sem] theorem strip1_vp {o v n k i off : Nat} : AV.strip1 (.vp o v n k i off) = (.vp o v n k i off) := (rfl)
@[go_sem] theorem strip_vp {o v n k i off : Nat} : AV.strip (.vp o v n k i off) = (.vp o v n k i off) := (rfl)
@[go_sem] theorem cells_vp {o v n k i off : Nat} : AV.cells (.vp o v n k i off) = [(.vp o v n k i off)] := (rfl)
@[go_sem] theorem lend1_vp {H : List AObj} {o v n k i off : Nat} : lend1 H (.vp o v n k i off) = some ((.vp o v n k i off), []) := (rfl)
@[go_sem] theorem lend_vp {H : List AObj} {o v n k i off : Nat} : lend H (.vp o v n k i off) = some ((.vp o v n k i off), []) := (rfl)
@[go_sem] theorem still_nilPtr  : AV.still .nilPtr = true := (rfl)
@[go_sem] theorem cellOk_nilPtr  : AV.cellOk .nilPtr = true := (rfl)
@[go_sem] theorem isUndef_nilPtr  : AV.isUndef .nilPtr = false := (rfl)
@[go_sem] theorem atom_nilPtr  : AV.atom .nilPtr = true := (rfl)
@[go_sem] theorem atomic_nilPtr  : AV.atomic .nilPtr = AV.atom .nilPtr := (rfl)
@[go_sem] theorem strip1_nilPtr  : AV.strip1 .nilPtr = .nilPtr := (rfl)
@[go_sem] theorem strip_nilPtr  : AV.strip .nilPtr = .nilPtr := (rfl)
@[go_sem] theorem cells_nilPtr  : AV.cells .nilPtr = [.nilPtr] := (rfl)
@[go_sem] theorem lend1_nilPtr {H : List AObj}  : lend1 H .nilPtr = some (.nilPtr, []) := (rfl)
@[go_sem] theorem lend_nilPtr {H : List AObj}  : lend H .nilPtr = some (.nilPtr, []) := (rfl)
@[go_sem] theorem still_ep {row : List AV} {off : Nat} : AV.still (.ep row off) = true := (rfl)
@[go_sem] theorem cellOk_ep {row : List AV} {off : Nat} : AV.cellOk (.ep row off) = true := (rfl)
@[go_sem] theorem isUndef_ep {row : List AV} {off : Nat} : AV.isUndef (.ep row off) = false := (rfl)
@[go_sem] theorem atom_ep {row : List AV} {off : Nat} : AV.atom (.ep row off) = false := (rfl)
@[go_sem] theorem atomic_ep {row : List AV} {off : Nat} : AV.atomic (.ep row off) = AV.atom (.ep row off) := (rfl)
@[go_sem] theorem strip1_ep {row : List AV} {off : Nat} : AV.strip1 (.ep row off) = (.ep row off) := (rfl)
@[go_sem] theorem strip_ep {row : List AV} {off : Nat} : AV.strip (.ep row off) = (.ep row off) := (rfl)
@[go_sem] theorem cells_ep {row : List AV} {off : Nat} : AV.cells (.ep row off) = [(.ep row off)] := (rfl)
@[go_sem] theorem lend1_ep {H : List AObj} {row : List AV} {off : Nat} : lend1 H (.ep row off) = some ((.ep row off), []) := (rfl)
@[go_sem] theorem lend_ep {H : List AObj} {row : List AV} {off : Nat} : lend H (.ep row off) = some ((.ep row off), []) := (rfl)
@[go_sem] theorem still_sl {f : Bool} {rows : List (List AV)} : AV.still (.sl f rows) = true := (rfl)
@[go_sem] theorem cellOk_sl {f : Bool} {rows : List (List AV)} : AV.cellOk (.sl f rows) = true := (rfl)
@[go_sem] theorem isUndef_sl {f : Bool} {rows : List (List AV)} : AV.isUndef (.sl f rows) = false := (rfl)
@[go_sem] theorem atom_sl {f : Bool} {rows : List (List AV)} : AV.atom (.sl f rows) = false := (rfl)
@[go_sem] theorem atomic_sl {f : Bool} {rows : List (List AV)} : AV.atomic (.sl f rows) = AV.atom (.sl f rows) := (rfl)
@[go_sem] theorem strip1_sl {f : Bool} {rows : List (List AV)} : AV.strip1 (.sl f rows) = (.sl false rows) := (rfl)
@[go_sem] theorem strip_sl {f : Bool} {rows : List (List AV)} : AV.strip (.sl f rows) = (.sl false rows) := (rfl)
@[go_sem] theorem cells_sl {f : Bool} {rows : List (List AV)} : AV.cells (.sl f rows) = [(.sl f rows)] := (rfl)
@[go_sem] theorem lend1_sl {H : List AObj} {f : Bool} {rows : List (List AV)} : lend1 H (.sl f rows) = some ((.sl f rows), []) := (rfl)
@[go_sem] theorem lend_sl {H : List AObj} {f : Bool} {rows : List (List AV)} : lend H (.sl f rows) = some ((.sl f rows), []) := (rfl)
@[go_sem] theorem still_sr {o v n : Nat} : AV.still (.sr o v n) = false := (rfl)
@[go_sem] theorem cellOk_sr {o v n : Nat} : AV.cellOk (.sr o v n) = true := (rfl)
@[go_sem] theorem isUndef_sr {o v n : Nat} : AV.isUndef (.sr o v n) = false := (rfl)
@[go_sem] theorem atom_sr {o v n : Nat} : AV.atom (.sr o v n) = false := (rfl)
@[go_sem] theorem atomic_sr {o v n : Nat} : AV.atomic (.sr o v n) = AV.atom (.sr o v n) := (rfl)
@[go_sem] theorem strip1_sr {o v n : Nat} : AV.strip1 (.sr o v n) = (.sr o v n) := (rfl)
@[go_sem] theorem strip_sr {o v n : Nat} : AV.strip (.sr o v n) = (.sr o v n) := (rfl)
@[go_sem] theorem cells_sr {o v n : Nat} : AV.cells (.sr o v n) = [(.sr o v n)] := (rfl)
@[go_sem] theorem lend_sr {H : List AObj} {o v n : Nat} : lend H (.sr o v n) = lend1 H (.sr o v n) := (rfl)
@[go_sem] theorem still_mp {o v : Nat} : AV.still (.mp o v) = true := (rfl)
@[go_sem] theorem cellOk_mp {o v : Nat} : AV.cellOk (.mp o v) = true := (rfl)
@[go_sem] theorem isUndef_mp {o v : Nat} : AV.isUndef (.mp o v) = false := (rfl)
@[go_sem] theorem atom_mp {o v : Nat} : AV.atom (.mp o v) = false := (rfl)
@[go_sem] theorem atomic_mp {o v : Nat} : AV.atomic (.mp o v) = AV.atom (.mp o v) := (rfl)
@[go_sem] theorem strip1_mp {o v : Nat} : AV.strip1 (.mp o v) = (.mp o v) := (rfl)
@[go_sem] theorem strip_mp {o v : Nat} : AV.strip (.mp o v) = (.mp o v) := (rfl)
@[go_sem] theorem cells_mp {o v : Nat} : AV.cells (.mp o v) = [(.mp o v)] := (rfl)
@[go_sem] theorem lend1_mp {H : List AObj} {o v : Nat} : lend1 H (.mp o v) = some ((.mp o v), []) := (rfl)
@[go_sem] theorem lend_mp {H : List AObj} {o v : Nat} : lend H (.mp o v) = some ((.mp o v), []) := (rfl)
@[go_sem] theorem still_own {k : Nat} {rows : List (List AV)} : AV.still (.own k rows) = false := (rfl)
@[go_sem] theorem cellOk_own {k : Nat} {rows : List (List AV)} : AV.cellOk (.own k rows) = false := (rfl)
@[go_sem] theorem isUndef_own {k : Nat} {rows : List (List AV)} : AV.isUndef (.own k rows) = false := (rfl)
@[go_sem] theorem atom_own {k : Nat} {rows : List (List AV)} : AV.atom (.own k rows) = false := (rfl)
@[go_sem] theorem atomic_own {k : Nat} {rows : List (List AV)} : AV.atomic (.own k rows) = AV.atom (.own k rows) := (rfl)
@[go_sem] theorem strip1_own {k : Nat} {rows : List (List AV)} : AV.strip1 (.own k rows) = (.own k rows) := (rfl)
@[go_sem] theorem strip_own {k : Nat} {rows : List (List AV)} : AV.strip (.own k rows) = (.own k rows) := (rfl)
@[go_sem] theorem cells_own {k : Nat} {rows : List (List AV)} : AV.cells (.own k rows) = [(.own k rows)] := (rfl)
@[go_sem] theorem still_agg {cs : List AV} : AV.still (.agg cs) = false := (rfl)
@[go_sem] theorem cellOk_agg {cs : List AV} : AV.cellOk (.agg cs) = false := (rfl)
@[go_sem] theorem isUndef_agg {cs : List AV} : AV.isUndef (.agg cs) = false := (rfl)
@[go_sem] theorem atom_agg {cs : List AV} : AV.atom (.agg cs) = false := (rfl)
@[go_sem] theorem strip1_agg {cs : List AV} : AV.strip1 (.agg cs) = (.agg cs) := (rfl)
@[go_sem] theorem cells_agg {cs : List AV} : AV.cells (.agg cs) = cs := (rfl)
@[go_sem] theorem still_tup {vs : List AV} : AV.still (.tup vs) = false := (rfl)
@[go_sem] theorem cellOk_tup {vs : List AV} : AV.cellOk (.tup vs) = false := (rfl)
@[go_sem] theorem isUndef_tup {vs : List AV} : AV.isUndef (.tup vs) = false := (rfl)
@[go_sem] theorem atom_tup {vs : List AV} : AV.atom (.tup vs) = false := (rfl)
@[go_sem] theorem strip1_tup {vs : List AV} : AV.strip1 (.tup vs) = (.tup vs) := (rfl)
@[go_sem] theorem cells_tup {vs : List AV} : AV.cells (.tup vs) = [(.tup vs)] := (rfl)
@[go_sem] theorem still_undef  : AV.still .undef = false := (rfl)
@[go_sem] theorem cellOk_undef  : AV.cellOk .undef = false := (rfl)
@[go_sem] theorem isUndef_undef  : AV.isUndef .undef = true := (rfl)
@[go_sem] theorem atom_undef  : AV.atom .undef = false := (rfl)
@[go_sem] theorem atomic_undef  : AV.atomic .undef = AV.atom .undef := (rfl)
@[go_sem] theorem strip1_undef  : AV.strip1 .undef = .undef := (rfl)
@[go_sem] theorem strip_undef  : AV.strip .undef = .undef := (rfl)
@[go_sem] theorem cells_undef  : AV.cells .undef = [.undef] := (rfl)
@[go_sem] theorem lend1_undef {H : List AObj}  : lend1 H .undef = some (.undef, []) := (rfl)
@[go_sem] theorem lend_undef {H : List AObj}  : lend H .undef = some (.undef, []) := (rfl)
@[go_sem] theorem strip_agg {cs : List AV} : AV.strip (.agg cs) = .agg (cs.map AV.strip1) := (rfl)
@[go_sem] theorem atomic_agg {cs : List AV} : AV.atomic (.agg cs) = cs.all AV.atom := (rfl)
@[go_sem] theorem lend1_sr {H : List AObj} {o v n : Nat} : lend1 H (.sr o v n) = match H[o]? with
    | some (.vec v' _ rows) => if v' = v ∧ rows.length = n ∧ rows.all (fun r => r.all AV.still) then some (.sl false rows, [o]) else none
    | _ => none := (rfl)
@[go_sem] theorem lend_agg {H : List AObj} {cs : List AV} : lend H (.agg cs) = match lendL H cs with
    | some (cs', l) => some (.agg cs', l)
    | none => none := (rfl)
attribute [go_sem] lendL lendAll goneAll fix
@[go_sem] theorem ofCells_agg {cs : List AV} : ofCells true cs = some (.agg cs) := (rfl)
@[go_sem] theorem ofCells_one {v : AV} : ofCells false [v] = some v := (rfl)
section
variable {k : IntKind} {a b : Int} {ek : EqK}
@[go_sem] theorem bin_add : binV .add ek (.int k a) (.int k b) = some (.int k (k.wrap (a + b))) := by simp [binV]
@[go_sem] theorem bin_sub : binV .sub ek (.int k a) (.int k b) = some (.int k (k.wrap (a - b))) := by simp [binV]
@[go_sem] theorem bin_mul : binV .mul ek (.int k a) (.int k b) = some (.int k (k.wrap (a * b))) := by simp [binV]
theorem bin_quo (h : b ≠ 0) : binV .quo ek (.int k a) (.int k b) = some (.int k (k.wrap (a.tdiv b))) := by simp [binV, h]
theorem bin_rem (h : b ≠ 0) : binV .rem ek (.int k a) (.int k b) = some (.int k (a.tmod b)) := by simp [binV, h]
@[go_sem] theorem bin_eql : binV .eql ek (.int k a) (.int k b) = some (.bool (a == b)) := by simp [binV]
@[go_sem] theorem bin_neq : binV .neq ek (.int k a) (.int k b) = some (.bool (a != b)) := by simp [binV]
@[go_sem] theorem bin_lss : binV .lss ek (.int k a) (.int k b) = some (.bool (decide (a < b))) := by simp [binV]
@[go_sem] theorem bin_leq : binV .leq ek (.int k a) (.int k b) = some (.bool (decide (a ≤ b))) := by simp [binV]
@[go_sem] theorem bin_gtr : binV .gtr ek (.int k a) (.int k b) = some (.bool (decide (a > b))) := by simp [binV]
@[go_sem] theorem bin_geq : binV .geq ek (.int k a) (.int k b) = some (.bool (decide (a ≥ b))) := by simp [binV]
end
section
variable {a b : List UInt8} {ek : EqK}
theorem bin_addS (h : a.length + b.length ≤ 4611686018427387904) : binV .add ek (.str a) (.str b) = some (.str (a ++ b)) := by simp [binV, h]
@[go_sem] theorem bin_eqlS : binV .eql ek (.str a) (.str b) = some (.bool (a == b)) := by simp [binV]
@[go_sem] theorem bin_neqS : binV .neq ek (.str a) (.str b) = some (.bool (a != b)) := by simp [binV]
@[go_sem] theorem bin_eqlB {a b : Bool} : binV .eql .bool (.bool a) (.bool b) = some (.bool (a == b)) := by simp [binV, eqOther]
@[go_sem] theorem bin_neqB {a b : Bool} : binV .neq .bool (.bool a) (.bool b) = some (.bool !(a == b)) := by simp [binV, eqOther]
@[go_sem] theorem un_not {b : Bool} : unV .not (.bool b) = some (.bool !b) := (rfl)
@[go_sem] theorem un_neg {k : IntKind} {n : Int} : unV .neg (.int k n) = some (.int k (k.wrap (0 - n))) := (rfl)
end
theorem wrap_i64 {n : Int} (h1 : -9223372036854775808 ≤ n) (h2 : n ≤ 9223372036854775807) : IntKind.wrap .i64 n = n := by
  rw [Go.IntKind.wrap_i64]; omega
section
variable {H : List AObj} {L : List AObj} {i o : Nat} {x : AObj}
@[go_sem] theorem own_get : (H ++ L)[H.length + i]? = L[i]? := by
  rw [List.getElem?_append_right (by omega)]; congr 1; omega
@[go_sem] theorem own_get0 : (H ++ L)[H.length]? = L[0]? := own_get (i := 0)
@[go_sem] theorem own_set : (H ++ L).set (H.length + i) x = H ++ L.set i x := by
  rw [List.set_append_right _ _ (by omega)]; congr 2; omega
@[go_sem] theorem own_set0 : (H ++ L).set H.length x = H ++ L.set 0 x := own_set (i := 0)
@[go_sem] theorem own_lt : (H.length + i < (H ++ L).length) = (i < L.length) := by
  rw [List.length_append]; exact propext (by omega)
@[go_sem] theorem own_lt0 : (H.length < (H ++ L).length) = (0 < L.length) := own_lt (i := 0)
theorem old_get (h : o < H.length) : (H ++ L)[o]? = H[o]? := List.getElem?_append_left h
theorem old_set (h : o < H.length) : (H ++ L).set o x = H.set o x ++ L := List.set_append_left _ _ h
@[go_sem] theorem own_take : (H ++ L).take H.length = H := List.take_left ..
theorem old_set_set {y : AObj} (h : o < H.length) : (H.set o x ++ L).set o y = H.set o y ++ L := by
  rw [List.set_append_left _ _ (by rw [List.length_set]; exact h), List.set_set]
theorem old_get_set (h : o < H.length) : (H.set o x ++ L)[o]? = some x := by
  rw [List.getElem?_append_left (by rw [List.length_set]; exact h), List.getElem?_set_self h]
@[go_sem] theorem own_get_s : (H.set o x ++ L)[H.length + i]? = L[i]? := by
  have := own_get (H := H.set o x) (L := L) (i := i); rwa [List.length_set] at this
@[go_sem] theorem own_get_s0 : (H.set o x ++ L)[H.length]? = L[0]? := own_get_s (i := 0)
@[go_sem] theorem own_set_s {y : AObj} : (H.set o x ++ L).set (H.length + i) y = H.set o x ++ L.set i y := by
  have := own_set (H := H.set o x) (L := L) (i := i) (x := y); rwa [List.length_set] at this
@[go_sem] theorem own_set_s0 {y : AObj} : (H.set o x ++ L).set H.length y = H.set o x ++ L.set 0 y := own_set_s (i := 0)
@[go_sem] theorem own_take_s : (H.set o x ++ L).take H.length = H.set o x := by
  have := own_take (H := H.set o x) (L := L); rwa [List.length_set] at this
@[go_sem] theorem take_set : (H.set o x).take H.length = H.set o x := by
  have := List.take_length (l := H.set o x); rwa [List.length_set] at this
theorem make_own {mk : Nat → AObj} : make (H ++ L) (H.length + i) mk = H ++ L.set i (mk ((L[i]?).elim 0 AObj.ver + 1)) := by
  unfold make; rw [own_get, own_set]
attribute [go_sem] make verAt
@[go_sem] theorem ver_gone {v : Nat} : AObj.ver (.gone v) = v := (rfl)
@[go_sem] theorem ver_box {v : Nat} {cs : List AV} : AObj.ver (.box v cs) = v := (rfl)
@[go_sem] theorem ver_vec {v k : Nat} {rows : List (List AV)} : AObj.ver (.vec v k rows) = v := (rfl)
@[go_sem] theorem ver_map {v : Nat} {es : List (AV × AV)} : AObj.ver (.map v es) = v := (rfl)
@[go_sem] theorem addWr_nil {b : Nat} {wr : List Nat} : addWr b wr [] = wr := (rfl)
@[go_sem] theorem addWr_own {b i : Nat} {wr r : List Nat} : addWr b wr ((b + i) :: r) = addWr b wr r := by
  conv => lhs; unfold addWr
  rw [if_neg (by omega)]
@[go_sem] theorem addWr_old {b o : Nat} {r : List Nat} (h1 : o < b) : addWr b [] (o :: r) = addWr b [o] r := by
  conv => lhs; unfold addWr
  rw [if_pos ⟨h1, by simp⟩]
@[go_sem] theorem addWr_has {b o : Nat} {r : List Nat} : addWr b [o] (o :: r) = addWr b [o] r := by
  conv => lhs; unfold addWr
  rw [if_neg (by simp)]
@[go_sem] theorem addWr_own0 {b : Nat} {wr r : List Nat} : addWr b wr (b :: r) = addWr b wr r := addWr_own (i := 0)
end
def vLen : AV → Option AV
  | .sl _ rows => some (.int .i64 rows.length)
  | .sr _ _ n => some (.int .i64 n)
  | _ => none
@[go_sem] theorem vLen_sl {f : Bool} {rows : List (List AV)} : vLen (.sl f rows) = some (.int .i64 rows.length) := (rfl)
@[go_sem] theorem vLen_sr {o v n : Nat} : vLen (.sr o v n) = some (.int .i64 n) := (rfl)
section
variable {H : List AObj} {ρ : SEnv} {call : Nat → List AV → List AObj → Out} {site : Option Nat}
@[go_sem] theorem evRF_mov {x : AOpd} : evRF H ρ (.mov x) = (some (x.at ρ)) := (rfl)
@[go_sem] theorem evRF_pick {c : AOpd} {a : AOpd} {b : AOpd} : evRF H ρ (.pick c a b) = (match c.at ρ with
    | .bool t => some (if t then a.at ρ else b.at ρ)
    | _ => none) := (rfl)
@[go_sem] theorem evRF_alloc {zs : List AV} : evRF H ρ (.alloc zs) = (if zs.all AV.still then some (.ep (zs.map AV.strip1) 0) else none) := (rfl)
@[go_sem] theorem evRF_box {k : Nat} {x : AOpd} : evRF H ρ (.box k x) = (let vs := (x.at ρ).strip.cells
    if vs.length = k ∧ vs.all AV.still then some (.ep vs 0) else none) := (rfl)
@[go_sem] theorem evRF_build {zs : List AV} {parts : List (Nat × Nat × AOpd)} : evRF H ρ (.build zs parts) = ((buildCellsF ρ zs parts).map .agg) := (rfl)
@[go_sem] theorem evRF_bsl {k : Nat} {zs : List AV} {n : Nat} {parts : List (Nat × AOpd)} : evRF H ρ (.bsl k zs n parts) = ((buildRowsF ρ k (List.replicate n zs) parts).map (.sl true)) := (rfl)
@[go_sem] theorem evRF_mks {u0 : Nat} {bytes : Nat} {zs : List AV} {len : AOpd} {cap : AOpd} : evRF H ρ (.mks u0 bytes zs len cap) = (match len.at ρ, cap.at ρ with
    | .int _ n, .int _ c => if 0 ≤ n ∧ n = c ∧ roomy n.toNat bytes then some (.sl true (List.replicate n.toNat (zs.map AV.strip1))) else none
    | _, _ => none) := (rfl)
@[go_sem] theorem evRF_load {k : Nat} {agg : Bool} {x : AOpd} : evRF H ρ (.load k agg x) = (match readCells H k (x.at ρ) with
    | some cs => ofCells agg cs
    | none => none) := (rfl)
@[go_sem] theorem evRF_nilck {x : AOpd} : evRF H ρ (.nilck x) = (match x.at ρ with
    | .ptr o v off => some (.ptr o v off)
    | .vp o v n k i off => some (.vp o v n k i off)
    | .ep row off => some (.ep row off)
    | .fn f a b => some (.fn f a b)
    | _ => none) := (rfl)
@[go_sem] theorem evRF_isnil {neg : Bool} {x : AOpd} : evRF H ρ (.isnil neg x) = (match x.at ρ with
    | .sl _ (_ :: _) | .sr .. => some (.bool neg)
    | _ => none) := (rfl)
@[go_sem] theorem evRF_bin {op : BinOp} {ek : EqK} {x : AOpd} {y : AOpd} : evRF H ρ (.bin op ek x y) = (binV op ek (x.at ρ) (y.at ρ)) := (rfl)
@[go_sem] theorem evRF_un {op : UnOp} {x : AOpd} : evRF H ρ (.un op x) = (unV op (x.at ρ)) := (rfl)
@[go_sem] theorem evRF_conv {c : AConv} {x : AOpd} : evRF H ρ (.conv c x) = (convV H c (x.at ρ)) := (rfl)
@[go_sem] theorem evRF_mkf {f : Nat} {first : List AOpd} {caps : List AOpd} : evRF H ρ (.mkf f first caps) = (if (first.map (AOpd.at ρ)).all AV.still && (caps.map (AOpd.at ρ)).all AV.still then some (.fn f (first.map fun x => (x.at ρ).strip1) (caps.map fun x => (x.at ρ).strip1)) else none) := (rfl)
@[go_sem] theorem evRF_sliceS {x : AOpd} {lo : Option AOpd} {hi : Option AOpd} : evRF H ρ (.sliceS x lo hi) = (match x.at ρ with
    | .str s => match bounds s.length (lo.map (AOpd.at ρ)) (hi.map (AOpd.at ρ)) none with
      | some (l, h, _) => some (.str ((s.take h).drop l))
      | none => none
    | _ => none) := (rfl)
@[go_sem] theorem evRF_sliceV {k : Nat} {x : AOpd} {lo : Option AOpd} {hi : Option AOpd} {mx : Option AOpd} : evRF H ρ (.sliceV k x lo hi mx) = (match x.at ρ with
    | .sl full rows => match bounds rows.length (lo.map (AOpd.at ρ)) (hi.map (AOpd.at ρ)) (mx.map (AOpd.at ρ)) with
      | some (l, h, m) => if headOk k rows && (!mx.isSome || hi.isSome) then some (.sl (decide (m = h) && (mx.isSome || full)) ((rows.take h).drop l)) else none
      | none => none
    | _ => none) := (rfl)
@[go_sem] theorem evRF_sliceA {n : Nat} {k : Nat} {x : AOpd} {lo : Option AOpd} {hi : Option AOpd} {mx : Option AOpd} : evRF H ρ (.sliceA n k x lo hi mx) = (match x.at ρ with
    | .ep row off => if off + n * k ≤ row.length then
        let rows := chunk k n (row.drop off)
        match bounds n (lo.map (AOpd.at ρ)) (hi.map (AOpd.at ρ)) (mx.map (AOpd.at ρ)) with
        | some (l, h, m) => if !mx.isSome || hi.isSome then some (.sl (decide (m = h)) ((rows.take h).drop l)) else none
        | none => none
      else none
    | _ => none) := (rfl)
@[go_sem] theorem evRF_fa {off : Nat} {x : AOpd} : evRF H ρ (.fa off x) = (match x.at ρ with
    | .ptr o v off0 => some (.ptr o v (off0 + off))
    | .vp o v n k i off0 => some (.vp o v n k i (off0 + off))
    | .ep row off0 => some (.ep row (off0 + off))
    | _ => none) := (rfl)
@[go_sem] theorem evRF_fld {off : Nat} {k : Nat} {agg : Bool} {x : AOpd} : evRF H ρ (.fld off k agg x) = (match x.at ρ with
    | .agg cs => if off + k ≤ cs.length then ofCells agg ((cs.drop off).take k) else none
    | _ => none) := (rfl)
@[go_sem] theorem evRF_iaV {x : AOpd} {i : AOpd} {k : Nat} : evRF H ρ (.iaV x i k) = (match x.at ρ, i.at ρ with
    | .sl _ rows, .int _ n => if 0 ≤ n then match rows[n.toNat]? with
        | some row => if row.length = k then some (.ep row 0) else none
        | none => none
      else none
    | .sr o v len, .int _ n => if 0 ≤ n ∧ n < len then some (.vp o v len k n.toNat 0) else none
    | _, _ => none) := (rfl)
@[go_sem] theorem evRF_iaA {len : Nat} {k : Nat} {x : AOpd} {i : AOpd} : evRF H ρ (.iaA len k x i) = (match x.at ρ, i.at ρ with
    | .ptr o v off, .int _ n => if 0 ≤ n ∧ n < len then some (.ptr o v (off + n.toNat * k)) else none
    | .ep row off, .int _ n => if 0 ≤ n ∧ n < len then some (.ep row (off + n.toNat * k)) else none
    | _, _ => none) := (rfl)
@[go_sem] theorem evRF_ixS {x : AOpd} {i : AOpd} : evRF H ρ (.ixS x i) = (match x.at ρ, i.at ρ with
    | .str s, .int _ n => if 0 ≤ n then match s[n.toNat]? with
        | some b => some (.int .u8 b.toNat)
        | none => none
      else none
    | _, _ => none) := (rfl)
@[go_sem] theorem evRF_ixA {len : Nat} {k : Nat} {agg : Bool} {x : AOpd} {i : AOpd} : evRF H ρ (.ixA len k agg x i) = (match x.at ρ, i.at ρ with
    | .agg cs, .int _ n => if 0 ≤ n ∧ n < len ∧ n.toNat * k + k ≤ cs.length then ofCells agg ((cs.drop (n.toNat * k)).take k) else none
    | _, _ => none) := (rfl)
@[go_sem] theorem evRF_lenS {x : AOpd} : evRF H ρ (.lenS x) = (match x.at ρ with
    | .str s => some (.int .i64 s.length)
    | _ => none) := (rfl)
@[go_sem] theorem evRF_lenV {x : AOpd} : evRF H ρ (.lenV x) = vLen (x.at ρ) := by cases hx : x.at ρ <;> simp only [evRF, vLen, hx]
@[go_sem] theorem evRF_lenC {n : Nat} : evRF H ρ (.lenC n) = (some (.int .i64 n)) := (rfl)
@[go_sem] theorem evRF_mm {mx : Bool} {xs : List AOpd} : evRF H ρ (.mm mx xs) = (mmV mx (xs.map (AOpd.at ρ))) := (rfl)
@[go_sem] theorem evRF_ext {i : Nat} {x : AOpd} : evRF H ρ (.ext i x) = (match x.at ρ with
    | .tup vs => vs[i]?
    | _ => none) := (rfl)
@[go_sem] theorem evRF_look {zero : AV} {m : AOpd} {k : AOpd} {ok : Bool} : evRF H ρ (.look zero m k ok) = (match m.at ρ with
    | .mp o v => match H[o]? with
      | some (.map v' es) => if v' = v then
          match findKey (k.at ρ) es 0 with
          | some (some (_, x)) => if ok then some (.tup [x, .bool true]) else some x
          | some none => if ok then some (.tup [zero, .bool false]) else some zero
          | none => none
        else none
      | _ => none
    | _ => none) := (rfl)
@[go_sem] theorem evWF_alloc {zs : List AV} : evWF call H ρ site (.alloc zs) = (match site with
    | some id => if id < H.length then some (.ptr id (verAt H id) 0, make H id (.box · zs), [id]) else none
    | none => none) := (rfl)
@[go_sem] theorem evWF_box {k : Nat} {x : AOpd} : evWF call H ρ site (.box k x) = (match site with
    | some id => if id < H.length ∧ (x.at ρ).cells.length = k ∧ (x.at ρ).cells.all AV.cellOk then some (.ptr id (verAt H id) 0, make H id (.box · (x.at ρ).cells), [id]) else none
    | none => none) := (rfl)
@[go_sem] theorem evWF_store {k : Nat} {x : AOpd} {v : AOpd} : evWF call H ρ site (.store k x v) = (if (v.at ρ).cells.length = k ∧ (v.at ρ).cells.all AV.cellOk then
      match storeCells H (v.at ρ).cells (x.at ρ) with
      | some (H', wr) => some (.undef, H', wr)
      | none => none
    else none) := (rfl)
@[go_sem] theorem evWF_bsl {k : Nat} {zs : List AV} {n : Nat} {parts : List (Nat × AOpd)} : evWF call H ρ site (.bsl k zs n parts) = (match site with
    | some id => match buildRowsCF ρ k (List.replicate n zs) parts with
      | some rows => if id < H.length then some (.sr id (verAt H id) n, make H id (.vec · k rows), [id]) else none
      | none => none
    | none => match fixRowsF ρ k H (List.replicate n zs) parts with
      | some (rows, H', wr) => some (.sl true rows, H', wr)
      | none => none) := (rfl)
@[go_sem] theorem evWF_mks {k : Nat} {bytes : Nat} {zs : List AV} {len : AOpd} {cap : AOpd} : evWF call H ρ site (.mks k bytes zs len cap) = (match len.at ρ, cap.at ρ with
    | .int _ n, .int _ c =>
      if 0 ≤ n ∧ n = c ∧ roomy n.toNat bytes then
        match site with
        | some id => if id < H.length then some (.sr id (verAt H id) n.toNat, make H id (.vec · k (List.replicate n.toNat (zs.map AV.strip1))), [id]) else none
        | none => some (.sl true (List.replicate n.toNat (zs.map AV.strip1)), H, [])
      else none
    | _, _ => none) := (rfl)
@[go_sem] theorem evWF_app {k : Nat} {bytes : Nat} {s : AOpd} {x : AOpd} : evWF call H ρ site (.app k bytes s x) = (evApp H site k bytes (s.at ρ) (x.at ρ)) := (rfl)
@[go_sem] theorem evWF_callv {f : AOpd} {args : List AOpd} : evWF call H ρ site (.callv f args) = (evCallv call H site (f.at ρ) (args.map (AOpd.at ρ))) := (rfl)
@[go_sem] theorem evWF_mkmap  : evWF call H ρ site (.mkmap) = (match site with
    | some id => if id < H.length then some (.mp id (verAt H id), make H id (.map · []), [id]) else none
    | none => none) := (rfl)
@[go_sem] theorem evWF_ins {m : AOpd} {k : AOpd} {v : AOpd} : evWF call H ρ site (.ins m k v) = (match m.at ρ, k.at ρ with
    | .mp o ver, key => match H[o]? with
      | some (.map v' es) =>
        if v' = ver ∧ (eqKey key key).isSome ∧ (v.at ρ).strip.cells.all AV.still then
          match findKey key es 0 with
          | some (some (i, _)) => some (.undef, H.set o (.map ver (es.set i (key, (v.at ρ).strip))), [o])
          | some none => some (.undef, H.set o (.map ver (es ++ [(key, (v.at ρ).strip)])), [o])
          | none => none
        else none
      | _ => none
    | _, _ => none) := (rfl)
@[go_sem] theorem rdOfF_load {u0 : Nat} {u1 : Bool} {x : AOpd} : rdOfF ρ (.load u0 u1 x) = (match x.at ρ with
    | .ptr o _ _ => [o]
    | .vp o _ _ _ _ _ => [o]
    | _ => []) := (rfl)
@[go_sem] theorem rdOfF_look {u0 : AV} {m : AOpd} {u2 : AOpd} {u3 : Bool} : rdOfF ρ (.look u0 m u2 u3) = (match m.at ρ with
    | .mp o _ => [o]
    | _ => []) := (rfl)
@[go_sem] theorem rdOfF_mov {u0 : AOpd} : rdOfF ρ (.mov u0) = [] := (rfl)
@[go_sem] theorem rdOfF_pick {u0 : AOpd} {u1 : AOpd} {u2 : AOpd} : rdOfF ρ (.pick u0 u1 u2) = [] := (rfl)
@[go_sem] theorem rdOfF_build {u0 : List AV} {u1 : List (Nat × Nat × AOpd)} : rdOfF ρ (.build u0 u1) = [] := (rfl)
@[go_sem] theorem rdOfF_nilck {u0 : AOpd} : rdOfF ρ (.nilck u0) = [] := (rfl)
@[go_sem] theorem rdOfF_isnil {u0 : Bool} {u1 : AOpd} : rdOfF ρ (.isnil u0 u1) = [] := (rfl)
@[go_sem] theorem rdOfF_bin {u0 : BinOp} {u1 : EqK} {u2 : AOpd} {u3 : AOpd} : rdOfF ρ (.bin u0 u1 u2 u3) = [] := (rfl)
@[go_sem] theorem rdOfF_un {u0 : UnOp} {u1 : AOpd} : rdOfF ρ (.un u0 u1) = [] := (rfl)
@[go_sem] theorem rdOfF_mkf {u0 : Nat} {u1 : List AOpd} {u2 : List AOpd} : rdOfF ρ (.mkf u0 u1 u2) = [] := (rfl)
@[go_sem] theorem rdOfF_sliceS {u0 : AOpd} {u1 : Option AOpd} {u2 : Option AOpd} : rdOfF ρ (.sliceS u0 u1 u2) = [] := (rfl)
@[go_sem] theorem rdOfF_sliceV {u0 : Nat} {u1 : AOpd} {u2 : Option AOpd} {u3 : Option AOpd} {u4 : Option AOpd} : rdOfF ρ (.sliceV u0 u1 u2 u3 u4) = [] := (rfl)
@[go_sem] theorem rdOfF_sliceA {u0 : Nat} {u1 : Nat} {u2 : AOpd} {u3 : Option AOpd} {u4 : Option AOpd} {u5 : Option AOpd} : rdOfF ρ (.sliceA u0 u1 u2 u3 u4 u5) = [] := (rfl)
@[go_sem] theorem rdOfF_fa {u0 : Nat} {u1 : AOpd} : rdOfF ρ (.fa u0 u1) = [] := (rfl)
@[go_sem] theorem rdOfF_fld {u0 : Nat} {u1 : Nat} {u2 : Bool} {u3 : AOpd} : rdOfF ρ (.fld u0 u1 u2 u3) = [] := (rfl)
@[go_sem] theorem rdOfF_iaV {u0 : AOpd} {u1 : AOpd} {u2 : Nat} : rdOfF ρ (.iaV u0 u1 u2) = [] := (rfl)
@[go_sem] theorem rdOfF_iaA {u0 : Nat} {u1 : Nat} {u2 : AOpd} {u3 : AOpd} : rdOfF ρ (.iaA u0 u1 u2 u3) = [] := (rfl)
@[go_sem] theorem rdOfF_ixS {u0 : AOpd} {u1 : AOpd} : rdOfF ρ (.ixS u0 u1) = [] := (rfl)
@[go_sem] theorem rdOfF_ixA {u0 : Nat} {u1 : Nat} {u2 : Bool} {u3 : AOpd} {u4 : AOpd} : rdOfF ρ (.ixA u0 u1 u2 u3 u4) = [] := (rfl)
@[go_sem] theorem rdOfF_lenS {u0 : AOpd} : rdOfF ρ (.lenS u0) = [] := (rfl)
@[go_sem] theorem rdOfF_lenV {u0 : AOpd} : rdOfF ρ (.lenV u0) = [] := (rfl)
@[go_sem] theorem rdOfF_lenC {u0 : Nat} : rdOfF ρ (.lenC u0) = [] := (rfl)
@[go_sem] theorem rdOfF_mm {u0 : Bool} {u1 : List AOpd} : rdOfF ρ (.mm u0 u1) = [] := (rfl)
@[go_sem] theorem rdOfF_ext {u0 : Nat} {u1 : AOpd} : rdOfF ρ (.ext u0 u1) = [] := (rfl)
@[go_sem] theorem rdOfF_alloc {u0 : List AV} : rdOfF ρ (.alloc u0) = [] := (rfl)
@[go_sem] theorem rdOfF_box {u0 : Nat} {u1 : AOpd} : rdOfF ρ (.box u0 u1) = [] := (rfl)
@[go_sem] theorem rdOfF_bsl {u0 : Nat} {u1 : List AV} {u2 : Nat} {u3 : List (Nat × AOpd)} : rdOfF ρ (.bsl u0 u1 u2 u3) = [] := (rfl)
@[go_sem] theorem rdOfF_mks {u0 : Nat} {u1 : Nat} {u2 : List AV} {u3 : AOpd} {u4 : AOpd} : rdOfF ρ (.mks u0 u1 u2 u3 u4) = [] := (rfl)
@[go_sem] theorem rdOfF_store {u0 : Nat} {u1 : AOpd} {u2 : AOpd} : rdOfF ρ (.store u0 u1 u2) = [] := (rfl)
@[go_sem] theorem rdOfF_app {u0 : Nat} {u1 : Nat} {u2 : AOpd} {u3 : AOpd} : rdOfF ρ (.app u0 u1 u2 u3) = [] := (rfl)
@[go_sem] theorem rdOfF_callv {u0 : AOpd} {u1 : List AOpd} : rdOfF ρ (.callv u0 u1) = [] := (rfl)
@[go_sem] theorem rdOfF_ins {u0 : AOpd} {u1 : AOpd} {u2 : AOpd} : rdOfF ρ (.ins u0 u1 u2) = [] := (rfl)
@[go_sem] theorem rdOfF_mkmap  : rdOfF ρ (.mkmap) = [] := (rfl)
@[go_sem] theorem rdOfF_conv_toInt {k : IntKind} {x : AOpd} : rdOfF ρ (.conv (.toInt k) x) = [] := (rfl)
@[go_sem] theorem rdOfF_conv_same {x : AOpd} : rdOfF ρ (.conv .same x) = [] := (rfl)
@[go_sem] theorem rdOfF_conv_s2b {x : AOpd} : rdOfF ρ (.conv .s2b x) = [] := (rfl)
@[go_sem] theorem rdOfF_conv_i2s {x : AOpd} : rdOfF ρ (.conv .i2s x) = [] := (rfl)
@[go_sem] theorem rdOfF_conv_b2s {x : AOpd} : rdOfF ρ (.conv .b2s x) = (match x.at ρ with
    | .sr o _ _ => [o]
    | _ => []) := (rfl)
end
def siteIn : List Nat → Nat → Nat → Option Nat | [], _, _ => none | t :: ts, i, d => if t = d then some i else siteIn ts (i + 1) d
theorem idxOf?_siteIn (d : Nat) : ∀ (l : List Nat) (i : Nat), (l.idxOf? d).map (i + ·) = siteIn l i d
  | [], i => by simp [siteIn]
  | t :: ts, i => by
    rw [List.idxOf?_cons]
    unfold siteIn
    by_cases h : t = d
    · simp [h]
    · have hb : (t == d) = false := by simpa using h
      rw [if_neg h, ← idxOf?_siteIn d ts (i + 1), hb]
      cases ts.idxOf? d <;> simp <;> omega
@[go_sem] theorem site_some {b d : Nat} {l : List Nat} : Ctx.site ⟨b, l⟩ (some d) = (siteIn l 0 d).map (b + ·) := by
  rw [← idxOf?_siteIn]
  show (l.idxOf? d).map (b + ·) = _
  cases l.idxOf? d <;> simp
@[go_sem] theorem site_none {c : Ctx} : c.site none = none := (rfl)
attribute [go_sem] siteIn
@[go_sem] theorem optMap_some {α β : Type} {f : α → β} {a : α} : (some a).map f = some (f a) := (rfl)
@[go_sem] theorem optMap_none {α β : Type} {f : α → β} : (none : Option α).map f = none := (rfl)
@[go_sem] theorem optElim_some {α β : Type} {b : β} {f : α → β} {a : α} : (some a).elim b f = f a := (rfl)
@[go_sem] theorem optElim_none {α β : Type} {b : β} {f : α → β} : (none : Option α).elim b f = b := (rfl)
attribute [go_sem] List.length_append Nat.add_lt_add_iff_left Nat.lt_add_right_iff_pos
theorem beq_nat (a b : Nat) : (a == b) = decide (a = b) := rfl
@[go_sem] theorem own_beq {x a b : Nat} : (x + a == x + b) = (a == b) := by rw [beq_nat, beq_nat]; exact decide_eq_decide.2 (by omega)
@[go_sem] theorem own_beq1 {x a : Nat} : (x + a == x) = (a == 0) := by rw [beq_nat, beq_nat]; exact decide_eq_decide.2 (by omega)
@[go_sem] theorem own_beq2 {x a : Nat} : (x == x + a) = (0 == a) := by rw [beq_nat, beq_nat]; exact decide_eq_decide.2 (by omega)
@[go_sem] theorem beq_ft : (false == true) = false := (rfl)
@[go_sem] theorem beq_tf : (true == false) = false := (rfl)
attribute [go_sem] Bool.false_eq_true
attribute [go_sem] Int.cast_ofNat_Int Int.lt_irrefl
attribute [go_sem] Int.natCast_nonneg Int.ofNat_lt Int.ofNat_le Int.toNat_natCast
@[go_sem] theorem evApp_sl {H : List AObj} {site : Option Nat} {k bytes : Nat} {full : Bool} {rows : List (List AV)} {x : AV} : evApp H site k bytes (.sl full rows) x = (match appRows H x with
  | none => none
  | some new =>
    if !headOk k new then none else
      if new.isEmpty then some (.sl full rows, H, [])
      else if full && headOk k rows && roomy (rows.length + new.length) bytes then
        match site with
        | some id => if id < H.length then some (.sr id (verAt H id) (rows.length + new.length), make H id (.vec · k (rows ++ new)), [id]) else none
        | none => none
      else none) := (rfl)
@[go_sem] theorem evApp_sr {H : List AObj} {site : Option Nat} {k bytes o v n : Nat} {x : AV} : evApp H site k bytes (.sr o v n) x = (match appRows H x with
  | none => none
  | some new =>
    if !headOk k new then none else
      match H[o]? with
      | some (.vec v' k' rows) =>
        if v' = v ∧ rows.length = n ∧ k' = k ∧ roomy (n + new.length) bytes then
          if new.isEmpty then some (.sr o v n, H, []) else
          some (.sr o v (n + new.length), H.set o (.vec v k (rows ++ new)), [o])
        else none
      | _ => none) := (rfl)
@[go_sem] theorem headOk_nil {k : Nat} : headOk k [] = true := (rfl)
@[go_sem] theorem headOk_cons {k : Nat} {r : List AV} {rows : List (List AV)} : headOk k (r :: rows) = (r.length == k) := (rfl)
attribute [go_sem] eqKey findKey readCells storeCells appRows rowsOf fillRow frzCells buildCellsF buildRowsF buildRowsCF fixRowsF mmV mmFold mm2
attribute [go_sem] List.drop_zero List.drop_succ_cons List.drop_nil List.take_zero List.take_succ_cons List.take_nil List.getElem?_cons_zero List.getElem?_cons_succ List.getElem?_nil
  List.set_cons_zero List.set_cons_succ List.set_nil List.nil_append List.cons_append List.append_nil List.all_cons List.all_nil List.map_cons List.map_nil List.length_cons List.length_nil List.replicate_succ List.replicate_zero
  List.length_set List.length_map List.getElem?_set_self List.set_set List.take_length List.isEmpty_nil List.isEmpty_cons List.contains_cons List.contains_nil Bool.or_false Bool.false_or Bool.or_true Bool.true_or Option.getD_some Option.getD_none Nat.add_zero Nat.zero_add
  and_true true_and and_false false_and if_true if_false ite_true ite_false Bool.and_true Bool.true_and Bool.and_false Bool.false_and BT BF decide_true decide_false beq_self_eq_true
  NA NL ND
end Go.Proofs.AM
end
section
set_option linter.unusedVariables false
set_option maxRecDepth 8000
namespace Go.Proofs.AM
open Go
@[go_sem] theorem enter_zero {a : AV} {r : List AV} : enterF (a :: r) 0 = a := (rfl)
@[go_sem] theorem enter_succ {a : AV} {r : List AV} {n : Nat} : enterF (a :: r) (n + 1) = enterF r n := (rfl)
@[go_sem] theorem enter_nil {n : Nat} : enterF [] n = .undef := (rfl)
attribute [go_sem] Option.isSome_some Option.isSome_none
mutual
def AV.data : AV → Bool
  | .bool _ | .int _ _ | .str _ | .nilFn | .nilPtr => true
  | .sl f rows => !f && dataLL rows
  | .agg cs => dataL cs
  | _ => false
def dataL : List AV → Bool
  | [] => true
  | v :: r => v.cellOk && v.data && dataL r
def dataLL : List (List AV) → Bool
  | [] => true
  | l :: r => dataL l && dataLL r
end
@[go_sem] theorem data_bool {b : Bool} : AV.data (.bool b) = true := (rfl)
@[go_sem] theorem data_vint {k : IntKind} {n : Int} : AV.data (.int k n) = true := (rfl)
@[go_sem] theorem data_vstr {l : List UInt8} : AV.data (.str l) = true := (rfl)
@[go_sem] theorem data_nilFn : AV.data .nilFn = true := (rfl)
@[go_sem] theorem data_nilPtr : AV.data .nilPtr = true := (rfl)
@[go_sem] theorem data_sl {rows : List (List AV)} : AV.data (.sl false rows) = dataLL rows := (rfl)
@[go_sem] theorem data_agg {cs : List AV} : AV.data (.agg cs) = dataL cs := (rfl)
@[go_sem] theorem dataL_nil : dataL [] = true := (rfl)
@[go_sem] theorem dataL_cons {v : AV} {r : List AV} : dataL (v :: r) = (v.cellOk && v.data && dataL r) := (rfl)
@[go_sem] theorem dataLL_nil : dataLL [] = true := (rfl)
@[go_sem] theorem dataLL_cons {v : List AV} {r : List (List AV)} : dataLL (v :: r) = (dataL v && dataLL r) := (rfl)
mutual
theorem under_of_data : ∀ {v : AV} {n : Nat}, v.data = true → v.under n = true
  | .bool _, _, _ | .int _ _, _, _ | .str _, _, _ | .nilFn, _, _ | .nilPtr, _, _ => rfl
  | .sl f rows, n, h => by
    simp only [AV.data, Bool.and_eq_true] at h
    simp only [AV.under]
    exact underLL_of_data h.2
  | .agg cs, n, h => by
    simp only [AV.data] at h
    simp only [AV.under]
    exact underL_of_data h
  | .undef, _, h | .fn .., _, h | .ptr .., _, h | .vp .., _, h | .ep .., _, h | .sr .., _, h | .mp .., _, h | .own .., _, h | .tup .., _, h => by simp [AV.data] at h
theorem underL_of_data : ∀ {l : List AV} {n : Nat}, dataL l = true → underL n l = true
  | [], _, _ => rfl
  | v :: r, n, h => by
    simp only [dataL, Bool.and_eq_true] at h
    simp only [underL, Bool.and_eq_true]
    exact ⟨under_of_data h.1.2, underL_of_data h.2⟩
theorem underLL_of_data : ∀ {l : List (List AV)} {n : Nat}, dataLL l = true → underLL n l = true
  | [], _, _ => rfl
  | v :: r, n, h => by
    simp only [dataLL, Bool.and_eq_true] at h
    simp only [underLL, Bool.and_eq_true]
    exact ⟨underL_of_data h.1, underLL_of_data h.2⟩
end
theorem strip1_of_data {v : AV} (h : v.data = true) : v.strip1 = v := by
  cases v <;> try rfl
  rename_i f rows
  simp only [AV.data, Bool.and_eq_true, Bool.not_eq_true'] at h
  rw [h.1]; rfl
theorem dataL_mem : ∀ {l : List AV}, dataL l = true → ∀ v ∈ l, v.data = true ∧ v.cellOk = true
  | [], _, v, hv => by cases hv
  | a :: r, h, v, hv => by
    simp only [dataL, Bool.and_eq_true] at h
    rcases List.mem_cons.1 hv with rfl | hv
    · exact ⟨h.1.2, h.1.1⟩
    · exact dataL_mem h.2 v hv
theorem map_strip1_of_data {l : List AV} (h : dataL l = true) : l.map AV.strip1 = l := by
  conv => rhs; rw [← List.map_id l]
  exact List.map_congr_left fun v hv => strip1_of_data (dataL_mem h v hv).1
theorem still_of_data {v : AV} (h : v.data = true) (h2 : v.cellOk = true) : v.still = true := by
  cases v <;> first | rfl | exact absurd (show false = true from h2) Bool.false_ne_true | exact absurd (show false = true from h) Bool.false_ne_true
theorem allStill_of_data {l : List AV} (h : dataL l = true) : l.all AV.still = true := by
  rw [List.all_eq_true]
  intro v hv
  exact still_of_data (dataL_mem h v hv).1 (dataL_mem h v hv).2
theorem allCellOk_of_data {l : List AV} (h : dataL l = true) : l.all AV.cellOk = true := by
  rw [List.all_eq_true]
  intro v hv
  exact (dataL_mem h v hv).2
theorem dataLL_mem : ∀ {l : List (List AV)}, dataLL l = true → ∀ v ∈ l, dataL v = true
  | [], _, v, hv => by cases hv
  | a :: r, h, v, hv => by
    simp only [dataLL, Bool.and_eq_true] at h
    rcases List.mem_cons.1 hv with rfl | hv
    · exact h.1
    · exact dataLL_mem h.2 v hv
theorem dataLL_of : ∀ {l : List (List AV)}, (∀ v ∈ l, dataL v = true) → dataLL l = true
  | [], _ => rfl
  | a :: r, h => by
    simp only [dataLL, Bool.and_eq_true]
    exact ⟨h a List.mem_cons_self, dataLL_of fun v hv => h v (List.mem_cons_of_mem _ hv)⟩
theorem allStill_rows {rows : List (List AV)} (h : dataLL rows = true) : (rows.all fun r => r.all AV.still) = true := by
  rw [List.all_eq_true]
  intro r hr
  exact allStill_of_data (dataLL_mem h r hr)
theorem lend1_of_data {H : List AObj} {v : AV} (h : v.data = true) (h2 : v.cellOk = true) : lend1 H v = some (v, []) := by
  cases v <;> first | rfl | exact absurd (show false = true from h2) Bool.false_ne_true | exact absurd (show false = true from h) Bool.false_ne_true
theorem lendL_of_data {H : List AObj} : ∀ {l : List AV}, dataL l = true → lendL H l = some (l, [])
  | [], _ => rfl
  | v :: r, h => by
    simp only [dataL, Bool.and_eq_true] at h
    unfold lendL
    rw [lend1_of_data h.1.2 h.1.1, lendL_of_data h.2]
    rfl
theorem fix_data {H : List AObj} {v : AV} (h : v.data = true) : fix H v = some (v, H, []) := by
  have key : ∀ w : AV, w.data = true → lend H w = some (w, []) ∧ w.strip = w := by
    intro w hw
    cases w <;> first | exact ⟨rfl, rfl⟩ | exact absurd (show false = true from hw) Bool.false_ne_true | skip
    · rename_i f rows
      refine ⟨rfl, ?_⟩
      simp only [AV.data, Bool.and_eq_true, Bool.not_eq_true'] at hw
      rw [hw.1]; rfl
    · rename_i cs
      simp only [AV.data] at hw
      constructor
      · show (match lendL H cs with | some (cs', l) => some (AV.agg cs', l) | none => none) = _
        rw [lendL_of_data hw]
      · show AV.agg (cs.map AV.strip1) = _
        rw [map_strip1_of_data hw]
  obtain ⟨h1, h2⟩ := key v h
  unfold fix
  rw [h1]
  dsimp only
  rw [h2]
  rfl
theorem cutBack_wr {base : Nat} {v : AV} {H : List AObj} {wr : List Nat} (h : v.under base = true) (h2 : (wr.all fun o => match H[o]? with | some x => x.under base | none => true) = true) : cutBack base (v, H, wr) = (v, H.take base, wr) := by
  unfold cutBack
  dsimp only
  rw [if_pos (by rw [h, Bool.true_and]; exact h2)]
@[go_sem] theorem cutBack_one {base o : Nat} {v : AV} {H : List AObj} {x : AObj} (h : v.under base = true) (h1 : H[o]? = some x) (h2 : x.under base = true) : cutBack base (v, H, [o]) = (v, H.take base, [o]) :=
  cutBack_wr h (by rw [List.all_cons, List.all_nil, Bool.and_true, h1]; exact h2)
@[go_sem] theorem ounder_box {n v : Nat} {cs : List AV} : AObj.under n (.box v cs) = underL n cs := (rfl)
@[go_sem] theorem under_bool {n : Nat} {b : Bool} : AV.under n (.bool b) = true := (rfl)
@[go_sem] theorem under_int {n : Nat} {k : IntKind} {i : Int} : AV.under n (.int k i) = true := (rfl)
@[go_sem] theorem under_str {n : Nat} {l : List UInt8} : AV.under n (.str l) = true := (rfl)
@[go_sem] theorem under_nilFn {n : Nat}  : AV.under n .nilFn = true := (rfl)
@[go_sem] theorem under_nilPtr {n : Nat}  : AV.under n .nilPtr = true := (rfl)
@[go_sem] theorem under_undef {n : Nat}  : AV.under n .undef = true := (rfl)
@[go_sem] theorem under_sl {n : Nat} {f : Bool} {rows : List (List AV)} : AV.under n (.sl f rows) = underLL n rows := (rfl)
@[go_sem] theorem under_agg {n : Nat} {cs : List AV} : AV.under n (.agg cs) = underL n cs := (rfl)
@[go_sem] theorem under_tup {n : Nat} {cs : List AV} : AV.under n (.tup cs) = underL n cs := (rfl)
@[go_sem] theorem under_own {n k : Nat} {rows : List (List AV)} : AV.under n (.own k rows) = underLL n rows := (rfl)
@[go_sem] theorem underL_nil {n : Nat} : underL n [] = true := (rfl)
@[go_sem] theorem underL_cons {n : Nat} {v : AV} {r : List AV} : underL n (v :: r) = (v.under n && underL n r) := (rfl)
@[go_sem] theorem underLL_nil {n : Nat} : underLL n [] = true := (rfl)
@[go_sem] theorem underLL_cons {n : Nat} {v : List AV} {r : List (List AV)} : underLL n (v :: r) = (underL n v && underLL n r) := (rfl)
@[go_sem] theorem cutBack_nil {base : Nat} {v : AV} {H : List AObj} (h : v.under base = true) : cutBack base (v, H, []) = (v, H.take base, []) := by
  unfold cutBack
  simp only [h, List.all_nil, Bool.and_true, if_true]
def ends (base : Nat) (rs : List ARes) (K : AV → List AObj → List Nat → Prop) (tg : Tg K) : AExit → SEnv → List AObj → List Nat → Prop := Ends base rs K
section
variable {base : Nat} {ρ : SEnv} {H : List AObj} {wr : List Nat} {K : AV → List AObj → List Nat → Prop} {rs : List ARes}
@[go_sem] theorem ends_ret {t : Tg K} : ends base rs K t .ret ρ H wr = bnd (finishF base rs ρ H wr) fun r => bnd (some (cutBack base r)) fun r => K r.1 r.2.1 r.2.2 := by
  unfold ends Ends
  dsimp only
  cases finishF base rs ρ H wr <;> rfl
@[go_sem] theorem ends_normal {t : Tg K} : ends base rs K t .normal ρ H wr = bnd (finishF base rs ρ H wr) fun r => bnd (some (cutBack base r)) fun r => K r.1 r.2.1 r.2.2 := by
  unfold ends Ends
  dsimp only
  cases finishF base rs ρ H wr <;> rfl
@[go_sem] theorem finishF_tmp {t : Nat} : finishF base [.tmp t] ρ H wr = match finV base H (ρ t) with
    | some (v', H', l) => some (v', H', addWr base wr l)
    | none => none := (rfl)
@[go_sem] theorem finishF_cell {t k : Nat} {agg : Bool} : finishF base [.cell t k agg] ρ H wr = match readCells H k (ρ t) with
    | some cs => match ofCells agg cs with
      | some v => match finV base H v with
        | some (v', H', l) => some (v', H', addWr base wr l)
        | none => none
      | none => none
    | none => none := by
  simp only [finishF, resVsF, resVF]
  cases readCells H k (ρ t) with
  | none => rfl
  | some cs => dsimp only; cases ofCells agg cs <;> rfl
@[go_sem] theorem finV_int {k : IntKind} {n : Int} : finV base H (.int k n) = some (.int k n, H, []) := (rfl)
@[go_sem] theorem finV_bool {b : Bool} : finV base H (.bool b) = some (.bool b, H, []) := (rfl)
@[go_sem] theorem finV_str {l : List UInt8} : finV base H (.str l) = some (.str l, H, []) := (rfl)
@[go_sem] theorem finV_sl {f : Bool} {rows : List (List AV)} : finV base H (.sl f rows) = some (.sl false rows, H, []) := (rfl)
@[go_sem] theorem finV_agg {cs : List AV} : finV base H (.agg cs) = fix H (.agg cs) := (rfl)
@[go_sem] theorem finV_sr {o v n : Nat} : finV base H (.sr o v n) = match H[o]? with
    | some (.vec v' k rows) => if v' = v ∧ rows.length = n ∧ base ≤ o ∧ rows.all (fun r => r.all AV.still) then some (.own k rows, goneAll H [o], [o]) else none
    | _ => none := (rfl)
attribute [go_sem] Nat.le_refl Nat.le_add_right
end
theorem call_intro' {A : AProg} {f : Nat} {args : List AV} {H : List AObj} {fn : AFn} {K : AV → List AObj → List Nat → Prop} (hf : A.fn f = some fn) (hp : (A.prim f).bind (· args) = none)
    (hN : args.length ≤ fn.ntmps) (hok : codeOk fn.ntmps ⟨H.length, fn.sites⟩ fn.body = true)
    (h : wc A fn.ntmps ⟨H.length, fn.sites⟩ fn.body (enterF args) (H ++ List.replicate fn.sites.length (.gone 0)) [] (ends H.length fn.results K ⟨⟩) ⟨⟩) :
    ∃ v H' wr, callI A f args H = some (v, H', wr) ∧ K v H' wr := call_intro hf hp hN hok h
structure Has (A : AProg) (g : String → Nat) (name : String) (fn : AFn) : Prop where
  fn : A.fn (g name) = some fn
  prim : A.prim (g name) = none
theorem Has.call {A : AProg} {g : String → Nat} {name : String} {fn : AFn} (h : Has A g name fn) {args : List AV} {H : List AObj} {v : AV} {H' : List AObj} {wr : List Nat}
    (hN : args.length ≤ fn.ntmps) (hok : codeOk fn.ntmps ⟨H.length, fn.sites⟩ fn.body = true)
    (hw : wc A fn.ntmps ⟨H.length, fn.sites⟩ fn.body (enterF args) (H ++ List.replicate fn.sites.length (.gone 0)) [] (ends H.length fn.results (fun v' H'' wr' => v' = v ∧ H'' = H' ∧ wr' = wr) ⟨⟩) ⟨⟩) :
    callI A (g name) args H = some (v, H', wr) := by
  obtain ⟨v1, H1, wr1, h1, rfl, rfl, rfl⟩ := call_intro (K := fun v' H'' wr' => v' = v ∧ H'' = H' ∧ wr' = wr) h.fn (by rw [h.prim]; rfl) hN hok hw
  exact h1
theorem Has.callEx {A : AProg} {g : String → Nat} {name : String} {fn : AFn} (h : Has A g name fn) {args : List AV} {H : List AObj} {K : AV → List AObj → List Nat → Prop}
    (hN : args.length ≤ fn.ntmps) (hok : codeOk fn.ntmps ⟨H.length, fn.sites⟩ fn.body = true)
    (hw : wc A fn.ntmps ⟨H.length, fn.sites⟩ fn.body (enterF args) (H ++ List.replicate fn.sites.length (.gone 0)) [] (ends H.length fn.results K ⟨⟩) ⟨⟩) :
    ∃ v H' wr, callI A (g name) args H = some (v, H', wr) ∧ K v H' wr := call_intro h.fn (by rw [h.prim]; rfl) hN hok hw
def afterCall (site : Option Nat) (quiet : Bool) (H : List AObj) : Out → Out
  | none => none
  | some (v, H', wr) =>
    if quiet then
      match v with
      | .own k rows =>
        match site with
        | some id => if id < H'.length then some (.sr id (verAt H' id) rows.length, make H' id (.vec · k rows), if wr.contains id then wr else id :: wr) else none
        | none => some (.sl false rows, H', wr)
      | v => some (v, H', wr)
    else if wr.isEmpty && decide (H'.length = H.length) && v.atomic then some (v, H, []) else none
@[go_sem] theorem afterCall_none {site : Option Nat} {q : Bool} {H : List AObj} : afterCall site q H none = none := (rfl)
@[go_sem] theorem afterCall_some {site : Option Nat} {q : Bool} {H : List AObj} {v : AV} {H' : List AObj} {wr : List Nat} : afterCall site q H (some (v, H', wr)) = (if q then
      match v with
      | .own k rows =>
        match site with
        | some id => if id < H'.length then some (.sr id (verAt H' id) rows.length, make H' id (.vec · k rows), if wr.contains id then wr else id :: wr) else none
        | none => some (.sl false rows, H', wr)
      | v => some (v, H', wr)
    else if wr.isEmpty && decide (H'.length = H.length) && v.atomic then some (v, H, []) else none) := (rfl)
@[go_sem] theorem evCallv_fn {call : Nat → List AV → List AObj → Out} {H : List AObj} {site : Option Nat} {f : Nat} {first caps args : List AV} : evCallv call H site (.fn f first caps) args =
    match lendAll H (first ++ args ++ caps) with
    | none => none
    | some (args', lent) => afterCall site lent.isEmpty H (call f (args'.map AV.strip) (goneAll H lent)) := by
  show (match lendAll H (first ++ args ++ caps) with
    | none => none
    | some (args', lent) => _) = _
  cases lendAll H (first ++ args ++ caps) with
  | none => rfl
  | some p =>
    dsimp only
    cases call f (p.1.map AV.strip) (goneAll H p.2) with
    | none => rfl
    | some r => obtain ⟨v, H', wr⟩ := r; cases v <;> rfl
theorem call_ex {A : AProg} {f : Nat} {args : List AV} {H H2 : List AObj} {site : Option Nat} {q : Bool} {k : AV × List AObj × List Nat → Prop} {tg} {R : AV → List AObj → List Nat → Prop}
    (h : ∃ v H' wr, callI A f args H = some (v, H', wr) ∧ R v H' wr) (hk : ∀ v H' wr, R v H' wr → bnd (afterCall site q H2 (some (v, H', wr))) k) : bindP (afterCall site q H2 (callI A f args H)) k tg := by
  obtain ⟨v, H', wr, h1, h2⟩ := h
  rw [h1]
  exact hk v H' wr h2
theorem call_exD {A : AProg} {f : Nat} {args : List AV} {H H2 H3 : List AObj} {site : Option Nat} {q : Bool} {k : AV × List AObj × List Nat × Option (List Nat) → Prop} {tg} {R : AV → List AObj → List Nat → Prop}
    (h : ∃ v H' wr, callI A f args H = some (v, H', wr) ∧ R v H' wr) (hk : ∀ v H' wr, R v H' wr → bnd (drawOut H3 (afterCall site q H2 (some (v, H', wr)))) k) : bindP (drawOut H3 (afterCall site q H2 (callI A f args H))) k tg := by
  obtain ⟨v, H', wr, h1, h2⟩ := h
  rw [h1]
  exact hk v H' wr h2
end Go.Proofs.AM
end
