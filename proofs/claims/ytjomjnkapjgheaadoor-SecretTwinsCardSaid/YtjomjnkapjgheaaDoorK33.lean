/- Part 33 of the proof that stands in the last text of this folder (lemmas; no statement of its own). -/
import Derived.Test.YtjomjnkapjgheaaDoorK13
import Derived.Test.YtjomjnkapjgheaaDoorK23
import Derived.Test.YtjomjnkapjgheaaDoorK31
import Derived.Shelf.Strconv.Itoa0
import Derived.Shelf.Strconv.Itoa1
import Derived.Shelf.LaysM
import Derived.Shelf.Strconv.Itoa2
import Derived.Shelf.Strconv.Itoa3
import Derived.Test.YtjomjnkapjgheaaDoorProg
import Derived.WalkKit
import Derived.Lib.Walk
import Derived.Lib.SliceRun
import Derived.Lib.ItoaNum
import Derived.Deep.Draws
section
namespace Go.Proofs
open Go.Shelf
def Tryd.lays129_ren : Go.Shelf.Ren := ⟨fun | 129 => 83 | n => n, fun | 53 => 130 | 3 => 3 | 4 => 4 | 46 => 145 | 5 => 5 | 9 => 9 | n => n, fun | n => n⟩
theorem Tryd.lays129 : Go.Proofs.Lays.n129 Tryd.prog Tryd.lays129_ren := {
  mixed := by kernel_rfl
  f129 := Tryd.func83.trans (congrArg some (by kernel_rfl))
  t3 := Tryd.underlying3
  a3 := Tryd.isAgg3
  z3 := Tryd.sizeOf3
  v3 := Tryd.zeroValue3
  t4 := Tryd.underlying4
  a4 := Tryd.isAgg4
  z4 := Tryd.sizeOf4
  v4 := Tryd.zeroValue4
  t5 := Tryd.underlying5
  a5 := Tryd.isAgg5
  z5 := Tryd.sizeOf5
  v5 := Tryd.zeroValue5
  t9 := Tryd.underlying9
  a9 := Tryd.isAgg9
  z9 := Tryd.sizeOf9
  v9 := Tryd.zeroValue9
  t46 := Tryd.underlying145
  a46 := Tryd.isAgg145
  z46 := Tryd.sizeOf145
  v46 := Tryd.zeroValue145
  t53 := Tryd.underlying130
  a53 := Tryd.isAgg130
  z53 := Tryd.sizeOf130
  v53 := Tryd.zeroValue130 }
theorem Tryd.bits_Len64 (x : Int) (w : World) (h0 : 0 ≤ x) (h1 : x ≤ 18446744073709551615) :
    Calls Tryd.prog 83 #[.int .u64 x] w fun e w' => e = .returned (.int .i64 (Lib.bitLen x.toNat)) ∧ w' = w := Any.bits_Len64 Tryd.lays129 x w h0 h1
def Tryd.lays317_ren : Go.Shelf.Ren := ⟨fun | 317 => 82 | n => n, fun | 3 => 3 | 46 => 145 | n => n, fun | n => n⟩
theorem Tryd.lays317 : Go.Proofs.Lays.n317 Tryd.prog Tryd.lays317_ren := {
  mixed := by kernel_rfl
  f317 := Tryd.func82.trans (congrArg some (by kernel_rfl))
  t3 := Tryd.underlying3
  a3 := Tryd.isAgg3
  z3 := Tryd.sizeOf3
  v3 := Tryd.zeroValue3
  t46 := Tryd.underlying145
  a46 := Tryd.isAgg145
  z46 := Tryd.sizeOf145
  v46 := Tryd.zeroValue145 }
open Go.Lib in
theorem Tryd.internal_strconv_log10Pow2 (x : Nat) (h : x ≤ 64) (w : World) :
    Calls Tryd.prog 82 #[.int .i64 x] w fun e w' => e = .returned (.int .i64 (Lib.l10 x)) ∧ w' = w := Any.internal_strconv_log10Pow2 Tryd.lays317 x h w
def Tryd.lays318_ren : Go.Shelf.Ren := ⟨fun | 318 => 84 | n => n, fun | 3 => 3 | 4 => 4 | n => n, fun | n => n⟩
theorem Tryd.lays318 : Go.Proofs.Lays.n318 Tryd.prog Tryd.lays318_ren := {
  mixed := by kernel_rfl
  f318 := Tryd.func84.trans (congrArg some (by kernel_rfl))
  t3 := Tryd.underlying3
  a3 := Tryd.isAgg3
  z3 := Tryd.sizeOf3
  v3 := Tryd.zeroValue3
  t4 := Tryd.underlying4
  a4 := Tryd.isAgg4
  z4 := Tryd.sizeOf4
  v4 := Tryd.zeroValue4 }
open Go.Lib in
theorem Tryd.internal_strconv_bool2_int (b : Bool) (w : World) :
    Calls Tryd.prog 84 #[.bool b] w fun e w' => e = .returned (.int .i64 (if b then 1 else 0)) ∧ w' = w := Any.internal_strconv_bool2_int Tryd.lays318 b w
def Tryd.lays283_ren : Go.Shelf.Ren := ⟨fun | 283 => 73 | n => n, fun | 3 => 3 | 9 => 9 | 4 => 4 | n => n, fun | n => n⟩
theorem Tryd.lays283 : Go.Proofs.Lays.n283 Tryd.prog Tryd.lays283_ren := {
  mixed := by kernel_rfl
  f283 := Tryd.func73.trans (congrArg some (by kernel_rfl))
  t3 := Tryd.underlying3
  a3 := Tryd.isAgg3
  z3 := Tryd.sizeOf3
  v3 := Tryd.zeroValue3
  t4 := Tryd.underlying4
  a4 := Tryd.isAgg4
  z4 := Tryd.sizeOf4
  v4 := Tryd.zeroValue4
  t9 := Tryd.underlying9
  a9 := Tryd.isAgg9
  z9 := Tryd.sizeOf9
  v9 := Tryd.zeroValue9 }
open Go.Lib in
theorem Tryd.internal_strconv_small (i : Nat) (h : i < 100) (w : World) :
    Calls Tryd.prog 73 #[.int .i64 i] w fun e w' => e = .returned (.string ⟨(Lib.decDigits i).toArray⟩) ∧ w' = w := Any.internal_strconv_small Tryd.lays283 i h w
def Tryd.laysM284_ren : Go.Shelf.Ren := ⟨fun | 284 => 74 | 129 => 83 | 317 => 82 | 318 => 84 | n => n, fun | 53 => 130 | 3 => 3 | 212 => 141 | 0 => 0 | 4 => 4 | 46 => 145 | 5 => 5 | 9 => 9 | n => n, fun | 17 => 0 | n => n⟩
theorem Tryd.laysM284 : Go.Proofs.LaysM.n284 Tryd.prog Tryd.laysM284_ren := {
  mixed := by kernel_rfl
  f129 := Tryd.func83.trans (congrArg some (by kernel_rfl))
  f284 := Tryd.func74.trans (congrArg some (by kernel_rfl))
  f317 := Tryd.func82.trans (congrArg some (by kernel_rfl))
  f318 := Tryd.func84.trans (congrArg some (by kernel_rfl))
  t0 := Tryd.underlying0
  a0 := Tryd.isAgg0
  z0 := Tryd.sizeOf0
  v0 := Tryd.zeroValue0
  t3 := Tryd.underlying3
  a3 := Tryd.isAgg3
  z3 := Tryd.sizeOf3
  v3 := Tryd.zeroValue3
  t4 := Tryd.underlying4
  a4 := Tryd.isAgg4
  z4 := Tryd.sizeOf4
  v4 := Tryd.zeroValue4
  t5 := Tryd.underlying5
  a5 := Tryd.isAgg5
  z5 := Tryd.sizeOf5
  v5 := Tryd.zeroValue5
  t9 := Tryd.underlying9
  a9 := Tryd.isAgg9
  z9 := Tryd.sizeOf9
  v9 := Tryd.zeroValue9
  t46 := Tryd.underlying145
  a46 := Tryd.isAgg145
  z46 := Tryd.sizeOf145
  v46 := Tryd.zeroValue145
  t53 := Tryd.underlying130
  a53 := Tryd.isAgg130
  z53 := Tryd.sizeOf130
  v53 := Tryd.zeroValue130
  t212 := Tryd.underlying141
  a212 := Tryd.isAgg141
  z212 := Tryd.sizeOf141
  v212 := Tryd.zeroValue141
  g17 := by kernel_rfl
  i0 := by kernel_rfl
  i3 := by kernel_rfl
  i4 := by kernel_rfl
  i5 := by kernel_rfl
  i9 := by kernel_rfl
  i46 := by kernel_rfl
  i53 := by kernel_rfl
  i212 := by kernel_rfl
  m17 := by kernel_rfl }
open Go.Lib in
theorem Tryd.internal_strconv_numDigits (u : Nat) (h1 : 1 ≤ u) (h2 : u < 18446744073709551616) (w : World) (htab : Lib.TabIs Tryd.prog w "internal/strconv.uint64pow10" .u64 Lib.pow10Tab) :
    Calls Tryd.prog 74 #[.int .u64 u] w fun e w' => e = .returned (.int .i64 (Lib.nDigits u)) ∧ w' = w := Any.internal_strconv_numDigits Tryd.laysM284 u h1 h2 w htab
def Tryd.lays285_ren : Go.Shelf.Ren := ⟨fun | 285 => 75 | n => n, fun | 37 => 118 | 53 => 130 | 3 => 3 | 4 => 4 | 51 => 142 | 9 => 9 | 5 => 5 | 0 => 0 | n => n, fun | n => n⟩
theorem Tryd.lays285 : Go.Proofs.Lays.n285 Tryd.prog Tryd.lays285_ren := {
  mixed := by kernel_rfl
  f285 := Tryd.func75.trans (congrArg some (by kernel_rfl))
  t0 := Tryd.underlying0
  a0 := Tryd.isAgg0
  z0 := Tryd.sizeOf0
  v0 := Tryd.zeroValue0
  t3 := Tryd.underlying3
  a3 := Tryd.isAgg3
  z3 := Tryd.sizeOf3
  v3 := Tryd.zeroValue3
  t4 := Tryd.underlying4
  a4 := Tryd.isAgg4
  z4 := Tryd.sizeOf4
  v4 := Tryd.zeroValue4
  t5 := Tryd.underlying5
  a5 := Tryd.isAgg5
  z5 := Tryd.sizeOf5
  v5 := Tryd.zeroValue5
  t9 := Tryd.underlying9
  a9 := Tryd.isAgg9
  z9 := Tryd.sizeOf9
  v9 := Tryd.zeroValue9
  t37 := Tryd.underlying118
  a37 := Tryd.isAgg118
  z37 := Tryd.sizeOf118
  v37 := Tryd.zeroValue118
  t51 := Tryd.underlying142
  a51 := Tryd.isAgg142
  z51 := Tryd.sizeOf142
  v51 := Tryd.zeroValue142
  t53 := Tryd.underlying130
  a53 := Tryd.isAgg130
  z53 := Tryd.sizeOf130
  v53 := Tryd.zeroValue130 }
open Go.RowKit Go.Sort Go.Lib in
theorem Tryd.internal_strconv_formatBase10 (blk off cap : Nat) (u : Nat) (d : Array UInt8) (w : World) (hH : Holds (fun (b : UInt8) => Value.int .u8 (b.toNat : Int)) w blk off d) (hu : u < 10 ^ d.size) (hu64 : u < 18446744073709551616) (hsz : d.size < 4611686018427387904) :
    Calls Tryd.prog 75 #[.slice (some ⟨blk, off, none⟩) d.size cap, .int .u64 u] w fun e w' =>
      e = .returned (.tuple #[]) ∧ ∃ (n v' : Nat) (dk : Array UInt8), w' = (putRow (fun (b : UInt8) => Value.int .u8 (b.toNat : Int)) w blk off dk).drewN n ∧ FmtInv d.size u 0 v' dk := Any.internal_strconv_formatBase10 Tryd.lays285 blk off cap u d w hH hu hu64 hsz
def Tryd.laysM246_ren : Go.Shelf.Ren := ⟨fun | 246 => 65 | 283 => 73 | 284 => 74 | 285 => 75 | 286 => 76 | 129 => 83 | 317 => 82 | 318 => 84 | 319 => 85 | 320 => 86 | 337 => 87 | 338 => 88 | n => n, fun | 2 => 2 | 3 => 3 | 9 => 9 | 4 => 4 | 171 => 129 | 0 => 0 | 53 => 130 | 37 => 118 | 5 => 5 | 173 => 133 | 212 => 141 | 51 => 142 | 20 => 20 | 213 => 143 | 46 => 145 | 232 => 148 | 233 => 149 | n => n, fun | 17 => 0 | 18 => 1 | 19 => 2 | n => n⟩
theorem Tryd.laysM246 : Go.Proofs.LaysM.n246 Tryd.prog Tryd.laysM246_ren := {
  mixed := by kernel_rfl
  f129 := Tryd.func83.trans (congrArg some (by kernel_rfl))
  f246 := Tryd.func65.trans (congrArg some (by kernel_rfl))
  f283 := Tryd.func73.trans (congrArg some (by kernel_rfl))
  f284 := Tryd.func74.trans (congrArg some (by kernel_rfl))
  f285 := Tryd.func75.trans (congrArg some (by kernel_rfl))
  f286 := Tryd.func76.trans (congrArg some (by kernel_rfl))
  f317 := Tryd.func82.trans (congrArg some (by kernel_rfl))
  f318 := Tryd.func84.trans (congrArg some (by kernel_rfl))
  f319 := Tryd.func85.trans (congrArg some (by kernel_rfl))
  f320 := Tryd.func86.trans (congrArg some (by kernel_rfl))
  f337 := Tryd.func87.trans (congrArg some (by kernel_rfl))
  f338 := Tryd.func88.trans (congrArg some (by kernel_rfl))
  t0 := Tryd.underlying0
  a0 := Tryd.isAgg0
  z0 := Tryd.sizeOf0
  v0 := Tryd.zeroValue0
  t2 := Tryd.underlying2
  a2 := Tryd.isAgg2
  z2 := Tryd.sizeOf2
  v2 := Tryd.zeroValue2
  t3 := Tryd.underlying3
  a3 := Tryd.isAgg3
  z3 := Tryd.sizeOf3
  v3 := Tryd.zeroValue3
  t4 := Tryd.underlying4
  a4 := Tryd.isAgg4
  z4 := Tryd.sizeOf4
  v4 := Tryd.zeroValue4
  t5 := Tryd.underlying5
  a5 := Tryd.isAgg5
  z5 := Tryd.sizeOf5
  v5 := Tryd.zeroValue5
  t9 := Tryd.underlying9
  a9 := Tryd.isAgg9
  z9 := Tryd.sizeOf9
  v9 := Tryd.zeroValue9
  t20 := Tryd.underlying20
  a20 := Tryd.isAgg20
  z20 := Tryd.sizeOf20
  v20 := Tryd.zeroValue20
  t37 := Tryd.underlying118
  a37 := Tryd.isAgg118
  z37 := Tryd.sizeOf118
  v37 := Tryd.zeroValue118
  t46 := Tryd.underlying145
  a46 := Tryd.isAgg145
  z46 := Tryd.sizeOf145
  v46 := Tryd.zeroValue145
  t51 := Tryd.underlying142
  a51 := Tryd.isAgg142
  z51 := Tryd.sizeOf142
  v51 := Tryd.zeroValue142
  t53 := Tryd.underlying130
  a53 := Tryd.isAgg130
  z53 := Tryd.sizeOf130
  v53 := Tryd.zeroValue130
  t171 := Tryd.underlying129
  a171 := Tryd.isAgg129
  z171 := Tryd.sizeOf129
  v171 := Tryd.zeroValue129
  t173 := Tryd.underlying133
  a173 := Tryd.isAgg133
  z173 := Tryd.sizeOf133
  v173 := Tryd.zeroValue133
  t212 := Tryd.underlying141
  a212 := Tryd.isAgg141
  z212 := Tryd.sizeOf141
  v212 := Tryd.zeroValue141
  t213 := Tryd.underlying143
  a213 := Tryd.isAgg143
  z213 := Tryd.sizeOf143
  t232 := Tryd.underlying148
  a232 := Tryd.isAgg148
  z232 := Tryd.sizeOf148
  v232 := Tryd.zeroValue148
  t233 := Tryd.underlying149
  a233 := Tryd.isAgg149
  z233 := Tryd.sizeOf149
  v233 := Tryd.zeroValue149
  g17 := by kernel_rfl
  g18 := by kernel_rfl
  g19 := by kernel_rfl
  i0 := by kernel_rfl
  i2 := by kernel_rfl
  i3 := by kernel_rfl
  i4 := by kernel_rfl
  i5 := by kernel_rfl
  i9 := by kernel_rfl
  i20 := by kernel_rfl
  i37 := by kernel_rfl
  i46 := by kernel_rfl
  i51 := by kernel_rfl
  i53 := by kernel_rfl
  i171 := by kernel_rfl
  i173 := by kernel_rfl
  i212 := by kernel_rfl
  i232 := by kernel_rfl
  i233 := by kernel_rfl
  m17 := by kernel_rfl
  m18 := by kernel_rfl
  m19 := by kernel_rfl }
open Go.RowKit Go.Sort Go.Lib in
theorem Tryd.internal_strconv_FormatInt_10 (n : Int) (h0 : -9223372036854775808 ≤ n) (h1 : n ≤ 9223372036854775807) (w : World) (htab : Lib.TabIs Tryd.prog w "internal/strconv.uint64pow10" .u64 Lib.pow10Tab) :
    Calls Tryd.prog 65 #[.int .i64 n, .int .i64 10] w fun e w' => e = .returned (.string ⟨(Lib.itoa n).toArray⟩) ∧ ∃ k os, w' = grow (w.drewN k) os := Any.internal_strconv_FormatInt_10 Tryd.laysM246 n h0 h1 w htab
def Tryd.lays246_ren : Go.Shelf.Ren := ⟨fun | 246 => 65 | 283 => 73 | 284 => 74 | 285 => 75 | 286 => 76 | 129 => 83 | 317 => 82 | 318 => 84 | 319 => 85 | 320 => 86 | 337 => 87 | 338 => 88 | n => n, fun | 2 => 2 | 3 => 3 | 9 => 9 | 4 => 4 | 171 => 129 | 0 => 0 | 53 => 130 | 37 => 118 | 5 => 5 | 173 => 133 | 212 => 141 | 51 => 142 | 20 => 20 | 213 => 143 | 46 => 145 | 232 => 148 | 233 => 149 | n => n, fun | 17 => 0 | 18 => 1 | 19 => 2 | n => n⟩
theorem Tryd.lays246 : Go.Proofs.Lays.n246 Tryd.prog Tryd.lays246_ren := {
  mixed := by kernel_rfl
  f129 := Tryd.func83.trans (congrArg some (by kernel_rfl))
  f246 := Tryd.func65.trans (congrArg some (by kernel_rfl))
  f283 := Tryd.func73.trans (congrArg some (by kernel_rfl))
  f284 := Tryd.func74.trans (congrArg some (by kernel_rfl))
  f285 := Tryd.func75.trans (congrArg some (by kernel_rfl))
  f286 := Tryd.func76.trans (congrArg some (by kernel_rfl))
  f317 := Tryd.func82.trans (congrArg some (by kernel_rfl))
  f318 := Tryd.func84.trans (congrArg some (by kernel_rfl))
  f319 := Tryd.func85.trans (congrArg some (by kernel_rfl))
  f320 := Tryd.func86.trans (congrArg some (by kernel_rfl))
  f337 := Tryd.func87.trans (congrArg some (by kernel_rfl))
  f338 := Tryd.func88.trans (congrArg some (by kernel_rfl))
  t0 := Tryd.underlying0
  a0 := Tryd.isAgg0
  z0 := Tryd.sizeOf0
  v0 := Tryd.zeroValue0
  t2 := Tryd.underlying2
  a2 := Tryd.isAgg2
  z2 := Tryd.sizeOf2
  v2 := Tryd.zeroValue2
  t3 := Tryd.underlying3
  a3 := Tryd.isAgg3
  z3 := Tryd.sizeOf3
  v3 := Tryd.zeroValue3
  t4 := Tryd.underlying4
  a4 := Tryd.isAgg4
  z4 := Tryd.sizeOf4
  v4 := Tryd.zeroValue4
  t5 := Tryd.underlying5
  a5 := Tryd.isAgg5
  z5 := Tryd.sizeOf5
  v5 := Tryd.zeroValue5
  t9 := Tryd.underlying9
  a9 := Tryd.isAgg9
  z9 := Tryd.sizeOf9
  v9 := Tryd.zeroValue9
  t20 := Tryd.underlying20
  a20 := Tryd.isAgg20
  z20 := Tryd.sizeOf20
  v20 := Tryd.zeroValue20
  t37 := Tryd.underlying118
  a37 := Tryd.isAgg118
  z37 := Tryd.sizeOf118
  v37 := Tryd.zeroValue118
  t46 := Tryd.underlying145
  a46 := Tryd.isAgg145
  z46 := Tryd.sizeOf145
  v46 := Tryd.zeroValue145
  t51 := Tryd.underlying142
  a51 := Tryd.isAgg142
  z51 := Tryd.sizeOf142
  v51 := Tryd.zeroValue142
  t53 := Tryd.underlying130
  a53 := Tryd.isAgg130
  z53 := Tryd.sizeOf130
  v53 := Tryd.zeroValue130
  t171 := Tryd.underlying129
  a171 := Tryd.isAgg129
  z171 := Tryd.sizeOf129
  v171 := Tryd.zeroValue129
  t173 := Tryd.underlying133
  a173 := Tryd.isAgg133
  z173 := Tryd.sizeOf133
  v173 := Tryd.zeroValue133
  t212 := Tryd.underlying141
  a212 := Tryd.isAgg141
  z212 := Tryd.sizeOf141
  v212 := Tryd.zeroValue141
  t213 := Tryd.underlying143
  a213 := Tryd.isAgg143
  z213 := Tryd.sizeOf143
  t232 := Tryd.underlying148
  a232 := Tryd.isAgg148
  z232 := Tryd.sizeOf148
  v232 := Tryd.zeroValue148
  t233 := Tryd.underlying149
  a233 := Tryd.isAgg149
  z233 := Tryd.sizeOf149
  v233 := Tryd.zeroValue149
  g17 := by kernel_rfl
  g18 := by kernel_rfl
  g19 := by kernel_rfl }
open Go.RowKit Go.Sort Go.Lib in
theorem Tryd.internal_strconv_FormatInt_10_small (i : Nat) (hi : i < 100) (w : World) :
    Calls Tryd.prog 65 #[.int .i64 i, .int .i64 10] w fun e w' => e = .returned (.string ⟨(Lib.decDigits i).toArray⟩) ∧ w' = w := Any.internal_strconv_FormatInt_10_small Tryd.lays246 i hi w
def Tryd.laysM243_ren : Go.Shelf.Ren := ⟨fun | 243 => 48 | 246 => 65 | 283 => 73 | 284 => 74 | 285 => 75 | 286 => 76 | 129 => 83 | 317 => 82 | 318 => 84 | 319 => 85 | 320 => 86 | 337 => 87 | 338 => 88 | n => n, fun | 3 => 3 | 9 => 9 | 2 => 2 | 4 => 4 | 171 => 129 | 0 => 0 | 53 => 130 | 37 => 118 | 5 => 5 | 173 => 133 | 212 => 141 | 51 => 142 | 20 => 20 | 213 => 143 | 46 => 145 | 232 => 148 | 233 => 149 | n => n, fun | 17 => 0 | 18 => 1 | 19 => 2 | n => n⟩
theorem Tryd.laysM243 : Go.Proofs.LaysM.n243 Tryd.prog Tryd.laysM243_ren := {
  mixed := by kernel_rfl
  f129 := Tryd.func83.trans (congrArg some (by kernel_rfl))
  f243 := Tryd.func48.trans (congrArg some (by kernel_rfl))
  f246 := Tryd.func65.trans (congrArg some (by kernel_rfl))
  f283 := Tryd.func73.trans (congrArg some (by kernel_rfl))
  f284 := Tryd.func74.trans (congrArg some (by kernel_rfl))
  f285 := Tryd.func75.trans (congrArg some (by kernel_rfl))
  f286 := Tryd.func76.trans (congrArg some (by kernel_rfl))
  f317 := Tryd.func82.trans (congrArg some (by kernel_rfl))
  f318 := Tryd.func84.trans (congrArg some (by kernel_rfl))
  f319 := Tryd.func85.trans (congrArg some (by kernel_rfl))
  f320 := Tryd.func86.trans (congrArg some (by kernel_rfl))
  f337 := Tryd.func87.trans (congrArg some (by kernel_rfl))
  f338 := Tryd.func88.trans (congrArg some (by kernel_rfl))
  t0 := Tryd.underlying0
  a0 := Tryd.isAgg0
  z0 := Tryd.sizeOf0
  v0 := Tryd.zeroValue0
  t2 := Tryd.underlying2
  a2 := Tryd.isAgg2
  z2 := Tryd.sizeOf2
  v2 := Tryd.zeroValue2
  t3 := Tryd.underlying3
  a3 := Tryd.isAgg3
  z3 := Tryd.sizeOf3
  v3 := Tryd.zeroValue3
  t4 := Tryd.underlying4
  a4 := Tryd.isAgg4
  z4 := Tryd.sizeOf4
  v4 := Tryd.zeroValue4
  t5 := Tryd.underlying5
  a5 := Tryd.isAgg5
  z5 := Tryd.sizeOf5
  v5 := Tryd.zeroValue5
  t9 := Tryd.underlying9
  a9 := Tryd.isAgg9
  z9 := Tryd.sizeOf9
  v9 := Tryd.zeroValue9
  t20 := Tryd.underlying20
  a20 := Tryd.isAgg20
  z20 := Tryd.sizeOf20
  v20 := Tryd.zeroValue20
  t37 := Tryd.underlying118
  a37 := Tryd.isAgg118
  z37 := Tryd.sizeOf118
  v37 := Tryd.zeroValue118
  t46 := Tryd.underlying145
  a46 := Tryd.isAgg145
  z46 := Tryd.sizeOf145
  v46 := Tryd.zeroValue145
  t51 := Tryd.underlying142
  a51 := Tryd.isAgg142
  z51 := Tryd.sizeOf142
  v51 := Tryd.zeroValue142
  t53 := Tryd.underlying130
  a53 := Tryd.isAgg130
  z53 := Tryd.sizeOf130
  v53 := Tryd.zeroValue130
  t171 := Tryd.underlying129
  a171 := Tryd.isAgg129
  z171 := Tryd.sizeOf129
  v171 := Tryd.zeroValue129
  t173 := Tryd.underlying133
  a173 := Tryd.isAgg133
  z173 := Tryd.sizeOf133
  v173 := Tryd.zeroValue133
  t212 := Tryd.underlying141
  a212 := Tryd.isAgg141
  z212 := Tryd.sizeOf141
  v212 := Tryd.zeroValue141
  t213 := Tryd.underlying143
  a213 := Tryd.isAgg143
  z213 := Tryd.sizeOf143
  t232 := Tryd.underlying148
  a232 := Tryd.isAgg148
  z232 := Tryd.sizeOf148
  v232 := Tryd.zeroValue148
  t233 := Tryd.underlying149
  a233 := Tryd.isAgg149
  z233 := Tryd.sizeOf149
  v233 := Tryd.zeroValue149
  g17 := by kernel_rfl
  g18 := by kernel_rfl
  g19 := by kernel_rfl
  i0 := by kernel_rfl
  i2 := by kernel_rfl
  i3 := by kernel_rfl
  i4 := by kernel_rfl
  i5 := by kernel_rfl
  i9 := by kernel_rfl
  i20 := by kernel_rfl
  i37 := by kernel_rfl
  i46 := by kernel_rfl
  i51 := by kernel_rfl
  i53 := by kernel_rfl
  i171 := by kernel_rfl
  i173 := by kernel_rfl
  i212 := by kernel_rfl
  i232 := by kernel_rfl
  i233 := by kernel_rfl
  m17 := by kernel_rfl
  m18 := by kernel_rfl
  m19 := by kernel_rfl }
open Go.RowKit Go.Sort Go.Lib in
theorem Tryd.internal_strconv_Itoa (n : Int) (h0 : -9223372036854775808 ≤ n) (h1 : n ≤ 9223372036854775807) (w : World) (htab : Lib.TabIs Tryd.prog w "internal/strconv.uint64pow10" .u64 Lib.pow10Tab) :
    Calls Tryd.prog 48 #[.int .i64 n] w fun e w' => e = .returned (.string ⟨(Lib.itoa n).toArray⟩) ∧ ∃ k os, w' = grow (w.drewN k) os := Any.internal_strconv_Itoa Tryd.laysM243 n h0 h1 w htab
def Tryd.lays243_ren : Go.Shelf.Ren := ⟨fun | 243 => 48 | 246 => 65 | 283 => 73 | 284 => 74 | 285 => 75 | 286 => 76 | 129 => 83 | 317 => 82 | 318 => 84 | 319 => 85 | 320 => 86 | 337 => 87 | 338 => 88 | n => n, fun | 3 => 3 | 9 => 9 | 2 => 2 | 4 => 4 | 171 => 129 | 0 => 0 | 53 => 130 | 37 => 118 | 5 => 5 | 173 => 133 | 212 => 141 | 51 => 142 | 20 => 20 | 213 => 143 | 46 => 145 | 232 => 148 | 233 => 149 | n => n, fun | 17 => 0 | 18 => 1 | 19 => 2 | n => n⟩
theorem Tryd.lays243 : Go.Proofs.Lays.n243 Tryd.prog Tryd.lays243_ren := {
  mixed := by kernel_rfl
  f129 := Tryd.func83.trans (congrArg some (by kernel_rfl))
  f243 := Tryd.func48.trans (congrArg some (by kernel_rfl))
  f246 := Tryd.func65.trans (congrArg some (by kernel_rfl))
  f283 := Tryd.func73.trans (congrArg some (by kernel_rfl))
  f284 := Tryd.func74.trans (congrArg some (by kernel_rfl))
  f285 := Tryd.func75.trans (congrArg some (by kernel_rfl))
  f286 := Tryd.func76.trans (congrArg some (by kernel_rfl))
  f317 := Tryd.func82.trans (congrArg some (by kernel_rfl))
  f318 := Tryd.func84.trans (congrArg some (by kernel_rfl))
  f319 := Tryd.func85.trans (congrArg some (by kernel_rfl))
  f320 := Tryd.func86.trans (congrArg some (by kernel_rfl))
  f337 := Tryd.func87.trans (congrArg some (by kernel_rfl))
  f338 := Tryd.func88.trans (congrArg some (by kernel_rfl))
  t0 := Tryd.underlying0
  a0 := Tryd.isAgg0
  z0 := Tryd.sizeOf0
  v0 := Tryd.zeroValue0
  t2 := Tryd.underlying2
  a2 := Tryd.isAgg2
  z2 := Tryd.sizeOf2
  v2 := Tryd.zeroValue2
  t3 := Tryd.underlying3
  a3 := Tryd.isAgg3
  z3 := Tryd.sizeOf3
  v3 := Tryd.zeroValue3
  t4 := Tryd.underlying4
  a4 := Tryd.isAgg4
  z4 := Tryd.sizeOf4
  v4 := Tryd.zeroValue4
  t5 := Tryd.underlying5
  a5 := Tryd.isAgg5
  z5 := Tryd.sizeOf5
  v5 := Tryd.zeroValue5
  t9 := Tryd.underlying9
  a9 := Tryd.isAgg9
  z9 := Tryd.sizeOf9
  v9 := Tryd.zeroValue9
  t20 := Tryd.underlying20
  a20 := Tryd.isAgg20
  z20 := Tryd.sizeOf20
  v20 := Tryd.zeroValue20
  t37 := Tryd.underlying118
  a37 := Tryd.isAgg118
  z37 := Tryd.sizeOf118
  v37 := Tryd.zeroValue118
  t46 := Tryd.underlying145
  a46 := Tryd.isAgg145
  z46 := Tryd.sizeOf145
  v46 := Tryd.zeroValue145
  t51 := Tryd.underlying142
  a51 := Tryd.isAgg142
  z51 := Tryd.sizeOf142
  v51 := Tryd.zeroValue142
  t53 := Tryd.underlying130
  a53 := Tryd.isAgg130
  z53 := Tryd.sizeOf130
  v53 := Tryd.zeroValue130
  t171 := Tryd.underlying129
  a171 := Tryd.isAgg129
  z171 := Tryd.sizeOf129
  v171 := Tryd.zeroValue129
  t173 := Tryd.underlying133
  a173 := Tryd.isAgg133
  z173 := Tryd.sizeOf133
  v173 := Tryd.zeroValue133
  t212 := Tryd.underlying141
  a212 := Tryd.isAgg141
  z212 := Tryd.sizeOf141
  v212 := Tryd.zeroValue141
  t213 := Tryd.underlying143
  a213 := Tryd.isAgg143
  z213 := Tryd.sizeOf143
  t232 := Tryd.underlying148
  a232 := Tryd.isAgg148
  z232 := Tryd.sizeOf148
  v232 := Tryd.zeroValue148
  t233 := Tryd.underlying149
  a233 := Tryd.isAgg149
  z233 := Tryd.sizeOf149
  v233 := Tryd.zeroValue149
  g17 := by kernel_rfl
  g18 := by kernel_rfl
  g19 := by kernel_rfl }
open Go.RowKit Go.Sort Go.Lib in
theorem Tryd.internal_strconv_Itoa_small (i : Nat) (hi : i < 100) (w : World) :
    Calls Tryd.prog 48 #[.int .i64 i] w fun e w' => e = .returned (.string ⟨(Lib.decDigits i).toArray⟩) ∧ w' = w := Any.internal_strconv_Itoa_small Tryd.lays243 i hi w
def Tryd.laysM171_ren : Go.Shelf.Ren := ⟨fun | 171 => 25 | 243 => 48 | 246 => 65 | 283 => 73 | 284 => 74 | 285 => 75 | 286 => 76 | 129 => 83 | 317 => 82 | 318 => 84 | 319 => 85 | 320 => 86 | 337 => 87 | 338 => 88 | n => n, fun | 3 => 3 | 9 => 9 | 2 => 2 | 4 => 4 | 171 => 129 | 0 => 0 | 53 => 130 | 37 => 118 | 5 => 5 | 173 => 133 | 212 => 141 | 51 => 142 | 20 => 20 | 213 => 143 | 46 => 145 | 232 => 148 | 233 => 149 | n => n, fun | 17 => 0 | 18 => 1 | 19 => 2 | n => n⟩
theorem Tryd.laysM171 : Go.Proofs.LaysM.n171 Tryd.prog Tryd.laysM171_ren := {
  mixed := by kernel_rfl
  f129 := Tryd.func83.trans (congrArg some (by kernel_rfl))
  f171 := Tryd.func25.trans (congrArg some (by kernel_rfl))
  f243 := Tryd.func48.trans (congrArg some (by kernel_rfl))
  f246 := Tryd.func65.trans (congrArg some (by kernel_rfl))
  f283 := Tryd.func73.trans (congrArg some (by kernel_rfl))
  f284 := Tryd.func74.trans (congrArg some (by kernel_rfl))
  f285 := Tryd.func75.trans (congrArg some (by kernel_rfl))
  f286 := Tryd.func76.trans (congrArg some (by kernel_rfl))
  f317 := Tryd.func82.trans (congrArg some (by kernel_rfl))
  f318 := Tryd.func84.trans (congrArg some (by kernel_rfl))
  f319 := Tryd.func85.trans (congrArg some (by kernel_rfl))
  f320 := Tryd.func86.trans (congrArg some (by kernel_rfl))
  f337 := Tryd.func87.trans (congrArg some (by kernel_rfl))
  f338 := Tryd.func88.trans (congrArg some (by kernel_rfl))
  t0 := Tryd.underlying0
  a0 := Tryd.isAgg0
  z0 := Tryd.sizeOf0
  v0 := Tryd.zeroValue0
  t2 := Tryd.underlying2
  a2 := Tryd.isAgg2
  z2 := Tryd.sizeOf2
  v2 := Tryd.zeroValue2
  t3 := Tryd.underlying3
  a3 := Tryd.isAgg3
  z3 := Tryd.sizeOf3
  v3 := Tryd.zeroValue3
  t4 := Tryd.underlying4
  a4 := Tryd.isAgg4
  z4 := Tryd.sizeOf4
  v4 := Tryd.zeroValue4
  t5 := Tryd.underlying5
  a5 := Tryd.isAgg5
  z5 := Tryd.sizeOf5
  v5 := Tryd.zeroValue5
  t9 := Tryd.underlying9
  a9 := Tryd.isAgg9
  z9 := Tryd.sizeOf9
  v9 := Tryd.zeroValue9
  t20 := Tryd.underlying20
  a20 := Tryd.isAgg20
  z20 := Tryd.sizeOf20
  v20 := Tryd.zeroValue20
  t37 := Tryd.underlying118
  a37 := Tryd.isAgg118
  z37 := Tryd.sizeOf118
  v37 := Tryd.zeroValue118
  t46 := Tryd.underlying145
  a46 := Tryd.isAgg145
  z46 := Tryd.sizeOf145
  v46 := Tryd.zeroValue145
  t51 := Tryd.underlying142
  a51 := Tryd.isAgg142
  z51 := Tryd.sizeOf142
  v51 := Tryd.zeroValue142
  t53 := Tryd.underlying130
  a53 := Tryd.isAgg130
  z53 := Tryd.sizeOf130
  v53 := Tryd.zeroValue130
  t171 := Tryd.underlying129
  a171 := Tryd.isAgg129
  z171 := Tryd.sizeOf129
  v171 := Tryd.zeroValue129
  t173 := Tryd.underlying133
  a173 := Tryd.isAgg133
  z173 := Tryd.sizeOf133
  v173 := Tryd.zeroValue133
  t212 := Tryd.underlying141
  a212 := Tryd.isAgg141
  z212 := Tryd.sizeOf141
  v212 := Tryd.zeroValue141
  t213 := Tryd.underlying143
  a213 := Tryd.isAgg143
  z213 := Tryd.sizeOf143
  t232 := Tryd.underlying148
  a232 := Tryd.isAgg148
  z232 := Tryd.sizeOf148
  v232 := Tryd.zeroValue148
  t233 := Tryd.underlying149
  a233 := Tryd.isAgg149
  z233 := Tryd.sizeOf149
  v233 := Tryd.zeroValue149
  g17 := by kernel_rfl
  g18 := by kernel_rfl
  g19 := by kernel_rfl
  i0 := by kernel_rfl
  i2 := by kernel_rfl
  i3 := by kernel_rfl
  i4 := by kernel_rfl
  i5 := by kernel_rfl
  i9 := by kernel_rfl
  i20 := by kernel_rfl
  i37 := by kernel_rfl
  i46 := by kernel_rfl
  i51 := by kernel_rfl
  i53 := by kernel_rfl
  i171 := by kernel_rfl
  i173 := by kernel_rfl
  i212 := by kernel_rfl
  i232 := by kernel_rfl
  i233 := by kernel_rfl
  m17 := by kernel_rfl
  m18 := by kernel_rfl
  m19 := by kernel_rfl }
open Go.RowKit Go.Sort Go.Lib in
theorem Tryd.strconv_Itoa (n : Int) (h0 : -9223372036854775808 ≤ n) (h1 : n ≤ 9223372036854775807) (w : World) (htab : Lib.TabIs Tryd.prog w "internal/strconv.uint64pow10" .u64 Lib.pow10Tab) :
    Calls Tryd.prog 25 #[.int .i64 n] w fun e w' => e = .returned (.string ⟨(Lib.itoa n).toArray⟩) ∧ ∃ k os, w' = grow (w.drewN k) os := Any.strconv_Itoa Tryd.laysM171 n h0 h1 w htab
def Tryd.lays171_ren : Go.Shelf.Ren := ⟨fun | 171 => 25 | 243 => 48 | 246 => 65 | 283 => 73 | 284 => 74 | 285 => 75 | 286 => 76 | 129 => 83 | 317 => 82 | 318 => 84 | 319 => 85 | 320 => 86 | 337 => 87 | 338 => 88 | n => n, fun | 3 => 3 | 9 => 9 | 2 => 2 | 4 => 4 | 171 => 129 | 0 => 0 | 53 => 130 | 37 => 118 | 5 => 5 | 173 => 133 | 212 => 141 | 51 => 142 | 20 => 20 | 213 => 143 | 46 => 145 | 232 => 148 | 233 => 149 | n => n, fun | 17 => 0 | 18 => 1 | 19 => 2 | n => n⟩
theorem Tryd.lays171 : Go.Proofs.Lays.n171 Tryd.prog Tryd.lays171_ren := {
  mixed := by kernel_rfl
  f129 := Tryd.func83.trans (congrArg some (by kernel_rfl))
  f171 := Tryd.func25.trans (congrArg some (by kernel_rfl))
  f243 := Tryd.func48.trans (congrArg some (by kernel_rfl))
  f246 := Tryd.func65.trans (congrArg some (by kernel_rfl))
  f283 := Tryd.func73.trans (congrArg some (by kernel_rfl))
  f284 := Tryd.func74.trans (congrArg some (by kernel_rfl))
  f285 := Tryd.func75.trans (congrArg some (by kernel_rfl))
  f286 := Tryd.func76.trans (congrArg some (by kernel_rfl))
  f317 := Tryd.func82.trans (congrArg some (by kernel_rfl))
  f318 := Tryd.func84.trans (congrArg some (by kernel_rfl))
  f319 := Tryd.func85.trans (congrArg some (by kernel_rfl))
  f320 := Tryd.func86.trans (congrArg some (by kernel_rfl))
  f337 := Tryd.func87.trans (congrArg some (by kernel_rfl))
  f338 := Tryd.func88.trans (congrArg some (by kernel_rfl))
  t0 := Tryd.underlying0
  a0 := Tryd.isAgg0
  z0 := Tryd.sizeOf0
  v0 := Tryd.zeroValue0
  t2 := Tryd.underlying2
  a2 := Tryd.isAgg2
  z2 := Tryd.sizeOf2
  v2 := Tryd.zeroValue2
  t3 := Tryd.underlying3
  a3 := Tryd.isAgg3
  z3 := Tryd.sizeOf3
  v3 := Tryd.zeroValue3
  t4 := Tryd.underlying4
  a4 := Tryd.isAgg4
  z4 := Tryd.sizeOf4
  v4 := Tryd.zeroValue4
  t5 := Tryd.underlying5
  a5 := Tryd.isAgg5
  z5 := Tryd.sizeOf5
  v5 := Tryd.zeroValue5
  t9 := Tryd.underlying9
  a9 := Tryd.isAgg9
  z9 := Tryd.sizeOf9
  v9 := Tryd.zeroValue9
  t20 := Tryd.underlying20
  a20 := Tryd.isAgg20
  z20 := Tryd.sizeOf20
  v20 := Tryd.zeroValue20
  t37 := Tryd.underlying118
  a37 := Tryd.isAgg118
  z37 := Tryd.sizeOf118
  v37 := Tryd.zeroValue118
  t46 := Tryd.underlying145
  a46 := Tryd.isAgg145
  z46 := Tryd.sizeOf145
  v46 := Tryd.zeroValue145
  t51 := Tryd.underlying142
  a51 := Tryd.isAgg142
  z51 := Tryd.sizeOf142
  v51 := Tryd.zeroValue142
  t53 := Tryd.underlying130
  a53 := Tryd.isAgg130
  z53 := Tryd.sizeOf130
  v53 := Tryd.zeroValue130
  t171 := Tryd.underlying129
  a171 := Tryd.isAgg129
  z171 := Tryd.sizeOf129
  v171 := Tryd.zeroValue129
  t173 := Tryd.underlying133
  a173 := Tryd.isAgg133
  z173 := Tryd.sizeOf133
  v173 := Tryd.zeroValue133
  t212 := Tryd.underlying141
  a212 := Tryd.isAgg141
  z212 := Tryd.sizeOf141
  v212 := Tryd.zeroValue141
  t213 := Tryd.underlying143
  a213 := Tryd.isAgg143
  z213 := Tryd.sizeOf143
  t232 := Tryd.underlying148
  a232 := Tryd.isAgg148
  z232 := Tryd.sizeOf148
  v232 := Tryd.zeroValue148
  t233 := Tryd.underlying149
  a233 := Tryd.isAgg149
  z233 := Tryd.sizeOf149
  v233 := Tryd.zeroValue149
  g17 := by kernel_rfl
  g18 := by kernel_rfl
  g19 := by kernel_rfl }
open Go.RowKit Go.Sort Go.Lib in
theorem Tryd.strconv_Itoa_small (i : Nat) (hi : i < 100) (w : World) :
    Calls Tryd.prog 25 #[.int .i64 i] w fun e w' => e = .returned (.string ⟨(Lib.decDigits i).toArray⟩) ∧ w' = w := Any.strconv_Itoa_small Tryd.lays171 i hi w
end Go.Proofs
end
section
set_option maxRecDepth 100000
namespace Go.Proofs.Tw
open Go Go.Proofs.AM Go.Proofs Go.RowKit Go.Lib
theorem clone22_nil (n c : Nat) (w : World) : Calls Tryd.prog 22 #[.slice none n c] w fun e w' => e = .returned (.slice none 0 0) ∧ w' = w := by
  have q23 : ∀ (w : World) (a : Option Addr) (n c n' c' : Nat), (binOp .eql 23 (.slice a n c) (.slice none n' c')).run Tryd.prog w = .ok (.bool a.isNone) w := fun w a n c n' c' => Lib.run_eql_slice_nil w _ _ a n c n' c' Tryd.underlying23
  go_enter Tryd.func22, Tryd.ntmps22
  go_wp2
  go_ret
  exact ⟨rfl, rfl⟩
theorem clone22_zero (a : Addr) (c : Nat) (w : World) : Calls Tryd.prog 22 #[.slice (some a) 0 c] w fun e w' => e = .returned (.slice (some ⟨w.heap.size, 0, none⟩) 0 0) ∧ ∃ o, w' = w.alloc o := by
  have q23 : ∀ (w : World) (a : Option Addr) (n c n' c' : Nat), (binOp .eql 23 (.slice a n c) (.slice none n' c')).run Tryd.prog w = .ok (.bool a.isNone) w := fun w a n c n' c' => Lib.run_eql_slice_nil w _ _ a n c n' c' Tryd.underlying23
  have u23 : ∀ w, Sem.run Tryd.prog (underlying 23) w = .ok (TypeDesc.slice 37) w := run_underlying Tryd.underlying23
  go_enter Tryd.func22, Tryd.ntmps22
  go_wp2
  go_ret
  exact ⟨rfl, _, rfl⟩
theorem clone23_nil (n c : Nat) (w : World) : Calls Tryd.prog 23 #[.slice none n c] w fun e w' => e = .returned (.slice none 0 0) ∧ w' = w := by
  have q23 : ∀ (w : World) (a : Option Addr) (n c n' c' : Nat), (binOp .eql 35 (.slice a n c) (.slice none n' c')).run Tryd.prog w = .ok (.bool a.isNone) w := fun w a n c n' c' => Lib.run_eql_slice_nil w _ _ a n c n' c' Tryd.underlying35
  go_enter Tryd.func23, Tryd.ntmps23
  go_wp2
  go_ret
  exact ⟨rfl, rfl⟩
theorem clone23_zero (a : Addr) (c : Nat) (w : World) : Calls Tryd.prog 23 #[.slice (some a) 0 c] w fun e w' => e = .returned (.slice (some ⟨w.heap.size, 0, none⟩) 0 0) ∧ ∃ o, w' = w.alloc o := by
  have q23 : ∀ (w : World) (a : Option Addr) (n c n' c' : Nat), (binOp .eql 35 (.slice a n c) (.slice none n' c')).run Tryd.prog w = .ok (.bool a.isNone) w := fun w a n c n' c' => Lib.run_eql_slice_nil w _ _ a n c n' c' Tryd.underlying35
  have u23 : ∀ w, Sem.run Tryd.prog (underlying 35) w = .ok (TypeDesc.slice 68) w := run_underlying Tryd.underlying35
  go_enter Tryd.func23, Tryd.ntmps23
  go_wp2
  go_ret
  exact ⟨rfl, _, rfl⟩
theorem clone26_nil (n c : Nat) (w : World) : Calls Tryd.prog 26 #[.slice none n c] w fun e w' => e = .returned (.slice none 0 0) ∧ w' = w := by
  have q23 : ∀ (w : World) (a : Option Addr) (n c n' c' : Nat), (binOp .eql 43 (.slice a n c) (.slice none n' c')).run Tryd.prog w = .ok (.bool a.isNone) w := fun w a n c n' c' => Lib.run_eql_slice_nil w _ _ a n c n' c' Tryd.underlying43
  go_enter Tryd.func26, Tryd.ntmps26
  go_wp2
  go_ret
  exact ⟨rfl, rfl⟩
theorem clone26_zero (a : Addr) (c : Nat) (w : World) : Calls Tryd.prog 26 #[.slice (some a) 0 c] w fun e w' => e = .returned (.slice (some ⟨w.heap.size, 0, none⟩) 0 0) ∧ ∃ o, w' = w.alloc o := by
  have q23 : ∀ (w : World) (a : Option Addr) (n c n' c' : Nat), (binOp .eql 43 (.slice a n c) (.slice none n' c')).run Tryd.prog w = .ok (.bool a.isNone) w := fun w a n c n' c' => Lib.run_eql_slice_nil w _ _ a n c n' c' Tryd.underlying43
  have u23 : ∀ w, Sem.run Tryd.prog (underlying 43) w = .ok (TypeDesc.slice 9) w := run_underlying Tryd.underlying43
  go_enter Tryd.func26, Tryd.ntmps26
  go_wp2
  go_ret
  exact ⟨rfl, _, rfl⟩
theorem Step.bigger {g : G} {H : List AObj} {w w' : World} (hw : WF g H w) (hsz : w.heap.size ≤ w'.heap.size) (hall : ∀ b, b < w.heap.size → w'.heap[b]? = w.heap[b]?) (io : w'.os = w.os ∧ w'.output = w.output) : Step g H w g H w' [] := by
  refine ⟨G.le.refl g,⟨fun b i x hx => ?_, hw.lt, fun o l hl => Nat.lt_of_lt_of_le (hw.blk o l hl) hsz, hw.st, fun o l x hb => ?_, hw.priv, hw.inj, hw.whole.keep rfl rfl io (fun b hb _ => hall b hb) fun o l hl => .inr ⟨o, l, hl, rfl⟩⟩,
    ⟨hsz, fun b hb _ => hall b hb⟩, fun _ _ _ => rfl, Nat.le_refl _, fun _ l' hl => .inr ⟨l', hl, rfl⟩, fun _ _ _ => rfl⟩
  · rw [cell_of_heap (hall b (hw.perm_lt hx))]; exact hw.perm b i x hx
  · exact (hw.obj o l x hb).keep (G.le.refl g) (hall l.b (hw.blk o l hb.loc))
def clonePrim : List AV → Option AV := fun
  | [.sl _ []] => some (.sl false [])
  | _ => none
def itoaPrim : List AV → Option AV := fun
  | [.int .i64 n] => if 0 ≤ n ∧ n < 1000000 then some (.str (dec n.toNat)) else none
  | _ => none
theorem lrel_one {g : G} {a : AV} {xs : List Value} (h : LRel g [a] xs) : ∃ x, xs = [x] ∧ VRel g a x := by
  obtain ⟨h1, h2⟩ := h
  match xs, h1 with
  | [x], _ => exact ⟨x, rfl, h2 0 a x rfl rfl⟩
theorem alloc_bigger {g : G} {H : List AObj} {w : World} (o : Obj) (hw : WF g H w) : Step g H w g H (w.alloc o) [] := by
  have e : (w.alloc o).heap = w.heap.push o := rfl
  exact Step.bigger hw (by rw [e, Array.size_push]; omega) (fun b hb => alloc_heap_old e hb) ⟨rfl, rfl⟩
theorem clone_ok {glob : Nat → Option (List AV)} {f : Nat} (hf : ∃ F, Tryd.prog.funcs[f]? = some F ∧ (F.name == "runtime.NumGoroutine") = false ∧ F.body.isNone = false)
    (hn : ∀ n c w, Calls Tryd.prog f #[.slice none n c] w fun e w' => e = .returned (.slice none 0 0) ∧ w' = w)
    (hz : ∀ a c w, Calls Tryd.prog f #[.slice (some a) 0 c] w fun e w' => e = .returned (.slice (some ⟨w.heap.size, 0, none⟩) 0 0) ∧ ∃ o, w' = w.alloc o) :
    CallOk Tryd.prog glob fun f' args H => if f' = f then (clonePrim args).map (·, H, []) else none := by
  intro f' args H av H' wr h g w xs hw hg hx
  dsimp only at h
  split at h
  · rename_i e
    subst e
    unfold clonePrim at h
    split at h
    · rename_i fl
      simp only [Option.map_some, Option.some.injEq, Prod.mk.injEq] at h
      obtain ⟨rfl, rfl, rfl⟩ := h
      obtain ⟨x, rfl, hv⟩ := lrel_one hx
      refine ⟨hf, ?_⟩
      have hcase : x = .slice none 0 0 ∨ ∃ a c, x = .slice (some a) 0 c := by
        cases hv with
        | slNil => exact .inl rfl
        | sl => exact .inr ⟨_, _, rfl⟩
      rcases hcase with rfl | ⟨a, c, rfl⟩
      · refine (hn 0 0 w).mono ?_
        rintro e w' ⟨rfl, rfl⟩
        exact ⟨g, .refl hw, .slNil _⟩
      · refine (hz a c w).mono ?_
        rintro e w' ⟨rfl, o, rfl⟩
        refine ⟨g, alloc_bigger o hw, ?_⟩
        exact VRel.sl false [] w.heap.size 0 0 0 (Nat.le_refl _) (fun h => by cases h) (fun r h => by cases h) (fun r h => by cases h) (fun i j h => by simp at h) (fun i j r a x h => by simp at h)
    · cases h
  · cases h
theorem dec_eq : ∀ (k n : Nat), n < k → dec n = Lib.decDigits n
  | 0, n, h => by omega
  | k + 1, n, h => by
    rw [dec, Lib.decDigits]
    by_cases h1 : n < 10
    · rw [if_pos h1, dif_pos h1]
    · rw [if_neg h1, dif_neg h1, dec_eq k (n / 10) (by omega)]
theorem tab_of {tab : Nat} {g : G} {H : List AObj} {w : World} (hw : WF g H w) (hgl : Tryd.prog.globalNamed "internal/strconv.uint64pow10" = some tab)
    (hg : GlobOk (fun n => if n = tab then some (Lib.pow10Tab.map fun z => AV.int .u64 z) else none) g) : Lib.TabIs Tryd.prog w "internal/strconv.uint64pow10" .u64 Lib.pow10Tab := by
  obtain ⟨h1, cs, t, fz, h2, h3⟩ := hg tab (Lib.pow10Tab.map fun z => AV.int .u64 z) (by simp)
  obtain ⟨h4, _⟩ := hw.whole.blocks tab _ h2
  obtain ⟨b, off, vs, e, hl, hr, hc⟩ := readCells_sound hw (k := 20) (pv := .ep (Lib.pow10Tab.map fun z => AV.int .u64 z) 0) (cs := Lib.pow10Tab.map fun z => AV.int .u64 z) (by
    simp only [readCells]
    rw [if_pos (by simp [Lib.pow10Tab_length])]
    rw [List.drop_zero, List.take_of_length_le (by simp [Lib.pow10Tab_length])]) h1
  cases e
  unfold Lib.TabIs World.var?
  rw [hgl]
  simp only [Option.bind_some, h4, Option.some.injEq]
  apply Array.ext_getElem?
  intro j
  by_cases hj : j < 20
  · have hlen : vs.length = 20 := by rw [← hr.1]; simp [Lib.pow10Tab_length]
    have hv : vs[j]? = some vs[j] := List.getElem?_eq_getElem (by omega)
    have hcell := hc j _ hv
    have ha : (Lib.pow10Tab.map fun z => AV.int .u64 z)[j]? = some (AV.int .u64 (Lib.pow10Tab[j]'(by rw [Lib.pow10Tab_length]; exact hj))) := by
      rw [List.getElem?_map, List.getElem?_eq_getElem (by rw [Lib.pow10Tab_length]; exact hj)]; rfl
    have hrel := hr.2 j _ _ ha hv
    have hx : cs[j]? = some vs[j] := by simpa [World.cell?, h4] using hcell
    rw [hx]
    simp only [List.getElem?_toArray, List.getElem?_map, List.getElem?_eq_getElem (show j < Lib.pow10Tab.length by rw [Lib.pow10Tab_length]; exact hj), Option.map_some, Option.some.injEq]
    generalize vs[j] = v at hrel
    cases hrel
    rfl
  · rw [Array.getElem?_eq_none (by rw [h3]; simp [Lib.pow10Tab_length]; omega), Array.getElem?_eq_none (by simp [Lib.pow10Tab_length]; omega)]
theorem itoa_ok {tab : Nat} (hgl : Tryd.prog.globalNamed "internal/strconv.uint64pow10" = some tab) :
    CallOk Tryd.prog (fun n => if n = tab then some (Lib.pow10Tab.map fun z => AV.int .u64 z) else none) fun f' args H => if f' = 25 then (itoaPrim args).map (·, H, []) else none := by
  intro f' args H av H' wr h g w xs hw hg hx
  dsimp only at h
  split at h
  · rename_i e
    subst e
    unfold itoaPrim at h
    split at h
    · rename_i n
      split at h
      · rename_i hn
        simp only [Option.map_some, Option.some.injEq, Prod.mk.injEq] at h
        obtain ⟨rfl, rfl, rfl⟩ := h
        obtain ⟨x, rfl, hv⟩ := lrel_one hx
        cases hv
        refine ⟨⟨Tryd.f25, Tryd.func25, by kernel_rfl, by kernel_rfl⟩, ?_⟩
        refine (Tryd.strconv_Itoa n (by omega) (by omega) w (tab_of hw hgl hg)).mono ?_
        rintro e w' ⟨rfl, k, os, rfl⟩
        refine ⟨g, Step.bigger hw (by simp [Go.Sort.grow]) (fun b hb => ?_) ⟨rfl, rfl⟩, ?_⟩
        · simp only [Go.Sort.grow, World.heap_drewN]
          rw [Array.getElem?_append_left hb]
        · have e : dec n.toNat = (⟨(Lib.itoa n).toArray⟩ : ByteArray).data.toList := by
            rw [dec_eq _ _ (Nat.lt_succ_self _)]
            simp only [Lib.itoa]
            rw [if_neg (by omega)]
          rw [e]
          exact VRel.str _
      · cases h
    · cases h
  · cases h
end Go.Proofs.Tw
end
section
open Nat renaming reduceBEq → NB, reduceAdd → NA, reduceSub → NS, reduceMul → NM, reduceLT → NL, reduceLeDiff → ND, reduceEqDiff → NE
open Int renaming reduceLT → IL, reduceLE → ID, reduceToNat → IT, reduceEq → IE, reduceBEq → IB, reduceBNe → IN, reduceAdd → IA, reduceSub → IS, reduceNeg → IM
open Bool renaming not_true → BT, not_false → BF
set_option linter.unusedVariables false
set_option maxRecDepth 8000
namespace Go.Proofs.AM
open Go
theorem branch_join {A : AProg} {N : Nat} {c : Ctx} {b : Bool} {x1 x2 rest : ACode} {ρ : SEnv} {H : List AObj} {wr : List Nat} {Q : AExit → SEnv → List AObj → List Nat → Prop} {t1 t2 t3 tg} {W : List Nat} (P : SEnv → List AObj → List Nat → Prop)
    (hW : dsts x1 ++ dsts x2 = W) (h1 : b = true → wc A N c x1 ρ H wr (cutQ P ⟨⟩) ⟨⟩) (h2 : b = false → wc A N c x2 ρ H wr (cutQ P ⟨⟩) ⟨⟩)
    (hr : ∀ ρ' H' wr', P ρ' H' wr' → (∀ t, W.contains t = false → ρ' t = ρ t) → wc A N c rest ρ' H' wr' Q ⟨⟩) :
    branch b (wc A N c x1 ρ H wr (thenQ A N c rest Q t1) t2) (wc A N c x2 ρ H wr (thenQ A N c rest Q t1) t3) tg := by
  have sub : ∀ (V : List Nat) (ρ' : SEnv), (∀ t ∈ V, t ∈ W) → (∀ t, V.contains t = false → ρ' t = ρ t) → ∀ t, W.contains t = false → ρ' t = ρ t := fun V ρ' hs h => SlFr.mono h hs
  refine branch_intro (fun hb => ?_) (fun hb => ?_)
  · exact wc_cut (W := dsts x1) P rfl (h1 hb) fun ρ' H' wr' hP hf => hr ρ' H' wr' hP (sub _ ρ' (fun t ht => by rw [← hW]; exact List.mem_append_left _ ht) hf)
  · exact wc_cut (W := dsts x2) P rfl (h2 hb) fun ρ' H' wr' hP hf => hr ρ' H' wr' hP (sub _ ρ' (fun t ht => by rw [← hW]; exact List.mem_append_right _ ht) hf)
theorem box_spec {A : AProg} {g : String → Nat} (h : Has A g "dactyl/dactylref23.box" (dactylref23_box g)) {x y w hh : Int} (hx : 0 ≤ x ∧ x ≤ 1000) (hy : 0 ≤ y ∧ y ≤ 1000) (hw : 0 ≤ w ∧ w ≤ 1000) (hh0 : 0 ≤ hh ∧ hh ≤ 1000) (H : List AObj) :
    callI A (g "dactyl/dactylref23.box") [vi x, vi y, vi w, vi hh] H = some (.sl false ([(x, y), (x + w, y), (x + w, y + hh), (x, y + hh)].map encPoint), H, []) := by
  have h1 : IntKind.i64.wrap (x + w) = x + w := wrap_i64 (by omega) (by omega)
  have h2 : IntKind.i64.wrap (y + hh) = y + hh := wrap_i64 (by omega) (by omega)
  refine h.call (by simp [dactylref23_box]) (by kernel_rfl) ?_
  simp only [dactylref23_box]
  simp only [go_sem, ↓reduceIte, NB, NA, NL, ND, h1, h2, encPoint]
abbrev P4 (x y w h : Int) : List (Int × Int) := [(x, y), (x + w, y), (x + w, y + h), (x, y + h)]
theorem p4_ok {x y w h : Int} (hx : 0 ≤ x ∧ x ≤ 1000) (hy : 0 ≤ y ∧ y ≤ 1000) (hw : 0 ≤ w ∧ w ≤ 1000) (hh0 : 0 ≤ h ∧ h ≤ 1000) {k : Int} (hk : 0 ≤ k ∧ k ≤ 2) : (Shape.mk k (P4 x y w h)).Ok := by
  refine ⟨small_ok hk.1 (by show k ≤ 1000000; omega), by simp, ?_⟩
  intro p hp
  simp only [List.mem_cons, List.not_mem_nil, or_false] at hp
  rcases hp with rfl | rfl | rfl | rfl
  · exact ⟨small_ok hx.1 (by omega), small_ok hy.1 (by omega)⟩
  · exact ⟨small_ok (by show 0 ≤ x + w; omega) (by show x + w ≤ 1000000; omega), small_ok hy.1 (by omega)⟩
  · exact ⟨small_ok (by show 0 ≤ x + w; omega) (by show x + w ≤ 1000000; omega), small_ok (by show 0 ≤ y + h; omega) (by show y + h ≤ 1000000; omega)⟩
  · exact ⟨small_ok hx.1 (by omega), small_ok (by show 0 ≤ y + h; omega) (by show y + h ≤ 1000000; omega)⟩
set_option maxHeartbeats 6400000 in
theorem figure_gen {A : AProg} {g : String → Nat} (h : Has A g "(*dactyl/dactylref23.Maker).Figure" (dactylref23_Maker_Figure g)) (ht : SpecTake A g)
    (hbx : ∀ {x y w hh : Int}, (0 ≤ x ∧ x ≤ 1000) → (0 ≤ y ∧ y ≤ 1000) → (0 ≤ w ∧ w ≤ 1000) → (0 ≤ hh ∧ hh ≤ 1000) → ∀ H, callI A (g "dactyl/dactylref23.box") [vi x, vi y, vi w, vi hh] H = some (.sl false ((P4 x y w hh).map encPoint), H, [])) :
    GenSpec A (g "(*dactyl/dactylref23.Maker).Figure") [] IsFigure := by
  refine h.gen (by simp [dactylref23_Maker_Figure]) (fun n => by kernel_rfl) ?_
  intro l i o v H hl hlt ho
  have hne : ∀ k, (H.length + k == o) = false := fun k => by simp; omega
  simp only [dactylref23_Maker_Figure]
  simp only [go_sem, ↓reduceIte, NB, NA, NL, ND, NE]
  refine wc_draw' (keep := dactylref23_Maker_Figure_k0) (by rfl) (by rfl) ?_
  simp only [go_sem, ↓reduceIte, NB, NA, NL, ND, NE, dactylref23_Maker_Figure_k0]
  refine gen_callD (take_gen ht (m := 4) (by decide)) hl (i := i) (by simp only [go_sem, old_get, hlt, ho]) ?_
  rintro val i1 ⟨x1, rfl, hx0, hx1⟩
  have w1 : IntKind.i64.wrap (24 + x1) = 24 + x1 := wrap_i64 (by omega) (by omega)
  simp only [go_sem, ↓reduceIte, NA, hlt, old_set, w1]
  refine gen_callD (take_gen ht (m := 9) (by decide)) hl (i := i1) (by simp only [go_sem, old_get_set, hlt]) ?_
  rintro val i2 ⟨x2, rfl, hx2, hx3⟩
  have w2 : IntKind.i64.wrap (30 + x2) = 30 + x2 := wrap_i64 (by omega) (by omega)
  have hb1 := fun H => hbx (x := 2) (y := 2) (w := 24 + x1) (hh := 30 + x2) (by decide) (by decide) (by omega) (by omega) H
  simp only [go_sem, ↓reduceIte, NB, NA, NM, NL, ND, NE, BT, BF, hlt, old_set_set, w2, hb1, roomy, logOk, apartL, hne, orderOk_intro]
  refine gen_call (take_gen ht (m := 3) (by decide)) hl (i := i2) (by simp only [go_sem, old_get_set, hlt]) ?_
  rintro val i3 ⟨x3, rfl, hx4, hx5⟩
  simp only [go_sem, ↓reduceIte, hlt, old_set_set]
  have s1 : (Shape.mk 2 (P4 2 2 (24 + x1) (30 + x2))).Ok := p4_ok (by decide) (by decide) (by omega) (by omega) (by decide)
  refine branch_join (W := [23, 24, 25, 26, 27, 28, 29, 30, 31, 32, 33, 34, 35, 36]) (fun _ H1 wr => wr = [o] ∧ ∃ i' o5, ∃ S : List Shape, 1 ≤ S.length ∧ S.length ≤ 2 ∧ (∀ a ∈ S, a.Ok) ∧
    H1 = H.set o (.box v (makerCells l i')) ++ [.gone 0, .gone 0, .box 1 [vi 0, vi 0, .sl true []], .box 1 [vi 60, vi 50, .sr (H.length + 4) 1 S.length], .vec 1 2 (S.map encShape), o5, .gone 0, .gone 0, .gone 0]) (by rfl) (fun hb => ?_) (fun hb => ?_) ?_
  · refine wc_draw' (keep := dactylref23_Maker_Figure_k1) (by rfl) (by rfl) ?_
    simp only [go_sem, ↓reduceIte, NB, NA, NL, ND, NE, dactylref23_Maker_Figure_k1]
    refine gen_callD (take_gen ht (m := 5) (by decide)) hl (i := i3) (by simp only [go_sem, old_get_set, hlt]) ?_
    rintro val i4 ⟨x4, rfl, hx6, hx7⟩
    have w4 : IntKind.i64.wrap (10 + x4) = 10 + x4 := wrap_i64 (by omega) (by omega)
    simp only [go_sem, ↓reduceIte, NA, hlt, old_set_set, w4]
    refine gen_callD (take_gen ht (m := 8) (by decide)) hl (i := i4) (by simp only [go_sem, old_get_set, hlt]) ?_
    rintro val i5 ⟨x5, rfl, hx8, hx9⟩
    have w5 : IntKind.i64.wrap (12 + x5) = 12 + x5 := wrap_i64 (by omega) (by omega)
    simp only [go_sem, ↓reduceIte, NB, NA, NM, ND, BT, BF, hlt, old_set_set, w5, roomy, logOk, apartL, hne, orderOk_intro]
    refine ⟨i5, _, [Shape.mk 2 (P4 2 2 (24 + x1) (30 + x2)), Shape.mk 0 [(10 + x4, 12 + x5)]], by simp, by simp, ?_, rfl⟩
    intro a ha
    simp only [List.mem_cons, List.not_mem_nil, or_false] at ha
    rcases ha with rfl | rfl
    · exact s1
    · exact ⟨small_ok (by show (0:Int) ≤ 0; decide) (by show (0:Int) ≤ 1000000; decide), by simp, fun q hq => by
        simp only [List.mem_cons, List.not_mem_nil, or_false] at hq
        subst hq
        exact ⟨small_ok (by show 0 ≤ 10 + x4; omega) (by show 10 + x4 ≤ 1000000; omega), small_ok (by show 0 ≤ 12 + x5; omega) (by show 12 + x5 ≤ 1000000; omega)⟩⟩
  · simp only [go_sem]
    exact ⟨i3, _, [Shape.mk 2 (P4 2 2 (24 + x1) (30 + x2))], by simp, by simp, by intro a ha; simp only [List.mem_cons, List.not_mem_nil, or_false] at ha; subst ha; exact s1, rfl⟩
  rintro ρ2 H2 wr2 ⟨rfl, i6, o5, S, hS1, hS2, hS3, rfl⟩ hf2
  have g0 : ρ2 0 = .ptr o v 0 := by rw [hf2 0 (by decide)]; simp only [go_sem, NB]
  have g2 : ρ2 2 = .ptr (H.length + 2) 1 0 := by rw [hf2 2 (by decide)]; simp only [go_sem, NB]
  have g3 : ρ2 3 = .ptr (H.length + 3) 1 0 := by rw [hf2 3 (by decide)]; simp only [go_sem, NB]
  have g94 : ρ2 94 = .undef := by rw [hf2 94 (by decide)]; simp only [go_sem, NB]
  simp only [go_sem, ↓reduceIte, NB, NE, g0]
  refine gen_call (take_gen ht (m := 4) (by decide)) hl (i := i6) (by simp only [go_sem, old_get_set, hlt]) ?_
  rintro val i7 ⟨x6, rfl, hx10, hx11⟩
  have w6 : IntKind.i64.wrap (36 + x6) = 36 + x6 := wrap_i64 (by omega) (by omega)
  simp only [go_sem, ↓reduceIte, hlt, old_set_set, w6]
  refine gen_call (take_gen ht (m := 2) (by decide)) hl (i := i7) (by simp only [go_sem, old_get_set, hlt]) ?_
  rintro val i8 ⟨x7, rfl, hx12, hx13⟩
  simp only [go_sem, ↓reduceIte, hlt, old_set_set]
  have hsh : ∀ (a : Shape) (S : List Shape), S.map encShape ++ [[vi a.kind, .sl false (a.points.map encPoint)]] = (S ++ [a]).map encShape := fun a S => by simp [encShape]
  refine branch_join (W := [43, 44, 45, 46, 47, 48, 49, 50, 51, 52, 53, 54, 55, 56, 57, 58, 59, 60, 61, 62, 63, 64, 65, 66, 67, 68, 69, 70]) (fun _ H1 wr => wr = [o] ∧ ∃ i' o5 o6 o7, ∃ S : List Shape, 2 ≤ S.length ∧ S.length ≤ 3 ∧ (∀ a ∈ S, a.Ok) ∧
    H1 = H.set o (.box v (makerCells l i')) ++ [.gone 0, .gone 0, .box 1 [vi 0, vi 0, .sl true []], .box 1 [vi 60, vi 50, .sr (H.length + 4) 1 S.length], .vec 1 2 (S.map encShape), o5, o6, o7, .gone 0]) (by rfl) (fun hb => ?_) (fun hb => ?_) ?_
  · refine wc_draw' (keep := dactylref23_Maker_Figure_k2) (by rfl) (by rfl) ?_
    have w7 : IntKind.i64.wrap (36 + x6 + 8) = 36 + x6 + 8 := wrap_i64 (by omega) (by omega)
    simp only [go_sem, ↓reduceIte, NB, NA, NL, ND, NE, dactylref23_Maker_Figure_k2, g0, g3, w7]
    refine gen_callD (take_gen ht (m := 6) (by decide)) hl (i := i8) (by simp only [go_sem, old_get_set, hlt]) ?_
    rintro val i9 ⟨x8, rfl, hx14, hx15⟩
    have w8 : IntKind.i64.wrap (10 + x8) = 10 + x8 := wrap_i64 (by omega) (by omega)
    have hr : roomy (S.length + 1) 32 = true := by unfold roomy; simp; omega
    have hsu := hsh ⟨1, [(36 + x6, 4), (36 + x6 + 8, 10 + x8), (36 + x6, 30)]⟩ S
    simp only [List.map, encPoint] at hsu
    simp only [go_sem, ↓reduceIte, NB, NA, BT, BF, hlt, old_set_set, w8, hr, hsu, logOk, apartL, hne, orderOk_intro]
    refine ⟨i9, _, _, _, S ++ [⟨1, [(36 + x6, 4), (36 + x6 + 8, 10 + x8), (36 + x6, 30)]⟩], by simp; omega, by simp; omega, ?_, by simp only [List.length_append, List.length_cons, List.length_nil, Nat.zero_add]; rfl⟩
    intro a ha
    rcases List.mem_append.mp ha with ha | ha
    · exact hS3 a ha
    · simp only [List.mem_cons, List.not_mem_nil, or_false] at ha
      subst ha
      refine ⟨small_ok (by show (0:Int) ≤ 1; decide) (by show (1:Int) ≤ 1000000; decide), by simp, fun q hq => ?_⟩
      simp only [List.mem_cons, List.not_mem_nil, or_false] at hq
      rcases hq with rfl | rfl | rfl
      · exact ⟨small_ok (by show 0 ≤ 36 + x6; omega) (by show 36 + x6 ≤ 1000000; omega), small_ok (by show (0:Int) ≤ 4; decide) (by show (4:Int) ≤ 1000000; decide)⟩
      · exact ⟨small_ok (by show 0 ≤ 36 + x6 + 8; omega) (by show 36 + x6 + 8 ≤ 1000000; omega), small_ok (by show 0 ≤ 10 + x8; omega) (by show 10 + x8 ≤ 1000000; omega)⟩
      · exact ⟨small_ok (by show 0 ≤ 36 + x6; omega) (by show 36 + x6 ≤ 1000000; omega), small_ok (by show (0:Int) ≤ 30; decide) (by show (30:Int) ≤ 1000000; decide)⟩
  · refine wc_draw' (keep := dactylref23_Maker_Figure_k3) (by rfl) (by rfl) ?_
    simp only [go_sem, ↓reduceIte, NB, NA, NL, ND, NE, dactylref23_Maker_Figure_k3, g0, g3]
    refine gen_callD (take_gen ht (m := 12) (by decide)) hl (i := i8) (by simp only [go_sem, old_get_set, hlt]) ?_
    rintro val i9 ⟨x8, rfl, hx14, hx15⟩
    have w8 : IntKind.i64.wrap (12 + x8) = 12 + x8 := wrap_i64 (by omega) (by omega)
    have hr : roomy (S.length + 1) 32 = true := by unfold roomy; simp; omega
    have hb2 := fun H => hbx (x := 36 + x6) (y := 5) (w := 10) (hh := 12 + x8) (by omega) (by decide) (by decide) (by omega) H
    have hsu := hsh ⟨2, P4 (36 + x6) 5 10 (12 + x8)⟩ S
    simp only [List.map] at hsu hb2
    simp only [go_sem, ↓reduceIte, NB, NA, BT, BF, hlt, old_set_set, w8, hb2, hr, hsu, logOk, apartL, hne, orderOk_intro]
    refine ⟨i9, _, _, _, S ++ [⟨2, P4 (36 + x6) 5 10 (12 + x8)⟩], by simp; omega, by simp; omega, ?_, by simp only [List.length_append, List.length_cons, List.length_nil, Nat.zero_add]; rfl⟩
    intro a ha
    rcases List.mem_append.mp ha with ha | ha
    · exact hS3 a ha
    · simp only [List.mem_cons, List.not_mem_nil, or_false] at ha
      subst ha
      exact p4_ok (by omega) (by decide) (by decide) (by omega) (by decide)
  rintro ρ3 H3 wr3 ⟨rfl, i9, o5', o6, o7, T, hT1, hT2, hT3, rfl⟩ hf3
  have e0 : ρ3 0 = .ptr o v 0 := by rw [hf3 0 (by decide)]; simp only [go_sem, NB, g0]
  have e2 : ρ3 2 = .ptr (H.length + 2) 1 0 := by rw [hf3 2 (by decide)]; simp only [go_sem, NB, g2]
  have e3 : ρ3 3 = .ptr (H.length + 3) 1 0 := by rw [hf3 3 (by decide)]; simp only [go_sem, NB, g3]
  have e94 : ρ3 94 = .undef := by rw [hf3 94 (by decide)]; simp only [go_sem, NB, g94]
  clear hf2 hf3
  simp only [go_sem, ↓reduceIte, NE, e0]
  refine gen_call (take_gen ht (m := 3) (by decide)) hl (i := i9) (by simp only [go_sem, old_get_set, hlt]) ?_
  rintro val i10 ⟨x9, rfl, hx16, hx17⟩
  simp only [go_sem, ↓reduceIte, hlt, old_set_set]
  refine branch_intro (fun hb => ?_) (fun hb => ?_)
  · simp only [go_sem]
    refine wc_draw' (keep := dactylref23_Maker_Figure_k4) (by rfl) (by rfl) ?_
    simp only [go_sem, ↓reduceIte, NB, NA, NL, ND, NE, dactylref23_Maker_Figure_k4, e0, e3]
    refine gen_callD (take_gen ht (m := 20) (by decide)) hl (i := i10) (by simp only [go_sem, old_get_set, hlt]) ?_
    rintro val i11 ⟨x10, rfl, hx18, hx19⟩
    have w10 : IntKind.i64.wrap (36 + x10) = 36 + x10 := wrap_i64 (by omega) (by omega)
    have hr : roomy (T.length + 1) 32 = true := by unfold roomy; simp; omega
    simp only [go_sem, ↓reduceIte, NB, NA, NL, BT, BF, e3, hlt, old_set_set, w10, hr, logOk, apartL, hne, orderOk_intro]
    have w11 : IntKind.i64.wrap (((T.length + 1 : Nat) : Int) - 1) = (T.length : Int) := by rw [wrap_i64 (by omega) (by omega)]; omega
    have hix : (T.map encShape ++ [[AV.int IntKind.i64 1, AV.sr H.length 1 2]])[T.length]? = some [AV.int IntKind.i64 1, AV.sr H.length 1 2] := by simp
    rw [w11]
    refine wc_draw' (keep := dactylref23_Maker_Figure_k5) (by rfl) (by rfl) ?_
    have w12 : IntKind.i64.wrap (36 + x10 + 3) = 36 + x10 + 3 := wrap_i64 (by omega) (by omega)
    have hset : ∀ x y, (T.map encShape ++ [x]).set T.length y = T.map encShape ++ [y] := fun x y => by simp
    have hsu := hsh ⟨1, [(36, 44), (36 + x10 + 3, 44)]⟩ T
    simp only [List.map, encPoint] at hsu
    have hlen : (T ++ [Shape.mk 1 [(36, 44), (36 + x10 + 3, 44)]]).length = T.length + 1 := by simp
    simp only [go_sem, ↓reduceIte, NB, NA, NL, ND, IL, ID, IT, dactylref23_Maker_Figure_k5, e2, e3, hix, Int.toNat_natCast, w12, hset, hsu, hlt, hlen, List.length_map, allStill_rows (dataLL_map data_shape (T ++ [Shape.mk 1 [(36, 44), (36 + x10 + 3, 44)]])), objUnder_app, underLL_of_data (dataLL_map data_shape _), underLL_of_data (dataLL_map data_int _)]
    refine ⟨⟨i11, rfl⟩, 60, 50, T ++ [Shape.mk 1 [(36, 44), (36 + x10 + 3, 44)]], rfl, small_ok (by decide) (by decide), small_ok (by decide) (by decide), by simp; omega, by simp; omega, ?_⟩
    intro a ha
    rcases List.mem_append.mp ha with ha | ha
    · exact hT3 a ha
    · simp only [List.mem_cons, List.not_mem_nil, or_false] at ha
      subst ha
      refine ⟨small_ok (by show (0:Int) ≤ 1; decide) (by show (1:Int) ≤ 1000000; decide), by simp, fun q hq => ?_⟩
      simp only [List.mem_cons, List.not_mem_nil, or_false] at hq
      rcases hq with rfl | rfl
      · exact ⟨small_ok (by decide) (by decide), small_ok (by decide) (by decide)⟩
      · exact ⟨small_ok (by show 0 ≤ 36 + x10 + 3; omega) (by show 36 + x10 + 3 ≤ 1000000; omega), small_ok (by show (0:Int) ≤ 44; decide) (by show (44:Int) ≤ 1000000; decide)⟩
  · simp only [go_sem, ↓reduceIte, NB, NA, e3, e94, e2, hlt, allStill_rows (dataLL_map data_shape T), objUnder_app, underLL_of_data (dataLL_map data_shape _), underLL_of_data (dataLL_map data_int _)]
    exact ⟨⟨i10, rfl⟩, 60, 50, T, rfl, small_ok (by decide) (by decide), small_ok (by decide) (by decide), hT1, by omega, hT3⟩
end Go.Proofs.AM
end
