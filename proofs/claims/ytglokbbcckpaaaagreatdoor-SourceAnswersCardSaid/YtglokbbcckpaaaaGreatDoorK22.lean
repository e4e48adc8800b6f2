/- Part 22 of the proof that stands in the last text of this folder (lemmas; no statement of its own). -/
import Derived.Test.YtglokbbcckpaaaaGreatDoorK20
import Derived.Test.YtglokbbcckpaaaaGreatDoorK21
import Derived.Lib.Bytealg
import Derived.Shelf.Strings.Builder1
import Derived.Shelf.Strings.Builder2
import Derived.Shelf.Strings.OnBuilder
import Derived.Shelf.Small.Strs
import Derived.Shelf.Utf8.RuneCount
import Derived.Shelf.Strconv.Itoa0
import Derived.Shelf.Strconv.Itoa1
import Derived.Shelf.LaysM
import Derived.Shelf.Strconv.Itoa2
import Derived.Shelf.Strconv.Itoa3
import Derived.Shelf.Strings.Search1
import Derived.Shelf.Strings.Search2
import Derived.Shelf.Strings.Search3
import Derived.Shelf.Strings.Count
import Derived.Shelf.Strings.Shaped
import Derived.Shelf.Strings.Split
import Derived.Shelf.Strings.Replace
import Derived.Shelf.Strings.SplitShaped
import Derived.Shelf.Unicode.Decode
import Derived.Shelf.Strings.RuneCount
import Derived.Shelf.Strings.Explode
import Derived.Shelf.Unicode.DecodeSlow
import Derived.Shelf.Unicode.DecodeAny
import Derived.Test.YtglokbbcckpaaaaGreatDoorProg
import Derived.WalkKit
import Derived.Lib.Walk
import Derived.Lib.SliceRun
import Derived.Lib.Builder
import Derived.Lib.UnsafeStr
import Derived.Lib.MakeNoZero
import Derived.Lib.ItoaNum
import Derived.Laws.LoneSync
import Derived.Laws.Externs
import Derived.Laws.IdiomCopy
import Derived.Shelf.RegionOpenPlain
import Derived.RegionTactic
import Derived.RegionCalls
import Derived.Deep.Draws
set_option linter.unusedVariables false
set_option linter.unusedSimpArgs false
section
namespace Go.AM
open Go
def akKZ (tB tP : Nat) : Prim := fun args H => match args with
 | [.ptr o v 0] => match H[o]? with
  | some (.tbox v' ty [.nilPtr, c]) => if v' = v /\ (ty = tB ∨ ty = tP) then some (.tup [], [(o, .tbox v ty [.ptr o v 0, c])], []) else none
  | some (.tbox v' _ [.ptr o' v2 0, _]) => if v' = v /\ o' = o /\ v2 = v then some (.tup [], [], []) else none
  | _ => none
 | _ => none
def apkZ : List (List AV) -> Bool
 | [] => true
 | [.int .u8 n] :: r => decide (0 <= n) && decide (n < 256) && apkZ r
 | _ => false
def arFZ (tb : Nat) : Prim := fun args H => match args with
 | [.ptr o v 0] => match H[o]? with
  | some (.tbox v' _ [_, .nilSl]) => if v' = v then some (.str [], [], []) else none
  | some (.tbox v' _ [_, .sr o2 v2 n]) => if v' = v then match H[o2]? with
    | some (.tvec v3 t3 1 rows) => if v3 = v2 /\ t3 = tb /\ rows.length = n /\ n ≠ 0 /\ o2 ≠ o /\ n <= 1000000000 /\ apkZ rows then match abqZ rows with
      | some l => some (.str l, [(o2, .gone v2)], [])
      | none => none
     else none
    | _ => none
   else none
  | _ => none
 | _ => none
def aznZ (tB tb : Nat) : Prim := fun args H => match args with
 | [.ptr o v 0, .int .i64 n] => match H[o]? with
  | some (.tbox v' ty [.nilPtr, .nilSl]) => if v' = v /\ ty = tB /\ 0 < n /\ n <= 1000000 then some (.tup [], [(o, .tbox v tB [.ptr o v 0, .sr H.length 1 0])], [.tvec 1 tb 1 []]) else none
  | _ => none
 | _ => none
def aplZ (sep : List UInt8) : List (List AV) -> Option (List UInt8)
 | [] => some []
 | [[.str s]] => some s
 | [.str s] :: r => match aplZ sep r with
  | some t => some (s ++ sep ++ t)
  | none => none
 | _ => none
def arGZ : Prim := fun args _ => match args with
 | [.sl _ rows, .str sep] => match aplZ sep rows with
  | some s => if s.length <= 140737488355328 /\ rows.length <= 140737488355328 then some (.str s, [], []) else none
  | none => none
 | _ => none
def idxP : Prim := fun args _ => match args with
 | [.str s, .int .u8 c] => some (.int .i64 (Lib.indexByte s c.toNat.toUInt8), [], [])
 | _ => none
def arHZ : Prim := fun args _ => match args with
 | [.str s, .str [c]] => some (.int .i64 (Lib.countByte s c), [], [])
 | _ => none
def anaZ : Prim := fun args H => match args with
 | [p] => match aamZ H 1 p with
  | some [.int .u32 n] => some (.bool (n != 0), [], [])
  | _ => none
 | _ => none
def natS : Nat -> Nat -> List UInt8
 | 0, _ => []
 | k + 1, n => if n < 10 then [UInt8.ofNat (48 + n)] else natS k (n / 10) ++ [UInt8.ofNat (48 + n % 10)]
def atJZ : Prim := fun args _ => match args with
 | [.int .i64 n] => if 0 <= n /\ n < 1000000 then some (.str (natS 7 n.toNat), [], []) else if n < 0 /\ -1000000 < n then some (.str (45 :: natS 7 (-n).toNat), [], []) else none
 | _ => none
section
variable {P : Program} {glob : Glob}
theorem ahoZ {f : Nat} {p : Prim} (hf : ∃ F, P.funcs[f]? = some F /\ (F.name == "runtime.NumGoroutine") = false /\ F.body.isNone = false)
  (h : ∀ args H v ws ns, p args H = some (v, ws, ns) -> ∀ g w xs, WF g H w -> aauZ glob g -> LRel g args xs -> Calls P f xs.toArray w fun e w' => match e with
   | .returned x => ∃ g', Step g H w g' (adSZ H ws ++ ns) w' (ws.map Prod.fst) /\ agIZ g' (adSZ H ws ++ ns) w.heap.size w' v x
   | _ => False) : abSZ P glob fun f' args H => if f' = f then (p args H).map (abxZ H) else none := by
 intro f' args H av H' wr hh g w xs hw hg hx
 dsimp only at hh
 split at hh
 ·rename_i e
  subst e
  cases hp : p args H with
  | none => rw [hp] at hh; cases hh
  | some r =>
   obtain ⟨v, ws, ns⟩ := r
   rw [hp] at hh
   simp only [Option.map_some, abxZ, Option.some.injEq, Prod.mk.injEq] at hh
   obtain ⟨rfl, rfl, rfl⟩ := hh
   exact ⟨hf, h args H v ws ns hp g w xs hw hg hx⟩
 ·cases hh
theorem Step.bigger {g : G} {H : List AObj} {w w' : World} (hw : WF g H w) (hsz : w.heap.size <= w'.heap.size) (hall : ∀ b, b < w.heap.size -> w'.heap[b]? = w.heap[b]?) (io : w'.os = w.os /\ w'.output = w.output) : Step g H w g H w' [] := by
 refine ⟨G.le.refl g,⟨fun b i x hx => ?_, hw.lt, fun o l hl => Nat.lt_of_lt_of_le (hw.blk o l hl) hsz, hw.st, fun o l x hb => ?_, hw.priv, hw.inj, hw.whole.keep rfl rfl io (fun b hb _ => hall b hb) fun o l y hl => .inr ⟨o, l, y, hl, rfl⟩⟩,
  ⟨hsz, fun b hb _ => hall b hb⟩, fun _ _ _ => rfl, Nat.le_refl _, fun _ l' hl => .inr ⟨l', hl, rfl⟩, fun _ _ _ => rfl⟩
 ·rw [cell_of_heap (hall b (hw.perm_lt hx))]; exact hw.perm b i x hx
 ·exact (hw.obj o l x hb).keep (G.le.refl g) (hall l.b (hw.blk o l hb.loc))
theorem akeZ {g : G} {a : AV} {xs : List Value} (h : LRel g [a] xs) : ∃ x, xs = [x] /\ VRel g a x := by
 obtain ⟨h1, h2⟩ := h
 match xs, h1 with
 | [x], _ => exact ⟨x, rfl, h2 0 a x rfl rfl⟩
theorem aeMZ {g : G} {a b : AV} {xs : List Value} (h : LRel g [a, b] xs) : ∃ x y, xs = [x, y] /\ VRel g a x /\ VRel g b y := by
 obtain ⟨h1, h2⟩ := h
 match xs, h1 with
 | [x, y], _ => exact ⟨x, y, rfl, h2 0 a x rfl rfl, h2 1 b y rfl rfl⟩
theorem anbZ {g : G} {H : List AObj} {w : World} (hw : WF g H w) {o v v' ty : Nat} {cells : List AV} (ho : H[o]? = some (.tbox v' ty cells)) (hv : v' = v) {x : Value} (hx : VRel g (.ptr o v 0) x) :
  ∃ l cs, Backed g H o l (.tbox v ty cells) /\ x = .pointer (some ⟨l.b, 0, none⟩) /\ w.heap[l.b]? = some (.cells cs ty (0, 0)) /\ LRel g cells cs.toList := by
 subst hv
 cases hx with
 | ptr _ _ _ l a hl hv h =>
  have hst : l.st = v' := by have := hw.st o _ l ho hl; simp only [AObj.ver] at this; omega
  have hb : Backed g H o l (.tbox v' ty cells) := ⟨ho, rfl, hl, hst⟩
  obtain ⟨h0,⟨cs, h1, h2⟩, h3⟩ := hw.obj o l _ hb
  refine ⟨l, cs, hb, by rw [h hst h0], h1, by simpa using h2.symm, fun i a x e1 e2 => ?_⟩
  obtain ⟨y, hy, hr⟩ := h3 i a e1
  simp only [World.cell?, h1] at hy
  have e2' : cs[i]? = some x := by simpa using e2
  rw [e2'] at hy
  simp at hy
  subst hy
  exact hr
theorem Step.spoil {g : G} {H : List AObj} {w w' : World} (hw : WF g H w) {o : Nat} {l : Loc} {x : AObj} (hb : Backed g H o l x) (hsz : w'.heap.size = w.heap.size) (hother : ∀ b, b ≠ l.b -> w'.heap[b]? = w.heap[b]?) (io : w'.os = w.os /\ w'.output = w.output) :
  Step g H w g (H.set o (.gone x.ver)) w' [o] := by
 obtain ⟨h1, h2⟩ := Step.drop hw hb
 have h1w := h1.wf
 refine ⟨h1.le,⟨fun b i y hy => ?_, h1w.lt, fun o' l' hl => by rw [hsz]; exact h1w.blk o' l' hl, h1w.st, fun o' l' x' hb' => (h1w.obj o' l' x' hb').keep (G.le.refl g) (hother l'.b (h2 o' l' x' hb')), h1w.priv, h1w.inj,
  ⟨fun b y hy => ⟨?_, (h1w.whole.blocks b y hy).2⟩, by rw [io.1, io.2]; exact hw.whole.io⟩⟩,⟨by omega, fun b _ hne => hother b (Ne.symm (hne o (by simp) l hb.loc))⟩, h1.same, h1.len, fun o' l' hl => .inr ⟨l', hl, rfl⟩, fun _ _ _ => rfl⟩
 ·have hne : b ≠ l.b := fun e => by subst e; have := hw.priv o l x hb i; rw [hy] at this; cases this
  rw [cell_of_heap (hother b hne)]
  exact hw.perm b i y hy
 ·rw [hother b (Ne.symm ((hw.whole.blocks b y hy).2 o l x hb))]
  exact (hw.whole.blocks b y hy).1
theorem Step.tset {g : G} {H : List AObj} {w w' : World} (hw : WF g H w) {o v ty : Nat} {l : Loc} {cells cells' : List AV} {cs' : Array Value} (hb : Backed g H o l (.tbox v ty cells)) (hsz : w'.heap.size = w.heap.size)
  (hother : ∀ b, b ≠ l.b -> w'.heap[b]? = w.heap[b]?) (hblk : w'.heap[l.b]? = some (.cells cs' ty (0, 0))) (hl : LRel g cells' cs'.toList) (io : w'.os = w.os /\ w'.output = w.output) :
  Step g H w g (H.set o (.tbox v ty cells')) w' [o] := by
 have hg : g.setObj o l = g := by
  cases g with
  | mk p ob wh io =>
   have := hb.loc
   simp only [G.setObj, G.mk.injEq, true_and, and_true]
   funext o'
   by_cases e : o' = o
   ·subst e; simpa using this.symm
   ·simp [e]
 have h0 := (hw.obj o l _ hb).1
 have := Step.update (w' := w') hw o (.tbox v ty cells') l (hw.lt o l hb.loc) (by omega)
  (fun b _ hne => hother b (Ne.symm (hne l _ hb))) (by rw [hsz]; exact hw.blk o l hb.loc) (.inr ⟨l, _, hb, rfl⟩) hb.st rfl
  (fun l0 h0 => by rw [hb.loc] at h0; cases h0; exact ⟨Nat.le_refl _, fun _ => ⟨Nat.le_refl _, fun _ => rfl⟩⟩)
  (fun _ => by
   rw [hg]
   refine ⟨h0,⟨cs', hblk, by simpa using hl.1.symm⟩, fun j a ha => ?_⟩
   have hj : j < cells'.length := (List.getElem?_eq_some_iff.1 ha).1
   have hlen := hl.1
   simp at hlen
   exact ⟨cs'[j]'(by omega), by simp [World.cell?, hblk], hl.2 j a _ ha (by simp)⟩) io
 rwa [hg] at this
end
end Go.AM
end
section
set_option maxRecDepth 8000
namespace Go.AM
open Go
theorem agBZ (needs : List Int) (vals : List Str) (other : Str) : needed needs (aaJZ vals needs other) = needed needs vals := by
 have key : ∀ n ∈ needs, (if 0 <= n /\ n < ((aaJZ vals needs other).length : Int) then (aaJZ vals needs other)[n.toNat]? else none) = (if 0 <= n /\ n < (vals.length : Int) then vals[n.toNat]? else none) := by
  intro n hn
  have hl : (aaJZ vals needs other).length = vals.length := by simp [aaJZ]
  rw [hl]
  split
  ·rename_i hc
   unfold aaJZ
   rw [List.getElem?_mapIdx]
   have hlt : n.toNat < vals.length := by omega
   rw [List.getElem?_eq_getElem hlt]
   have hany : needs.any (fun m => m == ((n.toNat : Nat) : Int)) = true := List.any_eq_true.2 ⟨n, hn, by simp; omega⟩
   rw [Option.map_some, hany, if_pos rfl]
  ·rfl
 have go : ∀ l : List Int, (∀ n ∈ l, n ∈ needs) -> needed l (aaJZ vals needs other) = needed l vals := by
  intro l
  induction l with
  | nil => intro _; rfl
  | cons n l ih =>
   intro h
   have h1 := key n (h n (by simp))
   have h2 := ih fun x hx => h x (List.mem_cons_of_mem _ hx)
   unfold needed at h2 ⊢
   rw [List.filterMap_cons, List.filterMap_cons, h1, h2]
 exact go needs fun n h => h
theorem aiZZ (q : Question) (vals : List Str) (other : Str) : afSZ q (aaJZ vals q.needs other) = afSZ q vals := by
 unfold afSZ
 rw [agBZ]
theorem aybZ {sep : Str} {M : Nat} : ∀ {l : List Str}, (∀ s ∈ l, s.length <= M) -> (jn sep l).length <= l.length * (M + sep.length)
 | [], _ => by simp [jn]
 | [s], h => by
  have := h s (by simp)
  simp only [jn, List.length_cons, List.length_nil]
  omega
 | s :: t :: r, h => by
  have h1 := h s (by simp)
  have h2 := aybZ (sep := sep) (l := t :: r) fun x hx => h x (List.mem_cons_of_mem _ hx)
  have e : (s :: t :: r).length * (M + sep.length) = (t :: r).length * (M + sep.length) + (M + sep.length) := by rw [List.length_cons, Nat.succ_mul]
  rw [e]
  simp only [jn, List.length_append]
  omega
theorem asJZ (sep : Str) : ∀ l : List Str, aplZ sep (l.map aadZ) = some (jn sep l)
 | [] => rfl
 | [s] => rfl
 | s :: t :: r => by
  have ih : aplZ sep (aadZ t :: r.map aadZ) = some (jn sep (t :: r)) := asJZ sep (t :: r)
  show aplZ sep (aadZ s :: aadZ t :: r.map aadZ) = _
  show (match aplZ sep (aadZ t :: r.map aadZ) with
   | some u => some (s ++ sep ++ u)
   | none => none) = _
  rw [ih]
  rfl
theorem avtZ {A : AProg} {f : Nat} (hp : A.prim f = some arGZ) (l : List Str) (sep : Str) (H : List AObj) (hl : l.length <= 1000000000) (hj : (jn sep l).length <= 1000000000000) : aapZ A f [.sl false (l.map aadZ), .str sep] H = some (.str (jn sep l), H, []) := by
 refine akFZ ?_
 rw [hp]
 show arGZ [.sl false (l.map aadZ), .str sep] H = _
 unfold arGZ
 dsimp only
 rw [asJZ]
 dsimp only
 rw [if_pos ⟨by omega, by rw [List.length_map]; omega⟩]
end Go.AM
end
section
namespace Go.Proofs
open Go.Shelf
def Tryz.lays156_ren : Go.Shelf.Ren := ⟨fun | 156 => 26 | 165 => 49 | 166 => 50 | 169 => 51 | 240 => 69 | 241 => 70 | 276 => 93 | 277 => 94 | n => n, fun | 31 => 23 | 9 => 9 | 3 => 3 | 4 => 4 | 0 => 0 | 20 => 20 | 72 => 109 | 76 => 113 | 70 => 106 | 37 => 107 | 75 => 112 | 127 => 134 | 164 => 162 | 5 => 5 | 80 => 97 | n => n, fun | n => n⟩
theorem Tryz.lays156 : Go.Proofs.Lays.n156 Tryz.prog Tryz.lays156_ren := {
 mixed := by kernel_rfl
 f156 := Tryz.func26.trans (congrArg some (by kernel_rfl))
 f165 := Tryz.func49.trans (congrArg some (by kernel_rfl))
 f166 := Tryz.func50.trans (congrArg some (by kernel_rfl))
 f169 := Tryz.func51.trans (congrArg some (by kernel_rfl))
 f240 := Tryz.func69.trans (congrArg some (by kernel_rfl))
 f241 := Tryz.func70.trans (congrArg some (by kernel_rfl))
 f276 := Tryz.func93.trans (congrArg some (by kernel_rfl))
 f277 := Tryz.func94.trans (congrArg some (by kernel_rfl))
 t0 := Tryz.underlying0
 a0 := Tryz.isAgg0
 z0 := Tryz.sizeOf0
 v0 := Tryz.zeroValue0
 t3 := Tryz.underlying3
 a3 := Tryz.isAgg3
 z3 := Tryz.sizeOf3
 v3 := Tryz.zeroValue3
 t4 := Tryz.underlying4
 a4 := Tryz.isAgg4
 z4 := Tryz.sizeOf4
 v4 := Tryz.zeroValue4
 t9 := Tryz.underlying9
 a9 := Tryz.isAgg9
 z9 := Tryz.sizeOf9
 v9 := Tryz.zeroValue9
 t20 := Tryz.underlying20
 a20 := Tryz.isAgg20
 z20 := Tryz.sizeOf20
 v20 := Tryz.zeroValue20
 t31 := Tryz.underlying23
 a31 := Tryz.isAgg23
 z31 := Tryz.sizeOf23
 v31 := Tryz.zeroValue23
 t37 := Tryz.underlying107
 a37 := Tryz.isAgg107
 z37 := Tryz.sizeOf107
 v37 := Tryz.zeroValue107
 t70 := Tryz.underlying106
 a70 := Tryz.isAgg106
 z70 := Tryz.sizeOf106
 v70 := Tryz.zeroValue106
 t72 := Tryz.underlying109
 a72 := Tryz.isAgg109
 z72 := Tryz.sizeOf109
 v72 := Tryz.zeroValue109
 t75 := Tryz.underlying112
 a75 := Tryz.isAgg112
 z75 := Tryz.sizeOf112
 v75 := Tryz.zeroValue112
 t76 := Tryz.underlying113
 a76 := Tryz.isAgg113
 z76 := Tryz.sizeOf113
 v76 := Tryz.zeroValue113
 t127 := Tryz.underlying134
 a127 := Tryz.isAgg134
 z127 := Tryz.sizeOf134
 v127 := Tryz.zeroValue134
 t164 := Tryz.underlying162
 a164 := Tryz.isAgg162
 z164 := Tryz.sizeOf162
 v164 := Tryz.zeroValue162 }
theorem Tryz.Builder_Extra_156 : Builder.Extra Tryz.prog Tryz.lays156_ren := {
 sizeBuilder := by kernel_rfl
 liesBuilder := by kernel_rfl
 t5 := Tryz.underlying5
 a5 := Tryz.isAgg5
 z5 := Tryz.sizeOf5
 v5 := Tryz.zeroValue5
 infoByte := by kernel_rfl
 cellsByte := by kernel_rfl
 sizeByte := by kernel_rfl
 neB5 := by decide }
open Go.RowKit in
theorem Tryz.strings_Join_none (a : Option Addr) (c : Nat) (sep : ByteArray) (w : World) :
  Calls Tryz.prog 26 #[.slice a 0 c, .string sep] w fun e w' => e = .returned (.string ⟨#[]⟩) /\ w' = w := Any.strings_Join_none Tryz.lays156 Tryz.Builder_Extra_156 a c sep w
open Go.RowKit in
theorem Tryz.strings_Join (bk o c : Nat) (xs : List ByteArray) (sep : ByteArray) (w : World) (hcells : ∀ (j : Nat) x, xs[j]? = some x -> w.cell? ⟨bk, o + j, none⟩ = some (.string x)) (hbk : bk < w.heap.size) (hN : xs.length <= 140737488355328) (hcap : xs.length <= c) (hlen : (Lib.join (xs.map (·.data.toList)) sep.data.toList).length <= 140737488355328) :
  Calls Tryz.prog 26 #[.slice (some ⟨bk, o, none⟩) xs.length c, .string sep] w fun e w' => e = .returned (.string ⟨(Lib.join (xs.map (·.data.toList)) sep.data.toList).toArray⟩) /\ Below w.heap.size w w' := Any.strings_Join Tryz.lays156 Tryz.Builder_Extra_156 bk o c xs sep w hcells hbk hN hcap hlen
def Tryz.laysM171_ren : Go.Shelf.Ren := ⟨fun | 171 => 21 | 243 => 47 | 246 => 68 | 283 => 89 | 284 => 90 | 285 => 91 | 286 => 92 | 129 => 147 | 317 => 146 | 318 => 148 | 319 => 149 | 320 => 150 | 337 => 198 | 338 => 199 | n => n, fun | 3 => 3 | 9 => 9 | 2 => 2 | 4 => 4 | 171 => 156 | 0 => 0 | 53 => 157 | 37 => 107 | 5 => 5 | 173 => 160 | 212 => 189 | 51 => 190 | 20 => 20 | 213 => 191 | 46 => 193 | 232 => 284 | 233 => 285 | n => n, fun | 17 => 0 | 18 => 4 | 19 => 5 | n => n⟩
theorem Tryz.laysM171 : Go.Proofs.LaysM.n171 Tryz.prog Tryz.laysM171_ren := {
 mixed := by kernel_rfl
 f129 := Tryz.func147.trans (congrArg some (by kernel_rfl))
 f171 := Tryz.func21.trans (congrArg some (by kernel_rfl))
 f243 := Tryz.func47.trans (congrArg some (by kernel_rfl))
 f246 := Tryz.func68.trans (congrArg some (by kernel_rfl))
 f283 := Tryz.func89.trans (congrArg some (by kernel_rfl))
 f284 := Tryz.func90.trans (congrArg some (by kernel_rfl))
 f285 := Tryz.func91.trans (congrArg some (by kernel_rfl))
 f286 := Tryz.func92.trans (congrArg some (by kernel_rfl))
 f317 := Tryz.func146.trans (congrArg some (by kernel_rfl))
 f318 := Tryz.func148.trans (congrArg some (by kernel_rfl))
 f319 := Tryz.func149.trans (congrArg some (by kernel_rfl))
 f320 := Tryz.func150.trans (congrArg some (by kernel_rfl))
 f337 := Tryz.func198.trans (congrArg some (by kernel_rfl))
 f338 := Tryz.func199.trans (congrArg some (by kernel_rfl))
 t0 := Tryz.underlying0
 a0 := Tryz.isAgg0
 z0 := Tryz.sizeOf0
 v0 := Tryz.zeroValue0
 t2 := Tryz.underlying2
 a2 := Tryz.isAgg2
 z2 := Tryz.sizeOf2
 v2 := Tryz.zeroValue2
 t3 := Tryz.underlying3
 a3 := Tryz.isAgg3
 z3 := Tryz.sizeOf3
 v3 := Tryz.zeroValue3
 t4 := Tryz.underlying4
 a4 := Tryz.isAgg4
 z4 := Tryz.sizeOf4
 v4 := Tryz.zeroValue4
 t5 := Tryz.underlying5
 a5 := Tryz.isAgg5
 z5 := Tryz.sizeOf5
 v5 := Tryz.zeroValue5
 t9 := Tryz.underlying9
 a9 := Tryz.isAgg9
 z9 := Tryz.sizeOf9
 v9 := Tryz.zeroValue9
 t20 := Tryz.underlying20
 a20 := Tryz.isAgg20
 z20 := Tryz.sizeOf20
 v20 := Tryz.zeroValue20
 t37 := Tryz.underlying107
 a37 := Tryz.isAgg107
 z37 := Tryz.sizeOf107
 v37 := Tryz.zeroValue107
 t46 := Tryz.underlying193
 a46 := Tryz.isAgg193
 z46 := Tryz.sizeOf193
 v46 := Tryz.zeroValue193
 t51 := Tryz.underlying190
 a51 := Tryz.isAgg190
 z51 := Tryz.sizeOf190
 v51 := Tryz.zeroValue190
 t53 := Tryz.underlying157
 a53 := Tryz.isAgg157
 z53 := Tryz.sizeOf157
 v53 := Tryz.zeroValue157
 t171 := Tryz.underlying156
 a171 := Tryz.isAgg156
 z171 := Tryz.sizeOf156
 v171 := Tryz.zeroValue156
 t173 := Tryz.underlying160
 a173 := Tryz.isAgg160
 z173 := Tryz.sizeOf160
 v173 := Tryz.zeroValue160
 t212 := Tryz.underlying189
 a212 := Tryz.isAgg189
 z212 := Tryz.sizeOf189
 v212 := Tryz.zeroValue189
 t213 := Tryz.underlying191
 a213 := Tryz.isAgg191
 z213 := Tryz.sizeOf191
 t232 := Tryz.underlying284
 a232 := Tryz.isAgg284
 z232 := Tryz.sizeOf284
 v232 := Tryz.zeroValue284
 t233 := Tryz.underlying285
 a233 := Tryz.isAgg285
 z233 := Tryz.sizeOf285
 v233 := Tryz.zeroValue285
 g17 := by kernel_rfl
 g18 := by kernel_rfl
 g19 := by kernel_rfl
 i0 := by kernel_rfl
 i2 := by kernel_rfl
 i3 := by kernel_rfl
 i4 := by kernel_rfl
 i5 := by kernel_rfl
 i9 := by kernel_rfl
 i20 := by kernel_rfl
 i37 := by kernel_rfl
 i46 := by kernel_rfl
 i51 := by kernel_rfl
 i53 := by kernel_rfl
 i171 := by kernel_rfl
 i173 := by kernel_rfl
 i212 := by kernel_rfl
 i232 := by kernel_rfl
 i233 := by kernel_rfl
 m17 := by kernel_rfl
 m18 := by kernel_rfl
 m19 := by kernel_rfl }
open Go.RowKit Go.Sort Go.Lib in
theorem Tryz.strconv_Itoa (n : Int) (h0 : -9223372036854775808 <= n) (h1 : n <= 9223372036854775807) (w : World) (htab : Lib.TabIs Tryz.prog w "internal/strconv.uint64pow10" .u64 Lib.pow10Tab) :
  Calls Tryz.prog 21 #[.int .i64 n] w fun e w' => e = .returned (.string ⟨(Lib.itoa n).toArray⟩) /\ ∃ k os, w' = grow (w.drewN k) os := Any.strconv_Itoa Tryz.laysM171 n h0 h1 w htab
def Tryz.lays217_ren : Go.Shelf.Ren := ⟨fun | 217 => 285 | 266 => 339 | n => n, fun | 9 => 9 | 5 => 5 | 3 => 3 | n => n, fun | n => n⟩
theorem Tryz.lays217 : Go.Proofs.Lays.n217 Tryz.prog Tryz.lays217_ren := {
 mixed := by kernel_rfl
 f217 := Tryz.func285.trans (congrArg some (by kernel_rfl))
 f266 := Tryz.func339.trans (congrArg some (by kernel_rfl))
 t3 := Tryz.underlying3
 a3 := Tryz.isAgg3
 z3 := Tryz.sizeOf3
 v3 := Tryz.zeroValue3
 t5 := Tryz.underlying5
 a5 := Tryz.isAgg5
 z5 := Tryz.sizeOf5
 v5 := Tryz.zeroValue5
 t9 := Tryz.underlying9
 a9 := Tryz.isAgg9
 z9 := Tryz.sizeOf9
 v9 := Tryz.zeroValue9 }
open Go.RowKit Go.Lib in
theorem Tryz.stringslite_IndexByte (s : ByteArray) (c : Int) (w : World) :
  Calls Tryz.prog 285 #[.string s, .int .u8 c] w fun e w' => e = .returned (.int .i64 (Lib.indexByte s.data.toList c.toNat.toUInt8)) /\ w' = w := Any.stringslite_IndexByte Tryz.lays217 s c w
def Tryz.lays138_ren : Go.Shelf.Ren := ⟨fun | 138 => 278 | 195 => 334 | 218 => 335 | 143 => 172 | 219 => 234 | 217 => 285 | 225 => 286 | 224 => 287 | 267 => 288 | 266 => 339 | 314 => 340 | n => n, fun | 9 => 9 | 3 => 3 | 4 => 4 | 5 => 5 | 0 => 0 | 46 => 193 | 146 => 352 | 51 => 190 | n => n, fun | 1 => 1 | n => n⟩
theorem Tryz.lays138 : Go.Proofs.Lays.n138 Tryz.prog Tryz.lays138_ren := {
 mixed := by kernel_rfl
 f138 := Tryz.func278.trans (congrArg some (by kernel_rfl))
 f143 := Tryz.func172.trans (congrArg some (by kernel_rfl))
 f195 := Tryz.func334.trans (congrArg some (by kernel_rfl))
 f217 := Tryz.func285.trans (congrArg some (by kernel_rfl))
 f218 := Tryz.func335.trans (congrArg some (by kernel_rfl))
 f219 := Tryz.func234.trans (congrArg some (by kernel_rfl))
 f224 := Tryz.func287.trans (congrArg some (by kernel_rfl))
 f225 := Tryz.func286.trans (congrArg some (by kernel_rfl))
 f266 := Tryz.func339.trans (congrArg some (by kernel_rfl))
 f267 := Tryz.func288.trans (congrArg some (by kernel_rfl))
 f314 := Tryz.func340.trans (congrArg some (by kernel_rfl))
 t0 := Tryz.underlying0
 a0 := Tryz.isAgg0
 z0 := Tryz.sizeOf0
 v0 := Tryz.zeroValue0
 t3 := Tryz.underlying3
 a3 := Tryz.isAgg3
 z3 := Tryz.sizeOf3
 v3 := Tryz.zeroValue3
 t4 := Tryz.underlying4
 a4 := Tryz.isAgg4
 z4 := Tryz.sizeOf4
 v4 := Tryz.zeroValue4
 t5 := Tryz.underlying5
 a5 := Tryz.isAgg5
 z5 := Tryz.sizeOf5
 v5 := Tryz.zeroValue5
 t9 := Tryz.underlying9
 a9 := Tryz.isAgg9
 z9 := Tryz.sizeOf9
 v9 := Tryz.zeroValue9
 t46 := Tryz.underlying193
 a46 := Tryz.isAgg193
 z46 := Tryz.sizeOf193
 v46 := Tryz.zeroValue193
 t51 := Tryz.underlying190
 a51 := Tryz.isAgg190
 z51 := Tryz.sizeOf190
 v51 := Tryz.zeroValue190
 t146 := Tryz.underlying352
 a146 := Tryz.isAgg352
 z146 := Tryz.sizeOf352
 v146 := Tryz.zeroValue352
 g1 := by kernel_rfl }
open Go.RowKit Go.Lib in
theorem Tryz.strings_Count_one (s : ByteArray) (c : UInt8) (w : World) :
  Calls Tryz.prog 278 #[.string s, .string ⟨#[c]⟩] w fun e w' => e = .returned (.int .i64 (Lib.countByte s.data.toList c)) /\ w' = w := Any.strings_Count_one Tryz.lays138 s c w
end Go.Proofs
end
section
set_option maxRecDepth 100000
namespace Go.Proofs.Sa
open Go Go.AM Go.Proofs Go.RowKit Go.Lib
theorem avuZ (b : Nat) (w : World) (h0 : w.cell? ⟨b, 0, none⟩ = some (.pointer (some ⟨b, 0, none⟩))) :
  Calls Tryz.prog 69 #[.pointer (some ⟨b, 0, none⟩)] w fun e w' => e = .returned (.tuple #[]) /\ w' = w := by
 obtain ⟨j, hj, _⟩ := Option.map_eq_some_iff.1 (show (Tryz.prog.info? 109).map (·.size) = some 2 by kernel_rfl)
 go_enter Tryz.func69, Tryz.ntmps69
 go_wp2
 rw [Lib.run_neq_ptr_same w _ Tryz.underlying106 hj]
 go_wp2
 go_end0
 exact ⟨rfl, rfl⟩
theorem aowZ (b t : Nat) (ht : t = 109 ∨ t = 231) (w : World) (h0 : w.cell? ⟨b, 0, none⟩ = some (.pointer none)) (hsh : w.shape? b = some (t, 2)) (hfz : w.frozen? ⟨b, 0, none⟩ = false) :
  Calls Tryz.prog 69 #[.pointer (some ⟨b, 0, none⟩)] w fun e w' => e = .returned (.tuple #[]) /\ w' = w.setCell ⟨b, 0, none⟩ (.pointer (some ⟨b, 0, none⟩)) := by
 obtain ⟨j, hj, hjs⟩ := Option.map_eq_some_iff.1 (show (Tryz.prog.info? 109).map (·.size) = some 2 by kernel_rfl)
 have hlies : liesAt Tryz.prog Tryz.prog.depth t (2 / Tryz.prog.cellsOf t) 0 109 1 = true := by
  rcases ht with rfl | rfl
  ·kernel_rfl
  ·kernel_rfl
 go_enter Tryz.func69, Tryz.ntmps69
 go_wp2
 rw [Lib.run_to_unsafe w ⟨b, 0, none⟩ Tryz.underlying106 Tryz.underlying162 hj (by rw [hjs]; decide) hsh (Nat.zero_lt_succ 1)]
 simp only [Result.andThen]
 rw [Oper.upon_value]
 go_wp2
 rw [run_callFunc_extern Tryz.func93 (by kernel_rfl) (by kernel_rfl) (by kernel_rfl) (e := Extern.AbiNoEscape.same) (by kernel_rfl)]
 rw [Lib.run_noEscape]
 simp only [Result.andThen]
 rw [Oper.upon_value]
 go_wp2
 rw [Lib.run_from_unsafe w ⟨b, 0, none⟩ Tryz.underlying162 Tryz.underlying106 hj hsh hlies]
 simp only [Result.andThen]
 rw [Oper.upon_value]
 go_wp2
 go_end0
 exact ⟨rfl, rfl⟩
theorem avvZ (a : Addr) (n : Int) (w : World) (hc : w.cell? a = some (.int .u32 n)) :
  Calls Tryz.prog 294 #[.pointer (some a)] w fun e w' => e = .returned (.bool (n != 0)) /\ w' = w := by
 have hl := run_call_load (P := Tryz.prog) Tryz.func344 (by kernel_rfl) (by kernel_rfl) (by kernel_rfl) .u32 (by kernel_rfl) (w := w) (a := a) (x := n) hc
 go_enter Tryz.func294, Tryz.ntmps294
 go_wp2
 go_ret
 exact ⟨rfl, rfl⟩
theorem atKZ (b : Nat) (w : World) (h1 : w.cell? ⟨b, 1, none⟩ = some (.slice none 0 0)) :
  Calls Tryz.prog 51 #[.pointer (some ⟨b, 0, none⟩)] w fun e w' => e = .returned (.string .empty) /\ w' = w.drew := by
 have c1 : w.drew.cell? ⟨b, 1, none⟩ = some (.slice none 0 0) := h1
 have mixed : Tryz.prog.follows .mixedOrders = true := by kernel_rfl
 have hSD : (Builtin.unsafeSliceData_ #[107] 134 #[.slice none 0 0]).run Tryz.prog w.drew = .ok (.pointer none) w.drew := Lib.run_unsafeSliceData_nil _ _ _ _ _
 have hUS : (Builtin.unsafeString_ #[134, 3] 9 #[.pointer none, .int .i64 0]).run Tryz.prog w.drew = .ok (.string .empty) w.drew := rfl
 go_enter Tryz.func51, Tryz.ntmps51
 go_wp2
 go_region_o
 all_goals (go_wp2; go_ret; exact ⟨rfl, rfl⟩)
theorem atLZ (b g cap : Nat) (l : List UInt8) (cur : Array Value) (w : World) (h0 : l ≠ []) (hcap : l.length <= cap) (hmax : l.length <= 9223372036854775807) (h1 : w.cell? ⟨b, 1, none⟩ = some (.slice (some ⟨g, 0, none⟩) l.length cap))
  (hg : w.heap[g]? = some (.cells cur 5 (0, 0))) (hn : l.length <= cur.size) (hcell : ∀ j x, l[j]? = some x -> w.cell? ⟨g, j, none⟩ = some (.int .u8 x.toNat)) :
  Calls Tryz.prog 51 #[.pointer (some ⟨b, 0, none⟩)] w fun e w' => e = .returned (.string ⟨l.toArray⟩) /\ w' = w.drew.freeze ⟨g, 0, none⟩ l.length := by
 have hl0 : l.length ≠ 0 := by simpa using h0
 have mixed : Tryz.prog.follows .mixedOrders = true := by kernel_rfl
 have c1 : w.drew.cell? ⟨b, 1, none⟩ = some (.slice (some ⟨g, 0, none⟩) l.length cap) := h1
 have hSD : (Builtin.unsafeSliceData_ #[107] 134 #[.slice (some ⟨g, 0, none⟩) l.length cap]).run Tryz.prog w.drew = .ok (.pointer (some ⟨g, 0, none⟩)) w.drew :=
  Lib.run_unsafeSliceData_row _ _ _ _ _ _ (by omega)
 have hUS : (Builtin.unsafeString_ #[134, 3] 9 #[.pointer (some ⟨g, 0, none⟩), .int .i64 l.length]).run Tryz.prog w.drew = .ok (.string ⟨l.toArray⟩) (w.drew.freeze ⟨g, 0, none⟩ l.length) :=
  Lib.run_unsafeString_row w.drew 134 3 9 5 Tryz.underlying134 (by kernel_rfl) g cur.size (by have hg' : w.drew.heap[g]? = some (.cells cur 5 (0, 0)) := hg; simp [World.shape?, hg']) l h0 hn hmax
   (fun j x hx => by rw [Addr.add_lit, Nat.zero_add]; exact hcell j x hx)
 go_enter Tryz.func51, Tryz.ntmps51
 go_wp2
 go_region_o
 all_goals (go_wp2; go_ret; exact ⟨rfl, rfl⟩)
theorem vnil {g : G} {x : Value} (h : VRel g .nilPtr x) : x = .pointer none := by cases h; rfl
theorem aepZ {α : Type} {cs : Array α} {x y : α} (h : cs.toList = [x, y]) : cs = #[x, y] := by cases cs; simpa using h
theorem copyCheck_ok {glob : Glob} : abSZ Tryz.prog glob fun f' args H => if f' = 69 then (akKZ 109 231 args H).map (abxZ H) else none := by
 refine ahoZ ⟨Tryz.f69, Tryz.func69, by kernel_rfl, by kernel_rfl⟩ fun args H v ws ns hp g w xs hw hg hx => ?_
 unfold akKZ at hp
 split at hp
 ·rename_i o ve
  obtain ⟨x, rfl, hv⟩ := akeZ hx
  split at hp
  ·rename_i v' ty c ho
   split at hp
   ·rename_i hc
    simp only [Option.some.injEq, Prod.mk.injEq] at hp
    obtain ⟨rfl, rfl, rfl⟩ := hp
    obtain ⟨l, cs, hb, rfl, hblk, hl⟩ := anbZ hw ho hc.1 hv
    obtain ⟨x1, x2, e, r1, r2⟩ := aeMZ hl
    have ecs := aepZ e
    subst ecs
    have e1 := vnil r1
    subst e1
    refine (aowZ l.b ty hc.2 w (by simp [World.cell?, hblk]) (by simp [World.shape?, hblk]) (by simp [World.frozen?, hblk])).mono ?_
    rintro e w' ⟨rfl, rfl⟩
    refine ⟨g, ?_, VRel.skip g⟩
    simp only [adSZ, List.append_nil, List.map_cons, List.map_nil]
    refine Step.tset (cs' := #[.pointer (some ⟨l.b, 0, none⟩), x2]) hw hb (World.size_setCell _ _ _) (fun b hb => ?_) ?_ ?_ (agHZ _ _ _)
    ·simp [World.setCell, Array.getElem?_modify, Ne.symm hb]
    ·simp [World.setCell, Array.getElem?_modify, hblk]
    ·refine ⟨rfl, fun i a x e1 e2 => ?_⟩
     match i with
     | 0 => simp at e1 e2; subst e1; subst e2; exact .ptr o ve 0 l _ hb.loc (by rw [hb.st]; exact Nat.le_refl _) fun _ _ => rfl
     | 1 => simp at e1 e2; subst e1; subst e2; exact r2
     | i + 2 => simp at e1
   ·cases hp
  ·rename_i v' ty o' v2 c ho
   split at hp
   ·rename_i hc
    simp only [Option.some.injEq, Prod.mk.injEq] at hp
    obtain ⟨rfl, rfl, rfl⟩ := hp
    obtain ⟨l, cs, hb, rfl, hblk, hl⟩ := anbZ hw ho hc.1 hv
    obtain ⟨x1, x2, e, r1, r2⟩ := aeMZ hl
    have ecs := aepZ e
    subst ecs
    obtain ⟨rfl, rfl, rfl⟩ := hc
    have e1 : x1 = .pointer (some ⟨l.b, 0, none⟩) := by
     cases r1 with
     | ptr _ _ _ l2 a hl2 hv2 h =>
      rw [hb.loc] at hl2
      cases hl2
      rw [h hb.st (hw.obj _ _ _ hb).1]
    subst e1
    refine (avuZ l.b w (by simp [World.cell?, hblk])).mono ?_
    rintro e w' ⟨rfl, rfl⟩
    exact ⟨g, by simpa [adSZ] using Step.refl hw, VRel.skip g⟩
   ·cases hp
  ·cases hp
 ·cases hp
theorem boolLoad_ok {glob : Glob} : abSZ Tryz.prog glob fun f' args H => if f' = 294 then (anaZ args H).map (abxZ H) else none := by
 refine ahoZ ⟨Tryz.f294, Tryz.func294, by kernel_rfl, by kernel_rfl⟩ fun args H v ws ns hp g w xs hw hg hx => ?_
 unfold anaZ at hp
 split at hp
 ·rename_i p
  obtain ⟨x, rfl, hv⟩ := akeZ hx
  split at hp
  ·rename_i n hr
   simp only [Option.some.injEq, Prod.mk.injEq] at hp
   obtain ⟨rfl, rfl, rfl⟩ := hp
   obtain ⟨b, off, vs, rfl, hlen, hl, hc⟩ := abgZ hw hr hv
   obtain ⟨y, rfl, hy⟩ := akeZ hl
   cases hy
   refine (avvZ ⟨b, off, none⟩ n w (hc 0 _ rfl)).mono ?_
   rintro e w' ⟨rfl, rfl⟩
   exact ⟨g, by simpa [adSZ] using Step.refl hw, .bool _⟩
  ·cases hp
 ·cases hp
theorem aqEZ {g : G} {H : List AObj} {w w' : World} (hw : WF g H w) (h : Below w.heap.size w w') : Step g H w g H w' [] := Step.bigger hw h.size h.block ⟨h.os, h.output⟩
theorem count_ok {glob : Glob} : abSZ Tryz.prog glob fun f' args H => if f' = 278 then (arHZ args H).map (abxZ H) else none := by
 refine ahoZ ⟨Tryz.f278, Tryz.func278, by kernel_rfl, by kernel_rfl⟩ fun args H v ws ns hp g w xs hw hg hx => ?_
 unfold arHZ at hp
 split at hp
 ·rename_i s c
  simp only [Option.some.injEq, Prod.mk.injEq] at hp
  obtain ⟨rfl, rfl, rfl⟩ := hp
  obtain ⟨x, y, rfl, h1, h2⟩ := aeMZ hx
  obtain ⟨s', rfl, hs⟩ := h1.str_inv
  obtain ⟨c', rfl, hc⟩ := h2.str_inv
  have ec : c' = ⟨#[c]⟩ := by cases c' with | mk d => cases d; simp at hc; simp [hc]
  subst ec
  refine (Tryz.strings_Count_one s' c w).mono ?_
  rintro e w' ⟨rfl, rfl⟩
  refine ⟨g, by simpa [adSZ] using Step.refl hw, ?_⟩
  rw [hs]
  exact .int _ _
 ·cases hp
theorem index_ok {glob : Glob} : abSZ Tryz.prog glob fun f' args H => if f' = 285 then (idxP args H).map (abxZ H) else none := by
 refine ahoZ ⟨Tryz.f285, Tryz.func285, by kernel_rfl, by kernel_rfl⟩ fun args H v ws ns hp g w xs hw hg hx => ?_
 unfold idxP at hp
 split at hp
 ·rename_i s c
  simp only [Option.some.injEq, Prod.mk.injEq] at hp
  obtain ⟨rfl, rfl, rfl⟩ := hp
  obtain ⟨x, y, rfl, h1, h2⟩ := aeMZ hx
  obtain ⟨s', rfl, hs⟩ := h1.str_inv
  cases h2
  refine (Tryz.stringslite_IndexByte s' c w).mono ?_
  rintro e w' ⟨rfl, rfl⟩
  refine ⟨g, by simpa [adSZ] using Step.refl hw, ?_⟩
  rw [hs]
  exact .int _ _
 ·cases hp
theorem aqFZ (w : World) (g n : Nat) : (w.freeze ⟨g, 0, none⟩ n).heap.size = w.heap.size /\ (∀ b, b ≠ g -> (w.freeze ⟨g, 0, none⟩ n).heap[b]? = w.heap[b]?) /\
  (w.freeze ⟨g, 0, none⟩ n).os = w.os /\ (w.freeze ⟨g, 0, none⟩ n).output = w.output := by
 unfold World.freeze
 split
 ·exact ⟨rfl, fun _ _ => rfl, rfl, rfl⟩
 ·refine ⟨by simp, fun b hb => ?_, rfl, rfl⟩
  simp [Array.getElem?_modify, Ne.symm hb]
theorem aoxZ : ∀ (rows : List (List AV)) (l : List UInt8), abqZ rows = some l -> rows.length = l.length /\ ∀ (j : Nat) x, l[j]? = some x -> ∃ n : Int, rows[j]? = some [.int .u8 n] /\ x = UInt8.ofNat n.toNat
 | [], l, h => by cases h; exact ⟨rfl, fun j x h => by simp at h⟩
 | r :: rows, l, h => by
  unfold abqZ at h
  split at h
  ·rename_i e; cases e
  ·rename_i n r' e
   cases e
   cases hb : abqZ rows with
   | none => rw [hb] at h; cases h
   | some l' =>
    rw [hb] at h
    cases h
    obtain ⟨h1, h2⟩ := aoxZ rows l' hb
    refine ⟨by simp [h1], fun j x hj => ?_⟩
    cases j with
    | zero => simp at hj; exact ⟨n, rfl, hj.symm⟩
    | succ j => exact h2 j x (by simpa using hj)
  ·cases h
theorem aoyZ : ∀ (rows : List (List AV)), apkZ rows = true -> ∀ (j : Nat) (n : Int), rows[j]? = some [.int .u8 n] -> 0 <= n /\ n < 256
 | [], h, j, n, e => by simp at e
 | r :: rows, h, j, n, e => by
  unfold apkZ at h
  split at h
  ·rename_i e'; cases e'
  ·rename_i m r' e'
   cases e'
   simp only [Bool.and_eq_true, decide_eq_true_eq] at h
   cases j with
   | zero => simp at e; subst e; exact h.1
   | succ j => exact aoyZ rows h.2 j n (by simpa using e)
  ·cases h
theorem string_ok {glob : Glob} : abSZ Tryz.prog glob fun f' args H => if f' = 51 then (arFZ 5 args H).map (abxZ H) else none := by
 refine ahoZ ⟨Tryz.f51, Tryz.func51, by kernel_rfl, by kernel_rfl⟩ fun args H v ws ns hp g w xs hw hg hx => ?_
 unfold arFZ at hp
 split at hp
 ·rename_i o ve
  obtain ⟨x, rfl, hv⟩ := akeZ hx
  split at hp
  ·rename_i v' ty c ho
   split at hp
   ·rename_i hc
    simp only [Option.some.injEq, Prod.mk.injEq] at hp
    obtain ⟨rfl, rfl, rfl⟩ := hp
    obtain ⟨l, cs, hb, rfl, hblk, hl⟩ := anbZ hw ho hc hv
    obtain ⟨x1, x2, e, r1, r2⟩ := aeMZ hl
    have ecs := aepZ e
    subst ecs
    cases r2
    refine (atKZ l.b w (by simp [World.cell?, hblk])).mono ?_
    rintro e w' ⟨rfl, rfl⟩
    exact ⟨g, by simpa [adSZ] using Step.of_heap (w' := w.drew) hw rfl, .str ByteArray.empty⟩
   ·cases hp
  ·rename_i v' ty c o2 v2 n ho
   split at hp
   ·rename_i hc
    split at hp
    ·rename_i v3 t3 rows ho2
     split at hp
     ·rename_i hc2
      obtain ⟨rfl, rfl, hlen, hn0, hne, hmx, hbo⟩ := hc2
      split at hp
      ·rename_i lb hbr
       simp only [Option.some.injEq, Prod.mk.injEq] at hp
       obtain ⟨rfl, rfl, rfl⟩ := hp
       obtain ⟨l, cs, hb, rfl, hblk, hl⟩ := anbZ hw ho hc hv
       obtain ⟨x1, x2, e, r1, r2⟩ := aeMZ hl
       have ecs := aepZ e
       subst ecs
       cases r2 with
       | sr _ _ _ l2 a cap hl2 hv2 hn2 hh =>
        have hst : l2.st = v3 := by have := hw.st o2 _ l2 ho2 hl2; simp only [AObj.ver] at this; omega
        have hb2 : Backed g H o2 l2 (.tvec v3 5 1 rows) := ⟨ho2, rfl, hl2, hst⟩
        obtain ⟨⟨h0, hlk, hcap, hsoft, hk, hsome, hcell⟩, cur, hcur⟩ := hw.obj o2 l2 _ hb2
        obtain ⟨rfl, rfl⟩ := hh hst (by omega)
        obtain ⟨hbl, hbx⟩ := aoxZ rows lb hbr
        have hin : ∀ j, j < rows.length -> (w.cell? ⟨l2.b, j, none⟩).isSome = true := fun j hj => hsome j (by omega)
        have hcs : lb.length <= cur.size := by
         rcases Nat.lt_or_ge cur.size lb.length with h | h
         ·have := hin cur.size (by omega)
          simp [World.cell?, hcur] at this
         ·exact h
        have hcl : ∀ j x, lb[j]? = some x -> w.cell? ⟨l2.b, j, none⟩ = some (.int .u8 x.toNat) := fun j x hj => by
         obtain ⟨m, e1, e2⟩ := hbx j x hj
         obtain ⟨_, y, hy, hr⟩ := hcell j 0 _ _ e1 rfl
         cases hr
         rw [Nat.mul_one, Nat.add_zero] at hy
         obtain ⟨q1, q2⟩ := aoyZ rows hbo j m e1
         obtain ⟨k, rfl⟩ := Int.eq_ofNat_of_zero_le q1
         rw [hy, e2, Int.toNat_natCast]
         have : (UInt8.ofNat k).toNat = k := by
          rw [UInt8.toNat_ofNat']
          exact Nat.mod_eq_of_lt (by omega)
         rw [this]
        have hnl : n = lb.length := by omega
        subst hnl
        refine (atLZ l.b l2.b l2.cap lb cur w (fun e => hn0 (by rw [e]; rfl)) (by omega) (by omega) (by simp [World.cell?, hblk]) hcur hcs hcl).mono ?_
        rintro e w' ⟨rfl, rfl⟩
        obtain ⟨f1, f2, f3, f4⟩ := aqFZ w.drew l2.b lb.length
        have hs := Step.spoil (w' := w.drew.freeze ⟨l2.b, 0, none⟩ lb.length) hw hb2 f1 f2 ⟨f3, f4⟩
        exact ⟨g, by simpa [adSZ, AObj.ver] using hs, .str ⟨lb.toArray⟩⟩
      ·cases hp
     ·cases hp
    ·cases hp
   ·cases hp
  ·cases hp
 ·cases hp
theorem aozZ {sep : List UInt8} : ∀ (rows : List (List AV)) (s : List UInt8), aplZ sep rows = some s -> ∃ ls : List (List UInt8), rows = ls.map (fun l => [AV.str l]) /\ s = Lib.join ls sep
 | [], s, h => by cases h; exact ⟨[], rfl, rfl⟩
 | [r], s, h => by
  unfold aplZ at h
  split at h
  ·rename_i e; cases e
  ·rename_i l e
   injection e with e1 e2
   subst e1
   injection h with h
   subst h
   exact ⟨[l], rfl, by simp [Lib.join]⟩
  ·rename_i l r' hne e
   cases e
   exact (hne rfl).elim
  ·cases h
 | r :: r2 :: rows, s, h => by
  unfold aplZ at h
  split at h
  ·rename_i e; cases e
  ·rename_i l e; cases e
  ·rename_i l r' hne e
   cases e
   split at h
   ·rename_i t ht
    cases h
    obtain ⟨ls, e1, e2⟩ := aozZ (r2 :: rows) t ht
    refine ⟨l :: ls, by rw [List.map_cons, <- e1], ?_⟩
    cases ls with
    | nil => simp at e1
    | cons a ls => rw [e2]; simp [Lib.join]
   ·cases h
  ·cases h
theorem join_ok {glob : Glob} : abSZ Tryz.prog glob fun f' args H => if f' = 26 then (arGZ args H).map (abxZ H) else none := by
 refine ahoZ ⟨Tryz.f26, Tryz.func26, by kernel_rfl, by kernel_rfl⟩ fun args H v ws ns hp g w xs hw hg hx => ?_
 unfold arGZ at hp
 split at hp
 ·rename_i fl rows sep
  split at hp
  ·rename_i s hs
   split at hp
   ·rename_i hc
    simp only [Option.some.injEq, Prod.mk.injEq] at hp
    obtain ⟨rfl, rfl, rfl⟩ := hp
    obtain ⟨x, y, rfl, h1, h2⟩ := aeMZ hx
    obtain ⟨sep', rfl, hsep⟩ := h2.str_inv
    obtain ⟨ls, e1, e2⟩ := aozZ rows s hs
    rcases ahOZ hw (av := .sl fl rows) rfl h1 with ⟨rfl, cap, rfl⟩ | ⟨b, off, cap, k, cells, rfl, hcap, hrr, hst, hcell⟩
    ·have : ls = [] := by simpa using e1.symm
     subst this
     refine (Tryz.strings_Join_none none cap sep' w).mono ?_
     rintro e w' ⟨rfl, rfl⟩
     refine ⟨g, by simpa [adSZ] using Step.refl hw, ?_⟩
     rw [e2]
     exact .str ⟨#[]⟩
    ·have hrl : rows.length = ls.length := by rw [e1]; simp
     by_cases hne : ls = []
     ·subst hne
      rw [hrl] at *
      refine (Tryz.strings_Join_none (some ⟨b, off, none⟩) cap sep' w).mono ?_
      rintro e w' ⟨rfl, rfl⟩
      refine ⟨g, by simpa [adSZ] using Step.refl hw, ?_⟩
      rw [e2]
      exact .str ⟨#[]⟩
     ·have hk : k = 1 := by
       cases ls with
       | nil => exact absurd rfl hne
       | cons a ls => exact (hrr.row [.str a] (by rw [e1]; simp)).symm
      subst hk
      have hcl : ∀ (j : Nat) x, (ls.map fun l => (⟨l.toArray⟩ : ByteArray))[j]? = some x -> w.cell? ⟨b, off + j, none⟩ = some (.string x) := fun j x hj => by
       rw [List.getElem?_map] at hj
       cases hq : ls[j]? with
       | none => simp [hq] at hj
       | some l =>
        simp [hq] at hj
        have hlt : j < rows.length := by rw [hrl]; exact (List.getElem?_eq_some_iff.1 hq).1
        have hcj : j < cells.length := by rw [hrr.len]; omega
        have hr := hrr.rel j 0 [.str l] (.str l) cells[j] (by rw [e1, List.getElem?_map, hq]; rfl) rfl (by simp [hcj])
        obtain ⟨bs, e3, e4⟩ := hr.str_inv
        have := hcell j cells[j] (by simp [hcj])
        rw [this, e3, <- hj]
        congr 2
        cases bs with
        | mk d => simp at e4; simp [<- e4]
      have hmap : (ls.map fun l => (⟨l.toArray⟩ : ByteArray)).map (·.data.toList) = ls := by simp [Function.comp_def]
      have hb0 : b < w.heap.size := by
       cases ls with
       | nil => exact absurd rfl hne
       | cons a ls => exact World.block_lt_of_cell? (a := ⟨b, off + 0, none⟩) w (hcl 0 _ rfl)
      have hj := Tryz.strings_Join b off cap (ls.map fun l => (⟨l.toArray⟩ : ByteArray)) sep' w hcl hb0 (by simpa [hrl] using hc.2) (by simpa [hrl] using hcap) (by rw [hmap, hsep, <- e2]; exact hc.1)
      rw [hmap, hsep, <- e2] at hj
      rw [show (ls.map fun l => (⟨l.toArray⟩ : ByteArray)).length = rows.length by simp [hrl]] at hj
      refine hj.mono ?_
      rintro e w' ⟨rfl, hbw⟩
      exact ⟨g, by simpa [adSZ] using aqEZ hw hbw, .str ⟨s.toArray⟩⟩
   ·cases hp
  ·cases hp
 ·cases hp
theorem aBWZ {tab : Nat} {g : G} {H : List AObj} {w : World} (hw : WF g H w) (hgl : Tryz.prog.globalNamed "internal/strconv.uint64pow10" = some tab)
  {glob : Glob} (hrow : glob.row tab = some (Lib.pow10Tab.map fun z => AV.int .u64 z)) (hg : aauZ glob g) : Lib.TabIs Tryz.prog w "internal/strconv.uint64pow10" .u64 Lib.pow10Tab := by
 obtain ⟨h1, cs, t, fz, h2, h3⟩ := hg tab (Lib.pow10Tab.map fun z => AV.int .u64 z) hrow
 obtain ⟨h4, _⟩ := hw.whole.blocks tab _ h2
 obtain ⟨b, off, vs, e, hl, hr, hc⟩ := abgZ hw (k := 20) (pv := .ep (Lib.pow10Tab.map fun z => AV.int .u64 z) 0) (cs := Lib.pow10Tab.map fun z => AV.int .u64 z) (by
  simp only [aamZ]
  rw [if_pos (by simp [Lib.pow10Tab_length])]
  rw [List.drop_zero, List.take_of_length_le (by simp [Lib.pow10Tab_length])]) h1
 cases e
 unfold Lib.TabIs World.var?
 rw [hgl]
 simp only [Option.bind_some, h4, Option.some.injEq]
 apply Array.ext_getElem?
 intro j
 by_cases hj : j < 20
 ·have hlen : vs.length = 20 := by rw [<- hr.1]; simp [Lib.pow10Tab_length]
  have hv : vs[j]? = some vs[j] := List.getElem?_eq_getElem (by omega)
  have hcell := hc j _ hv
  have ha : (Lib.pow10Tab.map fun z => AV.int .u64 z)[j]? = some (AV.int .u64 (Lib.pow10Tab[j]'(by rw [Lib.pow10Tab_length]; exact hj))) := by
   rw [List.getElem?_map, List.getElem?_eq_getElem (by rw [Lib.pow10Tab_length]; exact hj)]; rfl
  have hrel := hr.2 j _ _ ha hv
  have hx : cs[j]? = some vs[j] := by simpa [World.cell?, h4] using hcell
  rw [hx]
  simp only [List.getElem?_toArray, List.getElem?_map, List.getElem?_eq_getElem (show j < Lib.pow10Tab.length by rw [Lib.pow10Tab_length]; exact hj), Option.map_some, Option.some.injEq]
  generalize vs[j] = v at hrel
  cases hrel
  rfl
 ·rw [Array.getElem?_eq_none (by rw [h3]; simp [Lib.pow10Tab_length]; omega), Array.getElem?_eq_none (by simp [Lib.pow10Tab_length]; omega)]
theorem arIZ : ∀ (k n : Nat), n < 10 ^ k -> 0 < k -> natS k n = Lib.decDigits n
 | 0, n, h, h0 => by omega
 | k + 1, n, h, _ => by
  unfold natS
  rw [Lib.decDigits]
  by_cases h1 : n < 10
  ·rw [if_pos h1, dif_pos h1]
  ·rw [if_neg h1, dif_neg h1]
   cases k with
   | zero => omega
   | succ k => rw [arIZ (k + 1) (n / 10) (by rw [Nat.pow_succ] at h; omega) (by omega)]
theorem itoa_ok {glob : Glob} {tab : Nat} (hgl : Tryz.prog.globalNamed "internal/strconv.uint64pow10" = some tab) (hrow : glob.row tab = some (Lib.pow10Tab.map fun z => AV.int .u64 z)) :
  abSZ Tryz.prog glob fun f' args H => if f' = 21 then (atJZ args H).map (abxZ H) else none := by
 refine ahoZ ⟨Tryz.f21, Tryz.func21, by kernel_rfl, by kernel_rfl⟩ fun args H v ws ns hp g w xs hw hg hx => ?_
 unfold atJZ at hp
 split at hp
 ·rename_i n
  obtain ⟨x, rfl, hv⟩ := akeZ hx
  cases hv
  have fin : ∀ s, s = Lib.itoa n -> -9223372036854775808 <= n /\ n <= 9223372036854775807 -> Calls Tryz.prog 21 #[.int .i64 n] w fun e w' => match e with
    | .returned x => ∃ g', Step g H w g' (adSZ H [] ++ []) w' [] /\ agIZ g' (adSZ H [] ++ []) w.heap.size w' (.str s) x
    | _ => False := fun s hs hb => by
   refine (Tryz.strconv_Itoa n hb.1 hb.2 w (aBWZ hw hgl hrow hg)).mono ?_
   rintro e w' ⟨rfl, k, os, rfl⟩
   refine ⟨g, ?_, ?_⟩
   ·have : Step g H w g H (Go.Sort.grow (w.drewN k) os) [] := Step.bigger hw (by simp [Go.Sort.grow]) (fun b hb => by
     simp only [Go.Sort.grow, World.heap_drewN]
     rw [Array.getElem?_append_left hb]) ⟨rfl, rfl⟩
    simpa [adSZ] using this
   ·rw [hs]
    exact .str ⟨(Lib.itoa n).toArray⟩
  split at hp
  ·rename_i hc
   simp only [Option.some.injEq, Prod.mk.injEq] at hp
   obtain ⟨rfl, rfl, rfl⟩ := hp
   refine fin _ ?_ ⟨by omega, by omega⟩
   rw [arIZ 7 _ (by omega) (by omega), Lib.itoa, if_neg (by omega)]
  ·split at hp
   ·rename_i hc
    simp only [Option.some.injEq, Prod.mk.injEq] at hp
    obtain ⟨rfl, rfl, rfl⟩ := hp
    refine fin _ ?_ ⟨by omega, by omega⟩
    rw [arIZ 7 _ (by omega) (by omega), Lib.itoa, if_pos (by omega), show (-n).toNat = n.natAbs by omega]
   ·cases hp
 ·cases hp
end Go.Proofs.Sa
end
section
set_option maxRecDepth 100000
namespace Go.Proofs.Sa
open Go Go.AM Go.Proofs Go.RowKit Go.Lib
structure GrowPost (w : World) (b n : Nat) (w' : World) : Prop where
 size : w'.heap.size = w.heap.size + 1
 other : ∀ k, k ≠ b -> k < w.heap.size -> w'.heap[k]? = w.heap[k]?
 blk : ∃ cs : Array Value, n <= cs.size /\ w'.heap[b]? = some (.cells #[.pointer (some ⟨b, 0, none⟩), .slice (some ⟨w.heap.size, 0, none⟩) 0 cs.size] 109 (0, 0)) /\ w'.heap[w.heap.size]? = some (.cells cs 5 (0, 0))
 io : w'.os = w.os /\ w'.output = w.output
theorem avwZ {w : World} {b n : Nat} {cs : Array Value} (hbk : w.heap[b]? = some (.cells #[.pointer (some ⟨b, 0, none⟩), .slice none 0 0] 109 (0, 0))) (hn : n <= cs.size) :
  GrowPost w b n ((w.setCell ⟨b, 1, none⟩ (.slice (some ⟨w.heap.size, 0, none⟩) 0 cs.size)).alloc (.cells cs 5)) := by
 have hlt : b < w.heap.size := by
  rcases Nat.lt_or_ge b w.heap.size with h | h
  ·exact h
  ·simp [Array.getElem?_eq_none h] at hbk
 have e : ∀ v, ((w.setCell ⟨b, 1, none⟩ v).alloc (.cells cs 5)).heap = (w.setCell ⟨b, 1, none⟩ v).heap.push (.cells cs 5) := fun _ => rfl
 have hs : ∀ v, (w.setCell ⟨b, 1, none⟩ v).heap.size = w.heap.size := fun v => World.size_setCell _ _ _
 refine ⟨by rw [e, Array.size_push, hs], fun k hk hkl => ?_,⟨cs, hn, ?_, ?_⟩, agHZ w ⟨b, 1, none⟩ (.slice (some ⟨w.heap.size, 0, none⟩) 0 cs.size)⟩
 ·rw [e, Array.getElem?_push, if_neg (by rw [hs]; omega)]
  simp only [World.setCell, Array.getElem?_modify]
  rw [if_neg (Ne.symm hk)]
 ·rw [e, Array.getElem?_push, if_neg (by rw [hs]; omega)]
  simp [World.setCell, Array.getElem?_modify, hbk]
 ·rw [e, Array.getElem?_push, if_pos (hs _).symm]
theorem GrowPost.of {w W X : World} {b n : Nat} (h : GrowPost w b n X) (e : W.heap = X.heap) (io : W.os = X.os /\ W.output = X.output) : GrowPost w b n W :=
 ⟨by rw [e]; exact h.size, fun k h1 h2 => by rw [e]; exact h.other k h1 h2, by rw [e]; exact h.blk, io.1.trans h.io.1, io.2.trans h.io.2⟩
set_option maxHeartbeats 2000000 in
theorem avxZ (b n : Nat) (w : World) (hbk : w.heap[b]? = some (.cells #[.pointer (some ⟨b, 0, none⟩), .slice none 0 0] 109 (0, 0))) (hn : n <= 281474976710656) :
  Calls Tryz.prog 70 #[.pointer (some ⟨b, 0, none⟩), .int .i64 n] w fun e w' => e = .returned (.tuple #[]) /\ GrowPost w b n w' := by
 obtain ⟨cs, hrun, hle, hmax⟩ := Lib.run_makeNoZero (P := Tryz.prog) w.drew #[3] 107 5 Tryz.underlying107 n hn
 have hw : IntKind.i64.wrap (IntKind.i64.wrap 0 + (n : Int)) = n := by
  rw [IntKind.wrap_i64, IntKind.wrap_i64]
  omega
 have hcall : (callFunc 94 #[.int .i64 (IntKind.i64.wrap (IntKind.i64.wrap 0 + (n : Int)))]).run Tryz.prog w.drew = .ok (.value (.slice (some ⟨w.drew.heap.size, 0, none⟩) n cs.size)) (w.drew.drew.drew.alloc (.cells cs 5)) := by
  rw [hw, run_callFunc_extern Tryz.func94 (by kernel_rfl) (by kernel_rfl) (by kernel_rfl) (e := Extern.BytealgMakeNoZero.makeNoZero #[3] #[107]) (by kernel_rfl), hrun]
  rfl
 have c1 : w.drew.cell? ⟨b, 1, none⟩ = some (.slice none 0 0) := by
  have : w.drew.heap[b]? = _ := hbk
  rw [Lib.cell_of_heap this]; rfl
 have hlt : b < w.heap.size := by
  rcases Nat.lt_or_ge b w.heap.size with h' | h'
  ·exact h'
  ·simp [Array.getElem?_eq_none h'] at hbk
 have c2 : (w.alloc (.cells cs 5)).cell? ⟨b, 1, none⟩ = some (.slice none 0 0) := by
  have : (w.alloc (.cells cs 5)).heap[b]? = _ := (Lib.alloc_old w _ b hlt).trans hbk
  rw [Lib.cell_of_heap this]; rfl
 have f2 : (w.alloc (.cells cs 5)).frozen? ⟨b, 1, none⟩ = false := Lib.frozen_of_heap ((Lib.alloc_old w _ b hlt).trans hbk) 1
 have hcopy : ∀ W : World, (Builtin.copy_ #[107, 107] 3 #[.slice (some ⟨w.heap.size, 0, none⟩) 0 cs.size, .slice none 0 0]).run Tryz.prog W = .ok (goInt 0) W :=
  fun W => run_copy_none W 107 107 3 5 _ _ 0 cs.size 0 0 Tryz.underlying107 (by kernel_rfl) rfl
 clear hw
 have mixed : Tryz.prog.follows .mixedOrders = true := by kernel_rfl
 go_enter Tryz.func70, Tryz.ntmps70
 go_wp2
 have hfin := avwZ hbk hle
 go_region_o
 all_goals (go_wp2; go_end0; exact ⟨rfl, hfin.of rfl ⟨rfl, rfl⟩⟩)
set_option maxHeartbeats 2000000 in
theorem atMZ (b n : Nat) (w : World) (hbk : w.heap[b]? = some (.cells #[.pointer none, .slice none 0 0] 109 (0, 0))) (hn0 : 0 < n) (hn : n <= 281474976710656) :
  Calls Tryz.prog 49 #[.pointer (some ⟨b, 0, none⟩), .int .i64 n] w fun e w' => e = .returned (.tuple #[]) /\ GrowPost (w.setCell ⟨b, 0, none⟩ (.pointer (some ⟨b, 0, none⟩))) b n w' := by
 have hbk1 : (w.setCell ⟨b, 0, none⟩ (.pointer (some ⟨b, 0, none⟩))).heap[b]? = some (.cells #[.pointer (some ⟨b, 0, none⟩), .slice none 0 0] 109 (0, 0)) := by
  simp [World.setCell, Array.getElem?_modify, hbk]
 have c1 : (w.setCell ⟨b, 0, none⟩ (.pointer (some ⟨b, 0, none⟩))).cell? ⟨b, 1, none⟩ = some (.slice none 0 0) := by rw [Lib.cell_of_heap hbk1]; rfl
 have mixed : Tryz.prog.follows .mixedOrders = true := by kernel_rfl
 have e69 : ∀ args w, (callFunc 69 args).run Tryz.prog w = .ok (.enter 69 args) w := enters_of Tryz.func69 (by kernel_rfl) rfl
 have e70 : ∀ args w, (callFunc 70 args).run Tryz.prog w = .ok (.enter 70 args) w := enters_of Tryz.func70 (by kernel_rfl) rfl
 have c1' : (w.setCell ⟨b, 0, none⟩ (.pointer (some ⟨b, 0, none⟩))).drew.cell? ⟨b, 1, none⟩ = some (.slice none 0 0) := c1
 go_enter Tryz.func49, Tryz.ntmps49
 go_wp2_with (go_at_fn 69; refine (aowZ b 109 (.inl rfl) w (by rw [Lib.cell_of_heap hbk]; rfl) (by simp [World.shape?, hbk]) (Lib.frozen_of_heap hbk 0)).mono ?_; rintro e w' ⟨rfl, rfl⟩)
 go_region_o
 all_goals go_wp2_with (go_at_fn 70; refine (avxZ b n (w.setCell ⟨b, 0, none⟩ (.pointer (some ⟨b, 0, none⟩))).drew hbk1 hn).mono ?_; rintro e w' ⟨rfl, hp⟩)
 all_goals first
  | (go_end0; exact ⟨rfl, hp.size, hp.other, hp.blk, hp.io⟩)
  | (exfalso; omega)
end Go.Proofs.Sa
end
section
set_option maxRecDepth 100000
namespace Go.Proofs.Sa
open Go Go.AM Go.Proofs Go.RowKit Go.Lib
theorem grow_ok {glob : Glob} : abSZ Tryz.prog glob fun f' args H => if f' = 49 then (aznZ 109 5 args H).map (abxZ H) else none := by
 refine ahoZ ⟨Tryz.f49, Tryz.func49, by kernel_rfl, by kernel_rfl⟩ fun args H v ws ns hp g w xs hw hg hx => ?_
 unfold aznZ at hp
 split at hp
 ·rename_i o ve n
  obtain ⟨x, y, rfl, hv, hy⟩ := aeMZ hx
  cases hy
  split at hp
  ·rename_i v' ty ho
   split at hp
   ·rename_i hc
    obtain ⟨hve, rfl, hn0, hn1⟩ := hc
    simp only [Option.some.injEq, Prod.mk.injEq] at hp
    obtain ⟨rfl, rfl, rfl⟩ := hp
    obtain ⟨l, cs, hb, rfl, hblk, hl⟩ := anbZ hw ho hve hv
    obtain ⟨x1, x2, e, r1, r2⟩ := aeMZ hl
    have ecs := aepZ e
    subst ecs
    have e1 := vnil r1
    subst e1
    cases r2
    obtain ⟨m, rfl⟩ := Int.eq_ofNat_of_zero_le (Int.le_of_lt hn0)
    refine (atMZ l.b m w hblk (by omega) (by omega)).mono ?_
    rintro e w' ⟨rfl, hp⟩
    obtain ⟨cb, hle, hb1, hb2⟩ := hp.blk
    have hlt : l.b < w.heap.size := hw.blk o l hb.loc
    have hs0 : ∀ v, (w.setCell ⟨l.b, 0, none⟩ v).heap.size = w.heap.size := fun v => World.size_setCell _ _ _
    have hoth : ∀ k, k ≠ l.b -> k < w.heap.size -> w'.heap[k]? = w.heap[k]? := fun k h1 h2 => by
     rw [hp.other k h1 (by rw [hs0]; exact h2)]
     simp [World.setCell, Array.getElem?_modify, Ne.symm h1]
    rw [hs0] at hb1 hb2
    have hsz := hp.size
    rw [hs0] at hsz
    have hol : o < H.length := hw.lt o l hb.loc
    let w1 : World := w.alloc (.cells cb 5)
    have hw1 : w1.heap = w.heap.push (.cells cb 5) := rfl
    have s1 := hw.more 1
    have hid : H.length < (H ++ List.replicate 1 (AObj.gone 0)).length := by simp
    obtain ⟨g', s2, hsr⟩ := Step.newTVec (rows := []) (k := 1) (cap := cb.size) s1.wf hid hw1 (g := g) ⟨rfl, by simp, by simp⟩ rfl (Nat.zero_le _) (by omega)
    have hver : aaDZ (H ++ List.replicate 1 (AObj.gone 0)) H.length = 1 := by simp [aaDZ, AObj.ver]
    have hmk : make (H ++ List.replicate 1 (AObj.gone 0)) H.length (.tvec · 5 1 []) = H ++ [.tvec 1 5 1 []] := by
     simp [make, AObj.ver]
    rw [hver] at hsr
    rw [hmk] at s2
    have hb' : Backed g' (H ++ [.tvec 1 5 1 []]) o l (.tbox v' 109 [.nilPtr, .nilSl]) := by
     refine ⟨by rw [List.getElem?_append_left hol]; exact ho, rfl, ?_, by rw [hve]; exact hb.st⟩
     rw [s2.keep o (by simp; omega) (by simp; omega)]
     exact hb.loc
    have s3 := Step.tset (w' := w') (cells' := [.ptr o ve 0, .sr H.length 1 0]) (cs' := #[.pointer (some ⟨l.b, 0, none⟩), .slice (some ⟨w.heap.size, 0, none⟩) 0 cb.size]) s2.wf hb' (by rw [hsz, hw1, Array.size_push])
     (fun b hbne => by
      rcases Nat.lt_trichotomy b w.heap.size with h | h | h
      ·rw [hoth b hbne h, hw1, Array.getElem?_push, if_neg (by omega)]
      ·subst h; rw [hb2, hw1]; simp
      ·rw [Array.getElem?_eq_none (by omega), Array.getElem?_eq_none (by rw [hw1]; simp; omega)])
     hb1
     (by
      refine ⟨rfl, fun i a x e1 e2 => ?_⟩
      match i with
      | 0 => simp at e1 e2; subst e1; subst e2; exact .ptr o ve 0 l _ hb'.loc (by rw [hb.st]; exact Nat.le_refl _) fun _ _ => rfl
      | 1 => simp at e1 e2; subst e1; subst e2; exact hsr
      | i + 2 => simp at e1)
     ⟨hp.io.1.trans (agHZ w ⟨l.b, 0, none⟩ _).1, hp.io.2.trans (agHZ w ⟨l.b, 0, none⟩ _).2⟩
    refine ⟨g', ?_, VRel.skip g'⟩
    have := Step.narrow (wr := [o]) hw.lt ((s1.trans s2).trans s3) (fun i hi hi2 => by
     simp at hi
     rcases hi with h | h
     ·omega
     ·simp [h])
    simpa [adSZ, List.set_append, hol, hve] using this
   ·cases hp
  ·cases hp
 ·cases hp
end Go.Proofs.Sa
end
