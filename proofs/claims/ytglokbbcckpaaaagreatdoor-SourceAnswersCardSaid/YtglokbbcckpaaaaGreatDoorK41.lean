/- Part 41 of the proof that stands in the last text of this folder (lemmas; no statement of its own). -/
import Derived.Test.YtglokbbcckpaaaaGreatDoorK40
import Derived.Test.YtglokbbcckpaaaaGreatDoorRows
import Derived.Test.YtglokbbcckpaaaaGreatDoorTie
import Derived.Test.YtglokbbcckpaaaaGreatDoorCards
import Derived.ProofKit
import Derived.LaidMore
import Derived.OpenShut
import Derived.Stop.Joined
import Derived.SevenTiedAt
import Derived.Lay
set_option linter.unusedVariables false
set_option linter.unusedSimpArgs false
section
namespace Go.Proofs.YtglokbbcckpaaaaGreatDoor
open Go Go.ChangeShapes Go.WideShapes Go.ChangeAt Go.WideMaps Go.WideElems Go.RowKit Go.AM
set_option maxRecDepth 100000
theorem own : ownKnob Tryz.prog.godebug = none := by kernel_rfl
abbrev akrZ : List (String × DataW Unit) := Rows.sourceAnswersRow.laid
theorem gPow : Tryz.prog.globalNamed "internal/strconv.uint64pow10" = some 0 := by kernel_rfl
theorem gOps : Tryz.prog.globalNamed "dactyl/syntax.operations" = some 6 := by kernel_rfl
theorem tPow : (Tryz.prog.globals[0]?).map (·.type) = some 189 := by kernel_rfl
theorem tOps : (Tryz.prog.globals[6]?).map (·.type) = some 302 := by kernel_rfl
theorem azOZ : (Rows.laid_internal_strconv_uint64pow10 : DataW Unit) = Lib.tabData .u64 Lib.pow10Tab := by kernel_rfl
def asdZ : List Str := [[], [], [110, 101, 103], [43], [45], [42], [47], [94], [114, 111, 111, 116], [61], [60]]
theorem azPZ : (Rows.laid_dactyl_syntax_operations : DataW Unit) = .agg (asdZ.map fun s => .lit (.string s)) := by kernel_rfl
theorem aoLZ : (akrZ.all fun x => x.2.handleName?.isNone) = true := by kernel_rfl
theorem axIZ (os : Os) (args : Array Value) : laidMetH Tryz.prog akrZ ((World.laidAll Tryz.prog os akrZ).forCall (fun _ _ => 0) ⟨#[], args, []⟩).memory := by
 rw [MakeChecks.laidMetH_plain _ _ _ aoLZ]
 exact laidMet_laidAll _ (by kernel_rfl) (by kernel_rfl)
def strV : Value -> ByteArray
 | .string s => s
 | _ => ByteArray.empty
theorem apEZ {H : Type} {enc : TypeId × Value -> H} {P : Program} {w : World} {base : Nat} {sp : Nat -> Bool} {held : Bool} {fuel : Nat} {t e : TypeId} {n : Nat} {cs : List Value} {zs : List Str} {p : List MemPlace}
  (ht : P.underlying t = some (.array n e)) (he : P.underlying e = some .string) (hce : P.cellsOf e = 1) (hct : P.cellsOf t = n)
  (h : DataW.trod enc P w base sp held fuel t cs = some (.agg (zs.map fun s => .lit (.string s)), p)) : ∃ ss : List ByteArray, cs = ss.map Value.string /\ ss.map (fun s => s.data.toList) = zs := by
 cases fuel with
 | zero => simp [DataW.trod] at h
 | succ fuel =>
  simp only [DataW.trod, ht, hce, hct, Nat.mul_one] at h
  split at h
  ·rename_i hl
   obtain ⟨xs, hm, hx⟩ := Option.map_eq_some_iff.1 h
   have hxs : xs.map (·.1) = zs.map fun s => (DataW.lit (.string s) : DataW H) := by
    have := congrArg Prod.fst hx
    simpa using this
   have hxl : xs.length = n := by simpa using Lib.mapM_length hm
   have hzl : zs.length = n := by
    have := congrArg List.length hxs
    simp at this
    omega
   have each : ∀ i, i < n -> ∃ s : ByteArray, cs[i]? = some (.string s) /\ zs[i]? = some s.data.toList := by
    intro i hi
    obtain ⟨b, hb, hf⟩ := Lib.mapM_at hm i i (by simp [hi])
    obtain ⟨z, hc, rfl, _⟩ := DataW.trod_string he hf
    have h1 : cs[i]? = some (.string z) := by
     have := congrArg (·[0]?) hc
     simpa [List.getElem?_take, List.getElem?_drop] using this
    have h2 : (xs.map (·.1))[i]? = some (DataW.lit (.string z.data.toList) : DataW H) := by simp [hb]
    rw [hxs] at h2
    simp only [List.getElem?_map, Option.map_eq_some_iff, DataW.lit.injEq, Lit.string.injEq] at h2
    obtain ⟨z', hz', rfl⟩ := h2
    exact ⟨z, h1, hz'⟩
   refine ⟨(List.range n).map fun i => strV ((cs[i]?).getD (.int .u8 0)), ?_, ?_⟩
   ·apply List.ext_getElem?
    intro i
    by_cases hi : i < n
    ·obtain ⟨s, h1, h2⟩ := each i hi
     simp [hi, h1, strV]
    ·rw [List.getElem?_eq_none (by omega), List.getElem?_eq_none (by simp; omega)]
   ·apply List.ext_getElem?
    intro i
    by_cases hi : i < n
    ·obtain ⟨s, h1, h2⟩ := each i hi
     simp [hi, h1, h2, strV]
    ·rw [List.getElem?_eq_none (by simp; omega), List.getElem?_eq_none (by omega)]
  ·cases h
theorem azQZ {W : World} (h : laidMetH Tryz.prog akrZ W) : Lib.TabIs Tryz.prog W "internal/strconv.uint64pow10" .u64 Lib.pow10Tab /\ ∃ ss : List ByteArray, W.var? Tryz.prog "dactyl/syntax.operations" = some (ss.map Value.string).toArray /\ ss.map (fun s => s.data.toList) = asdZ := by
 rw [MakeChecks.laidMetH_plain _ _ _ aoLZ] at h
 obtain ⟨ps,⟨g0, t0, cs0, f0, p0, q0, hg0, ht0, hv0, hd0,⟨g1, t1, cs1, f1, p1, q1, hg1, ht1, hv1, hd1,⟨g2, t2, cs2, f2, p2, q2, hg2, ht2, hv2, hd2,⟨g3, t3, cs3, f3, p3, q3, hg3, ht3, hv3, hd3,⟨g4, t4, cs4, f4, p4, q4, hg4, ht4, hv4, hd4,⟨g5, t5, cs5, f5, p5, q5, hg5, ht5, hv5, hd5,⟨g6, t6, cs6, f6, p6, q6, hg6, ht6, hv6, hd6,⟨g7, t7, cs7, f7, p7, q7, hg7, ht7, hv7, hd7, _, _⟩, _⟩, _⟩, _⟩, _⟩, _⟩, _⟩, _⟩, _, _⟩ := h
 obtain rfl := Option.some.inj (gPow.symm.trans hg2)
 obtain rfl := Option.some.inj (tPow.symm.trans ht2)
 obtain rfl := Option.some.inj (gOps.symm.trans hg7)
 obtain rfl := Option.some.inj (tOps.symm.trans ht7)
 refine ⟨?_, ?_⟩
 ·unfold Lib.TabIs
  rw [azOZ] at hd2
  rw [hv2, <- Lib.cells_of_tab Tryz.underlying189 Tryz.underlying157 (by kernel_rfl) (by kernel_rfl) hd2]
 ·rw [azPZ] at hd7
  obtain ⟨ss, e1, e2⟩ := apEZ Tryz.underlying302 Tryz.underlying9 (by kernel_rfl) (by kernel_rfl) hd7
  exact ⟨ss, by rw [hv7, <- e1], e2⟩
theorem axJZ {W : World} (h : laidMetH Tryz.prog akrZ W) : aauZ ajuZ (G0 W) := by
 obtain ⟨ht, ss, hs, hss⟩ := azQZ h
 intro n row hn
 simp only [ajuZ, rowK] at hn
 split at hn
 ·rename_i e
  subst e
  cases hn
  unfold World.var? at hs
  rw [gOps] at hs
  simp only [Option.bind_some] at hs
  split at hs
  ·rename_i cs t fz hheap
   simp only [Option.some.injEq] at hs
   subst hs
   have hops : opsK = ss.map fun s => AV.str s.data.toList := by
    have : opsK = asdZ.map AV.str := rfl
    rw [this, <- hss, List.map_map]
    rfl
   rw [hops]
   have hcell : ∀ j, W.cell? ⟨6, j, none⟩ = (ss.map Value.string)[j]? := fun j => by
    simp [World.cell?, hheap]
   refine ⟨?_, _, t, fz, hheap, by simp⟩
   have hst : ((ss.map fun s => AV.str s.data.toList).all AV.still) = true := by rw [List.all_eq_true]; intro a ha; obtain ⟨z, _, rfl⟩ := List.mem_map.1 ha; rfl
   refine .ep _ 0 6 0 hst (fun j hj => ?_) fun j a x ha hx => ?_
   ·show (W.cell? ⟨6, 0 + j, none⟩).isSome
    rw [Nat.zero_add, hcell, List.getElem?_map]
    simp at hj
    rw [List.getElem?_eq_getElem hj]
    rfl
   ·have hx' : W.cell? ⟨6, 0 + j, none⟩ = some x := hx
    rw [Nat.zero_add, hcell, List.getElem?_map] at hx'
    rw [List.getElem?_map] at ha
    cases hz : ss[j]? with
    | none => rw [hz] at ha; cases ha
    | some z =>
     rw [hz] at ha hx'
     cases ha
     cases hx'
     exact .str _
  ·cases hs
 split at hn
 ·rename_i e
  subst e
  cases hn
  unfold Lib.TabIs World.var? at ht
  rw [gPow] at ht
  simp only [Option.bind_some] at ht
  split at ht
  ·rename_i cs t fz hheap
   simp only [Option.some.injEq] at ht
   subst ht
   have hcell : ∀ j, W.cell? ⟨0, j, none⟩ = (Lib.pow10Tab.map fun z => Value.int .u64 z)[j]? := fun j => by
    simp [World.cell?, hheap]
   refine ⟨?_, _, t, fz, hheap, by simp⟩
   refine .ep _ 0 0 0 (by rw [List.all_eq_true]; intro a ha; obtain ⟨z, _, rfl⟩ := List.mem_map.1 ha; rfl) (fun j hj => ?_) fun j a x ha hx => ?_
   ·show (W.cell? ⟨0, 0 + j, none⟩).isSome
    rw [Nat.zero_add, hcell, List.getElem?_map]
    simp at hj
    rw [List.getElem?_eq_getElem hj]
    rfl
   ·have hx' : W.cell? ⟨0, 0 + j, none⟩ = some x := hx
    rw [Nat.zero_add, hcell, List.getElem?_map] at hx'
    rw [List.getElem?_map] at ha
    cases hz : Lib.pow10Tab[j]? with
    | none => rw [hz] at ha; cases ha
    | some z =>
     rw [hz] at ha hx'
     cases ha
     cases hx'
     exact .int _ _
  ·cases ht
 ·cases hn
end Go.Proofs.YtglokbbcckpaaaaGreatDoor
end
section
namespace Go.Proofs.YtglokbbcckpaaaaGreatDoor
open Go Go.ChangeMaps Go.ChangeShapes Go.WideShapes Go.ChangeAt Go.WideMaps Go.WideElems Go.RowKit Go.AM
set_option maxRecDepth 100000
theorem arjZ {H : Type} {enc : TypeId × Value -> H} {P : Program} {w : World} {base : Nat} {spare : Nat -> Bool} {held : Bool} {t1 t2 t3 t4 t5 : TypeId} {args : Array Value} {ds : List (DataW H)} {ps : List MemPlace}
  (h : DataW.TrodAll enc P w base spare held [t1, t2, t3, t4, t5] args.toList ds ps) :
  ∃ v1 v2 v3 v4 v5 d1 d2 d3 d4 d5 p1 p2 p3 p4 p5, args = #[v1, v2, v3, v4, v5] /\ ds = [d1, d2, d3, d4, d5] /\ ps = p1 ++ (p2 ++ (p3 ++ (p4 ++ p5))) /\
   DataW.Trod enc P w base spare held t1 v1 d1 p1 /\ DataW.Trod enc P w base spare held t2 v2 d2 p2 /\ DataW.Trod enc P w base spare held t3 v3 d3 p3 /\
   DataW.Trod enc P w base spare held t4 v4 d4 p4 /\ DataW.Trod enc P w base spare held t5 v5 d5 p5 := by
 obtain ⟨v1, r1, d1, s1, p1, q1, e1, rfl, rfl, h1, h⟩ := trodAll_cons h
 obtain ⟨v2, r2, d2, s2, p2, q2, rfl, rfl, rfl, h2, h⟩ := trodAll_cons h
 obtain ⟨v3, r3, d3, s3, p3, q3, rfl, rfl, rfl, h3, h⟩ := trodAll_cons h
 obtain ⟨v4, r4, d4, s4, p4, q4, rfl, rfl, rfl, h4, h⟩ := trodAll_cons h
 obtain ⟨v5, r5, d5, s5, p5, q5, rfl, rfl, rfl, h5, h⟩ := trodAll_cons h
 obtain ⟨_, rfl, rfl⟩ := trodAll_nil h
 exact ⟨v1, v2, v3, v4, v5, d1, d2, d3, d4, d5, p1, p2, p3, p4, p5, by cases args; simp_all, rfl, by simp, h1, h2, h3, h4, h5⟩
theorem apFZ {l : List Int} (hl : acIZ l) {kind : Int} (hk : accZ kind) (vals : List Str) (other : Str) (needs : List Int) (g : G) (w : World) (xs : List Value) (hw : WF g [] w) (hg : aauZ ajuZ g)
  (hx : LRel g [.sl false (l.map aaqZ), vi kind, .sl false (vals.map aadZ), .str other, .sl false (needs.map aaqZ)] xs) :
  Calls Tryz.prog 3 xs.toArray w fun e w' => e = .returned (.bool true) /\ ∃ g', Step g [] w g' [] w' [] := by
 obtain ⟨k, hkk⟩ := aoWZ (arhZ hl hk vals other needs [])
 obtain ⟨_, hc⟩ := altZ aEFZ k 3 _ [] _ _ _ hkk g w xs hw hg hx
 refine hc.mono ?_
 intro e w' he
 cases e with
 | returned v =>
  obtain ⟨g', h1, h2⟩ := he
  cases h2
  exact ⟨rfl, g', h1⟩
 | _ => exact he.elim
theorem lifted (os : Os) (started : os.Started) (H : Type) (enc : TypeId × Value -> H) :
  ReturnsInHanded {} Tryz.checked os 3 .any (fun w args => (Rows.sourceAnswersSpec.pre enc Tryz.prog Tryz.f3 [] false w args /\ laidMetH Tryz.prog akrZ w) /\ sizedMet enc Tryz.prog Tryz.f3 (OpenSpec.ofChange Rows.sourceAnswersSpec) false w args)
   (Rows.sourceAnswersSpec.post enc Tryz.prog Tryz.f3 false true false false) := by
 refine returnsInHanded_of_change_and (C := Tryz.checked) (X := fun w _ => laidMetH Tryz.prog akrZ w) (fun _ _ _ hh h => h.of_heap hh) own started (by kernel_rfl) Tryz.func3
  (ChangeSpec.witness_shaped (enc := enc) (C := Tryz.checked) (os := os) (X := fun w _ => laidMetH Tryz.prog akrZ w) false (World.laidAll Tryz.prog os akrZ) #[.slice none 0 0, .int .i64 0, .slice none 0 0, .string ByteArray.empty, .slice none 0 0] 8 (World.laidAll_os _ _ _) (World.shaped_of_ZipB (by kernel_rfl) (by kernel_rfl)) (by kernel_rfl) (by kernel_rfl) (by kernel_rfl) (axIZ os _)) ?_
 intro W base args ds gs before hval0 hW _ _ hL _
 have hval : ∀ (j : Nat) t v, Tryz.f3.params[j]? = some t -> args[j]? = some v -> Value.okWide Tryz.prog W .any base t v := hval0
 have hW' := hW
 obtain ⟨p, q, hA0, hV, rfl, hfz, hnd⟩ := hW
 have hA : DataW.TrodAll enc Tryz.prog W 0 (fun _ => true) true Tryz.f3.params.toList args.toList ds p := hA0
 rw [Tryz.params3] at hA hval
 obtain ⟨v1, v2, v3, v4, v5, d1, d2, d3, d4, d5, p1, p2, p3, p4, p5, rfl, rfl, rfl, h1, h2, h3, h4, h5⟩ := arjZ hA
 obtain ⟨rfl, rfl⟩ := trodVars_none hV
 obtain ⟨l, hl, r1, k1⟩ := ateZ Tryz.underlying22 Tryz.underlying3 (by kernel_rfl) (hval 0 22 v1 rfl rfl) h1
 obtain ⟨n, rfl, rfl, rfl, w2⟩ := open_int Tryz.underlying3 (hval 1 3 v2 rfl rfl) h2
 obtain ⟨vs, r3, k3⟩ := axHZ Tryz.underlying23 Tryz.underlying9 (by kernel_rfl) (hval 2 23 v3 rfl rfl) h3
 obtain ⟨s, rfl, rfl, rfl, w4⟩ := open_string Tryz.underlying9 (hval 3 9 v4 rfl rfl) h4
 obtain ⟨m, hm, r5, k5⟩ := ateZ Tryz.underlying22 Tryz.underlying3 (by kernel_rfl) (hval 4 22 v5 rfl rfl) h5
 clear hA0 hval0
 have hx : LRel (G0 W) [.sl false (l.map aaqZ), vi n, .sl false (vs.map aadZ), .str s.data.toList, .sl false (m.map aaqZ)] [v1, .int .i64 n, v3, .string s, v5] := by
  refine ⟨rfl, fun i c x hc hy => ?_⟩
  match i, hc, hy with
  | 0, hc, hy => cases hc; cases hy; exact r1
  | 1, hc, hy => cases hc; cases hy; exact .int _ _
  | 2, hc, hy => cases hc; cases hy; exact r3
  | 3, hc, hy => cases hc; cases hy; exact .str _
  | 4, hc, hy => cases hc; cases hy; exact r5
 have b2 := Go.bounds_i64 w2
 refine (apFZ hl ⟨b2.1, b2.2⟩ vs s.data.toList m (G0 W) W _ (wf0 W) (axJZ hL) hx).mono fun e W' ⟨he, g', hst⟩ => ?_
 subst he
 refine ⟨_, rfl, _, _, _, [], p1 ++ ([] ++ (p3 ++ ([] ++ p5))), [], hW', ?_, ?_, rfl, awnZ hst _, fun hh => by cases hh⟩
 ·exact trodAll_mk1 (shut_bool Tryz.underlying4 _)
 ·have hold : ∀ b, b < W.heap.size -> W'.heap[b]? = W.heap[b]? := fun b hb => ariZ hst hb
  have hlt : ∀ q ∈ (p1 ++ ([] ++ (p3 ++ ([] ++ p5)))) ++ [], (fun b => decide (b < W.heap.size)) q.block = true := fun q hq => by simpa using hW'.lt q hq
  rw [Tryz.params3]
  refine ⟨p1, [] ++ (p3 ++ ([] ++ (p5 ++ []))), k1 W' _ hold (fun q hq => hlt q (by simp [hq])),⟨[], p3 ++ ([] ++ (p5 ++ [])), shut_int Tryz.underlying3 w2,⟨p3, [] ++ (p5 ++ []), k3 W' _ hold (fun q hq => hlt q (by simp [hq])),⟨[], p5 ++ [], shut_string Tryz.underlying9 w4,⟨p5, [], k5 W' _ hold (fun q hq => hlt q (by simp [hq])), rfl, rfl⟩, rfl⟩, rfl⟩, rfl⟩, by simp⟩
end Go.Proofs.YtglokbbcckpaaaaGreatDoor
end
