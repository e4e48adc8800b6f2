/- 'dactyllaw31.SecretTwins' returns true for every input, and each argument reads afterwards as it read before. Its row lists three package-level tables (math/bits, internal/strconv) with what they hold; the card ties them to the program's text. No other condition. -/
import Derived.Test.YtjomjnkapjgheaaDoorK34
import Derived.Test.YtjomjnkapjgheaaDoorRows
import Derived.Test.YtjomjnkapjgheaaDoorTie
import Derived.Test.YtjomjnkapjgheaaDoorCards
import Derived.ProofKit
import Derived.LaidMore
import Derived.OpenShut
import Derived.Stop.Joined
import Derived.SevenTiedAt
section
namespace Go.Proofs.YtjomjnkapjgheaaDoor
open Go Go.ChangeShapes Go.WideShapes Go.ChangeAt Go.WideMaps Go.WideElems Go.RowKit Go.Proofs.AM
set_option maxRecDepth 100000
theorem own : ownKnob Tryd.prog.godebug = none := by kernel_rfl
abbrev laid3 : List (String × DataW Unit) := [("math/bits.deBruijn32tab", Rows.laid_math_bits_deBruijn32tab), ("math/bits.deBruijn64tab", Rows.laid_math_bits_deBruijn64tab), ("internal/strconv.uint64pow10", Rows.laid_internal_strconv_uint64pow10)]
theorem gPow : Tryd.prog.globalNamed "internal/strconv.uint64pow10" = some 0 := by kernel_rfl
theorem tPow : (Tryd.prog.globals[0]?).map (·.type) = some 141 := by kernel_rfl
theorem powData : (Rows.laid_internal_strconv_uint64pow10 : DataW Unit) = Lib.tabData .u64 Lib.pow10Tab := by kernel_rfl
theorem door_met (os : Os) (args : Array Value) : laidMetH Tryd.prog laid3 ((World.doorLaid Tryd.prog 400 os).forCall (fun _ _ => 0) ⟨#[], args, []⟩).memory := by
  rw [MakeChecks.laidMetH_plain _ _ _ (by kernel_rfl)]
  exact laidMet_of_run' 8 (by kernel_rfl) (by kernel_rfl)
theorem tab_met {W : World} (h : laidMetH Tryd.prog laid3 W) : Lib.TabIs Tryd.prog W "internal/strconv.uint64pow10" .u64 Lib.pow10Tab := by
  rw [MakeChecks.laidMetH_plain _ _ _ (by kernel_rfl)] at h
  obtain ⟨ps,⟨g0, t0, cs0, f0, p0, q0, hg0, ht0, hv0, hd0,⟨g1, t1, cs1, f1, p1, q1, hg1, ht1, hv1, hd1,⟨g2, t2, cs2, f2, p2, q2, hg2, ht2, hv2, hd2, _, _⟩, _⟩, _⟩, _, _⟩ := h
  obtain rfl := Option.some.inj (gPow.symm.trans hg2)
  obtain rfl := Option.some.inj (tPow.symm.trans ht2)
  unfold Lib.TabIs
  rw [powData] at hd2
  rw [hv2, ← Lib.cells_of_tab Tryd.underlying141 Tryd.underlying130 (by kernel_rfl) (by kernel_rfl) hd2]
theorem glob_met {W : World} (h : laidMetH Tryd.prog laid3 W) : GlobOk (Tw.glob Tw.gT) (G0 W) := by
  have ht := tab_met h
  rw [Tw.glob_eq]
  intro n row hn
  simp only at hn
  split at hn
  · rename_i e
    subst e
    cases hn
    unfold Lib.TabIs World.var? at ht
    rw [gPow] at ht
    simp only [Option.bind_some] at ht
    split at ht
    · rename_i cs t fz hheap
      simp only [Option.some.injEq] at ht
      subst ht
      have hcell : ∀ j, W.cell? ⟨0, j, none⟩ = (Lib.pow10Tab.map fun z => Value.int .u64 z)[j]? := fun j => by
        simp [World.cell?, hheap]
      refine ⟨?_, _, t, fz, hheap, by simp⟩
      refine .ep _ 0 0 0 (by rw [List.all_eq_true]; intro a ha; obtain ⟨z, _, rfl⟩ := List.mem_map.1 ha; rfl) (fun j hj => ?_) fun j a x ha hx => ?_
      · show (W.cell? ⟨0, 0 + j, none⟩).isSome
        rw [Nat.zero_add, hcell, List.getElem?_map]
        simp at hj
        rw [List.getElem?_eq_getElem hj]
        rfl
      · have hx' : W.cell? ⟨0, 0 + j, none⟩ = some x := hx
        rw [Nat.zero_add, hcell, List.getElem?_map] at hx'
        rw [List.getElem?_map] at ha
        cases hz : Lib.pow10Tab[j]? with
        | none => rw [hz] at ha; cases ha
        | some z =>
          rw [hz] at ha hx'
          cases ha
          cases hx'
          exact .int _ _
    · cases ht
  · cases hn
theorem trodAll_six {H : Type} {enc : TypeId × Value → H} {P : Program} {w : World} {base : Nat} {spare : Nat → Bool} {held : Bool} {t1 t2 t3 t4 t5 t6 : TypeId} {args : Array Value} {ds : List (DataW H)} {ps : List MemPlace}
    (h : DataW.TrodAll enc P w base spare held [t1, t2, t3, t4, t5, t6] args.toList ds ps) :
    ∃ v1 v2 v3 v4 v5 v6 d1 d2 d3 d4 d5 d6 p1 p2 p3 p4 p5 p6, args = #[v1, v2, v3, v4, v5, v6] ∧ ds = [d1, d2, d3, d4, d5, d6] ∧ ps = p1 ++ (p2 ++ (p3 ++ (p4 ++ (p5 ++ p6)))) ∧
      DataW.Trod enc P w base spare held t1 v1 d1 p1 ∧ DataW.Trod enc P w base spare held t2 v2 d2 p2 ∧ DataW.Trod enc P w base spare held t3 v3 d3 p3 ∧
      DataW.Trod enc P w base spare held t4 v4 d4 p4 ∧ DataW.Trod enc P w base spare held t5 v5 d5 p5 ∧ DataW.Trod enc P w base spare held t6 v6 d6 p6 := by
  obtain ⟨v1, r1, d1, s1, p1, q1, e1, rfl, rfl, h1, h⟩ := trodAll_cons h
  obtain ⟨v2, r2, d2, s2, p2, q2, rfl, rfl, rfl, h2, h⟩ := trodAll_cons h
  obtain ⟨v3, r3, d3, s3, p3, q3, rfl, rfl, rfl, h3, h⟩ := trodAll_cons h
  obtain ⟨v4, r4, d4, s4, p4, q4, rfl, rfl, rfl, h4, h⟩ := trodAll_cons h
  obtain ⟨v5, r5, d5, s5, p5, q5, rfl, rfl, rfl, h5, h⟩ := trodAll_cons h
  obtain ⟨v6, r6, d6, s6, p6, q6, rfl, rfl, rfl, h6, h⟩ := trodAll_cons h
  obtain ⟨rfl, rfl, rfl⟩ := trodAll_nil h
  exact ⟨v1, v2, v3, v4, v5, v6, d1, d2, d3, d4, d5, d6, p1, p2, p3, p4, p5, p6, by cases args; simp_all, rfl, by simp, h1, h2, h3, h4, h5, h6⟩
theorem lifted (os : Os) (started : os.Started) (H : Type) (enc : TypeId × Value → H) :
    ReturnsInHanded {} Tryd.checked os 3 .any (fun w args => (Rows.secretTwinsSpec.pre enc Tryd.prog Tryd.f3 [] false w args ∧ laidMetH Tryd.prog laid3 w) ∧ sizedMet enc Tryd.prog Tryd.f3 (OpenSpec.ofChange Rows.secretTwinsSpec) false w args)
      (Rows.secretTwinsSpec.post enc Tryd.prog Tryd.f3 false true false false) := by
  refine returnsInHanded_of_change_and (C := Tryd.checked) (X := fun w _ => laidMetH Tryd.prog laid3 w) (fun _ _ _ hh h => h.of_heap hh) own started (by kernel_rfl) Tryd.func3
    (ChangeSpec.witness_shaped (enc := enc) (C := Tryd.checked) (os := os) (X := fun w _ => laidMetH Tryd.prog laid3 w) false (World.doorLaid Tryd.prog 400 os) #[.slice none 0 0, .slice none 0 0, .int .i64 0, .int .i64 0, .int .i64 0, .int .i64 0] 8 rfl (World.shaped_of_RefB (by kernel_rfl) (by kernel_rfl)) (by kernel_rfl) (by kernel_rfl) (by kernel_rfl) (door_met os _)) ?_
  intro W base args ds gs before hval0 hW _ _ hL _
  have hval : ∀ (j : Nat) t v, Tryd.f3.params[j]? = some t → args[j]? = some v → Value.okWide Tryd.prog W .any base t v := hval0
  have hW' := hW
  obtain ⟨p, q, hA0, hV, rfl, hfz, hnd⟩ := hW
  have hA : DataW.TrodAll enc Tryd.prog W 0 (fun _ => true) true Tryd.f3.params.toList args.toList ds p := hA0
  rw [Tryd.params3] at hA hval
  obtain ⟨v1, v2, v3, v4, v5, v6, d1, d2, d3, d4, d5, d6, p1, p2, p3, p4, p5, p6, rfl, rfl, rfl, h1, h2, h3, h4, h5, h6⟩ := trodAll_six hA
  obtain ⟨rfl, rfl⟩ := trodVars_none hV
  obtain ⟨l, hl, r1, k1⟩ := ints_arg Tryd.underlying22 Tryd.underlying3 (by kernel_rfl) (hval 0 22 v1 rfl rfl) h1
  obtain ⟨m, hm, r2, k2⟩ := ints_arg Tryd.underlying22 Tryd.underlying3 (by kernel_rfl) (hval 1 22 v2 rfl rfl) h2
  obtain ⟨n, rfl, rfl, rfl, w3⟩ := open_int Tryd.underlying3 (hval 2 3 v3 rfl rfl) h3
  obtain ⟨a, rfl, rfl, rfl, w4⟩ := open_int Tryd.underlying3 (hval 3 3 v4 rfl rfl) h4
  obtain ⟨h, rfl, rfl, rfl, w5⟩ := open_int Tryd.underlying3 (hval 4 3 v5 rfl rfl) h5
  obtain ⟨b, rfl, rfl, rfl, w6⟩ := open_int Tryd.underlying3 (hval 5 3 v6 rfl rfl) h6
  clear hA0 hval0
  have hx : LRel (G0 W) [.sl false (l.map encInt), .sl false (m.map encInt), vi n, vi a, vi h, vi b] [v1, v2, .int .i64 n, .int .i64 a, .int .i64 h, .int .i64 b] := by
    refine ⟨rfl, fun i c x hc hy => ?_⟩
    match i, hc, hy with
    | 0, hc, hy => cases hc; cases hy; exact r1
    | 1, hc, hy => cases hc; cases hy; exact r2
    | 2, hc, hy => cases hc; cases hy; exact .int _ _
    | 3, hc, hy => cases hc; cases hy; exact .int _ _
    | 4, hc, hy => cases hc; cases hy; exact .int _ _
    | 5, hc, hy => cases hc; cases hy; exact .int _ _
  have b4 := Go.bounds_i64 w4
  have b5 := Go.bounds_i64 w5
  have b6 := Go.bounds_i64 w6
  refine (Tw.twins_calls hl hm ⟨b4.1, b4.2⟩ ⟨b5.1, b5.2⟩ ⟨b6.1, b6.2⟩ (G0 W) W _ (wf0 W) (glob_met hL) hx).mono fun e W' ⟨he, g', hst⟩ => ?_
  subst he
  refine ⟨_, rfl, _, _, _, [], p1 ++ (p2 ++ []), [], hW', ?_, ?_, rfl, step_kept hst _, fun hh => by cases hh⟩
  · exact trodAll_mk1 (shut_bool Tryd.underlying4 _)
  · have hold : ∀ b, b < W.heap.size → W'.heap[b]? = W.heap[b]? := fun b hb => step_heap hst hb
    have hlt : ∀ q ∈ (p1 ++ (p2 ++ ([] ++ ([] ++ ([] ++ []))))) ++ [], (fun b => decide (b < W.heap.size)) q.block = true := fun q hq => by simpa using hW'.lt q hq
    rw [Tryd.params3]
    refine ⟨p1, p2 ++ [], k1 W' _ hold (fun q hq => hlt q (by simp [hq])),⟨p2, [], k2 W' _ hold (fun q hq => hlt q (by simp [hq])), ?_, rfl⟩, rfl⟩
    exact ⟨[], [], shut_int Tryd.underlying3 w3,⟨[], [], shut_int Tryd.underlying3 w4,⟨[], [], shut_int Tryd.underlying3 w5,⟨[], [], shut_int Tryd.underlying3 w6, rfl, rfl⟩, rfl⟩, rfl⟩, rfl⟩
theorem secretTwins_holds : Rows.SecretTwinsSaid :=
  OpenClaim.holds_of_wide 3 Tryd.f3 rfl rfl rfl rfl rfl rfl rfl ⟨rfl, rfl, rfl, rfl, rfl⟩ rfl rfl rfl rfl rfl (by kernel_rfl) Tryd.func3 (by kernel_rfl)
    (of_decide_eq_true (by kernel_rfl)) (by unfold Func.isWrapper; first | (rw [if_pos (by decide +kernel)]; kernel_rfl) | (rw [if_neg (by decide +kernel)]; exact ⟨rfl, rfl⟩))
    (fun os started H enc _ => lifted os started H enc)
theorem secretTwins_card : Rows.SecretTwinsCardSaid :=
  Claim7.holds_tied_plain_at .later [] [.data, .data, .data] true (true, "13134ae0dcdab72fe5d40544040d9e4a8dea1b3ceb31db344c5c1036bb046be2") false
    secretTwins_holds (fun _ h => by cases h) (by kernel_rfl) (fun _ h => by cases h) secretTwins_row_tie rfl ⟨rfl, rfl⟩ (by kernel_rfl) rfl
    (fun f fn hf hfn => by
      obtain rfl : f = 3 := Option.some.inj ((show Tryd.prog.funcNamed "dactyl/dactyllaw31.SecretTwins" = some 3 by kernel_rfl).symm.trans hf) |>.symm
      obtain rfl : fn = Tryd.f3 := (Option.some.inj (Tryd.func3.symm.trans hfn)).symm
      exact ⟨by kernel_rfl, fun j t ht => by
        rw [Tryd.params3] at ht
        have hm : t ∈ [22, 22, 3, 3, 3, 3] := by simpa using Array.mem_of_getElem? ht
        have hall : ([22, 22, 3, 3, 3, 3].all fun u => !Tryd.prog.wantsStandIn u) = true := by kernel_rfl
        exact (show Tryd.prog.wantsStandIn t = false by simpa using List.all_eq_true.1 hall t hm)⟩)
    (by kernel_rfl)
#print axioms secretTwins_card
end Go.Proofs.YtjomjnkapjgheaaDoor
end
