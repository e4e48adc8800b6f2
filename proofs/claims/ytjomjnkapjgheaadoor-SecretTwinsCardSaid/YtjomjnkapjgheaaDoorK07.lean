/- Part 7 of the proof that stands in the last text of this folder (lemmas; no statement of its own). -/
import Derived.Test.YtjomjnkapjgheaaDoorK06
section
namespace Go.Proofs.AM
open Go
section
variable {P : Program} {glob : Nat → Option (List AV)} {g : G} {H : List AObj} {w w' : World} {ρ : List AV} {a : Act}
theorem SlotRel.put {tmps : Array Value} (h : SlotRel g ρ tmps) {v : AV} {x : Value} (hv : VRel g v x) (d : Nat) : SlotRel g (ρ.set d v) (tmps.setIfInBounds d x) := by
  refine ⟨by simpa using h.1, fun t => ?_⟩
  by_cases e : t = d
  · subst e
    by_cases hlt : t < ρ.length
    · have : t < tmps.size := by have := h.1; omega
      simp only [List.getElem?_set, hlt, if_true, Option.getD_some, Array.getD_eq_getD_getElem?]
      simpa [this] using hv
    · have h1 : ¬ (t < tmps.size) := by have := h.1; omega
      simp only [List.getElem?_set, hlt, if_false]
      simp
      exact .undef _
  · have h1 := h.2 t
    rw [getElem?_set_ne' _ _ (Ne.symm e)]
    simpa [Array.getD_eq_getD_getElem?, Array.getElem?_setIfInBounds_ne (Ne.symm e)] using h1
theorem SlotRel.putSlot (h : SlotRel g ρ a.tmps) {v : AV} {x : Value} (hv : VRel g v x) (d : Option Tmp) : SlotRel g (putSlot ρ d v) (a.put d x).tmps := by
  cases d with
  | none => exact h
  | some d => exact h.put hv d
theorem put_defers (a : Act) (d : Option Tmp) (v : Value) : (a.put d v).defers = a.defers := by cases d <;> rfl
theorem SlotRel.bool (h : SlotRel g ρ a.tmps) {t : Nat} {b : Bool} (hb : ρ[t]? = some (.bool b)) : a.tmps[t]? = some (.bool b) := by
  have hlt : t < ρ.length := (List.getElem?_eq_some_iff.1 hb).1
  have hlt' : t < a.tmps.size := by have := h.1; omega
  have := h.2 t
  rw [hb] at this
  simp only [Option.getD_some] at this
  have := this.bool_inv
  simp [Array.getD_eq_getD_getElem?, hlt'] at this
  simp [hlt', this]
theorem wanted_eq {all : Array Oper} {o : Oper} {ao : AOper} (hgd : ao.guard = guardOf all.toList o.guard) (h : SlotRel g ρ a.tmps) (hok : guardOk ρ ao = true) :
    Region.wanted o (yielded all a.tmps) = wanted ρ ao := by
  unfold guardOk at hok
  unfold Go.Proofs.AM.wanted Region.wanted
  rw [hgd] at hok ⊢
  cases hq : o.guard with
  | none => simp [guardOf]
  | some jw =>
    obtain ⟨j, want⟩ := jw
    rw [hq] at hok
    simp only [guardOf] at hok ⊢
    cases hd : (all.toList[j]?).bind (·.dst) with
    | none => rw [hd] at hok; simp at hok
    | some t =>
      rw [hd] at hok
      simp only at hok ⊢
      have hd' : (all[j]?).bind (·.dst) = some t := by rw [← hd]; simp
      cases hb : ρ[t]? with
      | none => rw [hb] at hok; simp at hok
      | some v =>
        rw [hb] at hok
        cases v <;> simp at hok
        rename_i b
        have := h.bool hb
        simp only [yielded, hd', Option.bind_some, this]
        cases b <;> cases want <;> rfl
structure Compd (P : Program) (glob : Nat → Option (List AV)) (all : Array Oper) (o : Oper) (ao : AOper) : Prop where
  dst : ao.dst = o.dst
  op : ao.op = (cOp P glob o).getD .bad
  guard : ao.guard = guardOf all.toList o.guard
theorem addWr_spec (base : Nat) : ∀ (l wr : List Nat), (∀ o ∈ wr, o ∈ addWr base wr l) ∧ ∀ o ∈ l, o < base → o ∈ addWr base wr l
  | [], wr => ⟨fun o h => h, fun o h => by simp at h⟩
  | x :: l, wr => by
    unfold addWr
    split
    · obtain ⟨h1, h2⟩ := addWr_spec base l (x :: wr)
      refine ⟨fun o h => h1 o (List.mem_cons_of_mem _ h), fun o h hb => ?_⟩
      rcases List.mem_cons.1 h with rfl | h
      · exact h1 o (by simp)
      · exact h2 o h hb
    · rename_i hc
      obtain ⟨h1, h2⟩ := addWr_spec base l wr
      refine ⟨h1, fun o h hb => ?_⟩
      rcases List.mem_cons.1 h with rfl | h
      · simp only [not_and, Decidable.not_not, List.contains_iff_mem] at hc
        exact h1 o (hc hb)
      · exact h2 o h hb
theorem evOp_sound {all : Array Oper} {o : Oper} {ao : AOper} (hc : Compd P glob all o ao) {call : Nat → List AV → List AObj → Out} (hcall : CallOk P glob call) {c : Ctx} {av : AV} {H' : List AObj} {wr : List Nat}
    (h : evOp call c false H ρ ao = some (av, H', wr)) (hw : WF g H w) (hg : GlobOk glob g) (hs : SlotRel g ρ a.tmps) :
    Does P o a w fun v w' => ∃ g', Step g H w g' H' w' wr ∧ VRel g' av v := by
  unfold evOp at h
  have hop : ∀ op, ao.op = op → op ≠ .bad → cOp P glob o = some op := fun op e hb => by
    rw [hc.op] at e
    cases hq : cOp P glob o with
    | none => rw [hq] at e; exact absurd e.symm hb
    | some op' => rw [hq] at e; simp at e; rw [e]
  by_cases hbad : ao.op = .bad
  · rw [hbad] at h
    simp [isW, evR] at h
  · have hco := hop _ rfl hbad
    split at h
    · exact evW_sound hco hcall h hw hg hs
    · split at h
      · rename_i v hv
        cases h
        exact (evR_sound hco hv hw hg hs).does
      · cases h
def Reach (glob : Nat → Option (List AV)) (base : Nat) (g : G) (H : List AObj) (w : World) (d : List Deferred) (s' : ASt) (a' : Act) (w' : World) : Prop :=
  ∃ g' W, Step g H w g' s'.H w' W ∧ (∀ o ∈ W, o < base → o ∈ s'.wr) ∧ SlotRel g' s'.ρ a'.tmps ∧ a'.defers = d ∧ GlobOk glob g'
theorem Reach.refl {base : Nat} {s : ASt} (hw : WF g s.H w) (hs : SlotRel g s.ρ a.tmps) (hg : GlobOk glob g) : Reach glob base g s.H w a.defers s a w :=
  ⟨g, [], .refl hw, fun o h => by simp at h, hs, rfl, hg⟩
theorem evOps_wr {call : Nat → List AV → List AObj → Out} {c : Ctx} : ∀ (l : List AOper) (s s' : ASt), evOps call c l s = some s' → ∀ o ∈ s.wr, o ∈ s'.wr
  | [], s, s', h => by simp only [evOps, Option.some.injEq] at h; subst h; exact fun o h => h
  | o :: l, s, s', h => by
    unfold evOps at h
    split at h
    · split at h
      · split at h
        · exact fun x hx => evOps_wr l _ s' h x ((addWr_spec _ _ _).1 x hx)
        · cases h
      · exact fun x hx => evOps_wr l _ s' h x hx
    · cases h
theorem evOps_sound {all : Array Oper} {call : Nat → List AV → List AObj → Out} (hcall : CallOk P glob call) {c : Ctx} {Q : Exit → Act → World → Prop} : ∀ (l : List Oper) (al : List AOper),
    l.length = al.length → (∀ (i : Nat) o ao, l[i]? = some o → al[i]? = some ao → Compd P glob all o ao) → ∀ (s s' : ASt), evOps call c al s = some s' →
    ∀ (g : G) (a : Act) (w : World), WF g s.H w → GlobOk glob g → SlotRel g s.ρ a.tmps → (∀ a' w', Reach glob c.base g s.H w a.defers s' a' w' → Q .normal a' w') → wpList P all Q l a w
  | [], al, hl, _, s, s', h, g, a, w, hw, hg, hs, hQ => by
    cases al with
    | nil => simp only [evOps, Option.some.injEq] at h; subst h; exact hQ a w (.refl hw hs hg)
    | cons _ _ => simp at hl
  | o :: l, al, hl, hc, s, s', h, g, a, w, hw, hg, hs, hQ => by
    cases al with
    | nil => simp at hl
    | cons ao al =>
      have hc0 := hc 0 o ao rfl rfl
      have hrest : ∀ (i : Nat) o ao, l[i]? = some o → al[i]? = some ao → Compd P glob all o ao := fun i o ao h1 h2 => hc (i + 1) o ao (by simpa using h1) (by simpa using h2)
      unfold evOps at h
      split at h
      · rename_i hok
        have hwd := wanted_eq hc0.guard hs hok
        unfold wpList
        split at h
        · rename_i hwt
          rw [hwd, if_pos hwt]
          split at h
          · rename_i v H' wr hev
            refine .inl ((evOp_sound hc0 hcall hev hw hg hs).wp fun x w1 ⟨g1, hstep, hv⟩ => ?_)
            have hs1 : SlotRel g1 (putSlot s.ρ ao.dst v) (a.put o.dst x).tmps := by rw [hc0.dst]; exact (hs.mono hstep.le).putSlot hv o.dst
            refine evOps_sound hcall l al (by simpa using hl) hrest _ s' h g1 _ w1 hstep.wf (hg.mono hstep.le) hs1 fun a' w' hr => hQ a' w' ?_
            obtain ⟨g2, W, h1, h2, h3, h4, h5⟩ := hr
            refine ⟨g2, wr ++ W, hstep.trans h1, fun o' ho hb => ?_, h3, by rw [h4, put_defers], h5⟩
            rcases List.mem_append.1 ho with ho | ho
            · exact evOps_wr al _ s' h o' ((addWr_spec _ _ _).2 o' ho hb)
            · exact h2 o' ho hb
          · cases h
        · rename_i hwt
          rw [hwd, if_neg hwt]
          have hs1 : SlotRel g (putSlot s.ρ ao.dst .undef) (a.put o.dst Go.undef).tmps := by rw [hc0.dst]; exact hs.putSlot (.undef _) o.dst
          refine evOps_sound hcall l al (by simpa using hl) hrest _ s' h g _ w hw hg hs1 fun a' w' hr => hQ a' w' ?_
          obtain ⟨g2, W, h1, h2, h3, h4, h5⟩ := hr
          exact ⟨g2, W, h1, h2, h3, by rw [h4, put_defers], h5⟩
      · cases h
theorem cOps_spec (all : Array Oper) : ∀ (l : List Oper) (pres : List (List Nat)), (cOps P glob all.toList l pres).length = l.length ∧
    ∀ (i : Nat) o ao, l[i]? = some o → (cOps P glob all.toList l pres)[i]? = some ao → Compd P glob all o ao
  | [], pres => ⟨rfl, fun i o ao h => by simp at h⟩
  | o :: l, pres => by
    obtain ⟨h1, h2⟩ := cOps_spec all l (pres ++ [preOf pres o])
    refine ⟨by simp [cOps, h1], fun i o' ao e1 e2 => ?_⟩
    cases i with
    | zero => simp [cOps] at e1 e2; subst e1; subst e2; exact ⟨rfl, rfl, rfl⟩
    | succ i => exact h2 i o' ao (by simpa using e1) (by simpa [cOps] using e2)
theorem region_sound {id : Nat} {ops : Array Oper} {call : Nat → List AV → List AObj → Out} (hcall : CallOk P glob call) {c : Ctx} {s s' : ASt}
    (h : evOps call c (cOps P glob ops.toList ops.toList []) s = some s') {Q : Exit → Act → World → Prop} (hw : WF g s.H w) (hg : GlobOk glob g) (hs : SlotRel g s.ρ a.tmps)
    (hQ : ∀ a' w', Reach glob c.base g s.H w a.defers s' a' w' → Q .normal a' w') : (Code.region id ops false).wp P Q a w := by
  obtain ⟨h1, h2⟩ := cOps_spec (P := P) (glob := glob) ops ops.toList []
  exact wp_region_list (evOps_sound hcall ops.toList _ h1.symm h2 s s' h g a w hw hg hs hQ)
end
end Go.Proofs.AM
end
section
namespace Go.Proofs.AM
open Go
theorem AOpd.ev_congr {ρ ρ' : List AV} {x : AOpd} (h : ∀ t ∈ x.slot, ρ[t]? = ρ'[t]?) : x.ev ρ = x.ev ρ' := by
  cases x with
  | tmp t => simp only [AOpd.ev, h t (by simp [AOpd.slot])]
  | const v => rfl
theorem ev_list_congr {ρ ρ' : List AV} {xs : List AOpd} (h : ∀ t ∈ xs.flatMap AOpd.slot, ρ[t]? = ρ'[t]?) : xs.map (AOpd.ev ρ) = xs.map (AOpd.ev ρ') :=
  List.map_congr_left fun x hx => AOpd.ev_congr fun t ht => h t (List.mem_flatMap.2 ⟨x, hx, ht⟩)
theorem ev_opt_congr {ρ ρ' : List AV} {x : Option AOpd} (h : ∀ t ∈ oslot x, ρ[t]? = ρ'[t]?) : x.map (AOpd.ev ρ) = x.map (AOpd.ev ρ') := by
  cases x with
  | none => rfl
  | some x => simp only [Option.map_some]; rw [AOpd.ev_congr h]
theorem buildCells_congr {ρ ρ' : List AV} : ∀ (ps : List (Nat × Nat × AOpd)) (cs : List AV), (∀ t ∈ ps.flatMap (fun p => p.2.2.slot), ρ[t]? = ρ'[t]?) → buildCells ρ cs ps = buildCells ρ' cs ps
  | [], cs, _ => rfl
  | (o, s, x) :: ps, cs, h => by
    have hx : x.ev ρ = x.ev ρ' := AOpd.ev_congr fun t ht => h t (by simp [ht])
    simp only [buildCells, hx]
    split
    · exact buildCells_congr ps _ fun t ht => h t (by simp only [List.flatMap_cons, List.mem_append]; exact .inr ht)
    · rfl
theorem buildRows_congr {ρ ρ' : List AV} {k : Nat} : ∀ (ps : List (Nat × AOpd)) (rows : List (List AV)), (∀ t ∈ ps.flatMap (fun p => p.2.slot), ρ[t]? = ρ'[t]?) → buildRows ρ k rows ps = buildRows ρ' k rows ps
  | [], rows, _ => rfl
  | (i, x) :: ps, rows, h => by
    have hx : x.ev ρ = x.ev ρ' := AOpd.ev_congr fun t ht => h t (by simp [ht])
    simp only [buildRows, hx]
    split
    · exact buildRows_congr ps _ fun t ht => h t (by simp only [List.flatMap_cons, List.mem_append]; exact .inr ht)
    · rfl
theorem buildRowsC_congr {ρ ρ' : List AV} {k : Nat} : ∀ (ps : List (Nat × AOpd)) (rows : List (List AV)), (∀ t ∈ ps.flatMap (fun p => p.2.slot), ρ[t]? = ρ'[t]?) → buildRowsC ρ k rows ps = buildRowsC ρ' k rows ps
  | [], rows, _ => rfl
  | (i, x) :: ps, rows, h => by
    have hx : x.ev ρ = x.ev ρ' := AOpd.ev_congr fun t ht => h t (by simp [ht])
    simp only [buildRowsC, hx]
    split
    · exact buildRowsC_congr ps _ fun t ht => h t (by simp only [List.flatMap_cons, List.mem_append]; exact .inr ht)
    · rfl
theorem fixRows_congr {ρ ρ' : List AV} {k : Nat} : ∀ (ps : List (Nat × AOpd)) (H : List AObj) (rows : List (List AV)), (∀ t ∈ ps.flatMap (fun p => p.2.slot), ρ[t]? = ρ'[t]?) → fixRows ρ k H rows ps = fixRows ρ' k H rows ps
  | [], H, rows, _ => rfl
  | (i, x) :: ps, H, rows, h => by
    have hx : x.ev ρ = x.ev ρ' := AOpd.ev_congr fun t ht => h t (by simp [ht])
    simp only [fixRows, hx]
    split
    · split
      · rw [fixRows_congr ps _ _ fun t ht => h t (by simp only [List.flatMap_cons, List.mem_append]; exact .inr ht)]
      · rfl
    · rfl
theorem evR_congr {ρ ρ' : List AV} {H : List AObj} {op : AOp} (h : ∀ t ∈ op.slots, ρ[t]? = ρ'[t]?) : evR H ρ op = evR H ρ' op := by
  have e1 : ∀ {x : AOpd}, (∀ t ∈ x.slot, t ∈ op.slots) → x.ev ρ = x.ev ρ' := fun hx => AOpd.ev_congr fun t ht => h t (hx t ht)
  have e2 : ∀ {x : Option AOpd}, (∀ t ∈ oslot x, t ∈ op.slots) → x.map (AOpd.ev ρ) = x.map (AOpd.ev ρ') := fun hx => ev_opt_congr fun t ht => h t (hx t ht)
  have e3 : ∀ {xs : List AOpd}, (∀ t ∈ xs.flatMap AOpd.slot, t ∈ op.slots) → xs.map (AOpd.ev ρ) = xs.map (AOpd.ev ρ') := fun hx => ev_list_congr fun t ht => h t (hx t ht)
  cases op with
  | bad => rfl
  | mov x => simp only [evR]; rw [e1 fun t ht => ht]
  | pick c a b => simp only [evR]; rw [e1 (x := c) fun t ht => by simp [AOp.slots, ht], e1 (x := a) fun t ht => by simp [AOp.slots, ht], e1 (x := b) fun t ht => by simp [AOp.slots, ht]]
  | alloc zs => rfl
  | box k x => simp only [evR]; rw [e1 fun t ht => ht]
  | build zs ps => simp only [evR]; rw [buildCells_congr ps zs h]
  | bsl k zs n ps => simp only [evR]; rw [buildRows_congr ps _ h]
  | load k agg x => simp only [evR]; rw [e1 fun t ht => ht]
  | store k x v => rfl
  | nilck x => simp only [evR]; rw [e1 fun t ht => ht]
  | isnil neg x => simp only [evR]; rw [e1 fun t ht => ht]
  | bin o ek x y => simp only [evR]; rw [e1 (x := x) fun t ht => by simp [AOp.slots, ht], e1 (x := y) fun t ht => by simp [AOp.slots, ht]]
  | un o x => simp only [evR]; rw [e1 fun t ht => ht]
  | conv c x => simp only [evR]; rw [e1 fun t ht => ht]
  | mkf f a b =>
    have ha := e3 (xs := a) fun t ht => by simp only [AOp.slots, List.mem_append]; exact .inl ht
    have hb := e3 (xs := b) fun t ht => by simp only [AOp.slots, List.mem_append]; exact .inr ht
    have ha' : a.map (fun x => (x.ev ρ).strip1) = a.map (fun x => (x.ev ρ').strip1) := by
      have := congrArg (List.map AV.strip1) ha; simpa [List.map_map, Function.comp_def] using this
    have hb' : b.map (fun x => (x.ev ρ).strip1) = b.map (fun x => (x.ev ρ').strip1) := by
      have := congrArg (List.map AV.strip1) hb; simpa [List.map_map, Function.comp_def] using this
    simp only [evR]; rw [ha, hb, ha', hb']
  | mks k b zs l c => simp only [evR]; rw [e1 (x := l) fun t ht => by simp [AOp.slots, ht], e1 (x := c) fun t ht => by simp [AOp.slots, ht]]
  | sliceS x lo hi => simp only [evR]; rw [e1 (x := x) fun t ht => by simp [AOp.slots, ht], e2 (x := lo) fun t ht => by simp [AOp.slots, ht], e2 (x := hi) fun t ht => by simp [AOp.slots, ht]]
  | sliceV k x lo hi mx => simp only [evR]; rw [e1 (x := x) fun t ht => by simp [AOp.slots, ht], e2 (x := lo) fun t ht => by simp [AOp.slots, ht], e2 (x := hi) fun t ht => by simp [AOp.slots, ht], e2 (x := mx) fun t ht => by simp [AOp.slots, ht]]
  | sliceA n k x lo hi mx => simp only [evR]; rw [e1 (x := x) fun t ht => by simp [AOp.slots, ht], e2 (x := lo) fun t ht => by simp [AOp.slots, ht], e2 (x := hi) fun t ht => by simp [AOp.slots, ht], e2 (x := mx) fun t ht => by simp [AOp.slots, ht]]
  | fa o x => simp only [evR]; rw [e1 fun t ht => ht]
  | fld o k agg x => simp only [evR]; rw [e1 fun t ht => ht]
  | iaV x i k => simp only [evR]; rw [e1 (x := x) fun t ht => by simp [AOp.slots, ht], e1 (x := i) fun t ht => by simp [AOp.slots, ht]]
  | iaA n k x i => simp only [evR]; rw [e1 (x := x) fun t ht => by simp [AOp.slots, ht], e1 (x := i) fun t ht => by simp [AOp.slots, ht]]
  | ixS x i => simp only [evR]; rw [e1 (x := x) fun t ht => by simp [AOp.slots, ht], e1 (x := i) fun t ht => by simp [AOp.slots, ht]]
  | ixA n k agg x i => simp only [evR]; rw [e1 (x := x) fun t ht => by simp [AOp.slots, ht], e1 (x := i) fun t ht => by simp [AOp.slots, ht]]
  | lenS x => simp only [evR]; rw [e1 fun t ht => ht]
  | lenV x => simp only [evR]; rw [e1 fun t ht => ht]
  | lenC n => rfl
  | mm mx xs => simp only [evR]; rw [e3 fun t ht => ht]
  | app k b s x => rfl
  | ext i x => simp only [evR]; rw [e1 fun t ht => ht]
  | callv f xs => rfl
  | mkmap => rfl
  | ins m k v => rfl
  | look z m k ok => simp only [evR]; rw [e1 (x := m) fun t ht => by simp [AOp.slots, ht], e1 (x := k) fun t ht => by simp [AOp.slots, ht]]
theorem evW_congr {call : Nat → List AV → List AObj → Out} {ρ ρ' : List AV} {H : List AObj} {site : Option Nat} {op : AOp} (h : ∀ t ∈ op.slots, ρ[t]? = ρ'[t]?) : evW call H ρ site op = evW call H ρ' site op := by
  have e1 : ∀ {x : AOpd}, (∀ t ∈ x.slot, t ∈ op.slots) → x.ev ρ = x.ev ρ' := fun hx => AOpd.ev_congr fun t ht => h t (hx t ht)
  have e3 : ∀ {xs : List AOpd}, (∀ t ∈ xs.flatMap AOpd.slot, t ∈ op.slots) → xs.map (AOpd.ev ρ) = xs.map (AOpd.ev ρ') := fun hx => ev_list_congr fun t ht => h t (hx t ht)
  cases op with
  | box k x => simp only [evW]; rw [e1 fun t ht => ht]
  | bsl k zs n ps => simp only [evW]; rw [fixRows_congr ps _ _ h, buildRowsC_congr ps _ h]
  | store k x v => simp only [evW]; rw [e1 (x := x) fun t ht => by simp [AOp.slots, ht], e1 (x := v) fun t ht => by simp [AOp.slots, ht]]
  | mks k b zs l c => simp only [evW]; rw [e1 (x := l) fun t ht => by simp [AOp.slots, ht], e1 (x := c) fun t ht => by simp [AOp.slots, ht]]
  | app k b s x => simp only [evW]; rw [e1 (x := s) fun t ht => by simp [AOp.slots, ht], e1 (x := x) fun t ht => by simp [AOp.slots, ht]]
  | callv f xs => simp only [evW]; rw [e1 (x := f) fun t ht => by simp [AOp.slots, ht], e3 (xs := xs) fun t ht => by simp only [AOp.slots, List.mem_append]; exact .inr ht]
  | ins m k v => simp only [evW]; rw [e1 (x := m) fun t ht => by simp [AOp.slots, ht], e1 (x := k) fun t ht => by simp [AOp.slots, ht], e1 (x := v) fun t ht => by simp [AOp.slots, ht]]
  | _ => rfl
theorem rdOf_congr {ρ ρ' : List AV} {op : AOp} (h : ∀ t ∈ op.slots, ρ[t]? = ρ'[t]?) : rdOf ρ op = rdOf ρ' op := by
  cases op with
  | load k agg x => simp only [rdOf]; rw [AOpd.ev_congr h]
  | conv c x => cases c <;> simp only [rdOf]; rw [AOpd.ev_congr h]
  | look z m k ok => simp only [rdOf]; rw [AOpd.ev_congr fun t ht => h t (by simp [AOp.slots, ht])]
  | _ => rfl
theorem wanted_congr {ρ ρ' : List AV} {o : AOper} (h : ∀ t ∈ o.names, ρ[t]? = ρ'[t]?) : wanted ρ o = wanted ρ' o ∧ guardOk ρ o = guardOk ρ' o := by
  unfold wanted guardOk
  cases hg : o.guard with
  | none => exact ⟨rfl, rfl⟩
  | some tw =>
    obtain ⟨t, want⟩ := tw
    cases t with
    | none => exact ⟨rfl, rfl⟩
    | some t =>
      have : ρ[t]? = ρ'[t]? := h t (by simp [AOper.names, hg])
      simp only [this, and_self]
def AV.obj? : AV → List Nat
  | .ptr o _ _ => [o]
  | .vp o _ _ _ _ _ => [o]
  | _ => []
theorem rdOf_load (ρ : List AV) (k : Nat) (agg : Bool) (x : AOpd) : rdOf ρ (.load k agg x) = (x.ev ρ).obj? := by
  simp only [rdOf]
  cases x.ev ρ <;> rfl
theorem readCells_heap {H H' : List AObj} {k : Nat} {v : AV} (h : ∀ o ∈ v.obj?, H[o]? = H'[o]?) : readCells H k v = readCells H' k v := by
  cases v <;> simp only [readCells]
  · rw [h _ (by simp [AV.obj?])]
  · rw [h _ (by simp [AV.obj?])]
theorem evR_heap {ρ : List AV} {H H' : List AObj} {op : AOp} (h : ∀ o ∈ rdOf ρ op, H[o]? = H'[o]?) : evR H ρ op = evR H' ρ op := by
  cases op with
  | load k agg x =>
    simp only [evR]
    rw [readCells_heap fun o ho => h o (by rw [rdOf_load]; exact ho)]
  | conv c x =>
    simp only [evR]
    cases c with
    | b2s =>
      have : rowsOf H (x.ev ρ) = rowsOf H' (x.ev ρ) := by
        have h' : ∀ o v n, x.ev ρ = .sr o v n → H[o]? = H'[o]? := fun o v n e => h o (by simp [rdOf, e])
        revert h'
        cases x.ev ρ <;> intro h' <;> simp only [rowsOf]
        rw [h' _ _ _ rfl]
      cases hx : x.ev ρ <;> rw [hx] at this <;> simp only [convV, this]
    | _ => cases x.ev ρ <;> rfl
  | look z m k ok =>
    simp only [evR]
    have h' : ∀ o v, m.ev ρ = .mp o v → H[o]? = H'[o]? := fun o v e => h o (by simp [rdOf, e])
    revert h'
    cases m.ev ρ <;> intro h' <;> simp only
    rw [h' _ _ rfl]
  | _ => rfl
end Go.Proofs.AM
end
section
namespace Go.Proofs.AM
open Go
def Fr (H H' : List AObj) (wr : List Nat) : Prop := H.length ≤ H'.length ∧ ∀ o, o < H.length → o ∉ wr → H'[o]? = H[o]?
theorem Fr.refl (H : List AObj) (wr : List Nat) : Fr H H wr := ⟨Nat.le_refl _, fun _ _ _ => rfl⟩
theorem Fr.trans {H H1 H2 : List AObj} {a b : List Nat} (h : Fr H H1 a) (h' : Fr H1 H2 b) : Fr H H2 (a ++ b) :=
  ⟨Nat.le_trans h.1 h'.1, fun o ho hn => by
    simp only [List.mem_append, not_or] at hn
    rw [h'.2 o (Nat.lt_of_lt_of_le ho h.1) hn.2, h.2 o ho hn.1]⟩
theorem Fr.weaken {H H' : List AObj} {a b : List Nat} (h : Fr H H' a) (hs : ∀ o ∈ a, o ∈ b) : Fr H H' b := ⟨h.1, fun o ho hn => h.2 o ho fun hm => hn (hs o hm)⟩
theorem Fr.set (H : List AObj) (o : Nat) (x : AObj) : Fr H (H.set o x) [o] := ⟨by simp, fun o' _ hn => getElem?_set_ne' _ _ (fun e => hn (by simp [e]))⟩
theorem goneAll_fr : ∀ (l : List Nat) (H : List AObj), Fr H (goneAll H l) l
  | [], H => .refl H _
  | o :: l, H => by
    have := (Fr.set H o (.gone ((H[o]?).elim 0 AObj.ver))).trans (goneAll_fr l _)
    exact this
theorem fix_fr {H H' : List AObj} {v v' : AV} {l : List Nat} (h : fix H v = some (v', H', l)) : Fr H H' l := by
  unfold fix at h
  split at h
  · cases h; exact goneAll_fr _ _
  · cases h
theorem fixRows_fr {ρ : List AV} {k : Nat} : ∀ (ps : List (Nat × AOpd)) (H : List AObj) (rows out : List (List AV)) (H' : List AObj) (l : List Nat), fixRows ρ k H rows ps = some (out, H', l) → Fr H H' l
  | [], H, rows, out, H', l, h => by simp only [fixRows, Option.some.injEq, Prod.mk.injEq] at h; obtain ⟨_, rfl, rfl⟩ := h; exact .refl _ _
  | (i, x) :: ps, H, rows, out, H', l, h => by
    simp only [fixRows] at h
    split at h
    · rename_i hf
      split at h
      · split at h
        · rename_i hr
          simp only [Option.some.injEq, Prod.mk.injEq] at h
          obtain ⟨_, rfl, rfl⟩ := h
          exact (fix_fr hf).trans (fixRows_fr ps _ _ _ _ _ hr)
        · cases h
      · cases h
    · cases h
def CallFr (call : Nat → List AV → List AObj → Out) : Prop := ∀ f args H v H' wr, call f args H = some (v, H', wr) → Fr H H' wr
theorem storeCells_fr {H H' : List AObj} {vs : List AV} {p : AV} {wr : List Nat} (h : storeCells H vs p = some (H', wr)) : Fr H H' wr := by
  unfold storeCells at h
  split at h
  · split at h
    · split at h
      · cases h; exact Fr.set _ _ _
      · cases h
    · cases h
  · split at h
    · split at h
      · split at h
        · split at h
          · cases h; exact Fr.set _ _ _
          · cases h
        · cases h
      · cases h
    · cases h
  · cases h
theorem evApp_fr {H H' : List AObj} {site : Option Nat} {k b : Nat} {s x v : AV} {wr : List Nat} (h : evApp H site k b s x = some (v, H', wr)) : Fr H H' wr := by
  unfold evApp at h
  split at h
  · cases h
  split at h
  · cases h
  split at h
  · split at h
    · cases h; exact .refl _ _
    · split at h
      · split at h
        · split at h
          · cases h; exact Fr.set _ _ _
          · cases h
        · cases h
      · cases h
  · split at h
    · split at h
      · split at h
        · cases h; exact .refl _ _
        · cases h; exact Fr.set _ _ _
      · cases h
    · cases h
  · cases h
theorem evCallv_fr {call : Nat → List AV → List AObj → Out} (hc : CallFr call) {H H' : List AObj} {site : Option Nat} {f v : AV} {args : List AV} {wr : List Nat} (h : evCallv call H site f args = some (v, H', wr)) : Fr H H' wr := by
  unfold evCallv at h
  split at h
  · split at h
    · cases h
    rename_i args' lent hl
    split at h
    · cases h
    rename_i v1 H1 wr1 hcall
    have h1 := hc _ _ _ _ _ _ hcall
    split at h
    · rename_i he
      have : lent = [] := by simpa using he
      subst this
      have h2 : Fr H H1 wr1 := h1
      split at h
      · split at h
        · split at h
          · cases h
            refine (h2.trans (Fr.set _ _ _)).weaken fun o ho => ?_
            rcases List.mem_append.1 ho with ho | ho
            · exact mem_ifcons ho
            · simp only [List.mem_singleton] at ho
              subst ho
              split
              · rename_i hcn; simpa using hcn
              · simp
          · cases h
        · cases h; exact h2
      · cases h; exact h2
    · split at h
      · cases h; exact .refl _ _
      · cases h
  · cases h
theorem evW_fr {call : Nat → List AV → List AObj → Out} (hc : CallFr call) {H H' : List AObj} {ρ : List AV} {site : Option Nat} {op : AOp} {v : AV} {wr : List Nat} (h : evW call H ρ site op = some (v, H', wr)) : Fr H H' wr := by
  unfold evW at h
  split at h
  · split at h
    · split at h
      · cases h; exact Fr.set _ _ _
      · cases h
    · cases h
  · split at h
    · split at h
      · cases h; exact Fr.set _ _ _
      · cases h
    · cases h
  · split at h
    · split at h
      · rename_i hs; cases h; exact storeCells_fr hs
      · cases h
    · cases h
  · split at h
    · split at h
      · split at h
        · cases h; exact Fr.set _ _ _
        · cases h
      · cases h
    · split at h
      · rename_i hf
        cases h
        exact fixRows_fr _ _ _ _ _ _ hf
      · cases h
  · split at h
    · split at h
      · split at h
        · split at h
          · cases h; exact Fr.set _ _ _
          · cases h
        · cases h; exact .refl _ _
      · cases h
    · cases h
  · exact evApp_fr h
  · exact evCallv_fr hc h
  · split at h
    · split at h
      · cases h; exact Fr.set _ _ _
      · cases h
    · cases h
  · split at h
    · split at h
      · split at h
        · split at h
          · cases h; exact Fr.set _ _ _
          · cases h; exact Fr.set _ _ _
          · cases h
        · cases h
      · cases h
    · cases h
  · cases h
theorem evOp_fr {call : Nat → List AV → List AObj → Out} (hc : CallFr call) {c : Ctx} {d : Bool} {H H' : List AObj} {ρ : List AV} {o : AOper} {v : AV} {wr : List Nat} (h : evOp call c d H ρ o = some (v, H', wr)) : Fr H H' wr := by
  unfold evOp at h
  split at h
  · exact evW_fr hc h
  · split at h
    · cases h; exact .refl _ _
    · cases h
theorem evOpD_fr {call : Nat → List AV → List AObj → Out} (hc : CallFr call) {c : Ctx} {H H' : List AObj} {ρ : List AV} {o : AOper} {v : AV} {rd : List Nat} {wr : Option (List Nat)} (h : evOpD call c H ρ o = some (v, H', rd, wr)) :
    Fr H H' (wr.getD []) ∧ (wr = none → H' = H) ∧ H'.length = H.length := by
  unfold evOpD at h
  split at h
  · cases h; exact ⟨.refl _ _, fun _ => rfl, rfl⟩
  · split at h
    · split at h
      · rename_i hw
        split at h
        · rename_i hlen; cases h; exact ⟨evW_fr hc hw, fun e => (by cases e), hlen⟩
        · cases h
      · cases h
    · split at h
      · cases h; exact ⟨.refl _ _, fun _ => rfl, rfl⟩
      · cases h
def FrB (base : Nat) (s s' : ASt) : Prop := s.H.length ≤ s'.H.length ∧ (∀ o ∈ s.wr, o ∈ s'.wr) ∧ ∀ o, o < s.H.length → o < base → o ∉ s'.wr → s'.H[o]? = s.H[o]?
theorem FrB.refl (base : Nat) (s : ASt) : FrB base s s := ⟨Nat.le_refl _, fun _ h => h, fun _ _ _ _ => rfl⟩
theorem FrB.trans {base : Nat} {s s1 s2 : ASt} (h : FrB base s s1) (h' : FrB base s1 s2) : FrB base s s2 :=
  ⟨Nat.le_trans h.1 h'.1, fun o ho => h'.2.1 o (h.2.1 o ho), fun o ho hb hn => by
    rw [h'.2.2 o (Nat.lt_of_lt_of_le ho h.1) hb hn, h.2.2 o ho hb fun hm => hn (h'.2.1 o hm)]⟩
theorem FrB.of {base : Nat} {s : ASt} {H' : List AObj} {ρ : List AV} {wr : List Nat} (h : Fr s.H H' wr) : FrB base s ⟨ρ, H', addWr base s.wr wr⟩ :=
  ⟨h.1, (addWr_spec base wr s.wr).1, fun o ho hb hn => h.2 o ho fun hm => hn ((addWr_spec base wr s.wr).2 o hm hb)⟩
theorem evOps_fr {call : Nat → List AV → List AObj → Out} (hc : CallFr call) {c : Ctx} : ∀ (l : List AOper) (s s' : ASt), evOps call c l s = some s' → FrB c.base s s'
  | [], s, s', h => by simp only [evOps, Option.some.injEq] at h; subst h; exact .refl _ _
  | o :: l, s, s', h => by
    unfold evOps at h
    split at h
    · split at h
      · split at h
        · rename_i hev
          exact (FrB.of (evOp_fr hc hev)).trans (evOps_fr hc l _ s' h)
        · cases h
      · have := evOps_fr hc l _ s' h
        exact this
    · cases h
theorem evOpsD_fr {call : Nat → List AV → List AObj → Out} (hc : CallFr call) {c : Ctx} : ∀ (l : List AOper) (i : Nat) (s s' : ASt) (log : Log), evOpsD call c i l s = some (s', log) → FrB c.base s s'
  | [], i, s, s', log, h => by simp only [evOpsD, Option.some.injEq, Prod.mk.injEq] at h; obtain ⟨rfl, _⟩ := h; exact .refl _ _
  | o :: l, i, s, s', log, h => by
    unfold evOpsD at h
    split at h
    · split at h
      · split at h
        · rename_i hev
          split at h
          · rename_i hrest
            cases h
            exact (FrB.of (evOpD_fr hc hev).1).trans (evOpsD_fr hc l _ _ _ _ hrest)
          · cases h
        · cases h
      · have := evOpsD_fr hc l _ _ s' log h
        exact this
    · cases h
theorem site_ge {c : Ctx} {d : Option Nat} {id : Nat} (h : c.site d = some id) : c.base ≤ id := by
  unfold Ctx.site at h
  split at h
  · cases h
  · obtain ⟨i, _, rfl⟩ := map_some h
    omega
theorem preAlloc_fr {c : Ctx} : ∀ (l : List AOper) (H H' : List AObj), preAlloc c H l = some H' → H.length = H'.length ∧ ∀ o, o < c.base → H'[o]? = H[o]?
  | [], H, H', h => by simp only [preAlloc, Option.some.injEq] at h; subst h; exact ⟨rfl, fun _ _ => rfl⟩
  | o :: l, H, H', h => by
    unfold preAlloc at h
    split at h
    · rename_i id hid
      split at h
      · obtain ⟨h1, h2⟩ := preAlloc_fr l _ H' h
        refine ⟨by rw [← h1]; simp [make], fun o' ho' => ?_⟩
        rw [h2 o' ho', make, getElem?_set_ne' _ _ (by have := site_ge hid; omega)]
      · cases h
    · exact preAlloc_fr l H H' h
theorem evRegion_fr {call : Nat → List AV → List AObj → Out} (hc : CallFr call) {c : Ctx} {d : Bool} {l : List AOper} {s s' : ASt} (h : evRegion call c d l s = some s') : FrB c.base s s' := by
  unfold evRegion at h
  split at h
  · split at h
    · rename_i H0 hp
      split at h
      · rename_i s1 log hev
        split at h
        · cases h
          obtain ⟨h1, h2⟩ := preAlloc_fr _ _ _ hp
          have h3 := evOpsD_fr hc _ _ _ _ _ hev
          refine ⟨?_, h3.2.1, fun o ho hb hn => ?_⟩
          · rw [h1]; exact h3.1
          · have := h3.2.2 o (by rw [← h1]; exact ho) hb hn
            rw [this]; exact h2 o hb
        · cases h
      · cases h
    · cases h
  · split at h
    · cases h
    · exact evOps_fr hc l s s' h
theorem evFrz_fr {c : Ctx} : ∀ (ts : List (Nat × Nat)) (s s' : ASt), evFrz c s ts = some s' → FrB c.base s s'
  | [], s, s', h => by simp only [evFrz, Option.some.injEq] at h; subst h; exact .refl _ _
  | (0, t) :: ts, s, s', h => by
    unfold evFrz at h
    split at h
    · rename_i hf
      exact (FrB.of (fix_fr hf)).trans (evFrz_fr ts _ s' h)
    · cases h
  | (k + 1, t) :: ts, s, s', h => by
    unfold evFrz at h
    split at h
    · exact evFrz_fr ts _ s' h
    split at h
    · split at h
      · rename_i hf
        split at h
        · rename_i hst
          exact (FrB.of ((fix_fr hf).trans (storeCells_fr hst))).trans (evFrz_fr ts _ s' h)
        · cases h
      · cases h
    · cases h
end Go.Proofs.AM
end
section
namespace Go.Proofs.AM
open Go
structure Rec where
  v : AV
  want : Bool
  rd : List Nat
  wr : Option (List Nat)
  H2 : List AObj
def rhoP (p : Nat → Bool) : Nat → List (AOper × Rec) → List AV → List AV
  | _, [], ρ => ρ
  | k, (o, r) :: l, ρ => rhoP p (k + 1) l (if p k then putSlot ρ o.dst r.v else ρ)
def heapAt (H : List AObj) : List (AOper × Rec) → Nat → List AObj
  | [], _ => H
  | _ :: _, 0 => H
  | x :: l, m + 1 => heapAt x.2.H2 l m
structure RecOk (call : Nat → List AV → List AObj → Out) (c : Ctx) (ρ : List AV) (H : List AObj) (o : AOper) (r : Rec) : Prop where
  guard : guardOk ρ o = true
  want : r.want = wanted ρ o
  yes : r.want = true → evOpD call c H ρ o = some (r.v, r.H2, r.rd, r.wr)
  no : r.want = false → r.v = .undef ∧ r.H2 = H ∧ r.rd = [] ∧ r.wr = none
def logOf : Nat → List (AOper × Rec) → Log
  | _, [] => []
  | i, (_, r) :: l => if r.want then (i, r.rd, r.wr) :: logOf (i + 1) l else logOf (i + 1) l
theorem rhoP_shift (p : Nat → Bool) : ∀ (l : List (AOper × Rec)) (n : Nat) (ρ : List AV), rhoP p (n + 1) l ρ = rhoP (fun j => p (j + 1)) n l ρ
  | [], _, _ => rfl
  | (o, r) :: l, n, ρ => by simp only [rhoP]; exact rhoP_shift p l (n + 1) _
theorem rhoP_all (p q : Nat → Bool) : ∀ (l : List (AOper × Rec)) (n : Nat) (ρ : List AV), (∀ k, n ≤ k → k < n + l.length → p k = q k) → rhoP p n l ρ = rhoP q n l ρ
  | [], _, _, _ => rfl
  | (o, r) :: l, n, ρ, h => by
    simp only [rhoP]
    rw [h n (Nat.le_refl _) (by simp)]
    exact rhoP_all p q l (n + 1) _ fun k h1 h2 => h k (by omega) (by simp; omega)
theorem putSlot_len (ρ : List AV) (d : Option Nat) (v : AV) : (putSlot ρ d v).length = ρ.length := by cases d <;> simp [putSlot]
theorem putSlot_get (ρ : List AV) (d : Option Nat) (v : AV) (t : Nat) (h : d ≠ some t) : (putSlot ρ d v)[t]? = ρ[t]? := by
  cases d with
  | none => rfl
  | some d => exact getElem?_set_ne' _ _ (fun e => h (by rw [e]))
theorem putSlot_same (ρ ρ' : List AV) (d : Option Nat) (v : AV) (t : Nat) (hl : ρ.length = ρ'.length) (h : ρ[t]? = ρ'[t]?) : (putSlot ρ d v)[t]? = (putSlot ρ' d v)[t]? := by
  cases d with
  | none => exact h
  | some d => simp only [putSlot, List.getElem?_set, hl, h]
theorem rhoP_len (p : Nat → Bool) : ∀ (l : List (AOper × Rec)) (n : Nat) (ρ : List AV), (rhoP p n l ρ).length = ρ.length
  | [], _, _ => rfl
  | (o, r) :: l, n, ρ => by
    simp only [rhoP]
    rw [rhoP_len p l]
    split
    · exact putSlot_len _ _ _
    · rfl
theorem rhoP_slot (p q : Nat → Bool) (t : Nat) : ∀ (l : List (AOper × Rec)) (n : Nat) (ρ ρ' : List AV), ρ.length = ρ'.length → ρ[t]? = ρ'[t]? →
    (∀ (k : Nat) o r, l[k]? = some (o, r) → o.dst = some t → p (n + k) = q (n + k)) → (rhoP p n l ρ)[t]? = (rhoP q n l ρ')[t]?
  | [], _, ρ, ρ', _, h, _ => h
  | (o, r) :: l, n, ρ, ρ', hl, h, hk => by
    simp only [rhoP]
    refine rhoP_slot p q t l (n + 1) _ _ ?_ ?_ fun k o' r' h1 h2 => ?_
    · split <;> split <;> simp [putSlot_len, hl]
    · by_cases e : o.dst = some t
      · have := hk 0 o r rfl e
        simp only [Nat.add_zero] at this
        rw [this]
        split
        · exact putSlot_same _ _ _ _ _ hl h
        · exact h
      · have e1 : ∀ (b : Bool) (ρ : List AV), (if b = true then putSlot ρ o.dst r.v else ρ)[t]? = ρ[t]? := fun b ρ => by
          split
          · exact putSlot_get _ _ _ _ e
          · rfl
        rw [e1, e1, h]
    · have := hk (k + 1) o' r' (by simpa using h1) h2
      rwa [show n + (k + 1) = n + 1 + k by omega] at this
theorem rhoP_put (p : Nat → Bool) (i : Nat) : ∀ (l : List (AOper × Rec)) (n : Nat) (ρ ρ' : List AV) (o : AOper) (r : Rec), l[i]? = some (o, r) → ρ.length = ρ'.length → p (n + i) = false →
    (∀ (k : Nat) o' r', l[k]? = some (o', r') → i < k → ∀ t, o.dst = some t → o'.dst = some t → p (n + k) = false) → ∀ (t : Nat), ρ[t]? = ρ'[t]? →
    (rhoP (fun j => p j || j == n + i) n l ρ)[t]? = (putSlot (rhoP p n l ρ') o.dst r.v)[t]? := by
  intro l n ρ ρ' o r hi hl hp hk t ht
  by_cases e : o.dst = some t
  ·
    have hlen : (rhoP p n l ρ').length = ρ'.length := rhoP_len _ _ _ _
    rw [e]
    simp only [putSlot, List.getElem?_set, if_true, hlen]
    have hnone : ∀ (l : List (AOper × Rec)) (n : Nat) (ρ : List AV), rhoP (fun _ => false) n l ρ = ρ := by
      intro l
      induction l with
      | nil => intro n ρ; rfl
      | cons x l ih => intro n ρ; obtain ⟨a, b⟩ := x; simp only [rhoP, Bool.false_eq_true, if_false]; exact ih _ _
    have key : ∀ (q : Nat → Bool) (l : List (AOper × Rec)) (n : Nat) (i : Nat) (ρ : List AV), l[i]? = some (o, r) → q (n + i) = true → (∀ (k : Nat) o' r', l[k]? = some (o', r') → i < k → o'.dst = some t → q (n + k) = false) →
        (rhoP q n l ρ)[t]? = if t < ρ.length then some r.v else none := by
      intro q l
      induction l with
      | nil => intro n i ρ h; simp at h
      | cons x l ih =>
        intro n i ρ h hq hk2
        obtain ⟨o1, r1⟩ := x
        cases i with
        | zero =>
          simp only [List.getElem?_cons_zero, Option.some.injEq, Prod.mk.injEq] at h
          obtain ⟨h1, h2⟩ := h
          simp only [Nat.add_zero] at hq
          simp only [rhoP, hq, if_true]
          have := rhoP_slot q (fun _ => false) t l (n + 1) (putSlot ρ o1.dst r1.v) (putSlot ρ o1.dst r1.v) rfl rfl fun k o' r' h3 h4 => by
            have h5 := hk2 (k + 1) o' r' (by simpa using h3) (by omega) h4
            rwa [show n + (k + 1) = n + 1 + k by omega] at h5
          rw [this, hnone, h1, h2, e]
          simp [putSlot, List.getElem?_set]
        | succ i =>
          simp only [rhoP]
          rw [ih (n + 1) i _ (by simpa using h) (by rw [show n + 1 + i = n + (i + 1) by omega]; exact hq) fun k o' r' h1 h2 h3 => by
            have := hk2 (k + 1) o' r' (by simpa using h1) (by omega) h3; rwa [show n + (k + 1) = n + 1 + k by omega] at this]
          split <;> simp [putSlot_len]
    rw [key (fun j => p j || j == n + i) l n i ρ hi (by simp) fun k o' r' h1 h2 h3 => by
      have h4 : ¬ (k = i) := by omega
      simp [hk k o' r' h1 h2 t e h3, h4], hl]
  · rw [putSlot_get _ _ _ _ e]
    refine rhoP_slot _ _ t l n ρ ρ' hl ht fun k o' r' h1 h2 => ?_
    have : k ≠ i := fun ek => by subst ek; rw [hi] at h1; cases h1; exact e h2
    simp [this]
theorem evOpsD_trace {call : Nat → List AV → List AObj → Out} {c : Ctx} : ∀ (al : List AOper) (i : Nat) (s s' : ASt) (log : Log), evOpsD call c i al s = some (s', log) →
    ∃ tr : List (AOper × Rec), tr.map (·.1) = al ∧ log = logOf i tr ∧ s'.ρ = rhoP (fun _ => true) 0 tr s.ρ ∧ s'.H = heapAt s.H tr tr.length ∧
      (∀ (k : Nat) o r, tr[k]? = some (o, r) → RecOk call c (rhoP (fun j => decide (j < k)) 0 tr s.ρ) (heapAt s.H tr k) o r ∧ heapAt s.H tr (k + 1) = r.H2 ∧ ∀ x ∈ r.wr.getD [], x < c.base → x ∈ s'.wr) ∧
      (∀ x ∈ s.wr, x ∈ s'.wr)
  | [], i, s, s', log, h => by
    simp only [evOpsD, Option.some.injEq, Prod.mk.injEq] at h
    obtain ⟨rfl, rfl⟩ := h
    exact ⟨[], rfl, rfl, rfl, rfl, fun k o r h => by simp at h, fun _ h => h⟩
  | o :: al, i, s, s', log, h => by
    have step : ∀ (r : Rec) (s1 : ASt) (log1 : Log), RecOk call c s.ρ s.H o r → s1.ρ = putSlot s.ρ o.dst r.v → s1.H = r.H2 → (∀ x ∈ s.wr, x ∈ s1.wr) → (∀ x ∈ r.wr.getD [], x < c.base → x ∈ s1.wr) →
        evOpsD call c (i + 1) al s1 = some (s', log1) → log = (if r.want then (i, r.rd, r.wr) :: log1 else log1) →
        ∃ tr : List (AOper × Rec), tr.map (·.1) = o :: al ∧ log = logOf i tr ∧ s'.ρ = rhoP (fun _ => true) 0 tr s.ρ ∧ s'.H = heapAt s.H tr tr.length ∧
          (∀ (k : Nat) o r, tr[k]? = some (o, r) → RecOk call c (rhoP (fun j => decide (j < k)) 0 tr s.ρ) (heapAt s.H tr k) o r ∧ heapAt s.H tr (k + 1) = r.H2 ∧ ∀ x ∈ r.wr.getD [], x < c.base → x ∈ s'.wr) ∧
          (∀ x ∈ s.wr, x ∈ s'.wr) := by
      intro r s1 log1 hr hρ hH hw hw2 hrest hlog
      obtain ⟨tr, h1, h2, h3, h4, h5, h6⟩ := evOpsD_trace al (i + 1) s1 s' log1 hrest
      refine ⟨(o, r) :: tr, by simp [h1], by rw [hlog, h2]; simp only [logOf], ?_, ?_, fun k o' r' hk => ?_, fun x hx => h6 x (hw x hx)⟩
      · simp only [rhoP, if_true]
        rw [rhoP_shift, ← hρ]; exact h3
      · simp only [List.length_cons, heapAt]
        rw [← hH]; exact h4
      · cases k with
        | zero =>
          simp only [List.getElem?_cons_zero, Option.some.injEq, Prod.mk.injEq] at hk
          obtain ⟨rfl, rfl⟩ := hk
          have hnone : ∀ (l : List (AOper × Rec)) (n : Nat) (ρ : List AV), rhoP (fun j => decide (j < 0)) n l ρ = ρ := by
            intro l
            induction l with
            | nil => intro n ρ; rfl
            | cons x l ih => intro n ρ; obtain ⟨a, b⟩ := x; simp only [rhoP, Nat.not_lt_zero, decide_false, Bool.false_eq_true, if_false]; exact ih _ _
          rw [hnone]
          refine ⟨hr, ?_, fun x hx hb => h6 x (hw2 x hx hb)⟩
          simp only [heapAt]
          cases tr <;> rfl
        | succ k =>
          have hk' : tr[k]? = some (o', r') := by simpa using hk
          obtain ⟨a1, a2, a3⟩ := h5 k o' r' hk'
          refine ⟨?_, ?_, a3⟩
          · have e1 : rhoP (fun j => decide (j < k + 1)) 0 ((o, r) :: tr) s.ρ = rhoP (fun j => decide (j < k)) 0 tr s1.ρ := by
              simp only [rhoP]
              rw [rhoP_shift, hρ]
              simp
            have e2 : heapAt s.H ((o, r) :: tr) (k + 1) = heapAt s1.H tr k := by simp only [heapAt]; rw [← hH]
            rw [e1, e2]; exact a1
          · simp only [heapAt]
            rw [← hH]; exact a2
    unfold evOpsD at h
    split at h
    · rename_i hg
      split at h
      · rename_i hw
        split at h
        · rename_i v H' rd wr hev
          split at h
          · rename_i s2 log2 hrest
            cases h
            exact step ⟨v, true, rd, wr, H'⟩ _ log2 ⟨hg, hw.symm, fun _ => hev, fun e => (by cases e)⟩ rfl rfl (fun x hx => (addWr_spec _ _ _).1 x hx) (fun x hx hb => (addWr_spec _ _ _).2 x hx hb) hrest rfl
          · cases h
        · cases h
      · rename_i hw
        exact step ⟨.undef, false, [], none, s.H⟩ ⟨putSlot s.ρ o.dst .undef, s.H, s.wr⟩ log ⟨hg, (by simpa using hw), fun e => (by cases e), fun _ => ⟨rfl, rfl, rfl, rfl⟩⟩ rfl rfl (fun x hx => hx) (fun x hx => by simp at hx) h rfl
    · cases h
theorem logOf_mem : ∀ (tr : List (AOper × Rec)) (i k : Nat) (o : AOper) (r : Rec), tr[k]? = some (o, r) → r.want = true → (i + k, r.rd, r.wr) ∈ logOf i tr
  | [], i, k, o, r, h, _ => by simp at h
  | (o1, r1) :: tr, i, k, o, r, h, hw => by
    cases k with
    | zero =>
      simp only [List.getElem?_cons_zero, Option.some.injEq, Prod.mk.injEq] at h
      obtain ⟨rfl, rfl⟩ := h
      simp [logOf, hw]
    | succ k =>
      have := logOf_mem tr (i + 1) k o r (by simpa using h) hw
      rw [show i + 1 + k = i + (k + 1) by omega] at this
      simp only [logOf]
      split
      · exact List.mem_cons_of_mem _ this
      · exact this
def Pair (pre : List Nat) (i : Nat) (r r' : Rec) : Prop :=
  i ∈ pre ∨ (match r.wr, r'.wr with
    | some _, some _ => False
    | some ws, none => ∀ x ∈ r'.rd, x ∉ ws
    | none, some ws => ∀ x ∈ r.rd, x ∉ ws
    | none, none => True)
theorem apartL_spec {a b : List Nat} (h : apartL a b = true) : ∀ x ∈ a, x ∉ b := by
  intro x hx hb
  have := List.all_eq_true.1 h x hx
  simp [hb] at this
theorem logOk_spec (pre : Nat → List Nat) : ∀ (tr : List (AOper × Rec)) (n : Nat), logOk pre (logOf n tr) = true → ∀ (i j : Nat) o r o' r', i < j → tr[i]? = some (o, r) → tr[j]? = some (o', r') → r.want = true → r'.want = true →
    Pair (pre (n + j)) (n + i) r r'
  | [], n, h, i, j, o, r, o', r', hij, hi, hj, hw, hw' => by simp at hi
  | (o1, r1) :: tr, n, h, i, j, o, r, o', r', hij, hi, hj, hw, hw' => by
    cases i with
    | zero =>
      simp only [List.getElem?_cons_zero, Option.some.injEq, Prod.mk.injEq] at hi
      obtain ⟨rfl, rfl⟩ := hi
      cases j with
      | zero => omega
      | succ j =>
        have hm := logOf_mem tr (n + 1) j o' r' (by simpa using hj) hw'
        simp only [logOf, hw, if_true, logOk, Bool.and_eq_true] at h
        have := List.all_eq_true.1 h.1 _ hm
        rw [show n + 1 + j = n + (j + 1) by omega] at this
        simp only [Bool.or_eq_true, List.contains_iff_mem] at this
        rcases this with this | this
        · exact .inl this
        · refine .inr ?_
          cases hq : r1.wr with
          | none =>
            cases hq' : r'.wr with
            | none => trivial
            | some ws => rw [hq, hq'] at this; exact apartL_spec this
          | some ws =>
            cases hq' : r'.wr with
            | none => rw [hq, hq'] at this; exact apartL_spec this
            | some ws' => rw [hq, hq'] at this; simp at this
    | succ i =>
      cases j with
      | zero => omega
      | succ j =>
        have h' : logOk pre (logOf (n + 1) tr) = true := by
          simp only [logOf] at h
          split at h
          · simp only [logOk, Bool.and_eq_true] at h; exact h.2
          · exact h
        have := logOk_spec pre tr (n + 1) h' i j o r o' r' (by omega) (by simpa using hi) (by simpa using hj) hw hw'
        rwa [show n + 1 + j = n + (j + 1) by omega, show n + 1 + i = n + (i + 1) by omega] at this
theorem heapAt_eq : ∀ (tr : List (AOper × Rec)) (H : List AObj) (m m' : Nat), m ≤ tr.length → m' ≤ tr.length →
    (∀ (k : Nat) o r, tr[k]? = some (o, r) → r.wr = none → r.H2 = heapAt H tr k) → (∀ (k : Nat) o r, tr[k]? = some (o, r) → r.wr ≠ none → (k < m ↔ k < m')) → heapAt H tr m = heapAt H tr m' := by
  intro tr H m m' hm hm' hR hW
  have next : ∀ (tr : List (AOper × Rec)) (H : List AObj) (k : Nat) o r, tr[k]? = some (o, r) → heapAt H tr (k + 1) = r.H2 := by
    intro tr
    induction tr with
    | nil => intro H k o r h; simp at h
    | cons x tr ih =>
      intro H k o r h
      cases k with
      | zero => simp only [List.getElem?_cons_zero, Option.some.injEq] at h; subst h; simp only [heapAt]; cases tr <;> rfl
      | succ k => simp only [heapAt]; exact ih _ k o r (by simpa using h)
  have walk : ∀ (d a : Nat), a + d ≤ tr.length → (∀ (k : Nat) o r, tr[k]? = some (o, r) → r.wr ≠ none → ¬ (a ≤ k ∧ k < a + d)) → heapAt H tr (a + d) = heapAt H tr a := by
    intro d
    induction d with
    | zero => intro a _ _; rfl
    | succ d ih =>
      intro a hd hn
      have hlt : a + d < tr.length := by omega
      have hk : tr[a + d]? = some (tr[a + d].1, tr[a + d].2) := by simp [hlt]
      rw [show a + (d + 1) = a + d + 1 by omega, next tr H (a + d) _ _ hk, hR (a + d) _ _ hk ?_]
      · exact ih a (by omega) fun k o r h1 h2 h3 => hn k o r h1 h2 ⟨h3.1, by omega⟩
      · cases hq : tr[a + d].2.wr with
        | none => rfl
        | some w => exact absurd ⟨by omega, by omega⟩ (hn (a + d) _ _ hk (by rw [hq]; simp))
  rcases Nat.le_total m m' with h | h
  · obtain ⟨d, rfl⟩ := Nat.exists_eq_add_of_le h
    exact (walk d m hm' fun k o r h1 h2 h3 => by have := hW k o r h1 h2; omega).symm
  · obtain ⟨d, rfl⟩ := Nat.exists_eq_add_of_le h
    exact walk d m' hm fun k o r h1 h2 h3 => by have := hW k o r h1 h2; omega
end Go.Proofs.AM
end
section
namespace Go.Proofs.AM
open Go
section
variable {P : Program} {glob : Nat → Option (List AV)}
theorem cOps_pre (all : List Oper) : ∀ (l : List Oper) (pres : List (List Nat)) (i : Nat) o, l[i]? = some o →
    ∃ ao, (cOps P glob all l pres)[i]? = some ao ∧ ao.pre = preOf (pres ++ ((cOps P glob all l pres).take i).map AOper.pre) o
  | [], pres, i, o, h => by simp at h
  | o1 :: l, pres, i, o, h => by
    cases i with
    | zero => simp at h; subst h; exact ⟨_, rfl, by simp [cOps]⟩
    | succ i =>
      obtain ⟨ao, h1, h2⟩ := cOps_pre all l (pres ++ [preOf pres o1]) i o (by simpa using h)
      refine ⟨ao, by simpa [cOps] using h1, ?_⟩
      rw [h2]
      simp [cOps]
structure PreOk (ops : Array Oper) (al : List AOper) : Prop where
  len : al.length = ops.size
  back : ∀ (k : Nat) ao, al[k]? = some ao → ∀ x ∈ ao.pre, x < k
  of : ∀ (k : Nat) o ao, ops[k]? = some o → al[k]? = some ao → ∀ e ∈ o.after, Region.binds .any e = true → e.on ∈ ao.pre
  to : ∀ (k : Nat) o ao, ops[k]? = some o → al[k]? = some ao → ∀ x ∈ ao.pre, ∃ e ∈ o.after, Region.binds .any e = true ∧ (x = e.on ∨ ∃ ao', al[e.on]? = some ao' ∧ x ∈ ao'.pre)
  ord : ∀ (i j : Nat) o p, i ≠ j → al[i]? = some o → al[j]? = some p → ∀ t, p.dst = some t → t ∈ o.names → (if i < j then i ∈ p.pre else j ∈ o.pre)
theorem preOk_of {ops : Array Oper} (hd : drawOk (cOps P glob ops.toList ops.toList []) = true) : PreOk ops (cOps P glob ops.toList ops.toList []) := by
  have hlen : (cOps P glob ops.toList ops.toList []).length = ops.size := by rw [(cOps_spec ops ops.toList []).1]; simp
  have hall : ∀ (k : Nat) ao, (cOps P glob ops.toList ops.toList [])[k]? = some ao → ao.pre.all (fun x => decide (x < k)) = true ∧
      ((cOps P glob ops.toList ops.toList []).zipIdx.all fun (p, j) => k == j || clashOk k ao j p) = true := fun k ao h => by
    have hm : (ao, k) ∈ (cOps P glob ops.toList ops.toList []).zipIdx := by
      rw [List.mem_iff_getElem?]
      exact ⟨k, by simp [List.getElem?_zipIdx, h]⟩
    have := List.all_eq_true.1 hd _ hm
    simpa only [Bool.and_eq_true] using this
  have hpre : ∀ (k : Nat) o ao, ops[k]? = some o → (cOps P glob ops.toList ops.toList [])[k]? = some ao → ao.pre = preOf (((cOps P glob ops.toList ops.toList []).take k).map AOper.pre) o := fun k o ao h1 h2 => by
    obtain ⟨ao', h3, h4⟩ := cOps_pre (P := P) (glob := glob) ops.toList ops.toList [] k o (by simpa using h1)
    rw [h2] at h3
    cases h3
    simpa using h4
  refine ⟨hlen, fun k ao h x hx => ?_, fun k o ao h1 h2 e he hb => ?_, fun k o ao h1 h2 x hx => ?_, fun i j o p hne h1 h2 t ht hn => ?_⟩
  · simpa using List.all_eq_true.1 (hall k ao h).1 x hx
  · rw [hpre k o ao h1 h2]
    unfold preOf
    rw [mem_once, List.mem_flatMap]
    exact ⟨e, by simpa using he, by simp [hb]⟩
  · rw [hpre k o ao h1 h2] at hx
    unfold preOf at hx
    rw [mem_once, List.mem_flatMap] at hx
    obtain ⟨e, he, hx⟩ := hx
    split at hx
    · rename_i hb
      refine ⟨e, by simpa using he, hb, ?_⟩
      rcases List.mem_cons.1 hx with rfl | hx
      · exact .inl rfl
      · refine .inr ?_
        rw [List.getElem?_map, List.getElem?_take] at hx
        split at hx
        · cases hq : (cOps P glob ops.toList ops.toList [])[e.on]? with
          | none => rw [hq] at hx; simp at hx
          | some ao' => rw [hq] at hx; exact ⟨ao', rfl, by simpa using hx⟩
        · simp at hx
    · simp at hx
  · have hm : (p, j) ∈ (cOps P glob ops.toList ops.toList []).zipIdx := by
      rw [List.mem_iff_getElem?]
      exact ⟨j, by simp [List.getElem?_zipIdx, h2]⟩
    have := List.all_eq_true.1 (hall i o h1).2 _ hm
    simp only [clashOk, ht, Bool.or_eq_true, beq_iff_eq, hne, false_or, Bool.not_eq_true'] at this
    rcases this with h | h
    · have : ¬ (t ∈ o.names) := by simpa using h
      exact absurd hn this
    · split
      · rename_i hlt; rw [if_pos hlt] at h; simpa using h
      · rename_i hlt; rw [if_neg hlt] at h; simpa using h
def cnt : Nat → (Nat → Bool) → Nat
  | 0, _ => 0
  | k + 1, p => cnt k p + (if p k then 0 else 1)
theorem cnt_congr {p q : Nat → Bool} : ∀ (n : Nat), (∀ k, k < n → p k = q k) → cnt n p = cnt n q
  | 0, _ => rfl
  | n + 1, h => by simp only [cnt]; rw [cnt_congr n fun k hk => h k (by omega), h n (by omega)]
theorem cnt_set {p q : Nat → Bool} {i : Nat} : ∀ (n : Nat), i < n → p i = false → q i = true → (∀ k, k ≠ i → q k = p k) → cnt n q + 1 = cnt n p
  | 0, h, _, _, _ => by omega
  | n + 1, h, hp, hq, hr => by
    simp only [cnt]
    by_cases e : i = n
    · subst e
      rw [cnt_congr (p := q) (q := p) i fun k hk => hr k (by omega)]
      simp [hp, hq]
    · have := cnt_set n (by omega) hp hq hr
      rw [hr n (Ne.symm e)]
      omega
theorem cnt_zero {p : Nat → Bool} : ∀ (n : Nat), cnt n p = 0 → ∀ k, k < n → p k = true
  | 0, _, k, hk => by omega
  | n + 1, h, k, hk => by
    simp only [cnt] at h
    by_cases e : k = n
    · subst e
      cases hp : p k with
      | true => rfl
      | false => simp [hp] at h
    · exact cnt_zero n (by omega) k (by omega)
theorem cnt_le {p : Nat → Bool} : ∀ (n : Nat), cnt n p ≤ n
  | 0 => Nat.le_refl _
  | n + 1 => by simp only [cnt]; have := cnt_le (p := p) n; split <;> omega
end
end Go.Proofs.AM
end
