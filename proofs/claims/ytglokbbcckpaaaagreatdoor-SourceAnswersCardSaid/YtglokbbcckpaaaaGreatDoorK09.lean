/- Part 9 of the proof that stands in the last text of this folder (lemmas; no statement of its own). -/
import Derived.Test.YtglokbbcckpaaaaGreatDoorK08
set_option linter.unusedVariables false
set_option linter.unusedSimpArgs false
section
namespace Go.AM
open Go
theorem AOpd.ev_congr {ρ ρ' : List AV} {x : AOpd} (h : ∀ t ∈ x.slot, ρ[t]? = ρ'[t]?) : x.ev ρ = x.ev ρ' := by
 cases x with
 | tmp t => simp only [AOpd.ev, h t (by simp [AOpd.slot])]
 | const v => rfl
theorem ajKZ {ρ ρ' : List AV} {xs : List AOpd} (h : ∀ t ∈ xs.flatMap AOpd.slot, ρ[t]? = ρ'[t]?) : xs.map (AOpd.ev ρ) = xs.map (AOpd.ev ρ') :=
 List.map_congr_left fun x hx => AOpd.ev_congr fun t ht => h t (List.mem_flatMap.2 ⟨x, hx, ht⟩)
theorem aldZ {ρ ρ' : List AV} {x : Option AOpd} (h : ∀ t ∈ ameZ x, ρ[t]? = ρ'[t]?) : x.map (AOpd.ev ρ) = x.map (AOpd.ev ρ') := by
 cases x with
 | none => rfl
 | some x => simp only [Option.map_some]; rw [AOpd.ev_congr h]
theorem ahxZ {ρ ρ' : List AV} : ∀ (ps : List (Nat × Nat × AOpd)) (cs : List AV), (∀ t ∈ ps.flatMap (fun p => p.2.2.slot), ρ[t]? = ρ'[t]?) -> ackZ ρ cs ps = ackZ ρ' cs ps
 | [], cs, _ => rfl
 | (o, s, x) :: ps, cs, h => by
  have hx : x.ev ρ = x.ev ρ' := AOpd.ev_congr fun t ht => h t (by simp [ht])
  simp only [ackZ, hx]
  split
  ·exact ahxZ ps _ fun t ht => h t (by simp only [List.flatMap_cons, List.mem_append]; exact .inr ht)
  ·rfl
theorem ahPZ {ρ ρ' : List AV} {k : Nat} : ∀ (ps : List (Nat × AOpd)) (rows : List (List AV)), (∀ t ∈ ps.flatMap (fun p => p.2.slot), ρ[t]? = ρ'[t]?) -> adQZ ρ k rows ps = adQZ ρ' k rows ps
 | [], rows, _ => rfl
 | (i, x) :: ps, rows, h => by
  have hx : x.ev ρ = x.ev ρ' := AOpd.ev_congr fun t ht => h t (by simp [ht])
  simp only [adQZ, hx]
  split
  ·exact ahPZ ps _ fun t ht => h t (by simp only [List.flatMap_cons, List.mem_append]; exact .inr ht)
  ·rfl
theorem ahyZ {ρ ρ' : List AV} {k : Nat} : ∀ (ps : List (Nat × AOpd)) (rows : List (List AV)), (∀ t ∈ ps.flatMap (fun p => p.2.slot), ρ[t]? = ρ'[t]?) -> acRZ ρ k rows ps = acRZ ρ' k rows ps
 | [], rows, _ => rfl
 | (i, x) :: ps, rows, h => by
  have hx : x.ev ρ = x.ev ρ' := AOpd.ev_congr fun t ht => h t (by simp [ht])
  simp only [acRZ, hx]
  split
  ·exact ahyZ ps _ fun t ht => h t (by simp only [List.flatMap_cons, List.mem_append]; exact .inr ht)
  ·rfl
theorem ajLZ {ρ ρ' : List AV} {k : Nat} : ∀ (ps : List (Nat × AOpd)) (H : List AObj) (rows : List (List AV)), (∀ t ∈ ps.flatMap (fun p => p.2.slot), ρ[t]? = ρ'[t]?) -> aeCZ ρ k H rows ps = aeCZ ρ' k H rows ps
 | [], H, rows, _ => rfl
 | (i, x) :: ps, H, rows, h => by
  have hx : x.ev ρ = x.ev ρ' := AOpd.ev_congr fun t ht => h t (by simp [ht])
  simp only [aeCZ, hx]
  split
  ·split
   ·rw [ajLZ ps _ _ fun t ht => h t (by simp only [List.flatMap_cons, List.mem_append]; exact .inr ht)]
   ·rfl
  ·rfl
theorem auAZ {ρ ρ' : List AV} {H : List AObj} {op : AOp} (h : ∀ t ∈ op.slots, ρ[t]? = ρ'[t]?) : evR H ρ op = evR H ρ' op := by
 have e1 : ∀ {x : AOpd}, (∀ t ∈ x.slot, t ∈ op.slots) -> x.ev ρ = x.ev ρ' := fun hx => AOpd.ev_congr fun t ht => h t (hx t ht)
 have e2 : ∀ {x : Option AOpd}, (∀ t ∈ ameZ x, t ∈ op.slots) -> x.map (AOpd.ev ρ) = x.map (AOpd.ev ρ') := fun hx => aldZ fun t ht => h t (hx t ht)
 have e3 : ∀ {xs : List AOpd}, (∀ t ∈ xs.flatMap AOpd.slot, t ∈ op.slots) -> xs.map (AOpd.ev ρ) = xs.map (AOpd.ev ρ') := fun hx => ajKZ fun t ht => h t (hx t ht)
 cases op with
 | bad => rfl
 | mov x => simp only [evR]; rw [e1 fun t ht => ht]
 | pick c a b => simp only [evR]; rw [e1 (x := c) fun t ht => by simp [AOp.slots, ht], e1 (x := a) fun t ht => by simp [AOp.slots, ht], e1 (x := b) fun t ht => by simp [AOp.slots, ht]]
 | alloc zs => rfl
 | talloc t zs => rfl
 | box k x => simp only [evR]; rw [e1 fun t ht => ht]
 | build zs ps => simp only [evR]; rw [ahxZ ps zs h]
 | bsl k zs n ps => simp only [evR]; rw [ahPZ ps _ h]
 | load k agg x => simp only [evR]; rw [e1 fun t ht => ht]
 | store k x v => rfl
 | nilck x => simp only [evR]; rw [e1 fun t ht => ht]
 | isnil neg x => simp only [evR]; rw [e1 fun t ht => ht]
 | bin o ek x y => simp only [evR]; rw [e1 (x := x) fun t ht => by simp [AOp.slots, ht], e1 (x := y) fun t ht => by simp [AOp.slots, ht]]
 | un o x => simp only [evR]; rw [e1 fun t ht => ht]
 | conv c x => simp only [evR]; rw [e1 fun t ht => ht]
 | mkf f a b =>
  have ha := e3 (xs := a) fun t ht => by simp only [AOp.slots, List.mem_append]; exact .inl ht
  have hb := e3 (xs := b) fun t ht => by simp only [AOp.slots, List.mem_append]; exact .inr ht
  have ha' : a.map (fun x => (x.ev ρ).strip1) = a.map (fun x => (x.ev ρ').strip1) := by
   have := congrArg (List.map AV.strip1) ha; simpa [List.map_map, Function.comp_def] using this
  have hb' : b.map (fun x => (x.ev ρ).strip1) = b.map (fun x => (x.ev ρ').strip1) := by
   have := congrArg (List.map AV.strip1) hb; simpa [List.map_map, Function.comp_def] using this
  simp only [evR]; rw [ha, hb, ha', hb']
 | mks k b zs l c => simp only [evR]; rw [e1 (x := l) fun t ht => by simp [AOp.slots, ht], e1 (x := c) fun t ht => by simp [AOp.slots, ht]]
 | sliceS x lo hi => simp only [evR]; rw [e1 (x := x) fun t ht => by simp [AOp.slots, ht], e2 (x := lo) fun t ht => by simp [AOp.slots, ht], e2 (x := hi) fun t ht => by simp [AOp.slots, ht]]
 | sliceV k x lo hi mx => simp only [evR]; rw [e1 (x := x) fun t ht => by simp [AOp.slots, ht], e2 (x := lo) fun t ht => by simp [AOp.slots, ht], e2 (x := hi) fun t ht => by simp [AOp.slots, ht], e2 (x := mx) fun t ht => by simp [AOp.slots, ht]]
 | view k x lo => simp only [evR]; rw [e1 (x := x) fun t ht => by simp [AOp.slots, ht], aldZ (x := lo) fun t ht => h t (by simp [AOp.slots, ht])]
 | sliceA n k x lo hi mx => simp only [evR]; rw [e1 (x := x) fun t ht => by simp [AOp.slots, ht], e2 (x := lo) fun t ht => by simp [AOp.slots, ht], e2 (x := hi) fun t ht => by simp [AOp.slots, ht], e2 (x := mx) fun t ht => by simp [AOp.slots, ht]]
 | fa o x => simp only [evR]; rw [e1 fun t ht => ht]
 | fld o k agg x => simp only [evR]; rw [e1 fun t ht => ht]
 | iaV x i k => simp only [evR]; rw [e1 (x := x) fun t ht => by simp [AOp.slots, ht], e1 (x := i) fun t ht => by simp [AOp.slots, ht]]
 | iaA n k x i => simp only [evR]; rw [e1 (x := x) fun t ht => by simp [AOp.slots, ht], e1 (x := i) fun t ht => by simp [AOp.slots, ht]]
 | ixS x i => simp only [evR]; rw [e1 (x := x) fun t ht => by simp [AOp.slots, ht], e1 (x := i) fun t ht => by simp [AOp.slots, ht]]
 | ixA n k agg x i => simp only [evR]; rw [e1 (x := x) fun t ht => by simp [AOp.slots, ht], e1 (x := i) fun t ht => by simp [AOp.slots, ht]]
 | lenS x => simp only [evR]; rw [e1 fun t ht => ht]
 | lenV x => simp only [evR]; rw [e1 fun t ht => ht]
 | lenC n => rfl
 | mm mx xs => simp only [evR]; rw [e3 fun t ht => ht]
 | app k b s x => rfl
 | ext i x => simp only [evR]; rw [e1 fun t ht => ht]
 | mkifc i x => simp only [evR]; rw [e1 fun t ht => ht]
 | callv f xs => rfl
 | tapp t k b s x => rfl
 | tbx t k x => rfl
 | cpy k x y => rfl
 | invk t f xs => rfl
 | mkmap => rfl
 | ins m k v => rfl
 | look z m k ok => simp only [evR]; rw [e1 (x := m) fun t ht => by simp [AOp.slots, ht], e1 (x := k) fun t ht => by simp [AOp.slots, ht]]
theorem auBZ {call : Nat -> List AV -> List AObj -> Out} {ρ ρ' : List AV} {H : List AObj} {site : Option Nat} {op : AOp} (h : ∀ t ∈ op.slots, ρ[t]? = ρ'[t]?) : evW call H ρ site op = evW call H ρ' site op := by
 have e1 : ∀ {x : AOpd}, (∀ t ∈ x.slot, t ∈ op.slots) -> x.ev ρ = x.ev ρ' := fun hx => AOpd.ev_congr fun t ht => h t (hx t ht)
 have e3 : ∀ {xs : List AOpd}, (∀ t ∈ xs.flatMap AOpd.slot, t ∈ op.slots) -> xs.map (AOpd.ev ρ) = xs.map (AOpd.ev ρ') := fun hx => ajKZ fun t ht => h t (hx t ht)
 cases op with
 | box k x => simp only [evW]; rw [e1 fun t ht => ht]
 | tbx t k x => simp only [evW]; rw [e1 fun t ht => ht]
 | bsl k zs n ps => simp only [evW]; rw [ajLZ ps _ _ h, ahyZ ps _ h]
 | store k x v => simp only [evW]; rw [e1 (x := x) fun t ht => by simp [AOp.slots, ht], e1 (x := v) fun t ht => by simp [AOp.slots, ht]]
 | mks k b zs l c => simp only [evW]; rw [e1 (x := l) fun t ht => by simp [AOp.slots, ht], e1 (x := c) fun t ht => by simp [AOp.slots, ht]]
 | cpy k x y => simp only [evW]; rw [e1 (x := x) fun t ht => by simp [AOp.slots, ht], e1 (x := y) fun t ht => by simp [AOp.slots, ht]]
 | tapp t k b s x => simp only [evW]; rw [e1 (x := s) fun t ht => by simp [AOp.slots, ht], e1 (x := x) fun t ht => by simp [AOp.slots, ht]]
 | app k b s x => simp only [evW]; rw [e1 (x := s) fun t ht => by simp [AOp.slots, ht], e1 (x := x) fun t ht => by simp [AOp.slots, ht]]
 | callv f xs => simp only [evW]; rw [e1 (x := f) fun t ht => by simp [AOp.slots, ht], e3 (xs := xs) fun t ht => by simp only [AOp.slots, List.mem_append]; exact .inr ht]
 | invk tb f xs => simp only [evW]; rw [e1 (x := f) fun t ht => by simp [AOp.slots, ht], e3 (xs := xs) fun t ht => by simp only [AOp.slots, List.mem_append]; exact .inr ht]
 | ins m k v => simp only [evW]; rw [e1 (x := m) fun t ht => by simp [AOp.slots, ht], e1 (x := k) fun t ht => by simp [AOp.slots, ht], e1 (x := v) fun t ht => by simp [AOp.slots, ht]]
 | _ => rfl
theorem atrZ {ρ ρ' : List AV} {op : AOp} (h : ∀ t ∈ op.slots, ρ[t]? = ρ'[t]?) : rdOf ρ op = rdOf ρ' op := by
 cases op with
 | load k agg x => simp only [rdOf]; rw [AOpd.ev_congr h]
 | conv c x => cases c <;> simp only [rdOf]; rw [AOpd.ev_congr h]
 | look z m k ok => simp only [rdOf]; rw [AOpd.ev_congr fun t ht => h t (by simp [AOp.slots, ht])]
 | view k x lo => simp only [rdOf]; rw [AOpd.ev_congr fun t ht => h t (by simp [AOp.slots, ht])]
 | _ => rfl
theorem apWZ {ρ ρ' : List AV} {o : AOper} (h : ∀ t ∈ o.names, ρ[t]? = ρ'[t]?) : wanted ρ o = wanted ρ' o /\ afaZ ρ o = afaZ ρ' o := by
 unfold wanted afaZ
 cases hg : o.guard with
 | none => exact ⟨rfl, rfl⟩
 | some tw =>
  obtain ⟨t, want⟩ := tw
  cases t with
  | none => exact ⟨rfl, rfl⟩
  | some t =>
   have : ρ[t]? = ρ'[t]? := h t (by simp [AOper.names, hg])
   simp only [this, and_self]
def AV.obj? : AV -> List Nat
 | .ptr o _ _ => [o]
 | .vp o _ _ _ _ _ => [o]
 | _ => []
theorem auCZ (ρ : List AV) (k : Nat) (agg : Bool) (x : AOpd) : rdOf ρ (.load k agg x) = (x.ev ρ).obj? := by
 simp only [rdOf]
 cases x.ev ρ <;> rfl
theorem anMZ {H H' : List AObj} {k : Nat} {v : AV} (h : ∀ o ∈ v.obj?, H[o]? = H'[o]?) : aamZ H k v = aamZ H' k v := by
 cases v <;> simp only [aamZ]
 ·rw [h _ (by simp [AV.obj?])]
 ·rw [h _ (by simp [AV.obj?])]
theorem awwZ {ρ : List AV} {H H' : List AObj} {op : AOp} (h : ∀ o ∈ rdOf ρ op, H[o]? = H'[o]?) : evR H ρ op = evR H' ρ op := by
 cases op with
 | load k agg x =>
  simp only [evR]
  rw [anMZ fun o ho => h o (by rw [auCZ]; exact ho)]
 | conv c x =>
  simp only [evR]
  cases c with
  | b2s =>
   have : aeOZ H (x.ev ρ) = aeOZ H' (x.ev ρ) := by
    have h' : ∀ o v n, x.ev ρ = .sr o v n -> H[o]? = H'[o]? := fun o v n e => h o (by simp [rdOf, e])
    revert h'
    cases x.ev ρ <;> intro h' <;> simp only [aeOZ]
    rw [h' _ _ _ rfl]
   cases hx : x.ev ρ <;> rw [hx] at this <;> simp only [agRZ, this]
  | _ => cases x.ev ρ <;> rfl
 | look z m k ok =>
  simp only [evR]
  have h' : ∀ o v, m.ev ρ = .mp o v -> H[o]? = H'[o]? := fun o v e => h o (by simp [rdOf, e])
  revert h'
  cases m.ev ρ <;> intro h' <;> simp only
  rw [h' _ _ rfl]
 | view k x lo =>
  simp only [evR]
  have h' : ∀ o v n, x.ev ρ = .sr o v n -> H[o]? = H'[o]? := fun o v n e => h o (by simp [rdOf, e])
  revert h'
  cases x.ev ρ <;> intro h' <;> simp only
  rw [h' _ _ _ rfl]
 | _ => rfl
end Go.AM
end
section
namespace Go.AM
open Go
def Fr (H H' : List AObj) (wr : List Nat) : Prop := H.length <= H'.length /\ ∀ o, o < H.length -> o ∉ wr -> H'[o]? = H[o]?
theorem Fr.refl (H : List AObj) (wr : List Nat) : Fr H H wr := ⟨Nat.le_refl _, fun _ _ _ => rfl⟩
theorem Fr.trans {H H1 H2 : List AObj} {a b : List Nat} (h : Fr H H1 a) (h' : Fr H1 H2 b) : Fr H H2 (a ++ b) :=
 ⟨Nat.le_trans h.1 h'.1, fun o ho hn => by
  simp only [List.mem_append, not_or] at hn
  rw [h'.2 o (Nat.lt_of_lt_of_le ho h.1) hn.2, h.2 o ho hn.1]⟩
theorem Fr.weaken {H H' : List AObj} {a b : List Nat} (h : Fr H H' a) (hs : ∀ o ∈ a, o ∈ b) : Fr H H' b := ⟨h.1, fun o ho hn => h.2 o ho fun hm => hn (hs o hm)⟩
theorem Fr.set (H : List AObj) (o : Nat) (x : AObj) : Fr H (H.set o x) [o] := ⟨by simp, fun o' _ hn => getElem?_set_ne' _ _ (fun e => hn (by simp [e]))⟩
theorem akAZ : ∀ (l : List Nat) (H : List AObj), Fr H (aaOZ H l) l
 | [], H => .refl H _
 | o :: l, H => by
  have := (Fr.set H o (.gone ((H[o]?).elim 0 AObj.ver))).trans (akAZ l _)
  exact this
theorem amtZ {H H' : List AObj} {v v' : AV} {l : List Nat} (h : fix H v = some (v', H', l)) : Fr H H' l := by
 unfold fix at h
 split at h
 ·cases h; exact akAZ _ _
 ·cases h
theorem ashZ : ∀ (rows : List (List AV)) {H H' : List AObj} {rows' : List (List AV)} {l : List Nat}, atfZ H rows = some (rows', H', l) -> Fr H H' l
 | [], H, H', rows', l, h => by cases h; exact .refl _ _
 | r :: rs, H, H', rows', l, h => by
  unfold atfZ at h
  split at h
  ·rename_i r' H1 l1 hf
   split at h
   ·rename_i rs' H2 l2 hr
    cases h
    exact (amtZ hf).trans (ashZ rs hr)
   ·cases h
  ·cases h
theorem aobZ {H H' : List AObj} {v v' : AV} {l : List Nat} (h : aksZ H v = some (v', H', l)) : Fr H H' l := by
 unfold aksZ at h
 split at h
 ·split at h
  ·split at h
   ·split at h
    ·rename_i hi
     split at h
     ·split at h
      ·rename_i hf
       cases h
       exact (ashZ _ hi).trans ((Fr.set _ _ _).trans (amtZ hf))
      ·cases h
     ·cases h
    ·cases h
   ·cases h
  ·cases h
 ·exact amtZ h
theorem auDZ {H H' : List AObj} {v v' : AV} {l : List Nat} (h : fixD H v = some (v', H', l)) : Fr H H' l := by
 unfold fixD at h
 split at h
 ·rename_i hf
  cases h; exact amtZ hf
 ·split at h
  ·split at h
   ·rename_i hf; cases h; exact aobZ hf
   ·cases h
  ·exact aobZ h
theorem aocZ {ρ : List AV} {k : Nat} : ∀ (ps : List (Nat × AOpd)) (H : List AObj) (rows out : List (List AV)) (H' : List AObj) (l : List Nat), aeCZ ρ k H rows ps = some (out, H', l) -> Fr H H' l
 | [], H, rows, out, H', l, h => by simp only [aeCZ, Option.some.injEq, Prod.mk.injEq] at h; obtain ⟨_, rfl, rfl⟩ := h; exact .refl _ _
 | (i, x) :: ps, H, rows, out, H', l, h => by
  simp only [aeCZ] at h
  split at h
  ·rename_i hf
   split at h
   ·split at h
    ·rename_i hr
     simp only [Option.some.injEq, Prod.mk.injEq] at h
     obtain ⟨_, rfl, rfl⟩ := h
     exact (amtZ hf).trans (aocZ ps _ _ _ _ _ hr)
    ·cases h
   ·cases h
  ·cases h
def agJZ (call : Nat -> List AV -> List AObj -> Out) : Prop := ∀ f args H v H' wr, call f args H = some (v, H', wr) -> Fr H H' wr
theorem ajMZ {H H' : List AObj} {vs : List AV} {p : AV} {wr : List Nat} (h : storeCells H vs p = some (H', wr)) : Fr H H' wr := by
 unfold storeCells at h
 split at h
 ·split at h
  ·split at h
   ·cases h; exact Fr.set _ _ _
   ·cases h
  ·split at h
   ·cases h; exact Fr.set _ _ _
   ·cases h
  ·cases h
 ·split at h
  ·split at h
   ·split at h
    ·split at h
     ·cases h; exact Fr.set _ _ _
     ·cases h
    ·cases h
   ·cases h
  ·cases h
 ·cases h
theorem awxZ {H H' : List AObj} {site : Option Nat} {k b : Nat} {s x v : AV} {wr : List Nat} (h : ahEZ H site k b s x = some (v, H', wr)) : Fr H H' wr := by
 unfold ahEZ at h
 split at h
 ·cases h
 split at h
 ·cases h
 split at h
 ·split at h
  ·cases h; exact .refl _ _
  ·split at h
   ·split at h
    ·split at h
     ·cases h; exact Fr.set _ _ _
     ·cases h
    ·cases h
   ·cases h
 ·split at h
  ·cases h; exact .refl _ _
  ·split at h
   ·split at h
    ·split at h
     ·cases h; exact Fr.set _ _ _
     ·cases h
    ·cases h
   ·cases h
 ·split at h
  ·split at h
   ·split at h
    ·cases h; exact .refl _ _
    ·cases h; exact Fr.set _ _ _
   ·cases h
  ·cases h
 ·cases h
theorem auEZ {H H' : List AObj} {site : Option Nat} {ty k b : Nat} {s x v : AV} {wr : List Nat} (h : anRZ H site ty k b s x = some (v, H', wr)) : Fr H H' wr := by
 unfold anRZ at h
 split at h
 ·cases h
 split at h
 ·cases h
 split at h
 ·split at h
  ·cases h; exact .refl _ _
  ·split at h
   ·split at h
    ·split at h
     ·cases h; exact Fr.set _ _ _
     ·cases h
    ·cases h
   ·cases h
 ·split at h
  ·split at h
   ·split at h
    ·cases h; exact .refl _ _
    ·cases h; exact Fr.set _ _ _
   ·cases h
  ·cases h
 ·cases h
theorem aodZ {call : Nat -> List AV -> List AObj -> Out} (hc : agJZ call) {H H' : List AObj} {site : Option Nat} {f v : AV} {args : List AV} {wr : List Nat} (h : abrZ call H site f args = some (v, H', wr)) : Fr H H' wr := by
 unfold abrZ at h
 split at h
 ·split at h
  ·cases h
  rename_i args' lent hl
  split at h
  ·cases h
  rename_i v1 H1 wr1 hcall
  have h1 := hc _ _ _ _ _ _ hcall
  split at h
  ·rename_i he
   have : lent = [] := by simpa using he
   subst this
   have h2 : Fr H H1 wr1 := h1
   split at h
   ·split at h
    ·split at h
     ·cases h
      refine (h2.trans (Fr.set _ _ _)).weaken fun o ho => ?_
      rcases List.mem_append.1 ho with ho | ho
      ·exact akwZ ho
      ·simp only [List.mem_singleton] at ho
       subst ho
       split
       ·rename_i hcn; simpa using hcn
       ·simp
     ·cases h
    ·cases h; exact h2
   ·cases h; exact h2
  ·split at h
   ·cases h; exact .refl _ _
   ·cases h
 ·cases h
theorem axKZ {call : Nat -> List AV -> List AObj -> Out} (hc : agJZ call) {H H' : List AObj} {ρ : List AV} {site : Option Nat} {op : AOp} {v : AV} {wr : List Nat} (h : evW call H ρ site op = some (v, H', wr)) : Fr H H' wr := by
 unfold evW at h
 split at h
 ·split at h
  ·split at h
   ·cases h; exact Fr.set _ _ _
   ·cases h
  ·cases h
 ·split at h
  ·split at h
   ·cases h; exact Fr.set _ _ _
   ·cases h
  ·cases h
 ·split at h
  ·split at h
   ·cases h; exact Fr.set _ _ _
   ·cases h
  ·cases h
 ·split at h
  ·split at h
   ·cases h; exact Fr.set _ _ _
   ·cases h
  ·cases h
 ·split at h
  ·split at h
   ·rename_i hs; cases h; exact ajMZ hs
   ·cases h
  ·cases h
 ·split at h
  ·split at h
   ·split at h
    ·cases h; exact Fr.set _ _ _
    ·cases h
   ·cases h
  ·split at h
   ·rename_i hf
    cases h
    exact aocZ _ _ _ _ _ _ hf
   ·cases h
 ·split at h
  ·split at h
   ·split at h
    ·split at h
     ·cases h; exact Fr.set _ _ _
     ·cases h
    ·cases h; exact .refl _ _
   ·split at h
    ·split at h
     ·cases h; exact Fr.set _ _ _
     ·cases h
    ·cases h
  ·cases h
 ·exact awxZ h
 ·exact auEZ h
 ·exact aodZ hc h
 ·split at h
  ·split at h
   ·exact aodZ hc h
   ·cases h
  ·cases h
 ·split at h
  ·split at h
   ·split at h
    ·split at h
     ·cases h; exact .refl _ _
     ·split at h
      ·cases h; exact Fr.set _ _ _
      ·cases h
    ·cases h
   ·cases h
  ·cases h
 ·split at h
  ·split at h
   ·cases h; exact Fr.set _ _ _
   ·cases h
  ·cases h
 ·split at h
  ·split at h
   ·split at h
    ·split at h
     ·cases h; exact Fr.set _ _ _
     ·cases h; exact Fr.set _ _ _
     ·cases h
    ·cases h
   ·cases h
  ·cases h
 ·cases h
theorem aysZ {call : Nat -> List AV -> List AObj -> Out} (hc : agJZ call) {c : Ctx} {d : Bool} {H H' : List AObj} {ρ : List AV} {o : AOper} {v : AV} {wr : List Nat} (h : evOp call c d H ρ o = some (v, H', wr)) : Fr H H' wr := by
 unfold evOp at h
 split at h
 ·exact axKZ hc h
 ·split at h
  ·cases h; exact .refl _ _
  ·cases h
theorem aoTZ {call : Nat -> List AV -> List AObj -> Out} (hc : agJZ call) {c : Ctx} {H H' : List AObj} {ρ : List AV} {o : AOper} {v : AV} {rd : List Nat} {wr : Option (List Nat)} (h : amfZ call c H ρ o = some (v, H', rd, wr)) :
  Fr H H' (wr.getD []) /\ (wr = none -> H' = H) /\ H'.length = H.length := by
 unfold amfZ at h
 split at h
 ·cases h; exact ⟨.refl _ _, fun _ => rfl, rfl⟩
 ·split at h
  ·split at h
   ·rename_i hw
    split at h
    ·rename_i hlen; cases h; exact ⟨axKZ hc hw, fun e => (by cases e), hlen⟩
    ·cases h
   ·cases h
  ·split at h
   ·cases h; exact ⟨.refl _ _, fun _ => rfl, rfl⟩
   ·cases h
def FrB (base : Nat) (s s' : ASt) : Prop := s.H.length <= s'.H.length /\ (∀ o ∈ s.wr, o ∈ s'.wr) /\ ∀ o, o < s.H.length -> o < base -> o ∉ s'.wr -> s'.H[o]? = s.H[o]?
theorem FrB.refl (base : Nat) (s : ASt) : FrB base s s := ⟨Nat.le_refl _, fun _ h => h, fun _ _ _ _ => rfl⟩
theorem FrB.trans {base : Nat} {s s1 s2 : ASt} (h : FrB base s s1) (h' : FrB base s1 s2) : FrB base s s2 :=
 ⟨Nat.le_trans h.1 h'.1, fun o ho => h'.2.1 o (h.2.1 o ho), fun o ho hb hn => by
  rw [h'.2.2 o (Nat.lt_of_lt_of_le ho h.1) hb hn, h.2.2 o ho hb fun hm => hn (h'.2.1 o hm)]⟩
theorem FrB.of {base : Nat} {s : ASt} {H' : List AObj} {ρ : List AV} {wr : List Nat} (h : Fr s.H H' wr) : FrB base s ⟨ρ, H', aaCZ base s.wr wr⟩ :=
 ⟨h.1, (aaBZ base wr s.wr).1, fun o ho hb hn => h.2 o ho fun hm => hn ((aaBZ base wr s.wr).2 o hm hb)⟩
theorem aoUZ {call : Nat -> List AV -> List AObj -> Out} (hc : agJZ call) {c : Ctx} : ∀ (l : List AOper) (s s' : ASt), adRZ call c l s = some s' -> FrB c.base s s'
 | [], s, s', h => by simp only [adRZ, Option.some.injEq] at h; subst h; exact .refl _ _
 | o :: l, s, s', h => by
  unfold adRZ at h
  split at h
  ·split at h
   ·split at h
    ·rename_i hev
     exact (FrB.of (aysZ hc hev)).trans (aoUZ hc l _ s' h)
    ·cases h
   ·have := aoUZ hc l _ s' h
    exact this
  ·cases h
theorem amuZ {call : Nat -> List AV -> List AObj -> Out} (hc : agJZ call) {c : Ctx} : ∀ (l : List AOper) (i : Nat) (s s' : ASt) (log : Log), aeAZ call c i l s = some (s', log) -> FrB c.base s s'
 | [], i, s, s', log, h => by simp only [aeAZ, Option.some.injEq, Prod.mk.injEq] at h; obtain ⟨rfl, _⟩ := h; exact .refl _ _
 | o :: l, i, s, s', log, h => by
  unfold aeAZ at h
  split at h
  ·split at h
   ·split at h
    ·rename_i hev
     split at h
     ·rename_i hrest
      cases h
      exact (FrB.of (aoTZ hc hev).1).trans (amuZ hc l _ _ _ _ hrest)
     ·cases h
    ·cases h
   ·have := amuZ hc l _ _ s' log h
    exact this
  ·cases h
theorem arpZ {c : Ctx} {d : Option Nat} {id : Nat} (h : c.site d = some id) : c.base <= id := by
 unfold Ctx.site at h
 split at h
 ·cases h
 ·obtain ⟨i, _, rfl⟩ := map_some h
  omega
theorem agYZ {c : Ctx} : ∀ (l : List AOper) (H H' : List AObj), abfZ c H l = some H' -> H.length = H'.length /\ ∀ o, o < c.base -> H'[o]? = H[o]?
 | [], H, H', h => by simp only [abfZ, Option.some.injEq] at h; subst h; exact ⟨rfl, fun _ _ => rfl⟩
 | o :: l, H, H', h => by
  unfold abfZ at h
  split at h
  ·rename_i id hid
   split at h
   ·obtain ⟨h1, h2⟩ := agYZ l _ H' h
    refine ⟨by rw [<- h1]; simp [make], fun o' ho' => ?_⟩
    rw [h2 o' ho', make, getElem?_set_ne' _ _ (by have := arpZ hid; omega)]
   ·cases h
  ·exact agYZ l H H' h
theorem arqZ {call : Nat -> List AV -> List AObj -> Out} (hc : agJZ call) {c : Ctx} {d : Bool} {l : List AOper} {s s' : ASt} (h : actZ call c d l s = some s') : FrB c.base s s' := by
 unfold actZ at h
 split at h
 ·split at h
  ·rename_i H0 hp
   split at h
   ·rename_i s1 log hev
    split at h
    ·cases h
     obtain ⟨h1, h2⟩ := agYZ _ _ _ hp
     have h3 := amuZ hc _ _ _ _ _ hev
     refine ⟨?_, h3.2.1, fun o ho hb hn => ?_⟩
     ·rw [h1]; exact h3.1
     ·have := h3.2.2 o (by rw [<- h1]; exact ho) hb hn
      rw [this]; exact h2 o hb
    ·cases h
   ·cases h
  ·cases h
 ·split at h
  ·cases h
  ·exact aoUZ hc l s s' h
theorem aiDZ {c : Ctx} : ∀ (ts : List (Nat × Nat)) (s s' : ASt), afhZ c s ts = some s' -> FrB c.base s s'
 | [], s, s', h => by simp only [afhZ, Option.some.injEq] at h; subst h; exact .refl _ _
 | (0, t) :: ts, s, s', h => by
  unfold afhZ at h
  split at h
  ·rename_i hf
   exact (FrB.of (auDZ hf)).trans (aiDZ ts _ s' h)
  ·cases h
 | (k + 1, t) :: ts, s, s', h => by
  unfold afhZ at h
  split at h
  ·exact aiDZ ts _ s' h
  split at h
  ·split at h
   ·rename_i hf
    split at h
    ·rename_i hst
     exact (FrB.of ((auDZ hf).trans (ajMZ hst))).trans (aiDZ ts _ s' h)
    ·cases h
   ·cases h
  ·cases h
end Go.AM
end
section
namespace Go.AM
open Go
structure Rec where
 v : AV
 want : Bool
 rd : List Nat
 wr : Option (List Nat)
 H2 : List AObj
def rhoP (p : Nat -> Bool) : Nat -> List (AOper × Rec) -> List AV -> List AV
 | _, [], ρ => ρ
 | k, (o, r) :: l, ρ => rhoP p (k + 1) l (if p k then putSlot ρ o.dst r.v else ρ)
def aaIZ (H : List AObj) : List (AOper × Rec) -> Nat -> List AObj
 | [], _ => H
 | _ :: _, 0 => H
 | x :: l, m + 1 => aaIZ x.2.H2 l m
structure RecOk (call : Nat -> List AV -> List AObj -> Out) (c : Ctx) (ρ : List AV) (H : List AObj) (o : AOper) (r : Rec) : Prop where
 guard : afaZ ρ o = true
 want : r.want = wanted ρ o
 yes : r.want = true -> amfZ call c H ρ o = some (r.v, r.H2, r.rd, r.wr)
 no : r.want = false -> r.v = .tup [] /\ r.H2 = H /\ r.rd = [] /\ r.wr = none
def alOZ : Nat -> List (AOper × Rec) -> Log
 | _, [] => []
 | i, (_, r) :: l => if r.want then (i, r.rd, r.wr) :: alOZ (i + 1) l else alOZ (i + 1) l
theorem akBZ (p : Nat -> Bool) : ∀ (l : List (AOper × Rec)) (n : Nat) (ρ : List AV), rhoP p (n + 1) l ρ = rhoP (fun j => p (j + 1)) n l ρ
 | [], _, _ => rfl
 | (o, r) :: l, n, ρ => by simp only [rhoP]; exact akBZ p l (n + 1) _
theorem asiZ (p q : Nat -> Bool) : ∀ (l : List (AOper × Rec)) (n : Nat) (ρ : List AV), (∀ k, n <= k -> k < n + l.length -> p k = q k) -> rhoP p n l ρ = rhoP q n l ρ
 | [], _, _, _ => rfl
 | (o, r) :: l, n, ρ, h => by
  simp only [rhoP]
  rw [h n (Nat.le_refl _) (by simp)]
  exact asiZ p q l (n + 1) _ fun k h1 h2 => h k (by omega) (by simp; omega)
theorem abCZ (ρ : List AV) (d : Option Nat) (v : AV) : (putSlot ρ d v).length = ρ.length := by cases d <;> simp [putSlot]
theorem amvZ (ρ : List AV) (d : Option Nat) (v : AV) (t : Nat) (h : d ≠ some t) : (putSlot ρ d v)[t]? = ρ[t]? := by
 cases d with
 | none => rfl
 | some d => exact getElem?_set_ne' _ _ (fun e => h (by rw [e]))
theorem apXZ (ρ ρ' : List AV) (d : Option Nat) (v : AV) (t : Nat) (hl : ρ.length = ρ'.length) (h : ρ[t]? = ρ'[t]?) : (putSlot ρ d v)[t]? = (putSlot ρ' d v)[t]? := by
 cases d with
 | none => exact h
 | some d => simp only [putSlot, List.getElem?_set, hl, h]
theorem alYZ (p : Nat -> Bool) : ∀ (l : List (AOper × Rec)) (n : Nat) (ρ : List AV), (rhoP p n l ρ).length = ρ.length
 | [], _, _ => rfl
 | (o, r) :: l, n, ρ => by
  simp only [rhoP]
  rw [alYZ p l]
  split
  ·exact abCZ _ _ _
  ·rfl
theorem ajNZ (p q : Nat -> Bool) (t : Nat) : ∀ (l : List (AOper × Rec)) (n : Nat) (ρ ρ' : List AV), ρ.length = ρ'.length -> ρ[t]? = ρ'[t]? ->
  (∀ (k : Nat) o r, l[k]? = some (o, r) -> o.dst = some t -> p (n + k) = q (n + k)) -> (rhoP p n l ρ)[t]? = (rhoP q n l ρ')[t]?
 | [], _, ρ, ρ', _, h, _ => h
 | (o, r) :: l, n, ρ, ρ', hl, h, hk => by
  simp only [rhoP]
  refine ajNZ p q t l (n + 1) _ _ ?_ ?_ fun k o' r' h1 h2 => ?_
  ·split <;> split <;> simp [abCZ, hl]
  ·by_cases e : o.dst = some t
   ·have := hk 0 o r rfl e
    simp only [Nat.add_zero] at this
    rw [this]
    split
    ·exact apXZ _ _ _ _ _ hl h
    ·exact h
   ·have e1 : ∀ (b : Bool) (ρ : List AV), (if b = true then putSlot ρ o.dst r.v else ρ)[t]? = ρ[t]? := fun b ρ => by
     split
     ·exact amvZ _ _ _ _ e
     ·rfl
    rw [e1, e1, h]
  ·have := hk (k + 1) o' r' (by simpa using h1) h2
   rwa [show n + (k + 1) = n + 1 + k by omega] at this
theorem awyZ (p : Nat -> Bool) (i : Nat) : ∀ (l : List (AOper × Rec)) (n : Nat) (ρ ρ' : List AV) (o : AOper) (r : Rec), l[i]? = some (o, r) -> ρ.length = ρ'.length -> p (n + i) = false ->
  (∀ (k : Nat) o' r', l[k]? = some (o', r') -> i < k -> ∀ t, o.dst = some t -> o'.dst = some t -> p (n + k) = false) -> ∀ (t : Nat), ρ[t]? = ρ'[t]? ->
  (rhoP (fun j => p j || j == n + i) n l ρ)[t]? = (putSlot (rhoP p n l ρ') o.dst r.v)[t]? := by
 intro l n ρ ρ' o r hi hl hp hk t ht
 by_cases e : o.dst = some t
 ·
  have hlen : (rhoP p n l ρ').length = ρ'.length := alYZ _ _ _ _
  rw [e]
  simp only [putSlot, List.getElem?_set, if_true, hlen]
  have hnone : ∀ (l : List (AOper × Rec)) (n : Nat) (ρ : List AV), rhoP (fun _ => false) n l ρ = ρ := by
   intro l
   induction l with
   | nil => intro n ρ; rfl
   | cons x l ih => intro n ρ; obtain ⟨a, b⟩ := x; simp only [rhoP, Bool.false_eq_true, if_false]; exact ih _ _
  have key : ∀ (q : Nat -> Bool) (l : List (AOper × Rec)) (n : Nat) (i : Nat) (ρ : List AV), l[i]? = some (o, r) -> q (n + i) = true -> (∀ (k : Nat) o' r', l[k]? = some (o', r') -> i < k -> o'.dst = some t -> q (n + k) = false) ->
    (rhoP q n l ρ)[t]? = if t < ρ.length then some r.v else none := by
   intro q l
   induction l with
   | nil => intro n i ρ h; simp at h
   | cons x l ih =>
    intro n i ρ h hq hk2
    obtain ⟨o1, r1⟩ := x
    cases i with
    | zero =>
     simp only [List.getElem?_cons_zero, Option.some.injEq, Prod.mk.injEq] at h
     obtain ⟨h1, h2⟩ := h
     simp only [Nat.add_zero] at hq
     simp only [rhoP, hq, if_true]
     have := ajNZ q (fun _ => false) t l (n + 1) (putSlot ρ o1.dst r1.v) (putSlot ρ o1.dst r1.v) rfl rfl fun k o' r' h3 h4 => by
      have h5 := hk2 (k + 1) o' r' (by simpa using h3) (by omega) h4
      rwa [show n + (k + 1) = n + 1 + k by omega] at h5
     rw [this, hnone, h1, h2, e]
     simp [putSlot, List.getElem?_set]
    | succ i =>
     simp only [rhoP]
     rw [ih (n + 1) i _ (by simpa using h) (by rw [show n + 1 + i = n + (i + 1) by omega]; exact hq) fun k o' r' h1 h2 h3 => by
      have := hk2 (k + 1) o' r' (by simpa using h1) (by omega) h3; rwa [show n + (k + 1) = n + 1 + k by omega] at this]
     split <;> simp [abCZ]
  rw [key (fun j => p j || j == n + i) l n i ρ hi (by simp) fun k o' r' h1 h2 h3 => by
   have h4 : ¬ (k = i) := by omega
   simp [hk k o' r' h1 h2 t e h3, h4], hl]
 ·rw [amvZ _ _ _ _ e]
  refine ajNZ _ _ t l n ρ ρ' hl ht fun k o' r' h1 h2 => ?_
  have : k ≠ i := fun ek => by subst ek; rw [hi] at h1; cases h1; exact e h2
  simp [this]
theorem aleZ {call : Nat -> List AV -> List AObj -> Out} {c : Ctx} : ∀ (al : List AOper) (i : Nat) (s s' : ASt) (log : Log), aeAZ call c i al s = some (s', log) ->
  ∃ tr : List (AOper × Rec), tr.map (·.1) = al /\ log = alOZ i tr /\ s'.ρ = rhoP (fun _ => true) 0 tr s.ρ /\ s'.H = aaIZ s.H tr tr.length /\
   (∀ (k : Nat) o r, tr[k]? = some (o, r) -> RecOk call c (rhoP (fun j => decide (j < k)) 0 tr s.ρ) (aaIZ s.H tr k) o r /\ aaIZ s.H tr (k + 1) = r.H2 /\ ∀ x ∈ r.wr.getD [], x < c.base -> x ∈ s'.wr) /\
   (∀ x ∈ s.wr, x ∈ s'.wr)
 | [], i, s, s', log, h => by
  simp only [aeAZ, Option.some.injEq, Prod.mk.injEq] at h
  obtain ⟨rfl, rfl⟩ := h
  exact ⟨[], rfl, rfl, rfl, rfl, fun k o r h => by simp at h, fun _ h => h⟩
 | o :: al, i, s, s', log, h => by
  have step : ∀ (r : Rec) (s1 : ASt) (log1 : Log), RecOk call c s.ρ s.H o r -> s1.ρ = putSlot s.ρ o.dst r.v -> s1.H = r.H2 -> (∀ x ∈ s.wr, x ∈ s1.wr) -> (∀ x ∈ r.wr.getD [], x < c.base -> x ∈ s1.wr) ->
    aeAZ call c (i + 1) al s1 = some (s', log1) -> log = (if r.want then (i, r.rd, r.wr) :: log1 else log1) ->
    ∃ tr : List (AOper × Rec), tr.map (·.1) = o :: al /\ log = alOZ i tr /\ s'.ρ = rhoP (fun _ => true) 0 tr s.ρ /\ s'.H = aaIZ s.H tr tr.length /\
     (∀ (k : Nat) o r, tr[k]? = some (o, r) -> RecOk call c (rhoP (fun j => decide (j < k)) 0 tr s.ρ) (aaIZ s.H tr k) o r /\ aaIZ s.H tr (k + 1) = r.H2 /\ ∀ x ∈ r.wr.getD [], x < c.base -> x ∈ s'.wr) /\
     (∀ x ∈ s.wr, x ∈ s'.wr) := by
   intro r s1 log1 hr hρ hH hw hw2 hrest hlog
   obtain ⟨tr, h1, h2, h3, h4, h5, h6⟩ := aleZ al (i + 1) s1 s' log1 hrest
   refine ⟨(o, r) :: tr, by simp [h1], by rw [hlog, h2]; simp only [alOZ], ?_, ?_, fun k o' r' hk => ?_, fun x hx => h6 x (hw x hx)⟩
   ·simp only [rhoP, if_true]
    rw [akBZ, <- hρ]; exact h3
   ·simp only [List.length_cons, aaIZ]
    rw [<- hH]; exact h4
   ·cases k with
    | zero =>
     simp only [List.getElem?_cons_zero, Option.some.injEq, Prod.mk.injEq] at hk
     obtain ⟨rfl, rfl⟩ := hk
     have hnone : ∀ (l : List (AOper × Rec)) (n : Nat) (ρ : List AV), rhoP (fun j => decide (j < 0)) n l ρ = ρ := by
      intro l
      induction l with
      | nil => intro n ρ; rfl
      | cons x l ih => intro n ρ; obtain ⟨a, b⟩ := x; simp only [rhoP, Nat.not_lt_zero, decide_false, Bool.false_eq_true, if_false]; exact ih _ _
     rw [hnone]
     refine ⟨hr, ?_, fun x hx hb => h6 x (hw2 x hx hb)⟩
     simp only [aaIZ]
     cases tr <;> rfl
    | succ k =>
     have hk' : tr[k]? = some (o', r') := by simpa using hk
     obtain ⟨a1, a2, a3⟩ := h5 k o' r' hk'
     refine ⟨?_, ?_, a3⟩
     ·have e1 : rhoP (fun j => decide (j < k + 1)) 0 ((o, r) :: tr) s.ρ = rhoP (fun j => decide (j < k)) 0 tr s1.ρ := by
       simp only [rhoP]
       rw [akBZ, hρ]
       simp
      have e2 : aaIZ s.H ((o, r) :: tr) (k + 1) = aaIZ s1.H tr k := by simp only [aaIZ]; rw [<- hH]
      rw [e1, e2]; exact a1
     ·simp only [aaIZ]
      rw [<- hH]; exact a2
  unfold aeAZ at h
  split at h
  ·rename_i hg
   split at h
   ·rename_i hw
    split at h
    ·rename_i v H' rd wr hev
     split at h
     ·rename_i s2 log2 hrest
      cases h
      exact step ⟨v, true, rd, wr, H'⟩ _ log2 ⟨hg, hw.symm, fun _ => hev, fun e => (by cases e)⟩ rfl rfl (fun x hx => (aaBZ _ _ _).1 x hx) (fun x hx hb => (aaBZ _ _ _).2 x hx hb) hrest rfl
     ·cases h
    ·cases h
   ·rename_i hw
    exact step ⟨.tup [], false, [], none, s.H⟩ ⟨putSlot s.ρ o.dst (.tup []), s.H, s.wr⟩ log ⟨hg, (by simpa using hw), fun e => (by cases e), fun _ => ⟨rfl, rfl, rfl, rfl⟩⟩ rfl rfl (fun x hx => hx) (fun x hx => by simp at hx) h rfl
  ·cases h
theorem apYZ : ∀ (tr : List (AOper × Rec)) (i k : Nat) (o : AOper) (r : Rec), tr[k]? = some (o, r) -> r.want = true -> (i + k, r.rd, r.wr) ∈ alOZ i tr
 | [], i, k, o, r, h, _ => by simp at h
 | (o1, r1) :: tr, i, k, o, r, h, hw => by
  cases k with
  | zero =>
   simp only [List.getElem?_cons_zero, Option.some.injEq, Prod.mk.injEq] at h
   obtain ⟨rfl, rfl⟩ := h
   simp [alOZ, hw]
  | succ k =>
   have := apYZ tr (i + 1) k o r (by simpa using h) hw
   rw [show i + 1 + k = i + (k + 1) by omega] at this
   simp only [alOZ]
   split
   ·exact List.mem_cons_of_mem _ this
   ·exact this
def Pair (pre : List Nat) (i : Nat) (r r' : Rec) : Prop :=
 i ∈ pre ∨ (match r.wr, r'.wr with
  | some _, some _ => False
  | some ws, none => ∀ x ∈ r'.rd, x ∉ ws
  | none, some ws => ∀ x ∈ r.rd, x ∉ ws
  | none, none => True)
theorem amwZ {a b : List Nat} (h : acEZ a b = true) : ∀ x ∈ a, x ∉ b := by
 intro x hx hb
 have := List.all_eq_true.1 h x hx
 simp [hb] at this
theorem aoeZ (pre : Nat -> List Nat) : ∀ (tr : List (AOper × Rec)) (n : Nat), acUZ pre (alOZ n tr) = true -> ∀ (i j : Nat) o r o' r', i < j -> tr[i]? = some (o, r) -> tr[j]? = some (o', r') -> r.want = true -> r'.want = true ->
  Pair (pre (n + j)) (n + i) r r'
 | [], n, h, i, j, o, r, o', r', hij, hi, hj, hw, hw' => by simp at hi
 | (o1, r1) :: tr, n, h, i, j, o, r, o', r', hij, hi, hj, hw, hw' => by
  cases i with
  | zero =>
   simp only [List.getElem?_cons_zero, Option.some.injEq, Prod.mk.injEq] at hi
   obtain ⟨rfl, rfl⟩ := hi
   cases j with
   | zero => omega
   | succ j =>
    have hm := apYZ tr (n + 1) j o' r' (by simpa using hj) hw'
    simp only [alOZ, hw, if_true, acUZ, Bool.and_eq_true] at h
    have := List.all_eq_true.1 h.1 _ hm
    rw [show n + 1 + j = n + (j + 1) by omega] at this
    simp only [Bool.or_eq_true, List.contains_iff_mem] at this
    rcases this with this | this
    ·exact .inl this
    ·refine .inr ?_
     cases hq : r1.wr with
     | none =>
      cases hq' : r'.wr with
      | none => trivial
      | some ws => rw [hq, hq'] at this; exact amwZ this
     | some ws =>
      cases hq' : r'.wr with
      | none => rw [hq, hq'] at this; exact amwZ this
      | some ws' => rw [hq, hq'] at this; simp at this
  | succ i =>
   cases j with
   | zero => omega
   | succ j =>
    have h' : acUZ pre (alOZ (n + 1) tr) = true := by
     simp only [alOZ] at h
     split at h
     ·simp only [acUZ, Bool.and_eq_true] at h; exact h.2
     ·exact h
    have := aoeZ pre tr (n + 1) h' i j o r o' r' (by omega) (by simpa using hi) (by simpa using hj) hw hw'
    rwa [show n + 1 + j = n + (j + 1) by omega, show n + 1 + i = n + (i + 1) by omega] at this
theorem apZZ : ∀ (tr : List (AOper × Rec)) (H : List AObj) (m m' : Nat), m <= tr.length -> m' <= tr.length ->
  (∀ (k : Nat) o r, tr[k]? = some (o, r) -> r.wr = none -> r.H2 = aaIZ H tr k) -> (∀ (k : Nat) o r, tr[k]? = some (o, r) -> r.wr ≠ none -> (k < m ↔ k < m')) -> aaIZ H tr m = aaIZ H tr m' := by
 intro tr H m m' hm hm' hR hW
 have next : ∀ (tr : List (AOper × Rec)) (H : List AObj) (k : Nat) o r, tr[k]? = some (o, r) -> aaIZ H tr (k + 1) = r.H2 := by
  intro tr
  induction tr with
  | nil => intro H k o r h; simp at h
  | cons x tr ih =>
   intro H k o r h
   cases k with
   | zero => simp only [List.getElem?_cons_zero, Option.some.injEq] at h; subst h; simp only [aaIZ]; cases tr <;> rfl
   | succ k => simp only [aaIZ]; exact ih _ k o r (by simpa using h)
 have walk : ∀ (d a : Nat), a + d <= tr.length -> (∀ (k : Nat) o r, tr[k]? = some (o, r) -> r.wr ≠ none -> ¬ (a <= k /\ k < a + d)) -> aaIZ H tr (a + d) = aaIZ H tr a := by
  intro d
  induction d with
  | zero => intro a _ _; rfl
  | succ d ih =>
   intro a hd hn
   have hlt : a + d < tr.length := by omega
   have hk : tr[a + d]? = some (tr[a + d].1, tr[a + d].2) := by simp [hlt]
   rw [show a + (d + 1) = a + d + 1 by omega, next tr H (a + d) _ _ hk, hR (a + d) _ _ hk ?_]
   ·exact ih a (by omega) fun k o r h1 h2 h3 => hn k o r h1 h2 ⟨h3.1, by omega⟩
   ·cases hq : tr[a + d].2.wr with
    | none => rfl
    | some w => exact absurd ⟨by omega, by omega⟩ (hn (a + d) _ _ hk (by rw [hq]; simp))
 rcases Nat.le_total m m' with h | h
 ·obtain ⟨d, rfl⟩ := Nat.exists_eq_add_of_le h
  exact (walk d m hm' fun k o r h1 h2 h3 => by have := hW k o r h1 h2; omega).symm
 ·obtain ⟨d, rfl⟩ := Nat.exists_eq_add_of_le h
  exact walk d m' hm fun k o r h1 h2 h3 => by have := hW k o r h1 h2; omega
end Go.AM
end
section
namespace Go.AM
open Go
section
variable {P : Program} {glob : Glob}
theorem asjZ (all : List Oper) : ∀ (l : List Oper) (pres : List (List Nat)) (i : Nat) o, l[i]? = some o ->
  ∃ ao, (cOps P glob all l pres)[i]? = some ao /\ ao.pre = apIZ (pres ++ ((cOps P glob all l pres).take i).map AOper.pre) o
 | [], pres, i, o, h => by simp at h
 | o1 :: l, pres, i, o, h => by
  cases i with
  | zero => simp at h; subst h; exact ⟨_, rfl, by simp [cOps]⟩
  | succ i =>
   obtain ⟨ao, h1, h2⟩ := asjZ all l (pres ++ [apIZ pres o1]) i o (by simpa using h)
   refine ⟨ao, by simpa [cOps] using h1, ?_⟩
   rw [h2]
   simp [cOps]
structure PreOk (ops : Array Oper) (al : List AOper) : Prop where
 len : al.length = ops.size
 back : ∀ (k : Nat) ao, al[k]? = some ao -> ∀ x ∈ ao.pre, x < k
 of : ∀ (k : Nat) o ao, ops[k]? = some o -> al[k]? = some ao -> ∀ e ∈ o.after, Region.binds .any e = true -> e.on ∈ ao.pre
 to : ∀ (k : Nat) o ao, ops[k]? = some o -> al[k]? = some ao -> ∀ x ∈ ao.pre, ∃ e ∈ o.after, Region.binds .any e = true /\ (x = e.on ∨ ∃ ao', al[e.on]? = some ao' /\ x ∈ ao'.pre)
 ord : ∀ (i j : Nat) o p, i ≠ j -> al[i]? = some o -> al[j]? = some p -> ∀ t, p.dst = some t -> t ∈ o.names -> (if i < j then i ∈ p.pre else j ∈ o.pre)
theorem awzZ {ops : Array Oper} (hd : aurZ (cOps P glob ops.toList ops.toList []) = true) : PreOk ops (cOps P glob ops.toList ops.toList []) := by
 have hlen : (cOps P glob ops.toList ops.toList []).length = ops.size := by rw [(ajJZ ops ops.toList []).1]; simp
 have hall : ∀ (k : Nat) ao, (cOps P glob ops.toList ops.toList [])[k]? = some ao -> ao.pre.all (fun x => decide (x < k)) = true /\
   ((cOps P glob ops.toList ops.toList []).zipIdx.all fun (p, j) => k == j || armZ k ao j p) = true := fun k ao h => by
  have hm : (ao, k) ∈ (cOps P glob ops.toList ops.toList []).zipIdx := by
   rw [List.mem_iff_getElem?]
   exact ⟨k, by simp [List.getElem?_zipIdx, h]⟩
  have := List.all_eq_true.1 hd _ hm
  simpa only [Bool.and_eq_true] using this
 have hpre : ∀ (k : Nat) o ao, ops[k]? = some o -> (cOps P glob ops.toList ops.toList [])[k]? = some ao -> ao.pre = apIZ (((cOps P glob ops.toList ops.toList []).take k).map AOper.pre) o := fun k o ao h1 h2 => by
  obtain ⟨ao', h3, h4⟩ := asjZ (P := P) (glob := glob) ops.toList ops.toList [] k o (by simpa using h1)
  rw [h2] at h3
  cases h3
  simpa using h4
 refine ⟨hlen, fun k ao h x hx => ?_, fun k o ao h1 h2 e he hb => ?_, fun k o ao h1 h2 x hx => ?_, fun i j o p hne h1 h2 t ht hn => ?_⟩
 ·simpa using List.all_eq_true.1 (hall k ao h).1 x hx
 ·rw [hpre k o ao h1 h2]
  unfold apIZ
  rw [aoPZ, List.mem_flatMap]
  exact ⟨e, by simpa using he, by simp [hb]⟩
 ·rw [hpre k o ao h1 h2] at hx
  unfold apIZ at hx
  rw [aoPZ, List.mem_flatMap] at hx
  obtain ⟨e, he, hx⟩ := hx
  split at hx
  ·rename_i hb
   refine ⟨e, by simpa using he, hb, ?_⟩
   rcases List.mem_cons.1 hx with rfl | hx
   ·exact .inl rfl
   ·refine .inr ?_
    rw [List.getElem?_map, List.getElem?_take] at hx
    split at hx
    ·cases hq : (cOps P glob ops.toList ops.toList [])[e.on]? with
     | none => rw [hq] at hx; simp at hx
     | some ao' => rw [hq] at hx; exact ⟨ao', rfl, by simpa using hx⟩
    ·simp at hx
  ·simp at hx
 ·have hm : (p, j) ∈ (cOps P glob ops.toList ops.toList []).zipIdx := by
   rw [List.mem_iff_getElem?]
   exact ⟨j, by simp [List.getElem?_zipIdx, h2]⟩
  have := List.all_eq_true.1 (hall i o h1).2 _ hm
  simp only [armZ, ht, Bool.or_eq_true, beq_iff_eq, hne, false_or, Bool.not_eq_true'] at this
  rcases this with h | h
  ·have : ¬ (t ∈ o.names) := by simpa using h
   exact absurd hn this
  ·split
   ·rename_i hlt; rw [if_pos hlt] at h; simpa using h
   ·rename_i hlt; rw [if_neg hlt] at h; simpa using h
def cnt : Nat -> (Nat -> Bool) -> Nat
 | 0, _ => 0
 | k + 1, p => cnt k p + (if p k then 0 else 1)
theorem aqaZ {p q : Nat -> Bool} : ∀ (n : Nat), (∀ k, k < n -> p k = q k) -> cnt n p = cnt n q
 | 0, _ => rfl
 | n + 1, h => by simp only [cnt]; rw [aqaZ n fun k hk => h k (by omega), h n (by omega)]
theorem auFZ {p q : Nat -> Bool} {i : Nat} : ∀ (n : Nat), i < n -> p i = false -> q i = true -> (∀ k, k ≠ i -> q k = p k) -> cnt n q + 1 = cnt n p
 | 0, h, _, _, _ => by omega
 | n + 1, h, hp, hq, hr => by
  simp only [cnt]
  by_cases e : i = n
  ·subst e
   rw [aqaZ (p := q) (q := p) i fun k hk => hr k (by omega)]
   simp [hp, hq]
  ·have := auFZ n (by omega) hp hq hr
   rw [hr n (Ne.symm e)]
   omega
theorem askZ {p : Nat -> Bool} : ∀ (n : Nat), cnt n p = 0 -> ∀ k, k < n -> p k = true
 | 0, _, k, hk => by omega
 | n + 1, h, k, hk => by
  simp only [cnt] at h
  by_cases e : k = n
  ·subst e
   cases hp : p k with
   | true => rfl
   | false => simp [hp] at h
  ·exact askZ n (by omega) k (by omega)
theorem axLZ {p : Nat -> Bool} : ∀ (n : Nat), cnt n p <= n
 | 0 => Nat.le_refl _
 | n + 1 => by simp only [cnt]; have := axLZ (p := p) n; split <;> omega
end
end Go.AM
end
section
namespace Go.AM
open Go
section
variable {P : Program} {glob : Glob} {ops : Array Oper} {call : Nat -> List AV -> List AObj -> Out} {c : Ctx} {tr : List (AOper × Rec)} {ρ0 : List AV} {H0 : List AObj} {wr' : List Nat}
structure Env (P : Program) (glob : Glob) (ops : Array Oper) (call : Nat -> List AV -> List AObj -> Out) (c : Ctx) (tr : List (AOper × Rec)) (ρ0 : List AV) (H0 : List AObj) (wr' : List Nat) : Prop where
 hcall : abSZ P glob call
 fr : agJZ call
 pre : PreOk ops (tr.map (·.1))
 comp : ∀ (i : Nat) o ao r, ops[i]? = some o -> tr[i]? = some (ao, r) -> Compd P glob ops o ao
 ok : ∀ (k : Nat) o r, tr[k]? = some (o, r) -> RecOk call c (rhoP (fun j => decide (j < k)) 0 tr ρ0) (aaIZ H0 tr k) o r
 next : ∀ (k : Nat) o r, tr[k]? = some (o, r) -> aaIZ H0 tr (k + 1) = r.H2
 wrs : ∀ (k : Nat) o r, tr[k]? = some (o, r) -> ∀ x ∈ r.wr.getD [], x < c.base -> x ∈ wr'
 pair : ∀ (i j : Nat) o r o' r', i < j -> tr[i]? = some (o, r) -> tr[j]? = some (o', r') -> r.want = true -> r'.want = true -> Pair o'.pre i r r'
 halloc : ∀ (k : Nat) o r zs id, tr[k]? = some (o, r) -> o.op = .alloc zs -> c.site o.dst = some id -> o.guard = none /\ o.pre = [] /\ id < H0.length /\ ∃ v, H0[id]? = some (.box v zs)
theorem ahzZ {k : Nat} {o : AOper} {r : Rec} (h : tr[k]? = some (o, r)) : (tr.map (·.1))[k]? = some o := by simp [h]
theorem Env.quiet (E : Env P glob ops call c tr ρ0 H0 wr') {k : Nat} {o : AOper} {r : Rec} (h : tr[k]? = some (o, r)) (hn : r.wr = none) : r.H2 = aaIZ H0 tr k := by
 have hr := E.ok k o r h
 cases hw : r.want with
 | false => exact (hr.no hw).2.1
 | true => exact (aoTZ E.fr (hr.yes hw)).2.1 hn
theorem Env.wants (E : Env P glob ops call c tr ρ0 H0 wr') {k : Nat} {o : AOper} {r : Rec} (h : tr[k]? = some (o, r)) (hn : r.wr ≠ none) : r.want = true := by
 have hr := E.ok k o r h
 cases hw : r.want with
 | false => exact absurd (hr.no hw).2.2.2 hn
 | true => rfl
theorem Env.step (E : Env P glob ops call c tr ρ0 H0 wr') {k : Nat} {o : AOper} {r : Rec} (h : tr[k]? = some (o, r)) : r.H2.length = (aaIZ H0 tr k).length /\ ∀ x, x ∉ r.wr.getD [] -> r.H2[x]? = (aaIZ H0 tr k)[x]? := by
 have hr := E.ok k o r h
 cases hw : r.want with
 | false => rw [(hr.no hw).2.1]; exact ⟨rfl, fun _ _ => rfl⟩
 | true =>
  obtain ⟨h1, _, h3⟩ := aoTZ E.fr (hr.yes hw)
  refine ⟨h3, fun x hx => ?_⟩
  by_cases hlt : x < (aaIZ H0 tr k).length
  ·exact h1.2 x hlt hx
  ·rw [List.getElem?_eq_none (by omega), List.getElem?_eq_none (by omega)]
theorem Env.len (E : Env P glob ops call c tr ρ0 H0 wr') : ∀ m, m <= tr.length -> (aaIZ H0 tr m).length = H0.length
 | 0, _ => by cases tr <;> rfl
 | m + 1, h => by
  have hk : tr[m]? = some (tr[m].1, tr[m].2) := List.getElem?_eq_getElem (by omega)
  rw [E.next m _ _ hk, (E.step hk).1]
  exact E.len m (by omega)
theorem Env.read (E : Env P glob ops call c tr ρ0 H0 wr') {x m m' : Nat} (hm : m <= tr.length) (hm' : m' <= tr.length)
  (h : ∀ (k : Nat) o r, tr[k]? = some (o, r) -> r.wr ≠ none -> (k < m ↔ k < m') ∨ x ∉ r.wr.getD []) : (aaIZ H0 tr m)[x]? = (aaIZ H0 tr m')[x]? := by
 have walk : ∀ (d a : Nat), a + d <= tr.length -> (∀ (k : Nat) o r, tr[k]? = some (o, r) -> r.wr ≠ none -> a <= k -> k < a + d -> x ∉ r.wr.getD []) -> (aaIZ H0 tr (a + d))[x]? = (aaIZ H0 tr a)[x]? := by
  intro d
  induction d with
  | zero => intro a _ _; rfl
  | succ d ih =>
   intro a hd hn
   have hk : tr[a + d]? = some (tr[a + d].1, tr[a + d].2) := List.getElem?_eq_getElem (by omega)
   rw [show a + (d + 1) = a + d + 1 by omega, E.next (a + d) _ _ hk]
   have : x ∉ tr[a + d].2.wr.getD [] := by
    cases hq : tr[a + d].2.wr with
    | none => simp
    | some w => have := hn (a + d) _ _ hk (by rw [hq]; simp) (by omega) (by omega); rwa [hq] at this
   rw [(E.step hk).2 x this]
   exact ih a (by omega) fun k o r h1 h2 h3 h4 => hn k o r h1 h2 h3 (by omega)
 rcases Nat.le_total m m' with hle | hle
 ·obtain ⟨d, rfl⟩ := Nat.exists_eq_add_of_le hle
  exact (walk d m hm' fun k o r h1 h2 h3 h4 => (h k o r h1 h2).elim (fun h5 => by omega) id).symm
 ·obtain ⟨d, rfl⟩ := Nat.exists_eq_add_of_le hle
  exact walk d m' hm fun k o r h1 h2 h3 h4 => (h k o r h1 h2).elim (fun h5 => by omega) id
structure Inv (glob : Glob) (c : Ctx) (tr : List (AOper × Rec)) (ρ0 : List AV) (H0 : List AObj) (wr' : List Nat) (g0 : G) (w0 : World) (d : List Deferred) (L : Nat -> Bool) (g : G) (a : Act) (w : World) : Prop where
 closed : ∀ (k : Nat) o r, tr[k]? = some (o, r) -> L k = true -> ∀ x ∈ o.pre, L x = true
 pos : ∃ m, m <= tr.length /\ (∀ (k : Nat) o r, tr[k]? = some (o, r) -> r.wr ≠ none -> (L k = true ↔ k < m)) /\ ∃ W, Step g0 H0 w0 g (aaIZ H0 tr m) w W /\ ∀ o ∈ W, o < c.base -> o ∈ wr'
 slots : aanZ g (rhoP L 0 tr ρ0) a.tmps
 defers : a.defers = d
 glob : aauZ glob g
 unb : ∀ (k : Nat) o r zs id, tr[k]? = some (o, r) -> o.op = .alloc zs -> c.site o.dst = some id -> L k = false -> ∀ l, g.obj id = some l -> l.st < (H0[id]?).elim 0 AObj.ver
variable {g0 : G} {w0 : World} {d : List Deferred} {L : Nat -> Bool} {g : G} {a : Act} {w : World}
theorem Inv.names (E : Env P glob ops call c tr ρ0 H0 wr') (I : Inv glob c tr ρ0 H0 wr' g0 w0 d L g a w) {i : Nat} {o : AOper} {r : Rec} (hi : tr[i]? = some (o, r)) (hL : L i = false) (hp : ∀ x ∈ o.pre, L x = true) :
  ∀ t ∈ o.names, (rhoP L 0 tr ρ0)[t]? = (rhoP (fun j => decide (j < i)) 0 tr ρ0)[t]? := by
 intro t ht
 refine ajNZ _ _ t tr 0 ρ0 ρ0 rfl rfl fun k ok rk hk hd => ?_
 simp only [Nat.zero_add]
 by_cases e : k = i
 ·subst e; rw [hL]; simp
 ·have := E.pre.ord i k o ok (Ne.symm e) (ahzZ hi) (ahzZ hk) t hd ht
  split at this
  ·rename_i hlt
   have h1 : L k = false := by
    cases hq : L k with
    | false => rfl
    | true => have := I.closed k ok rk hk hq i this; rw [hL] at this; cases this
   rw [h1]; simp; omega
  ·rename_i hlt
   rw [hp k this]; simp; omega
theorem Inv.put (E : Env P glob ops call c tr ρ0 H0 wr') (I : Inv glob c tr ρ0 H0 wr' g0 w0 d L g a w) {i : Nat} {o : AOper} {r : Rec} (hi : tr[i]? = some (o, r)) (hL : L i = false) {g' : G} (hle : g.le g') {x : Value} (hv : VRel g' r.v x) :
  aanZ g' (rhoP (fun j => L j || j == i) 0 tr ρ0) (a.put o.dst x).tmps := by
 have h1 := (I.slots.mono hle).putSlot hv o.dst
 refine ⟨by rw [alYZ]; have := h1.1; rw [abCZ, alYZ] at this; exact this, fun t => ?_⟩
 have := awyZ L i tr 0 ρ0 ρ0 o r hi rfl (by simpa using hL) (fun k o' r' hk hlt t h2 h3 => by
  simp only [Nat.zero_add]
  have := E.pre.ord i k o o' (by omega) (ahzZ hi) (ahzZ hk) t h3 (by simp [AOper.names, h2])
  rw [if_pos hlt] at this
  cases hq : L k with
  | false => rfl
  | true => have := I.closed k o' r' hk hq i this; rw [hL] at this; cases this) t rfl
 simp only [Nat.zero_add] at this
 rw [this]
 exact h1.2 t
theorem Inv.writers (E : Env P glob ops call c tr ρ0 H0 wr') (I : Inv glob c tr ρ0 H0 wr' g0 w0 d L g a w) {i : Nat} {o : AOper} {r : Rec} (hi : tr[i]? = some (o, r)) (hL : L i = false) (hp : ∀ x ∈ o.pre, L x = true) (hw : r.wr ≠ none) :
  ∀ (k : Nat) ok rk, tr[k]? = some (ok, rk) -> rk.wr ≠ none -> (L k = true ↔ k < i) := by
 intro k ok rk hk hwk
 rcases Nat.lt_trichotomy k i with h | h | h
 ·have := E.pair k i ok rk o r h hk hi (E.wants hk hwk) (E.wants hi hw)
  rcases this with this | this
  ·simp [hp k this, h]
  ·cases hq : rk.wr with
   | none => exact absurd hq hwk
   | some a => cases hq' : r.wr with
    | none => exact absurd hq' hw
    | some b => rw [hq, hq'] at this; exact this.elim
 ·subst h; rw [hL]; simp
 ·have := E.pair i k o r ok rk h hi hk (E.wants hi hw) (E.wants hk hwk)
  rcases this with this | this
  ·have h1 : L k = false := by
    cases hq : L k with
    | false => rfl
    | true => have := I.closed k ok rk hk hq i this; rw [hL] at this; cases this
   rw [h1]; simp; omega
  ·cases hq : r.wr with
   | none => exact absurd hq hw
   | some a => cases hq' : rk.wr with
    | none => exact absurd hq' hwk
    | some b => rw [hq, hq'] at this; exact this.elim
theorem Inv.reads (E : Env P glob ops call c tr ρ0 H0 wr') (I : Inv glob c tr ρ0 H0 wr' g0 w0 d L g a w) {i m : Nat} {o : AOper} {r : Rec} (hi : tr[i]? = some (o, r)) (hL : L i = false) (hp : ∀ x ∈ o.pre, L x = true) (hw : r.wr = none) (hwant : r.want = true)
  (hm : m <= tr.length) (hpos : ∀ (k : Nat) o r, tr[k]? = some (o, r) -> r.wr ≠ none -> (L k = true ↔ k < m)) : ∀ x ∈ r.rd, (aaIZ H0 tr m)[x]? = (aaIZ H0 tr i)[x]? := by
 intro x hx
 have hlt : i < tr.length := (List.getElem?_eq_some_iff.1 hi).1
 refine E.read hm (by omega) fun k ok rk hk hwk => ?_
 have hposk := hpos k ok rk hk hwk
 obtain ⟨ws, hws⟩ := Option.ne_none_iff_exists'.1 hwk
 rcases Nat.lt_trichotomy k i with h | h | h
 ·cases hq : L k with
  | true => rw [hq] at hposk; left; simp at hposk; omega
  | false =>
   have := E.pair k i ok rk o r h hk hi (E.wants hk hwk) hwant
   rcases this with this | this
   ·rw [hp k this] at hq; cases hq
   ·rw [hws, hw] at this; right; rw [hws]; exact this x hx
 ·subst h; rw [hi] at hk; cases hk; exact absurd hw hwk
 ·cases hq : L k with
  | false => rw [hq] at hposk; left; simp at hposk; omega
  | true =>
   have := E.pair i k o r ok rk h hi hk hwant (E.wants hk hwk)
   rcases this with this | this
   ·have := I.closed k ok rk hk hq i this; rw [hL] at this; cases this
   ·rw [hw, hws] at this; right; rw [hws]; exact this x hx
end
end Go.AM
end
