/- Part 9 of the proof that stands in the last text of this folder (lemmas; no statement of its own). -/
import Derived.Test.YtjomjnkapjgheaaDoorK08
section
namespace Go.Proofs.AM
open Go
section
variable {P : Program} {glob : Nat → Option (List AV)} {g : G} {H : List AObj} {w w' : World} {ρ : List AV}
theorem Step.drop (h : WF g H w) {o : Nat} {l : Loc} {x : AObj} (hb : Backed g H o l x) :
    Step g H w g (H.set o (.gone x.ver)) w [o] ∧ ∀ o' l' x', Backed g (H.set o (.gone x.ver)) o' l' x' → l'.b ≠ l.b := by
  have ho : o < H.length := h.lt o l hb.loc
  have hbk : ∀ o' l' x', Backed g (H.set o (.gone x.ver)) o' l' x' → o' ≠ o ∧ Backed g H o' l' x' := fun o' l' x' hb' => by
    have hne : o' ≠ o := fun e => by
      subst e
      have h1 := hb'.at_
      simp [ho] at h1
      have h2 := hb'.alive
      subst h1
      simp [AObj.alive] at h2
    exact ⟨hne,⟨by rw [← getElem?_set_ne' H (.gone x.ver) (Ne.symm hne)]; exact hb'.at_, hb'.alive, hb'.loc, hb'.st⟩⟩
  refine ⟨⟨G.le.refl g,⟨h.perm, fun o' l' hl => by simpa using h.lt o' l' hl, h.blk, fun o' x' l' hx hl => ?_, fun o' l' x' hb' => h.obj o' l' x' (hbk _ _ _ hb').2, fun o' l' x' hb' => h.priv o' l' x' (hbk _ _ _ hb').2,
    fun o1 o2 l1 l2 x1 x2 hb1 hb2 e => h.inj o1 o2 l1 l2 x1 x2 (hbk _ _ _ hb1).2 (hbk _ _ _ hb2).2 e, h.whole⟩,
    Frame.refl _ _ _, fun o' hl hm => ?_, by simp, fun o' l' hl => .inr ⟨l', hl, rfl⟩, fun _ _ _ => rfl⟩, fun o' l' x' hb' e => ?_⟩
  · by_cases e : o' = o
    · subst e
      simp [ho] at hx
      subst hx
      exact h.st o' x l' hb.at_ hl
    · rw [getElem?_set_ne' H (.gone x.ver) (Ne.symm e)] at hx
      exact h.st o' x' l' hx hl
  · simp only [List.mem_singleton] at hm
    exact getElem?_set_ne' H (.gone x.ver) (Ne.symm hm)
  · obtain ⟨hne, hb0⟩ := hbk _ _ _ hb'
    exact hne (h.inj o' o l' l x' x hb0 hb e)
theorem sr_backed (hw : WF g H w) {o v n v' k : Nat} {rows : List (List AV)} (ho : H[o]? = some (.vec v' k rows)) (hv : v' = v) (hn : rows.length = n) {x : Value} (hx : VRel g (.sr o v n) x) :
    ∃ l, Backed g H o l (.vec v k rows) ∧ x = .slice (some ⟨l.b, 0, none⟩) n l.cap := by
  subst hv
  cases hx with
  | sr _ _ _ l a cap hl hv hn' h =>
    have hst : l.st = v' := by have := hw.st o _ l ho hl; simp only [AObj.ver] at this; omega
    have hb : Backed g H o l (.vec v' k rows) := ⟨ho, rfl, hl, hst⟩
    obtain ⟨h0, _⟩ := hw.obj o l _ hb
    obtain ⟨e1, e2⟩ := h hst (by omega)
    exact ⟨l, hb, by rw [e1, e2]⟩
theorem finV_sound {base n0 : Nat} (hnew : ∀ o l, base ≤ o → g.obj o = some l → n0 ≤ l.b) (hw : WF g H w) {v v' : AV} {H' : List AObj} {l : List Nat} (h : finV base H v = some (v', H', l)) {x : Value} (hx : VRel g v x) :
    ∃ g', Step g H w g' H' w l ∧ RetRel g' H' n0 w v' x := by
  unfold finV at h
  split at h
  · rename_i o v n
    split at h
    · rename_i v1 k rows ho
      split at h
      · rename_i hc
        obtain ⟨hc1, hc2, hc3, hc4⟩ := hc
        simp only [Option.some.injEq, Prod.mk.injEq] at h
        obtain ⟨rfl, rfl, rfl⟩ := h
        obtain ⟨lc, hb, rfl⟩ := sr_backed hw ho hc1 hc2 hx
        obtain ⟨h0, hlk, hcap, hsoft, hk, hsome, hcell⟩ := hw.obj o lc _ hb
        obtain ⟨h1, h2⟩ := Step.drop hw hb
        have he : goneAll H [o] = H.set o (.gone (AObj.vec v k rows).ver) := by simp only [goneAll, hb.at_]; rfl
        rw [he]
        refine ⟨g, h1, lc.b, lc.cap, by rw [hc2],⟨hnew o lc hc3 hb.loc, hw.blk o lc hb.loc, hcap, hsoft, hk, ?_, hsome, fun i j row c hr hj => ?_, hw.priv o lc _ hb, h2, ?_⟩⟩
        · exact hc4
        · obtain ⟨_, y, hy, hv⟩ := hcell i j row c hr hj
          exact ⟨y, hy, hv⟩
        · cases hwh : g.whole lc.b with
          | none => rfl
          | some z => exact absurd rfl ((hw.whole.blocks lc.b z hwh).2 o lc hb.loc)
      · cases h
    · cases h
  · obtain ⟨g', h1, h2⟩ := fix_sound hw h hx
    refine ⟨g', h1, ?_⟩
    cases v' with
    | own k rows => cases h2
    | _ => exact h2
theorem finVs_sound : ∀ {vs vs' : List AV} {g : G} {H H' : List AObj} {l : List Nat}, WF g H w → finVs H vs = some (vs', H', l) → ∀ {xs : List Value}, LRel g vs xs → ∃ g', Step g H w g' H' w l ∧ LRel g' vs' xs
  | [], vs', g, H, H', l, hw, h, xs, hx => by
    simp only [finVs, Option.some.injEq, Prod.mk.injEq] at h
    obtain ⟨rfl, rfl, rfl⟩ := h
    exact ⟨g, .refl hw, hx⟩
  | v :: vs, vs', g, H, H', l, hw, h, xs, hx => by
    unfold finVs at h
    split at h
    · cases h
    · rename_i v1 H1 l1 hf
      split at h
      · cases h
      · rename_i r1 H2 l2 hr
        simp only [Option.some.injEq, Prod.mk.injEq] at h
        obtain ⟨rfl, rfl, rfl⟩ := h
        cases xs with
        | nil => have := hx.1; simp at this
        | cons x xs =>
          obtain ⟨g1, h1, h2⟩ := fix_sound hw hf (hx.2 0 v x rfl rfl)
          have hxs : LRel g1 vs xs := ⟨by simpa using hx.1, fun i a y ha hy => (hx.2 (i + 1) a y (by simpa using ha) (by simpa using hy)).mono h1.le⟩
          obtain ⟨g2, h3, h4⟩ := finVs_sound h1.wf hr hxs
          refine ⟨g2, h1.trans h3, by simp [h4.1], fun i a y ha hy => ?_⟩
          cases i with
          | zero => simp at ha hy; subst ha; subst hy; exact h2.mono h3.le
          | succ i => exact h4.2 i a y (by simpa using ha) (by simpa using hy)
def resultsList (tmps : Array Value) (rs : List ResultVar) : Sem (List Value) :=
  rs.mapM fun
    | .tmp t => pure (tmps.getD t Go.undef)
    | .cell a t => do loadVar t (← asAddr (tmps.getD a Go.undef))
theorem resultsList_sound (hw : WF g H w) {tmps : Array Value} (hs : SlotRel g ρ tmps) : ∀ (rs : List ResultVar) (as : List ARes) (vs : List AV), cRess P rs = some as → resVs H ρ as = some vs →
    ∃ xs, (resultsList tmps rs).run P w = .ok xs w ∧ LRel g vs xs
  | [], as, vs, h, hv => by
    simp only [cRess, Option.some.injEq] at h
    subst h
    simp only [resVs, Option.some.injEq] at hv
    subst hv
    exact ⟨[], by simp [resultsList], rfl, fun i a x h => by simp at h⟩
  | r :: rs, as, vs, h, hv => by
    unfold cRess at h
    split at h
    · rename_i a as' ha has
      simp only [Option.some.injEq] at h
      subst h
      unfold resVs at hv
      split at hv
      · cases hv
      · rename_i v hv1
        split at hv
        · cases hv
        · rename_i vs' hvs
          simp only [Option.some.injEq] at hv
          subst hv
          obtain ⟨xs, h1, h2⟩ := resultsList_sound hw hs rs as' vs' has hvs
          have key : ∃ x, (match r with | .tmp t => pure (tmps.getD t Go.undef) | .cell a t => do loadVar t (← asAddr (tmps.getD a Go.undef)) : Sem Value).run P w = .ok x w ∧ VRel g v x := by
            cases r with
            | tmp t =>
              simp only [cRes, Option.some.injEq] at ha
              subst ha
              simp only [resV, Option.some.injEq] at hv1
              subst hv1
              exact ⟨_, by simp, hs.2 t⟩
            | cell t ty =>
              simp only [cRes] at ha
              obtain ⟨⟨n, agg⟩, hsh, rfl⟩ := map_some ha
              simp only [resV] at hv1
              split at hv1
              · rename_i cs hr
                obtain ⟨b, off, ys, e, hlen, hl, hc⟩ := readCells_sound hw hr (hs.2 t)
                have hrun := run_loadVar' (P := P) hsh w b off ys (by rw [← hl.1]; exact hlen) hc
                exact ⟨_, by
                  show (do loadVar ty (← asAddr (tmps.getD t Go.undef)) : Sem Value).run P w = _
                  rw [e, Sem.run_bind, show (asAddr (Value.pointer (some ⟨b, off, none⟩))).run P w = .ok ⟨b, off, none⟩ w from rfl]; exact hrun, ofCells_sound hv1 hl⟩
              · cases hv1
          obtain ⟨x, hx1, hx2⟩ := key
          refine ⟨x :: xs, ?_, by simp [h2.1], fun i a' y ha' hy => ?_⟩
          · unfold resultsList at h1 ⊢
            rw [List.mapM_cons]
            rw [Sem.run_bind, hx1]
            simp only [Result.andThen_ok]
            rw [Sem.run_bind, h1]
            simp
          · cases i with
            | zero => simp at ha' hy; subst ha'; subst hy; exact hx2
            | succ i => exact h2.2 i a' y (by simpa using ha') (by simpa using hy)
    · cases h
def tupOf : List Value → Value
  | [x] => x
  | xs => .tuple xs.toArray
theorem results_run {fn : Func} {tmps : Array Value} {xs : List Value} (h : (resultsList tmps fn.results.toList).run P w = .ok xs w) :
    (results fn tmps).run P w = .ok (tupOf xs) w := by
  unfold results
  rw [Array.mapM_eq_mapM_toList]
  have h' : ((fn.results.toList.mapM fun | .tmp t => pure (tmps.getD t Go.undef) | .cell a t => do loadVar t (← asAddr (tmps.getD a Go.undef)) : Sem (List Value))).run P w = .ok xs w := h
  rw [map_eq_pure_bind]
  simp only [bind_assoc, pure_bind]
  rw [Sem.run_bind]
  refine (congrArg (fun r => Result.andThen r _) h').trans ?_
  simp only [Result.andThen_ok, List.size_toArray]
  clear h h'
  cases xs with
  | nil => rfl
  | cons x r => cases r with
    | nil => rfl
    | cons y r => rfl
end
end Go.Proofs.AM
end
section
namespace Go.Proofs.AM
open Go
section
variable {A : AProg} {n : Nat} {c : Ctx} {s : ASt}
theorem evCode_zero {x : ACode} : evCode A 0 c x s = none := rfl
theorem evCode_skip : evCode A (n + 1) c .skip s = some (.normal, s) := rfl
theorem evCode_bad : evCode A (n + 1) c .bad s = none := rfl
theorem evCode_region {d : Bool} {ops : List AOper} : evCode A (n + 1) c (.region d ops) s = match evRegion (evCall A n) c d ops s with | some s' => some (.normal, s') | none => none := rfl
theorem evCode_seq {x y : ACode} : evCode A (n + 1) c (.seq x y) s = match evCode A n c x s with | some (.normal, s') => evCode A n c y s' | r => r := rfl
theorem evCode_cond {t : AOpd} {x y : ACode} : evCode A (n + 1) c (.cond t x y) s = match t.ev s.ρ with | .bool true => evCode A n c x s | .bool false => evCode A n c y s | _ => none := rfl
theorem evCode_block {id : Nat} {x : ACode} : evCode A (n + 1) c (.block id x) s = match evCode A n c x s with
    | some (.exit id', s') => if id' = id then some (.normal, s') else some (.exit id', s')
    | r => r := rfl
theorem evCode_loop {x : ACode} : evCode A (n + 1) c (.loop x) s = match evCode A n c x s with | some (.normal, s') => evCode A n c (.loop x) s' | r => r := rfl
theorem evCode_exit {id : Nat} : evCode A (n + 1) c (.exit id) s = some (.exit id, s) := rfl
theorem evCode_ret : evCode A (n + 1) c .ret s = some (.ret, s) := rfl
theorem evCode_frz {ts : List (Nat × Nat)} : evCode A (n + 1) c (.frz ts) s = match evFrz c s ts with | some s' => some (.normal, s') | none => none := rfl
theorem evCall_cases {f : Nat} {args : List AV} {H : List AObj} {r : AV × List AObj × List Nat} (h : evCall A n f args H = some r) :
    (∃ p v, A.prim f = some p ∧ p args = some v ∧ r = (v, H, [])) ∨
    (∃ fn s' e r', A.fn f = some fn ∧ evCode A n ⟨H.length, fn.sites⟩ fn.body (enterSt fn args H) = some (e, s') ∧ (e = .normal ∨ e = .ret) ∧ finish H.length fn s' = some r' ∧ r = cutBack H.length r') := by
  unfold evCall at h
  split at h
  · rename_i v hv
    cases h
    cases hp : A.prim f with
    | none => rw [hp] at hv; cases hv
    | some p => rw [hp] at hv; exact .inl ⟨p, v, rfl, hv, rfl⟩
  · split at h
    · cases h
    · rename_i fn hf
      split at h
      · rename_i s' he
        split at h
        · rename_i r' hr
          cases h
          exact .inr ⟨fn, s', _, r', hf, he, .inl rfl, hr, rfl⟩
        · cases h
      · rename_i s' he
        split at h
        · rename_i r' hr
          cases h
          exact .inr ⟨fn, s', _, r', hf, he, .inr rfl, hr, rfl⟩
        · cases h
      · cases h
theorem finV_fr {base : Nat} {H H' : List AObj} {v v' : AV} {l : List Nat} (h : finV base H v = some (v', H', l)) : Fr H H' l := by
  unfold finV at h
  split at h
  · split at h
    · split at h
      · cases h; exact goneAll_fr _ _
      · cases h
    · cases h
  · exact fix_fr h
theorem finVs_fr : ∀ {vs vs' : List AV} {H H' : List AObj} {l : List Nat}, finVs H vs = some (vs', H', l) → Fr H H' l
  | [], vs', H, H', l, h => by simp only [finVs, Option.some.injEq, Prod.mk.injEq] at h; obtain ⟨_, rfl, rfl⟩ := h; exact .refl _ _
  | v :: vs, vs', H, H', l, h => by
    unfold finVs at h
    split at h
    · cases h
    · rename_i hf
      split at h
      · cases h
      · rename_i hr
        cases h
        exact (fix_fr hf).trans (finVs_fr hr)
theorem finish_cases {base : Nat} {fn : AFn} {s : ASt} {r : AV × List AObj × List Nat} (h : finish base fn s = some r) :
    ∃ vs, resVs s.H s.ρ fn.results = some vs ∧
      ((∃ v v' H' l, vs = [v] ∧ finV base s.H v = some (v', H', l) ∧ r = (v', H', addWr base s.wr l)) ∨
       (∃ vs' H' l, vs.length ≠ 1 ∧ finVs s.H vs = some (vs', H', l) ∧ r = (.tup vs', H', addWr base s.wr l))) := by
  unfold finish at h
  split at h
  · cases h
  · rename_i v hv
    split at h
    · rename_i v' H' l hf
      cases h
      exact ⟨[v], hv, .inl ⟨v, v', H', l, rfl, hf, rfl⟩⟩
    · cases h
  · rename_i vs hne hv
    split at h
    · rename_i vs' H' l hf
      cases h
      refine ⟨vs, hv, .inr ⟨vs', H', l, fun e => ?_, hf, rfl⟩⟩
      obtain ⟨x, rfl⟩ := List.length_eq_one_iff.1 e
      exact hne x rfl
    · cases h
theorem finish_fr {base : Nat} {fn : AFn} {s : ASt} {r : AV × List AObj × List Nat} (h : finish base fn s = some r) : FrB base s ⟨s.ρ, r.2.1, r.2.2⟩ := by
  obtain ⟨vs, _,⟨v, v', H', l, rfl, hf, rfl⟩ | ⟨vs', H', l, _, hf, rfl⟩⟩ := finish_cases h
  · exact FrB.of (finV_fr hf)
  · exact FrB.of (finVs_fr hf)
theorem evCall_fr_of (hcode : ∀ (c : Ctx) (x : ACode) (s : ASt) e s', evCode A n c x s = some (e, s') → FrB c.base s s') : CallFr (evCall A n) := by
  intro f args H v H' wr h
  rcases evCall_cases h with ⟨p, v1, _, _, hr⟩ | ⟨fn, s', e, r', _, he, _, hf, hr⟩
  · cases hr; exact .refl _ _
  · have h1 := hcode _ _ _ _ _ he
    have h2 := h1.trans (finish_fr hf)
    obtain ⟨v1, H1, wr1⟩ := r'
    have h3 : Fr H H1 wr1 := by
      refine ⟨?_, fun o ho hn => ?_⟩
      · have := h2.1
        simp only [enterSt, List.length_append] at this
        omega
      · have := h2.2.2 o (by simp only [enterSt, List.length_append]; omega) ho hn
        rw [this]
        simp only [enterSt]
        rw [List.getElem?_append_left ho]
    simp only [cutBack] at hr
    split at hr
    · cases hr
      refine ⟨by have := h3.1; simp; omega, fun o ho hn => ?_⟩
      rw [← h3.2 o ho hn]
      simp [ho]
    · cases hr; exact h3
theorem evCode_fr : ∀ (n : Nat) (c : Ctx) (x : ACode) (s : ASt) e s', evCode A n c x s = some (e, s') → FrB c.base s s'
  | 0, c, x, s, e, s', h => by rw [evCode_zero] at h; cases h
  | n + 1, c, x, s, e, s', h => by
    have hcall : CallFr (evCall A n) := evCall_fr_of (evCode_fr n)
    cases x with
    | skip => rw [evCode_skip] at h; cases h; exact .refl _ _
    | bad => rw [evCode_bad] at h; cases h
    | region d ops =>
      rw [evCode_region] at h
      split at h
      · rename_i s1 hr; cases h; exact evRegion_fr hcall hr
      · cases h
    | seq a b =>
      rw [evCode_seq] at h
      split at h
      · rename_i s1 hr; exact (evCode_fr n _ _ _ _ _ hr).trans (evCode_fr n _ _ _ _ _ h)
      · exact evCode_fr n _ _ _ _ _ h
    | cond t a b =>
      rw [evCode_cond] at h
      split at h
      · exact evCode_fr n _ _ _ _ _ h
      · exact evCode_fr n _ _ _ _ _ h
      · cases h
    | block id b =>
      rw [evCode_block] at h
      split at h
      · rename_i hr
        split at h <;> (cases h; exact evCode_fr n _ _ _ _ _ hr)
      · exact evCode_fr n _ _ _ _ _ h
    | loop b =>
      rw [evCode_loop] at h
      split at h
      · rename_i s1 hr; exact (evCode_fr n _ _ _ _ _ hr).trans (evCode_fr n _ _ _ _ _ h)
      · exact evCode_fr n _ _ _ _ _ h
    | exit id => rw [evCode_exit] at h; cases h; exact .refl _ _
    | ret => rw [evCode_ret] at h; cases h; exact .refl _ _
    | frz ts =>
      rw [evCode_frz] at h
      split at h
      · rename_i s1 hr; cases h; exact evFrz_fr _ _ _ hr
      · cases h
theorem evCall_fr (n : Nat) : CallFr (evCall A n) := evCall_fr_of (evCode_fr n)
end
end Go.Proofs.AM
end
section
namespace Go.Proofs.AM
open Go
abbrev SEnv := Nat → AV
def upd (ρ : SEnv) (d : Nat) (v : AV) : SEnv := fun t => if t = d then v else ρ t
def updO (ρ : SEnv) : Option Nat → AV → SEnv
  | some d, v => upd ρ d v
  | none, _ => ρ
def fenv (l : List AV) : SEnv := fun t => (l[t]?).getD .undef
def AOpd.at (ρ : SEnv) : AOpd → AV
  | .tmp t => ρ t
  | .const v => v
theorem AOpd.ev_eq (l : List AV) (x : AOpd) : x.ev l = x.at (fenv l) := by cases x <;> rfl
theorem AOpd.ev_fun (l : List AV) : AOpd.ev l = AOpd.at (fenv l) := funext fun x => x.ev_eq l
def buildCellsF (ρ : SEnv) (cells : List AV) : List (Nat × Nat × AOpd) → Option (List AV)
  | [] => some cells
  | (off, size, x) :: r =>
    let vs := (x.at ρ).cells
    if vs.length = size ∧ off + size ≤ cells.length ∧ vs.all AV.cellOk then buildCellsF ρ (fillRow cells off vs) r else none
def buildRowsF (ρ : SEnv) (k : Nat) (rows : List (List AV)) : List (Nat × AOpd) → Option (List (List AV))
  | [] => some rows
  | (i, x) :: r =>
    let vs := (x.at ρ).strip.cells
    if vs.length = k ∧ i < rows.length ∧ vs.all AV.still then buildRowsF ρ k (rows.set i vs) r else none
def buildRowsCF (ρ : SEnv) (k : Nat) (rows : List (List AV)) : List (Nat × AOpd) → Option (List (List AV))
  | [] => some rows
  | (i, x) :: r =>
    let vs := (x.at ρ).strip.cells
    if vs.length = k ∧ i < rows.length ∧ vs.all AV.cellOk then buildRowsCF ρ k (rows.set i vs) r else none
def evRF (H : List AObj) (ρ : SEnv) : AOp → Option AV
  | .mov x => some (x.at ρ)
  | .pick c a b => match c.at ρ with
    | .bool t => some (if t then a.at ρ else b.at ρ)
    | _ => none
  | .alloc zs => if zs.all AV.still then some (.ep (zs.map AV.strip1) 0) else none
  | .box k x =>
    let vs := (x.at ρ).strip.cells
    if vs.length = k ∧ vs.all AV.still then some (.ep vs 0) else none
  | .build zs parts => (buildCellsF ρ zs parts).map .agg
  | .bsl k zs n parts => (buildRowsF ρ k (List.replicate n zs) parts).map (.sl true)
  | .mks _ bytes zs len cap => match len.at ρ, cap.at ρ with
    | .int _ n, .int _ c => if 0 ≤ n ∧ n = c ∧ roomy n.toNat bytes then some (.sl true (List.replicate n.toNat (zs.map AV.strip1))) else none
    | _, _ => none
  | .load k agg x => match readCells H k (x.at ρ) with
    | some cs => ofCells agg cs
    | none => none
  | .nilck x => match x.at ρ with
    | .ptr o v off => some (.ptr o v off)
    | .vp o v n k i off => some (.vp o v n k i off)
    | .ep row off => some (.ep row off)
    | .fn f a b => some (.fn f a b)
    | _ => none
  | .isnil neg x => match x.at ρ with
    | .sl _ (_ :: _) | .sr .. => some (.bool neg)
    | _ => none
  | .bin op ek x y => binV op ek (x.at ρ) (y.at ρ)
  | .un op x => unV op (x.at ρ)
  | .conv c x => convV H c (x.at ρ)
  | .mkf f first caps => if (first.map (AOpd.at ρ)).all AV.still && (caps.map (AOpd.at ρ)).all AV.still then some (.fn f (first.map fun x => (x.at ρ).strip1) (caps.map fun x => (x.at ρ).strip1)) else none
  | .sliceS x lo hi => match x.at ρ with
    | .str s => match bounds s.length (lo.map (AOpd.at ρ)) (hi.map (AOpd.at ρ)) none with
      | some (l, h, _) => some (.str ((s.take h).drop l))
      | none => none
    | _ => none
  | .sliceV k x lo hi mx => match x.at ρ with
    | .sl full rows => match bounds rows.length (lo.map (AOpd.at ρ)) (hi.map (AOpd.at ρ)) (mx.map (AOpd.at ρ)) with
      | some (l, h, m) => if headOk k rows && (!mx.isSome || hi.isSome) then some (.sl (decide (m = h) && (mx.isSome || full)) ((rows.take h).drop l)) else none
      | none => none
    | _ => none
  | .sliceA n k x lo hi mx => match x.at ρ with
    | .ep row off => if off + n * k ≤ row.length then
        let rows := chunk k n (row.drop off)
        match bounds n (lo.map (AOpd.at ρ)) (hi.map (AOpd.at ρ)) (mx.map (AOpd.at ρ)) with
        | some (l, h, m) => if !mx.isSome || hi.isSome then some (.sl (decide (m = h)) ((rows.take h).drop l)) else none
        | none => none
      else none
    | _ => none
  | .fa off x => match x.at ρ with
    | .ptr o v off0 => some (.ptr o v (off0 + off))
    | .vp o v n k i off0 => some (.vp o v n k i (off0 + off))
    | .ep row off0 => some (.ep row (off0 + off))
    | _ => none
  | .fld off k agg x => match x.at ρ with
    | .agg cs => if off + k ≤ cs.length then ofCells agg ((cs.drop off).take k) else none
    | _ => none
  | .iaV x i k => match x.at ρ, i.at ρ with
    | .sl _ rows, .int _ n => if 0 ≤ n then match rows[n.toNat]? with
        | some row => if row.length = k then some (.ep row 0) else none
        | none => none
      else none
    | .sr o v len, .int _ n => if 0 ≤ n ∧ n < len then some (.vp o v len k n.toNat 0) else none
    | _, _ => none
  | .iaA len k x i => match x.at ρ, i.at ρ with
    | .ptr o v off, .int _ n => if 0 ≤ n ∧ n < len then some (.ptr o v (off + n.toNat * k)) else none
    | .ep row off, .int _ n => if 0 ≤ n ∧ n < len then some (.ep row (off + n.toNat * k)) else none
    | _, _ => none
  | .ixS x i => match x.at ρ, i.at ρ with
    | .str s, .int _ n => if 0 ≤ n then match s[n.toNat]? with
        | some b => some (.int .u8 b.toNat)
        | none => none
      else none
    | _, _ => none
  | .ixA len k agg x i => match x.at ρ, i.at ρ with
    | .agg cs, .int _ n => if 0 ≤ n ∧ n < len ∧ n.toNat * k + k ≤ cs.length then ofCells agg ((cs.drop (n.toNat * k)).take k) else none
    | _, _ => none
  | .lenS x => match x.at ρ with
    | .str s => some (.int .i64 s.length)
    | _ => none
  | .lenV x => match x.at ρ with
    | .sl _ rows => some (.int .i64 rows.length)
    | .sr _ _ n => some (.int .i64 n)
    | _ => none
  | .lenC n => some (.int .i64 n)
  | .mm mx xs => mmV mx (xs.map (AOpd.at ρ))
  | .ext i x => match x.at ρ with
    | .tup vs => vs[i]?
    | _ => none
  | .look zero m k ok => match m.at ρ with
    | .mp o v => match H[o]? with
      | some (.map v' es) => if v' = v then
          match findKey (k.at ρ) es 0 with
          | some (some (_, x)) => if ok then some (.tup [x, .bool true]) else some x
          | some none => if ok then some (.tup [zero, .bool false]) else some zero
          | none => none
        else none
      | _ => none
    | _ => none
  | _ => none
def rdOfF (ρ : SEnv) : AOp → List Nat
  | .load _ _ x => match x.at ρ with
    | .ptr o _ _ => [o]
    | .vp o _ _ _ _ _ => [o]
    | _ => []
  | .conv .b2s x => match x.at ρ with
    | .sr o _ _ => [o]
    | _ => []
  | .look _ m _ _ => match m.at ρ with
    | .mp o _ => [o]
    | _ => []
  | _ => []
def fixRowsF (ρ : SEnv) (k : Nat) (H : List AObj) (rows : List (List AV)) : List (Nat × AOpd) → Option (List (List AV) × List AObj × List Nat)
  | [] => some (rows, H, [])
  | (i, x) :: r =>
    match fix H (x.at ρ) with
    | some (v, H', l) =>
      if v.cells.length = k ∧ i < rows.length ∧ v.cells.all AV.still then
        match fixRowsF ρ k H' (rows.set i v.cells) r with
        | some (rows', H'', l') => some (rows', H'', l ++ l')
        | none => none
      else none
    | none => none
def evWF (call : Nat → List AV → List AObj → Out) (H : List AObj) (ρ : SEnv) (site : Option Nat) : AOp → Out
  | .alloc zs => match site with
    | some id => if id < H.length then some (.ptr id (verAt H id) 0, make H id (.box · zs), [id]) else none
    | none => none
  | .box k x => match site with
    | some id => if id < H.length ∧ (x.at ρ).cells.length = k ∧ (x.at ρ).cells.all AV.cellOk then some (.ptr id (verAt H id) 0, make H id (.box · (x.at ρ).cells), [id]) else none
    | none => none
  | .store k x v => if (v.at ρ).cells.length = k ∧ (v.at ρ).cells.all AV.cellOk then
      match storeCells H (v.at ρ).cells (x.at ρ) with
      | some (H', wr) => some (.undef, H', wr)
      | none => none
    else none
  | .bsl k zs n parts => match site with
    | some id => match buildRowsCF ρ k (List.replicate n zs) parts with
      | some rows => if id < H.length then some (.sr id (verAt H id) n, make H id (.vec · k rows), [id]) else none
      | none => none
    | none => match fixRowsF ρ k H (List.replicate n zs) parts with
      | some (rows, H', wr) => some (.sl true rows, H', wr)
      | none => none
  | .mks k bytes zs len cap => match len.at ρ, cap.at ρ with
    | .int _ n, .int _ c =>
      if 0 ≤ n ∧ n = c ∧ roomy n.toNat bytes then
        match site with
        | some id => if id < H.length then some (.sr id (verAt H id) n.toNat, make H id (.vec · k (List.replicate n.toNat (zs.map AV.strip1))), [id]) else none
        | none => some (.sl true (List.replicate n.toNat (zs.map AV.strip1)), H, [])
      else none
    | _, _ => none
  | .app k bytes s x => evApp H site k bytes (s.at ρ) (x.at ρ)
  | .callv f args => evCallv call H site (f.at ρ) (args.map (AOpd.at ρ))
  | .mkmap => match site with
    | some id => if id < H.length then some (.mp id (verAt H id), make H id (.map · []), [id]) else none
    | none => none
  | .ins m k v => match m.at ρ, k.at ρ with
    | .mp o ver, key => match H[o]? with
      | some (.map v' es) =>
        if v' = ver ∧ (eqKey key key).isSome ∧ (v.at ρ).strip.cells.all AV.still then
          match findKey key es 0 with
          | some (some (i, _)) => some (.undef, H.set o (.map ver (es.set i (key, (v.at ρ).strip))), [o])
          | some none => some (.undef, H.set o (.map ver (es ++ [(key, (v.at ρ).strip)])), [o])
          | none => none
        else none
      | _ => none
    | _, _ => none
  | _ => none
theorem buildCells_eq (l : List AV) : ∀ (ps : List (Nat × Nat × AOpd)) (cells : List AV), buildCells l cells ps = buildCellsF (fenv l) cells ps
  | [], _ => rfl
  | (off, size, x) :: r, cells => by
    unfold buildCells buildCellsF
    simp only [AOpd.ev_eq, buildCells_eq l r]
theorem buildRows_eq (l : List AV) (k : Nat) : ∀ (ps : List (Nat × AOpd)) (rows : List (List AV)), buildRows l k rows ps = buildRowsF (fenv l) k rows ps
  | [], _ => rfl
  | (i, x) :: r, rows => by
    unfold buildRows buildRowsF
    simp only [AOpd.ev_eq, buildRows_eq l k r]
theorem buildRowsC_eq (l : List AV) (k : Nat) : ∀ (ps : List (Nat × AOpd)) (rows : List (List AV)), buildRowsC l k rows ps = buildRowsCF (fenv l) k rows ps
  | [], _ => rfl
  | (i, x) :: r, rows => by
    unfold buildRowsC buildRowsCF
    simp only [AOpd.ev_eq, buildRowsC_eq l k r]
theorem fixRows_eq (l : List AV) (k : Nat) : ∀ (ps : List (Nat × AOpd)) (H : List AObj) (rows : List (List AV)), fixRows l k H rows ps = fixRowsF (fenv l) k H rows ps
  | [], _, _ => rfl
  | (i, x) :: r, H, rows => by
    unfold fixRows fixRowsF
    simp only [AOpd.ev_eq, fixRows_eq l k r]
    rfl
theorem evR_eq (H : List AObj) (l : List AV) (o : AOp) : evR H l o = evRF H (fenv l) o := by
  cases o <;> simp only [evR, evRF, AOpd.ev_eq, AOpd.ev_fun, buildCells_eq, buildRows_eq] <;> rfl
theorem rdOf_eq (l : List AV) (o : AOp) : rdOf l o = rdOfF (fenv l) o := by
  cases o <;> try rfl
  all_goals simp only [rdOf, rdOfF, AOpd.ev_eq]
  all_goals (rename_i c _; cases c <;> simp only [rdOf, rdOfF, AOpd.ev_eq])
theorem evW_eq (call : Nat → List AV → List AObj → Out) (H : List AObj) (l : List AV) (site : Option Nat) (o : AOp) : evW call H l site o = evWF call H (fenv l) site o := by
  cases o <;> simp only [evW, evWF, AOpd.ev_eq, AOpd.ev_fun, buildRowsC_eq, fixRows_eq] <;> rfl
end Go.Proofs.AM
end
section
namespace Go.Proofs.AM
open Go
def CallLe (c1 c2 : Nat → List AV → List AObj → Out) : Prop := ∀ f args H r, c1 f args H = some r → c2 f args H = some r
section
variable {c1 c2 : Nat → List AV → List AObj → Out} (hle : CallLe c1 c2)
include hle
theorem evCallv_mono {H : List AObj} {site : Option Nat} {f : AV} {args : List AV} {r} (h : evCallv c1 H site f args = some r) : evCallv c2 H site f args = some r := by
  unfold evCallv at h ⊢
  split at h
  · split at h
    · cases h
    · split at h
      · cases h
      · rename_i hc
        rw [hle _ _ _ _ hc]
        exact h
  · cases h
theorem evW_mono {H : List AObj} {ρ : List AV} {site : Option Nat} {o : AOp} {r} (h : evW c1 H ρ site o = some r) : evW c2 H ρ site o = some r := by
  cases o <;> first | exact h | skip
  exact evCallv_mono hle h
theorem evOp_mono {c : Ctx} {d : Bool} {H : List AObj} {ρ : List AV} {o : AOper} {r} (h : evOp c1 c d H ρ o = some r) : evOp c2 c d H ρ o = some r := by
  unfold evOp at h ⊢
  split at h
  · rename_i hw; rw [if_pos hw]; exact evW_mono hle h
  · rename_i hw; rw [if_neg hw]; exact h
theorem evOps_mono {c : Ctx} : ∀ {ops : List AOper} {s s' : ASt}, evOps c1 c ops s = some s' → evOps c2 c ops s = some s'
  | [], _, _, h => h
  | o :: r, s, s', h => by
    unfold evOps at h ⊢
    split at h
    · rename_i hg
      rw [if_pos hg]
      split at h
      · rename_i hw
        rw [if_pos hw]
        split at h
        · rename_i he
          rw [evOp_mono hle he]
          exact evOps_mono h
        · cases h
      · rename_i hw
        rw [if_neg hw]
        exact evOps_mono h
    · cases h
theorem evOpD_mono {c : Ctx} {H : List AObj} {ρ : List AV} {o : AOper} {r} (h : evOpD c1 c H ρ o = some r) : evOpD c2 c H ρ o = some r := by
  unfold evOpD at h ⊢
  split at h
  · exact h
  · split at h
    · rename_i hw
      rw [if_pos hw]
      split at h
      · rename_i he
        rw [evW_mono hle he]
        exact h
      · cases h
    · rename_i hw
      rw [if_neg hw]
      exact h
theorem evOpsD_mono {c : Ctx} : ∀ {i : Nat} {ops : List AOper} {s : ASt} {r}, evOpsD c1 c i ops s = some r → evOpsD c2 c i ops s = some r
  | _, [], _, _, h => h
  | i, o :: r, s, s', h => by
    unfold evOpsD at h ⊢
    split at h
    · rename_i hg
      rw [if_pos hg]
      split at h
      · rename_i hw
        rw [if_pos hw]
        split at h
        · rename_i he
          rw [evOpD_mono hle he]
          dsimp only
          split at h
          · rename_i hr
            rw [evOpsD_mono hr]
            exact h
          · cases h
        · cases h
      · rename_i hw
        rw [if_neg hw]
        exact evOpsD_mono h
    · cases h
theorem evRegion_mono {c : Ctx} {d : Bool} {ops : List AOper} {s s' : ASt} (h : evRegion c1 c d ops s = some s') : evRegion c2 c d ops s = some s' := by
  unfold evRegion at h ⊢
  split at h
  · rename_i hd
    rw [if_pos hd]
    split at h
    · rename_i hp
      split at h
      · rename_i hr
        rw [evOpsD_mono hle hr]
        exact h
      · cases h
    · cases h
  · rename_i hd
    rw [if_neg hd]
    split at h
    · cases h
    · rename_i hd2
      rw [if_neg hd2]
      exact evOps_mono hle h
end
section
variable {A : AProg}
theorem evCall_intro {n f : Nat} {args : List AV} {H : List AObj} {fn : AFn} {s' : ASt} {e : AExit} {r} (hp : (A.prim f).bind (· args) = none) (hf : A.fn f = some fn)
    (hc : evCode A n ⟨H.length, fn.sites⟩ fn.body (enterSt fn args H) = some (e, s')) (he : e = .normal ∨ e = .ret) (hr : finish H.length fn s' = some r) :
    evCall A n f args H = some (cutBack H.length r) := by
  unfold evCall
  rw [hp, hf]
  dsimp only
  rw [hc]
  rcases he with rfl | rfl <;> (dsimp only; rw [hr])
theorem evCall_mono_of {n m : Nat} (hcode : ∀ c x s r, evCode A n c x s = some r → evCode A m c x s = some r) : CallLe (evCall A n) (evCall A m) := by
  intro f args H r h
  unfold evCall at h
  split at h
  · rename_i v hv
    cases h
    unfold evCall
    rw [hv]
  · rename_i hv
    split at h
    · cases h
    · rename_i fn hf
      split at h
      · rename_i s' he
        split at h
        · rename_i r' hr
          cases h
          exact evCall_intro hv hf (hcode _ _ _ _ he) (.inl rfl) hr
        · cases h
      · rename_i s' he
        split at h
        · rename_i r' hr
          cases h
          exact evCall_intro hv hf (hcode _ _ _ _ he) (.inr rfl) hr
        · cases h
      · cases h
theorem evCode_mono : ∀ {n m : Nat}, n ≤ m → ∀ (c : Ctx) (x : ACode) (s : ASt) r, evCode A n c x s = some r → evCode A m c x s = some r
  | 0, _, _, c, x, s, r, h => by rw [evCode_zero] at h; cases h
  | n + 1, 0, hn, _, _, _, _, _ => by omega
  | n + 1, m + 1, hn, c, x, s, r, h => by
    have ih := evCode_mono (n := n) (m := m) (by omega)
    cases x with
    | skip => exact h
    | bad => exact h
    | region d ops =>
      rw [evCode_region] at h ⊢
      split at h
      · rename_i hr
        rw [evRegion_mono (evCall_mono_of ih) hr]
        exact h
      · cases h
    | seq a b =>
      rw [evCode_seq] at h ⊢
      split at h
      · rename_i hr; rw [ih _ _ _ _ hr]; exact ih _ _ _ _ h
      · rename_i hne
        rw [ih _ _ _ _ h]
        split
        · rename_i heq
          exact (hne _ (h.trans heq)).elim
        · rfl
    | cond t a b =>
      rw [evCode_cond] at h ⊢
      split at h
      · exact ih _ _ _ _ h
      · exact ih _ _ _ _ h
      · cases h
    | block id b =>
      rw [evCode_block] at h ⊢
      split at h
      · rename_i hr; rw [ih _ _ _ _ hr]; exact h
      · rename_i hne
        rw [ih _ _ _ _ h]
        split
        · rename_i heq
          exact (hne _ _ (h.trans heq)).elim
        · rfl
    | loop b =>
      rw [evCode_loop] at h ⊢
      split at h
      · rename_i hr; rw [ih _ _ _ _ hr]; exact ih _ _ _ _ h
      · rename_i hne
        rw [ih _ _ _ _ h]
        split
        · rename_i heq
          exact (hne _ (h.trans heq)).elim
        · rfl
    | exit id => exact h
    | ret => exact h
    | frz ts => exact h
theorem evCall_mono {n m : Nat} (h : n ≤ m) : CallLe (evCall A n) (evCall A m) := evCall_mono_of (evCode_mono h)
noncomputable def callI (A : AProg) (f : Nat) (args : List AV) (H : List AObj) : Out :=
  open Classical in if h : ∃ n r, evCall A n f args H = some r then some h.choose_spec.choose else none
theorem callI_of {n f : Nat} {args : List AV} {H : List AObj} {r} (h : evCall A n f args H = some r) : callI A f args H = some r := by
  have hex : ∃ n r, evCall A n f args H = some r := ⟨n, r, h⟩
  unfold callI
  rw [dif_pos hex]
  have h2 := hex.choose_spec.choose_spec
  rcases Nat.le_total n hex.choose with hn | hn
  · exact h2.symm.trans (evCall_mono hn _ _ _ _ h)
  · have h3 := evCall_mono hn _ _ _ _ h2
    exact h3.symm.trans h
theorem callI_to {f : Nat} {args : List AV} {H : List AObj} {r} (h : callI A f args H = some r) : ∃ n, evCall A n f args H = some r := by
  unfold callI at h
  split at h
  · rename_i hex
    cases h
    exact ⟨_, hex.choose_spec.choose_spec⟩
  · cases h
end
end Go.Proofs.AM
end
section
namespace Go.Proofs.AM
open Go
theorem fenv_set {l : List AV} {d : Nat} {v : AV} (h : d < l.length) : fenv (l.set d v) = upd (fenv l) d v := by
  funext t
  unfold fenv upd
  by_cases e : t = d
  · subst e; simp [h]
  · rw [if_neg e, List.getElem?_set_ne (Ne.symm e)]
def guardF (ρ : SEnv) : Option (Option Nat × Bool) → Option Bool
  | none => some true
  | some (none, _) => none
  | some (some t, want) => match ρ t with
    | .bool b => some (b == want)
    | _ => none
theorem guardF_eq (l : List AV) (o : AOper) : guardF (fenv l) o.guard = if guardOk l o then some (wanted l o) else none := by
  unfold guardF guardOk wanted fenv
  cases hg : o.guard with
  | none => simp
  | some p =>
    obtain ⟨t, want⟩ := p
    cases t with
    | none => simp
    | some t =>
      simp only
      cases ht : l[t]? with
      | none => simp
      | some v => cases v <;> simp
def stepF (call : Nat → List AV → List AObj → Out) (site : Option Nat) (inDraw : Bool) (ρ : SEnv) (H : List AObj) (op : AOp) : Out :=
  if isW site inDraw op then evWF call H ρ site op
  else match evRF H ρ op with
    | some v => some (v, H, [])
    | none => none
theorem stepF_eq (call : Nat → List AV → List AObj → Out) (c : Ctx) (d : Bool) (H : List AObj) (l : List AV) (o : AOper) :
    evOp call c d H l o = stepF call (c.site o.dst) d (fenv l) H o.op := by
  unfold evOp stepF
  rw [evW_eq, evR_eq]
  rfl
def dstOk (N : Nat) (o : AOper) : Bool := match o.dst with
  | some d => decide (d < N)
  | none => true
theorem putSlot_fenv {l : List AV} {o : AOper} {v : AV} (h : dstOk l.length o = true) : fenv (putSlot l o.dst v) = updO (fenv l) o.dst v := by
  unfold dstOk at h
  unfold putSlot updO
  cases hd : o.dst with
  | none => rfl
  | some d => rw [hd] at h; simp only [decide_eq_true_eq] at h; exact fenv_set h
section
variable (call : Nat → List AV → List AObj → Out) (c : Ctx)
def wpOps : List AOper → SEnv → List AObj → List Nat → (SEnv → List AObj → List Nat → Prop) → Prop | [], ρ, H, wr, K => K ρ H wr | o :: r, ρ, H, wr, K => match guardF ρ o.guard with | none => False | some false => wpOps r (updO ρ o.dst .undef) H wr K | some true => match stepF call (c.site o.dst) false ρ H o.op with | none => False | some (v, H', w) => wpOps r (updO ρ o.dst v) H' (addWr c.base wr w) K
def stepD (site : Option Nat) (ρ : SEnv) (H : List AObj) (op : AOp) : Option (AV × List AObj × List Nat × Option (List Nat)) :=
  match op, site with
  | .alloc _, some id => some (.ptr id ((H[id]?).elim 0 AObj.ver) 0, H, [id], none)
  | op, site =>
    if isW site true op then
      match evWF call H ρ site op with
      | some (v, H', wr) => if H'.length = H.length then some (v, H', [], some wr) else none
      | none => none
    else match evRF H ρ op with
      | some v => some (v, H, rdOfF ρ op, none)
      | none => none
theorem stepD_eq (H : List AObj) (l : List AV) (o : AOper) : evOpD call c H l o = stepD call (c.site o.dst) (fenv l) H o.op := by
  unfold evOpD stepD
  simp only [rdOf_eq, evR_eq, evW_eq]
  rfl
def wpD (keep : List Nat) : Nat → List AOper → SEnv → List AObj → List Nat → (SEnv → List AObj → List Nat → Log → Prop) → Prop
  | _, [], ρ, H, wr, K => K ρ H wr []
  | i, o :: r, ρ, H, wr, K => match guardF ρ o.guard with
    | none => False
    | some false => wpD keep (i + 1) r (updO ρ o.dst .undef) H wr K
    | some true => match stepD call (c.site o.dst) ρ H o.op with
      | none => False
      | some (v, H', rd, w) => wpD keep (i + 1) r (updO ρ o.dst v) H' (addWr c.base wr (w.getD []))
        (if keep.contains i then fun ρ H wr log => K ρ H wr ((i, rd, w) :: log) else K)
end
def looks (site : Option Nat) : AOp → Bool
  | .load .. | .look .. | .conv .. => true
  | .alloc _ => site.isSome
  | _ => false
def quietW (c : Ctx) (o : AOper) : Bool := match o.op, c.site o.dst with
  | .alloc _, some _ => true
  | _, site => !isW site true o.op
def pairOk (c : Ctx) (keep : List Nat) (o : AOper) (i : Nat) (p : AOper) (j : Nat) : Bool :=
  p.pre.contains i || (keep.contains i && keep.contains j) ||
  (quietW c o && quietW c p) ||
  (quietW c o && !looks (c.site o.dst) o.op) || (quietW c p && !looks (c.site p.dst) p.op)
def pairsOk (c : Ctx) (keep : List Nat) : Nat → List AOper → Bool
  | _, [] => true
  | i, o :: r => ((r.zipIdx (i + 1)).all fun (p, j) => pairOk c keep o i p j) && pairsOk c keep (i + 1) r
theorem rdOfF_quiet {ρ : SEnv} {op : AOp} {site : Option Nat} (h : looks site op = false) : rdOfF ρ op = [] := by
  cases op <;> first | rfl | (simp [looks] at h)
def Ent (c : Ctx) (e : Nat × List Nat × Option (List Nat)) (o : AOper) : Prop :=
  (quietW c o = true → e.2.2 = none) ∧ (quietW c o = true → looks (c.site o.dst) o.op = false → e.2.1 = [])
theorem stepD_ent {call : Nat → List AV → List AObj → Out} {c : Ctx} {ρ : SEnv} {H : List AObj} {o : AOper} {v H' rd w} (i : Nat) (h : stepD call (c.site o.dst) ρ H o.op = some (v, H', rd, w)) :
    Ent c (i, rd, w) o := by
  unfold stepD at h
  unfold Ent quietW
  split at h
  · rename_i h1 h2
    cases h
    refine ⟨fun _ => rfl, fun _ hl => ?_⟩
    rw [h2] at hl
    simp [h1, looks] at hl
  · split at h
    · rename_i hw
      constructor
      · intro hh; simp [hw] at hh
      · intro hh; simp [hw] at hh
    · split at h
      · cases h
        refine ⟨fun _ => rfl, fun _ hl => rdOfF_quiet hl⟩
      · cases h
def LogFits (c : Ctx) : Nat → List AOper → Log → Prop
  | _, [], log => log = []
  | i, o :: r, log => LogFits c (i + 1) r log ∨ ∃ rd w log', log = (i, rd, w) :: log' ∧ Ent c (i, rd, w) o ∧ LogFits c (i + 1) r log'
theorem LogFits.mem {c : Ctx} : ∀ {i : Nat} {ops : List AOper} {log : Log}, LogFits c i ops log → ∀ e ∈ log, ∃ o, (o, e.1) ∈ ops.zipIdx i ∧ Ent c e o
  | _, [], _, h, e, he => by rw [LogFits] at h; subst h; cases he
  | i, o :: r, log, h, e, he => by
    unfold LogFits at h
    rw [List.zipIdx_cons]
    rcases h with h | ⟨rd, w, log', rfl, h1, h2⟩
    · obtain ⟨p, hp, hq⟩ := h.mem e he
      exact ⟨p, List.mem_cons_of_mem _ hp, hq⟩
    · rcases List.mem_cons.1 he with rfl | he
      · exact ⟨o, List.mem_cons_self, h1⟩
      · obtain ⟨p, hp, hq⟩ := h2.mem e he
        exact ⟨p, List.mem_cons_of_mem _ hp, hq⟩
theorem zipIdx_pre {ops : List AOper} {p : AOper} {j : Nat} (h : (p, j) ∈ ops.zipIdx) : ((ops[j]?).map AOper.pre).getD [] = p.pre := by
  have := List.mem_zipIdx h
  simp only [Nat.zero_le, Nat.sub_zero, Nat.zero_add, true_and] at this
  obtain ⟨h1, h2⟩ := this
  rw [List.getElem?_eq_getElem h1, ← h2]
  rfl
theorem logOk_of_kept {c : Ctx} {keep : List Nat} {all : List AOper} : ∀ {i : Nat} {ops : List AOper} {log : Log}, LogFits c i ops log → pairsOk c keep i ops = true →
    (∀ p ∈ ops.zipIdx i, p ∈ all.zipIdx) →
    logOk (fun j => ((all[j]?).map AOper.pre).getD []) (log.filter fun e => keep.contains e.1) = true →
    logOk (fun j => ((all[j]?).map AOper.pre).getD []) log = true
  | _, [], log, h, _, _, _ => by rw [LogFits] at h; subst h; rfl
  | i, o :: r, log, h, hp, hin, hk => by
    unfold pairsOk at hp
    rw [Bool.and_eq_true] at hp
    unfold LogFits at h
    rw [List.zipIdx_cons] at hin
    rcases h with h | ⟨rd, w, log', rfl, h1, h2⟩
    · exact logOk_of_kept h hp.2 (fun p hp => hin p (List.mem_cons_of_mem _ hp)) hk
    · unfold logOk
      rw [Bool.and_eq_true]
      constructor
      · rw [List.all_eq_true]
        rintro ⟨j, rd', w'⟩ he
        obtain ⟨p, hpm, hpe⟩ := h2.mem _ he
        have hpp := zipIdx_pre (hin _ (List.mem_cons_of_mem _ hpm))
        have hpo := (List.all_eq_true.1 hp.1) _ hpm
        dsimp only at hpp hpo ⊢
        rw [hpp]
        unfold pairOk at hpo
        simp only [Bool.or_eq_true, Bool.and_eq_true, Bool.not_eq_true'] at hpo
        rcases hpo with (((h | ⟨hi, hj⟩) | ⟨ho, hq⟩) | ⟨ho, hl⟩) | ⟨hq, hl⟩
        · simp only [h, Bool.true_or]
        · have hk2 : logOk (fun j => ((all[j]?).map AOper.pre).getD []) ((i, rd, w) :: log'.filter fun e => keep.contains e.1) = true := by
            rw [List.filter_cons] at hk
            simp only [hi, if_true] at hk
            exact hk
          unfold logOk at hk2
          rw [Bool.and_eq_true] at hk2
          have := (List.all_eq_true.1 hk2.1) (j, rd', w') (by rw [List.mem_filter]; exact ⟨he, hj⟩)
          dsimp only at this
          rw [hpp] at this
          exact this
        · have e1 : w = none := h1.1 ho
          have e2 : w' = none := hpe.1 hq
          subst e1; subst e2
          simp
        · have e1 : w = none := h1.1 ho
          have e2 : rd = [] := h1.2 ho hl
          subst e1; subst e2
          cases w' <;> simp [apartL]
        · have e1 : w' = none := hpe.1 hq
          have e2 : rd' = [] := hpe.2 hq hl
          subst e1; subst e2
          cases w <;> simp [apartL]
      · refine logOk_of_kept h2 hp.2 (fun p hp => hin p (List.mem_cons_of_mem _ hp)) ?_
        rw [List.filter_cons] at hk
        split at hk
        · unfold logOk at hk
          rw [Bool.and_eq_true] at hk
          exact hk.2
        · exact hk
end Go.Proofs.AM
end
