/- Part 13 of the proof that stands in the last text of this folder (lemmas; no statement of its own). -/
import Derived.Test.YtjomjnkapjgheaaDoorK12
section
set_option linter.unusedVariables false
set_option maxRecDepth 8000
namespace Go.Proofs.AM
open Go
def dstsOf (ops : List AOper) : List Nat := ops.filterMap AOper.dst
def dsts : ACode → List Nat | .region _ ops => dstsOf ops | .seq a b => dsts a ++ dsts b | .cond _ a b => dsts a ++ dsts b | .block _ b => dsts b | .loop b => dsts b | .frz ts => ts.map Prod.snd | _ => []
def SlotsSame (W : List Nat) (l l' : List AV) : Prop := ∀ t, W.contains t = false → l'[t]? = l[t]?
theorem SlotsSame.refl {W : List Nat} {l : List AV} : SlotsSame W l l := fun _ _ => rfl
theorem SlotsSame.trans {W : List Nat} {l l' l'' : List AV} (h1 : SlotsSame W l l') (h2 : SlotsSame W l' l'') : SlotsSame W l l'' := fun t ht => (h2 t ht).trans (h1 t ht)
theorem SlotsSame.sub {W W' : List Nat} {l l' : List AV} (h : SlotsSame W l l') (hs : ∀ t ∈ W, t ∈ W') : SlotsSame W' l l' := fun t ht => h t (by
  rw [Bool.eq_false_iff] at ht ⊢
  intro hc
  exact ht (List.contains_iff_mem.2 (hs t (List.contains_iff_mem.1 hc))))
theorem putSlot_slots {o : AOper} {l : List AV} {v : AV} : SlotsSame (dstsOf [o]) l (putSlot l o.dst v) := by
  intro t ht
  unfold putSlot
  cases hd : o.dst with
  | none => rfl
  | some d =>
    have : d ≠ t := by
      intro e
      subst e
      simp [dstsOf, hd] at ht
    exact List.getElem?_set_ne this
theorem dstsOf_cons {o : AOper} {r : List AOper} : dstsOf (o :: r) = dstsOf [o] ++ dstsOf r := by
  unfold dstsOf
  simp only [List.filterMap_cons, List.filterMap_nil]
  cases o.dst <;> rfl
theorem evOps_slots {call : Nat → List AV → List AObj → Out} {c : Ctx} : ∀ {ops : List AOper} {s s' : ASt}, evOps call c ops s = some s' → SlotsSame (dstsOf ops) s.ρ s'.ρ
  | [], _, _, h => by cases h; exact .refl
  | o :: r, s, s', h => by
    rw [dstsOf_cons]
    unfold evOps at h
    split at h
    · split at h
      · split at h
        · rename_i v H' wr he
          exact (putSlot_slots.sub (l' := putSlot s.ρ o.dst v) fun t ht => List.mem_append_left _ ht).trans ((evOps_slots h).sub fun t ht => List.mem_append_right _ ht)
        · cases h
      · exact (putSlot_slots.sub (l' := putSlot s.ρ o.dst .undef) fun t ht => List.mem_append_left _ ht).trans ((evOps_slots h).sub fun t ht => List.mem_append_right _ ht)
    · cases h
theorem evOpsD_slots {call : Nat → List AV → List AObj → Out} {c : Ctx} : ∀ {ops : List AOper} {i : Nat} {s s' : ASt} {log : Log}, evOpsD call c i ops s = some (s', log) → SlotsSame (dstsOf ops) s.ρ s'.ρ
  | [], _, _, _, _, h => by cases h; exact .refl
  | o :: r, i, s, s', log, h => by
    rw [dstsOf_cons]
    unfold evOpsD at h
    split at h
    · split at h
      · split at h
        · rename_i v H' rd wr he
          split at h
          · rename_i s1 log1 hr
            cases h
            exact (putSlot_slots.sub (l' := putSlot s.ρ o.dst v) fun t ht => List.mem_append_left _ ht).trans ((evOpsD_slots hr).sub fun t ht => List.mem_append_right _ ht)
          · cases h
        · cases h
      · exact (putSlot_slots.sub (l' := putSlot s.ρ o.dst .undef) fun t ht => List.mem_append_left _ ht).trans ((evOpsD_slots h).sub fun t ht => List.mem_append_right _ ht)
    · cases h
theorem evFrz_slots {c : Ctx} : ∀ {ts : List (Nat × Nat)} {s s' : ASt}, evFrz c s ts = some s' → SlotsSame (ts.map Prod.snd) s.ρ s'.ρ
  | [], _, _, h => by cases h; exact .refl
  | (k + 1, t) :: r, s, s', h => by
    have hs : ∀ u ∈ r.map Prod.snd, u ∈ ((k + 1, t) :: r).map Prod.snd := fun u hu => List.mem_cons_of_mem _ hu
    unfold evFrz at h
    split at h
    · exact (evFrz_slots h).sub hs
    · split at h
      · split at h
        · split at h
          · exact (evFrz_slots h).sub hs
          · cases h
        · cases h
      · cases h
  | (0, t) :: r, s, s', h => by
    unfold evFrz at h
    split at h
    · rename_i v H' l hf
      have h1 := (evFrz_slots h).sub (W' := ((0, t) :: r).map Prod.snd) fun u hu => List.mem_cons_of_mem _ hu
      refine SlotsSame.trans (fun u hu => ?_) h1
      refine List.getElem?_set_ne fun e => ?_
      subst e
      simp at hu
    · cases h
theorem evCode_slots {A : AProg} : ∀ (n : Nat) (c : Ctx) (x : ACode) (s : ASt) e s', evCode A n c x s = some (e, s') → SlotsSame (dsts x) s.ρ s'.ρ
  | 0, c, x, s, e, s', h => by rw [evCode_zero] at h; cases h
  | n + 1, c, x, s, e, s', h => by
    cases x with
    | skip => rw [evCode_skip] at h; cases h; exact .refl
    | bad => rw [evCode_bad] at h; cases h
    | region d ops =>
      rw [evCode_region] at h
      split at h
      · rename_i s1 hr
        cases h
        unfold evRegion at hr
        split at hr
        · split at hr
          · split at hr
            · rename_i hd
              split at hr
              · cases hr
                have h9 := evOpsD_slots hd
                exact h9
              · cases hr
            · cases hr
          · cases hr
        · split at hr
          · cases hr
          · exact evOps_slots hr
      · cases h
    | seq a b =>
      have ha : ∀ t ∈ dsts a, t ∈ dsts (.seq a b) := fun t ht => List.mem_append_left _ ht
      have hb : ∀ t ∈ dsts b, t ∈ dsts (.seq a b) := fun t ht => List.mem_append_right _ ht
      rw [evCode_seq] at h
      split at h
      · rename_i s1 hr; exact ((evCode_slots n _ _ _ _ _ hr).sub ha).trans ((evCode_slots n _ _ _ _ _ h).sub hb)
      · exact (evCode_slots n _ _ _ _ _ h).sub ha
    | cond t a b =>
      have ha : ∀ u ∈ dsts a, u ∈ dsts (.cond t a b) := fun t ht => List.mem_append_left _ ht
      have hb : ∀ u ∈ dsts b, u ∈ dsts (.cond t a b) := fun t ht => List.mem_append_right _ ht
      rw [evCode_cond] at h
      split at h
      · exact (evCode_slots n _ _ _ _ _ h).sub ha
      · exact (evCode_slots n _ _ _ _ _ h).sub hb
      · cases h
    | block id b =>
      rw [evCode_block] at h
      show SlotsSame (dsts b) _ _
      split at h
      · rename_i hr
        split at h <;> (cases h; exact evCode_slots n _ _ _ _ _ hr)
      · exact evCode_slots n _ _ _ _ _ h
    | loop b =>
      rw [evCode_loop] at h
      show SlotsSame (dsts b) _ _
      split at h
      · rename_i s1 hr
        have h9 := evCode_slots n _ _ _ _ _ h
        exact SlotsSame.trans (evCode_slots n _ _ _ _ _ hr) h9
      · exact evCode_slots n _ _ _ _ _ h
    | exit id => rw [evCode_exit] at h; cases h; exact .refl
    | ret => rw [evCode_ret] at h; cases h; exact .refl
    | frz ts =>
      rw [evCode_frz] at h
      split at h
      · rename_i s1 hr; cases h; exact evFrz_slots hr
      · cases h
theorem SlotsSame.fenv {W : List Nat} {l l' : List AV} (h : SlotsSame W l l') : ∀ t, W.contains t = false → fenv l' t = fenv l t := fun t ht => by
  unfold Go.Proofs.AM.fenv; rw [h t ht]
theorem Wp.slots {A : AProg} {N : Nat} {c : Ctx} {x : ACode} {ρ : SEnv} {H : List AObj} {wr : List Nat} {Q} (h : Wp A N c x ρ H wr Q) :
    Wp A N c x ρ H wr fun e ρ' H' wr' => Q e ρ' H' wr' ∧ ∀ t, (dsts x).contains t = false → ρ' t = ρ t := fun l hl he => by
  obtain ⟨n, e, s', h1, h2, h3⟩ := h l hl he
  refine ⟨n, e, s', h1, h2, h3, fun t ht => ?_⟩
  rw [← he]
  exact (evCode_slots n _ _ _ _ _ h1).fenv t ht
abbrev SlFr (W : List Nat) (ρ ρ' : SEnv) : Prop := ∀ t, W.contains t = false → ρ' t = ρ t
theorem SlFr.mono {W W' : List Nat} {ρ ρ' : SEnv} (h : SlFr W ρ ρ') (hs : ∀ t ∈ W, t ∈ W') : SlFr W' ρ ρ' := fun t ht => h t (by
  rw [Bool.eq_false_iff] at ht ⊢
  intro hc
  exact ht (List.contains_iff_mem.2 (hs t (List.contains_iff_mem.1 hc))))
theorem SlFr.trans {W : List Nat} {ρ ρ' ρ'' : SEnv} (h1 : SlFr W ρ ρ') (h2 : SlFr W ρ' ρ'') : SlFr W ρ ρ'' := fun t ht => (h2 t ht).trans (h1 t ht)
theorem fr_updO {o : AOper} {ρ : SEnv} {v : AV} : SlFr (dstsOf [o]) ρ (updO ρ o.dst v) := by
  intro t ht
  unfold updO
  cases hd : o.dst with
  | none => rfl
  | some d =>
    refine upd_other fun e => ?_
    subst e
    simp [dstsOf, hd] at ht
theorem wpOps_frame {call : Nat → List AV → List AObj → Out} {c : Ctx} : ∀ {ops : List AOper} {ρ : SEnv} {H : List AObj} {wr : List Nat} {K K' : SEnv → List AObj → List Nat → Prop},
    (∀ ρ' H' wr', K ρ' H' wr' → SlFr (dstsOf ops) ρ ρ' → K' ρ' H' wr') → wpOps call c ops ρ H wr K → wpOps call c ops ρ H wr K'
  | [], _, _, _, _, _, hk, h => hk _ _ _ h fun _ _ => rfl
  | o :: r, ρ, H, wr, K, K', hk, h => by
    rw [dstsOf_cons] at hk
    have go : ∀ v, SlFr (dstsOf [o] ++ dstsOf r) ρ (updO ρ o.dst v) := fun v => fr_updO.mono fun t ht => List.mem_append_left _ ht
    have up : ∀ t ∈ dstsOf r, t ∈ dstsOf [o] ++ dstsOf r := fun t ht => List.mem_append_right _ ht
    unfold wpOps at h ⊢
    split at h
    · cases h
    · exact wpOps_frame (fun ρ' H' wr' hh hf => hk _ _ _ hh ((go _).trans (hf.mono up))) h
    · split at h
      · cases h
      · exact wpOps_frame (fun ρ' H' wr' hh hf => hk _ _ _ hh ((go _).trans (hf.mono up))) h
theorem wpD_frame {call : Nat → List AV → List AObj → Out} {c : Ctx} {keep : List Nat} : ∀ {ops : List AOper} {i : Nat} {ρ : SEnv} {H : List AObj} {wr : List Nat} {K K' : SEnv → List AObj → List Nat → Log → Prop},
    (∀ ρ' H' wr' log, K ρ' H' wr' log → SlFr (dstsOf ops) ρ ρ' → K' ρ' H' wr' log) → wpD call c keep i ops ρ H wr K → wpD call c keep i ops ρ H wr K'
  | [], _, _, _, _, _, _, hk, h => hk _ _ _ _ h fun _ _ => rfl
  | o :: r, i, ρ, H, wr, K, K', hk, h => by
    rw [dstsOf_cons] at hk
    have go : ∀ v, SlFr (dstsOf [o] ++ dstsOf r) ρ (updO ρ o.dst v) := fun v => fr_updO.mono fun t ht => List.mem_append_left _ ht
    have up : ∀ t ∈ dstsOf r, t ∈ dstsOf [o] ++ dstsOf r := fun t ht => List.mem_append_right _ ht
    unfold wpD at h ⊢
    split at h
    · cases h
    · exact wpD_frame (fun ρ' H' wr' log hh hf => hk _ _ _ _ hh ((go _).trans (hf.mono up))) h
    · split at h
      · cases h
      · refine wpD_frame (fun ρ' H' wr' log hh hf => ?_) h
        split at hh
        · rename_i hc; rw [if_pos hc]; exact hk _ _ _ _ hh ((go _).trans (hf.mono up))
        · rename_i hc; rw [if_neg hc]; exact hk _ _ _ _ hh ((go _).trans (hf.mono up))
theorem wpFrz_frame {c : Ctx} : ∀ {ts : List (Nat × Nat)} {ρ : SEnv} {H : List AObj} {wr : List Nat} {K K' : SEnv → List AObj → List Nat → Prop},
    (∀ ρ' H' wr', K ρ' H' wr' → SlFr (ts.map Prod.snd) ρ ρ' → K' ρ' H' wr') → wpFrz c ts ρ H wr K → wpFrz c ts ρ H wr K'
  | [], _, _, _, _, _, hk, h => hk _ _ _ h fun _ _ => rfl
  | (k + 1, t) :: r, ρ, H, wr, K, K', hk, h => by
    have up : ∀ u ∈ r.map Prod.snd, u ∈ ((k + 1, t) :: r).map Prod.snd := fun u hu => List.mem_cons_of_mem _ hu
    unfold wpFrz at h ⊢
    split at h
    · rename_i hc
      rw [if_pos hc]
      exact wpFrz_frame (fun ρ' H' wr' hh hf => hk _ _ _ hh (hf.mono up)) h
    · rename_i hc
      rw [if_neg hc]
      split at h
      · split at h
        · split at h
          · exact wpFrz_frame (fun ρ' H' wr' hh hf => hk _ _ _ hh (hf.mono up)) h
          · cases h
        · cases h
      · cases h
  | (0, t) :: r, ρ, H, wr, K, K', hk, h => by
    have up : ∀ u ∈ r.map Prod.snd, u ∈ ((0, t) :: r).map Prod.snd := fun u hu => List.mem_cons_of_mem _ hu
    have go : ∀ v, SlFr (((0, t) :: r).map Prod.snd) ρ (upd ρ t v) := fun v u hu => upd_other fun e => by subst e; simp at hu
    unfold wpFrz at h ⊢
    split at h
    · exact wpFrz_frame (fun ρ' H' wr' hh hf => hk _ _ _ hh ((go _).trans (hf.mono up))) h
    · cases h
theorem wpc_frame {A : AProg} {N : Nat} {c : Ctx} : ∀ {x : ACode} {ρ : SEnv} {H : List AObj} {wr : List Nat} {Q Q' : AExit → SEnv → List AObj → List Nat → Prop},
    (∀ e ρ' H' wr', Q e ρ' H' wr' → SlFr (dsts x) ρ ρ' → Q' e ρ' H' wr') → wpc A N c x ρ H wr Q → wpc A N c x ρ H wr Q'
  | .skip, ρ, H, wr, Q, Q', hq, h => hq _ _ _ _ h fun _ _ => rfl
  | .bad, _, _, _, _, _, _, h => h.elim
  | .region false ops, ρ, H, wr, Q, Q', hq, h => by
    rw [wpc] at h ⊢
    exact wpOps_frame (fun ρ' H' wr' hh hf => hq _ _ _ _ hh hf) h
  | .region true ops, ρ, H, wr, Q, Q', hq, h => by
    rw [wpc] at h ⊢
    split at h
    · exact wpD_frame (fun ρ' H' wr' log hh hf => ⟨hh.1, hq _ _ _ _ hh.2 hf⟩) h
    · exact h.elim
  | .seq a b, ρ, H, wr, Q, Q', hq, h => by
    have ha : ∀ t ∈ dsts a, t ∈ dsts (.seq a b) := fun t ht => List.mem_append_left _ ht
    have hb : ∀ t ∈ dsts b, t ∈ dsts (.seq a b) := fun t ht => List.mem_append_right _ ht
    rw [wpc] at h ⊢
    refine wpc_frame (fun e ρ' H' wr' hh hf => ?_) h
    cases e with
    | normal => exact wpc_frame (fun e ρ2 H2 wr2 h2 hf2 => hq _ _ _ _ h2 ((hf.mono ha).trans (hf2.mono hb))) hh
    | ret => exact hq _ _ _ _ hh (hf.mono ha)
    | exit id => exact hq _ _ _ _ hh (hf.mono ha)
  | .cond t a b, ρ, H, wr, Q, Q', hq, h => by
    have ha : ∀ u ∈ dsts a, u ∈ dsts (.cond t a b) := fun t ht => List.mem_append_left _ ht
    have hb : ∀ u ∈ dsts b, u ∈ dsts (.cond t a b) := fun t ht => List.mem_append_right _ ht
    rw [wpc] at h ⊢
    split at h
    · exact wpc_frame (fun e ρ' H' wr' hh hf => hq _ _ _ _ hh (hf.mono ha)) h
    · exact wpc_frame (fun e ρ' H' wr' hh hf => hq _ _ _ _ hh (hf.mono hb)) h
    · exact h.elim
  | .block id b, ρ, H, wr, Q, Q', hq, h => by
    rw [wpc] at h ⊢
    refine wpc_frame (x := b) (fun e ρ' H' wr' hh hf => ?_) h
    cases e with
    | normal => exact hq _ _ _ _ hh hf
    | ret => exact hq _ _ _ _ hh hf
    | exit id' =>
      dsimp only at hh ⊢
      split at hh
      · rename_i hc; rw [if_pos hc]; exact hq _ _ _ _ hh hf
      · rename_i hc; rw [if_neg hc]; exact hq _ _ _ _ hh hf
  | .loop b, ρ, H, wr, Q, Q', hq, h => by
    rw [wpc] at h ⊢
    exact h.slots.mono fun e ρ' H' wr' hh => hq _ _ _ _ hh.1 hh.2
  | .exit id, ρ, H, wr, Q, Q', hq, h => hq _ _ _ _ h fun _ _ => rfl
  | .ret, ρ, H, wr, Q, Q', hq, h => hq _ _ _ _ h fun _ _ => rfl
  | .frz ts, ρ, H, wr, Q, Q', hq, h => by
    rw [wpc] at h ⊢
    exact wpFrz_frame (fun ρ' H' wr' hh hf => hq _ _ _ _ hh hf) h
def cutQ (P : SEnv → List AObj → List Nat → Prop) (tg : Tg P) : AExit → SEnv → List AObj → List Nat → Prop := fun e ρ H wr => match e with
  | .normal => P ρ H wr
  | _ => False
@[go_sem] theorem cutQ_normal {P : SEnv → List AObj → List Nat → Prop} {t : Tg P} {ρ : SEnv} {H : List AObj} {wr : List Nat} : cutQ P t .normal ρ H wr = P ρ H wr := (rfl)
theorem wc_cut {A : AProg} {N : Nat} {c : Ctx} {x : ACode} {ρ : SEnv} {H : List AObj} {wr : List Nat} {Q : AExit → SEnv → List AObj → List Nat → Prop} {tg} {W : List Nat} (P : SEnv → List AObj → List Nat → Prop)
    (hW : dsts x = W) (h1 : wc A N c x ρ H wr (cutQ P ⟨⟩) ⟨⟩) (h2 : ∀ ρ' H' wr', P ρ' H' wr' → (∀ t, W.contains t = false → ρ' t = ρ t) → Q .normal ρ' H' wr') : wc A N c x ρ H wr Q tg := by
  subst hW
  refine wpc_frame (fun e ρ' H' wr' hh hf => ?_) h1
  cases e with
  | normal => exact h2 _ _ _ hh hf
  | ret => exact hh.elim
  | exit id => exact hh.elim
def forQ (I : Nat → SEnv → List AObj → List Nat → Prop) (M i : Nat) (Q : AExit → SEnv → List AObj → List Nat → Prop) (tg : Tg (I, Q)) : AExit → SEnv → List AObj → List Nat → Prop := fun e ρ H wr => match e with
  | .normal => i < M ∧ I (i + 1) ρ H wr
  | e => Q e ρ H wr
section
variable {A : AProg} {N : Nat} {c : Ctx} {ρ ρ' : SEnv} {H H' : List AObj} {wr wr' : List Nat} {Q : AExit → SEnv → List AObj → List Nat → Prop} {I : Nat → SEnv → List AObj → List Nat → Prop} {M i : Nat}
@[go_sem] theorem forQ_normal {t : Tg (I, Q)} : forQ I M i Q t .normal ρ H wr = (i < M ∧ I (i + 1) ρ H wr) := (rfl)
@[go_sem] theorem forQ_ret {t : Tg (I, Q)} : forQ I M i Q t .ret ρ H wr = Q .ret ρ H wr := (rfl)
@[go_sem] theorem forQ_exit {t : Tg (I, Q)} {id : Nat} : forQ I M i Q t (.exit id) ρ H wr = Q (.exit id) ρ H wr := (rfl)
theorem wl_for {b : ACode} {tg : Tg (A, N, c, b, Q)} {W : List Nat} (I : Nat → SEnv → List AObj → List Nat → Prop) (M : Nat) (hok : codeOk N c b = true) (hW : dsts b = W) (h0 : I 0 ρ H wr)
    (hs : ∀ i ρ1 H1 wr1, i ≤ M → I i ρ1 H1 wr1 → (∀ t, W.contains t = false → ρ1 t = ρ t) → wc A N c b ρ1 H1 wr1 (forQ I M i Q ⟨⟩) ⟨⟩) :
    wl A N c b ρ H wr Q tg := by
  have key : ∀ k i ρ1 H1 wr1, i + k = M → I i ρ1 H1 wr1 → (∀ t, W.contains t = false → ρ1 t = ρ t) → Wp A N c (.loop b) ρ1 H1 wr1 Q := by
    intro k
    induction k with
    | zero =>
      intro i ρ1 H1 wr1 hk hI hf l hl he
      obtain ⟨n, e, s', h1, h2, h3⟩ := wpc_sound (hs i ρ1 H1 wr1 (by omega) hI hf) hok l hl he
      by_cases hn : e = .normal
      · subst hn
        exact absurd h3.1 (by omega)
      · refine ⟨n + 1, e, s', ?_, h2, ?_⟩
        · rw [evCode_loop, h1]
          cases e <;> first | rfl | exact absurd rfl hn
        · cases e <;> first | exact h3 | exact absurd rfl hn
    | succ k ih =>
      intro i ρ1 H1 wr1 hk hI hf l hl he
      obtain ⟨n, e, s', h1, h2, h3⟩ := wpc_sound (hs i ρ1 H1 wr1 (by omega) hI hf) hok l hl he
      by_cases hn : e = .normal
      · subst hn
        have hf2 : ∀ t, W.contains t = false → fenv s'.ρ t = ρ t := fun t ht => by
          have := (evCode_slots n _ _ _ _ _ h1).fenv t (by rw [hW]; exact ht)
          rw [this, he]
          exact hf t ht
        obtain ⟨m, e', s'', g1, g2, g3⟩ := ih (i + 1) _ _ _ (by omega) h3.2 hf2 s'.ρ h2 rfl
        refine ⟨max n m + 1, e', s'', ?_, g2, g3⟩
        rw [evCode_loop, evCode_mono (Nat.le_max_left n m) _ _ _ _ h1]
        exact evCode_mono (Nat.le_max_right n m) _ _ _ _ g1
      · refine ⟨n + 1, e, s', ?_, h2, ?_⟩
        · rw [evCode_loop, h1]
          cases e <;> first | rfl | exact absurd rfl hn
        · cases e <;> first | exact h3 | exact absurd rfl hn
  exact key M 0 ρ H wr (by omega) h0 fun _ _ => rfl
def exitQ (id : Nat) (J : SEnv → List AObj → List Nat → Prop) (Q : AExit → SEnv → List AObj → List Nat → Prop) (tg : Tg (J, Q)) : AExit → SEnv → List AObj → List Nat → Prop := fun e ρ H wr => match e with
  | .exit id' => if id' = id then J ρ H wr else Q (.exit id') ρ H wr
  | e => Q e ρ H wr
@[go_sem] theorem exitQ_exit {id : Nat} {J : SEnv → List AObj → List Nat → Prop} {t : Tg (J, Q)} : exitQ id J Q t (.exit id) ρ H wr = J ρ H wr := by unfold exitQ; dsimp only; rw [if_pos rfl]
@[go_sem] theorem exitQ_ret {id : Nat} {J : SEnv → List AObj → List Nat → Prop} {t : Tg (J, Q)} : exitQ id J Q t .ret ρ H wr = Q .ret ρ H wr := (rfl)
theorem wl_for2 {b : ACode} {tg : Tg (A, N, c, b, Q)} {W : List Nat} {id : Nat} (I : Nat → SEnv → List AObj → List Nat → Prop) (M : Nat) (J : SEnv → List AObj → List Nat → Prop) (hok : codeOk N c b = true) (hW : dsts b = W) (h0 : I 0 ρ H wr)
    (hs : ∀ i ρ1 H1 wr1, i ≤ M → I i ρ1 H1 wr1 → (∀ t, W.contains t = false → ρ1 t = ρ t) → wc A N c b ρ1 H1 wr1 (forQ I M i (exitQ id J Q ⟨⟩) ⟨⟩) ⟨⟩)
    (hQ : ∀ ρ' H' wr', J ρ' H' wr' → (∀ t, W.contains t = false → ρ' t = ρ t) → Q (.exit id) ρ' H' wr') : wl A N c b ρ H wr Q tg := by
  refine wl_for I M hok hW h0 fun i ρ1 H1 wr1 hi hI hf => ?_
  refine wpc_frame (fun e ρ' H' wr' hh hf' => ?_) (hs i ρ1 H1 wr1 hi hI hf)
  cases e with
  | normal => exact hh
  | ret => exact hh
  | exit id' =>
    by_cases he : id' = id
    · subst he
      simp only [forQ, exitQ, if_true] at hh
      exact hQ _ _ _ hh fun t ht => (hf' t (by rw [hW]; exact ht)).trans (hf t ht)
    · simp only [forQ, exitQ, if_neg he] at hh
      exact hh
theorem wpc_of_Wp {x : ACode} {Q' : AExit → SEnv → List AObj → List Nat → Prop} (h : ∀ e ρ H wr, Q' e ρ H wr → Q e ρ H wr) (hw : wpc A N c x ρ H wr Q') (hok : codeOk N c x = true) : Wp A N c x ρ H wr Q :=
  (wpc_sound hw hok).mono h
end
end Go.Proofs.AM
end
section
set_option linter.unusedVariables false
set_option maxRecDepth 8000
namespace Go.Proofs.AM
open Go
abbrev Str := List UInt8
structure Run where
  lang : Int
  text : Str
  deriving DecidableEq
inductive Expr where
  | mk (op n : Int) (kids : List Expr)
structure Shape where
  kind : Int
  points : List (Int × Int)
  deriving DecidableEq
structure Note where
  step : Int
  length : Int
  alter : Int
  deriving DecidableEq
structure Block where
  kind : Int
  runs : List Run
  expr : Expr
  sumOp : Int
  sumA : List Int
  grid : List (List Str)
  w : Int
  h : Int
  shapes : List Shape
  hands : List (List (List Note))
  lines : List Str
structure Fact where
  kind : Int
  block : Int
  a : Int
  b : Int
  deriving DecidableEq
structure Question where
  kind : Int
  stem : List Run
  options : List Str
  needs : List Int
  key : Str
  points : Int
  reasons : List Str
  deriving DecidableEq
structure Item where
  name : Str
  blocks : List Block
  facts : List Fact
  ask : List Question
structure Exam where
  title : Str
  items : List Item
@[reducible] def vi (n : Int) : AV := .int .i64 n
def encStr (s : Str) : List AV := [.str s]
def encInt (n : Int) : List AV := [vi n]
def encRun (r : Run) : List AV := [vi r.lang, .str r.text]
mutual
def encExpr : Expr → List AV
  | .mk op n kids => [vi op, vi n, .sl false (encExprs kids)]
def encExprs : List Expr → List (List AV)
  | [] => []
  | e :: r => encExpr e :: encExprs r
end
def encPoint (p : Int × Int) : List AV := [vi p.1, vi p.2]
def encShape (s : Shape) : List AV := [vi s.kind, .sl false (s.points.map encPoint)]
def encNote (n : Note) : List AV := [vi n.step, vi n.length, vi n.alter]
def encBar (l : List Note) : List AV := [.sl false (l.map encNote)]
def encHand (l : List (List Note)) : List AV := [.sl false (l.map encBar)]
def encRow (l : List Str) : List AV := [.sl false (l.map encStr)]
def encBlock (b : Block) : List AV := [vi b.kind, .sl false (b.runs.map encRun)] ++ encExpr b.expr ++ [vi b.sumOp, .sl false (b.sumA.map encInt), .sl false (b.grid.map encRow), vi b.w, vi b.h, .sl false (b.shapes.map encShape),
  .sl false (b.hands.map encHand), .sl false (b.lines.map encStr)]
def encFact (f : Fact) : List AV := [vi f.kind, vi f.block, vi f.a, vi f.b]
def encQ (q : Question) : List AV := [vi q.kind, .sl false (q.stem.map encRun), .sl false (q.options.map encStr), .sl false (q.needs.map encInt), .str q.key, vi q.points, .sl false (q.reasons.map encStr)]
def encItem (x : Item) : List AV := [.str x.name, .sl false (x.blocks.map encBlock), .sl false (x.facts.map encFact), .sl false (x.ask.map encQ)]
def encExam (x : Exam) : AV := .agg [.str x.title, .sl false (x.items.map encItem)]
theorem dataLL_map {α : Type} {f : α → List AV} (h : ∀ a, dataL (f a) = true) : ∀ l : List α, dataLL (l.map f) = true
  | [] => rfl
  | a :: r => by simp only [List.map_cons, dataLL, h a, dataLL_map h r, Bool.and_self]
section
attribute [local simp] dataL AV.data AV.cellOk vi
theorem data_str (s : Str) : dataL (encStr s) = true := by simp [encStr]
theorem data_int (s : Int) : dataL (encInt s) = true := by simp [encInt]
theorem data_run (s : Run) : dataL (encRun s) = true := by simp [encRun]
mutual
theorem data_expr : ∀ e : Expr, dataL (encExpr e) = true
  | .mk op n kids => by
    unfold encExpr
    simp [data_exprs kids]
theorem data_exprs : ∀ l : List Expr, dataLL (encExprs l) = true
  | [] => rfl
  | e :: r => by
    unfold encExprs dataLL
    rw [data_expr e, data_exprs r]; rfl
end
theorem data_point (s : Int × Int) : dataL (encPoint s) = true := by simp [encPoint]
theorem data_shape (s : Shape) : dataL (encShape s) = true := by simp [encShape, dataLL_map data_point]
theorem data_note (s : Note) : dataL (encNote s) = true := by simp [encNote]
theorem data_bar (s : List Note) : dataL (encBar s) = true := by simp [encBar, dataLL_map data_note]
theorem data_hand (s : List (List Note)) : dataL (encHand s) = true := by simp [encHand, dataLL_map data_bar]
theorem data_row (s : List Str) : dataL (encRow s) = true := by simp [encRow, dataLL_map data_str]
theorem dataL_append : ∀ {a b : List AV}, dataL (a ++ b) = (dataL a && dataL b)
  | [], b => by simp
  | x :: a, b => by simp [dataL_append (a := a) (b := b), Bool.and_assoc]
theorem data_block (s : Block) : dataL (encBlock s) = true := by
  simp only [encBlock, dataL_append, data_expr]
  simp [dataLL_map data_run, dataLL_map data_int, dataLL_map data_row, dataLL_map data_shape, dataLL_map data_hand, dataLL_map data_str]
theorem data_fact (s : Fact) : dataL (encFact s) = true := by simp [encFact]
theorem data_q (s : Question) : dataL (encQ s) = true := by simp [encQ, dataLL_map data_run, dataLL_map data_str, dataLL_map data_int]
theorem data_item (s : Item) : dataL (encItem s) = true := by simp [encItem, dataLL_map data_block, dataLL_map data_fact, dataLL_map data_q]
theorem data_exam (s : Exam) : (encExam s).data = true := by simp [encExam, dataLL_map data_item]
end
abbrev IntOk (n : Int) : Prop := -9223372036854775808 ≤ n ∧ n ≤ 9223372036854775807
abbrev TextOk (s : Str) : Prop := s.length ≤ 1000
structure Run.Ok (r : Run) : Prop where
  lang : IntOk r.lang
  text : TextOk r.text
mutual
def esize : Expr → Nat
  | .mk _ _ kids => esizes kids + 1
def esizes : List Expr → Nat
  | [] => 0
  | e :: r => esize e + esizes r
end
inductive Expr.Ok : Expr → Prop where
  | mk (op n : Int) (kids : List Expr) : IntOk op → IntOk n → kids.length ≤ 16 → (∀ e ∈ kids, Expr.Ok e) → Expr.Ok (.mk op n kids)
structure Shape.Ok (s : Shape) : Prop where
  kind : IntOk s.kind
  len : s.points.length ≤ 16
  points : ∀ p ∈ s.points, IntOk p.1 ∧ IntOk p.2
structure Note.Ok (n : Note) : Prop where
  step : IntOk n.step
  length : IntOk n.length
  alter : IntOk n.alter
structure Block.Ok (b : Block) : Prop where
  kind : IntOk b.kind
  lenR : b.runs.length ≤ 16
  runs : ∀ r ∈ b.runs, r.Ok
  expr : b.expr.Ok
  size : esize b.expr ≤ 1000
  sumOp : IntOk b.sumOp
  lenA : b.sumA.length ≤ 16
  sumA : ∀ n ∈ b.sumA, IntOk n
  lenG : b.grid.length ≤ 16
  grid : ∀ r ∈ b.grid, r.length ≤ 16 ∧ ∀ s ∈ r, TextOk s
  w : IntOk b.w
  h : IntOk b.h
  lenS : b.shapes.length ≤ 16
  shapes : ∀ s ∈ b.shapes, s.Ok
  lenH : b.hands.length ≤ 16
  hands : ∀ h ∈ b.hands, h.length ≤ 16 ∧ ∀ l ∈ h, l.length ≤ 16 ∧ ∀ n ∈ l, n.Ok
  lenL : b.lines.length ≤ 16
  lines : ∀ s ∈ b.lines, TextOk s
structure Fact.Ok (f : Fact) : Prop where
  kind : IntOk f.kind
  block : IntOk f.block
  a : IntOk f.a
  b : IntOk f.b
structure Question.Ok (q : Question) : Prop where
  kind : IntOk q.kind
  lenS : q.stem.length ≤ 16
  stem : ∀ r ∈ q.stem, r.Ok
  lenO : q.options.length ≤ 16
  options : ∀ s ∈ q.options, TextOk s
  lenN : q.needs.length ≤ 16
  needs : ∀ n ∈ q.needs, IntOk n
  key : TextOk q.key
  points : IntOk q.points
  lenR : q.reasons.length ≤ 16
  reasons : ∀ s ∈ q.reasons, TextOk s
structure Item.Ok (x : Item) : Prop where
  name : TextOk x.name
  lenB : x.blocks.length ≤ 16
  blocks : ∀ b ∈ x.blocks, b.Ok
  lenF : x.facts.length ≤ 16
  facts : ∀ f ∈ x.facts, f.Ok
  lenA : x.ask.length ≤ 16
  ask : ∀ q ∈ x.ask, q.Ok
structure Exam.Ok (x : Exam) : Prop where
  title : TextOk x.title
  lenI : x.items.length ≤ 16
  items : ∀ i ∈ x.items, i.Ok
def upto {α : Type} (f : Nat → α → α) (l : List α) (i : Nat) : List α := l.mapIdx fun j a => if j < i then f j a else a
section
variable {α : Type} {f : Nat → α → α} {l : List α} {i : Nat}
theorem upto_zero : upto f l 0 = l := by
  unfold upto
  apply List.ext_getElem?
  intro j
  rw [List.getElem?_mapIdx]
  cases l[j]? <;> simp
@[go_sem] theorem upto_length : (upto f l i).length = l.length := by unfold upto; simp
theorem upto_get (h : i < l.length) : (upto f l i)[i]? = some l[i] := by
  unfold upto
  rw [List.getElem?_mapIdx]
  simp [h]
theorem upto_set (h : i < l.length) : (upto f l i).set i (f i l[i]) = upto f l (i + 1) := by
  unfold upto
  apply List.ext_getElem?
  intro j
  rw [List.getElem?_mapIdx]
  by_cases e : i = j
  · subst e
    rw [List.getElem?_set_self (by simpa using h)]
    simp [h]
  · rw [List.getElem?_set_ne e, List.getElem?_mapIdx]
    have : (j < i + 1) ↔ (j < i) := by omega
    simp only [this]
theorem upto_all : upto f l l.length = l.mapIdx f := by
  unfold upto
  apply List.ext_getElem?
  intro j
  rw [List.getElem?_mapIdx, List.getElem?_mapIdx]
  by_cases e : j < l.length
  · simp [e]
  · simp [List.getElem?_eq_none (by omega : l.length ≤ j)]
theorem map_upto_set {β : Type} {enc : α → β} (h : i < l.length) {x : β} (hx : x = enc (f i l[i])) : ((upto f l i).map enc).set i x = (upto f l (i + 1)).map enc := by
  rw [hx, ← List.map_set, upto_set h]
theorem map_upto_get {β : Type} {enc : α → β} (h : i < l.length) : ((upto f l i).map enc)[i]? = some (enc l[i]) := by
  rw [List.getElem?_map, upto_get h]; rfl
end
theorem getElem?_map_of {α β : Type} {f : α → β} {l : List α} {i : Nat} (h : i < l.length) : (l.map f)[i]? = some (f l[i]) := by
  rw [List.getElem?_map, List.getElem?_eq_getElem h]; rfl
theorem mapIdx_const {α β : Type} (f : α → β) (l : List α) : l.mapIdx (fun _ a => f a) = l.map f := by
  apply List.ext_getElem?
  intro i
  rw [List.getElem?_mapIdx, List.getElem?_map]
theorem wrap_succ {i : Nat} (h : i < 4611686018427387904) : IntKind.wrap .i64 ((i : Int) + 1) = ((i + 1 : Nat) : Int) := by
  rw [wrap_i64 (by omega) (by omega)]; rfl
theorem decide_lt_nat {i n : Nat} : decide ((i : Int) < (n : Int)) = decide (i < n) := by
  simp
def dec (n : Nat) : Str := if n < 10 then [UInt8.ofNat (48 + n)] else dec (n / 10) ++ [UInt8.ofNat (48 + n % 10)]
decreasing_by omega
theorem dec_len : ∀ (k n : Nat), n < 10 ^ (k + 1) → (dec n).length ≤ k + 1
  | 0, n, h => by
    unfold dec
    rw [if_pos (by omega)]
    exact Nat.le_refl _
  | k + 1, n, h => by
    unfold dec
    split
    · simp
    · have := dec_len k (n / 10) (by rw [Nat.pow_succ] at h; omega)
      simp only [List.length_append, List.length_cons, List.length_nil]
      omega
theorem dec_small {n : Nat} (h : n < 1000000) : 1 + (dec n).length ≤ 4611686018427387904 := by
  have := dec_len 5 n h
  omega
abbrev SpecItoa (A : AProg) (g : String → Nat) : Prop := ∀ (n : Nat) (H : List AObj), n < 1000000 → callI A (g "strconv.Itoa") [vi n] H = some (.str (dec n), H, [])
end Go.Proofs.AM
end
section
open Nat renaming reduceBEq → NB, reduceAdd → NA, reduceSub → NS, reduceMul → NM, reduceLT → NL, reduceLeDiff → ND, reduceEqDiff → NE
open Int renaming reduceLT → IL, reduceLE → ID, reduceToNat → IT, reduceEq → IE, reduceBEq → IB, reduceBNe → IN, reduceAdd → IA, reduceSub → IS, reduceNeg → IM
open Bool renaming not_true → BT, not_false → BF
set_option linter.unusedVariables false
set_option maxRecDepth 8000
namespace Go.Proofs.AM
open Go
def secret_rest (g : String → Nat) : AFn := ⟨12, [], [.tmp 4],
  .seq (.region false [⟨some 4, .mov (.const (.int .i64 0)), none, []⟩]) <|
  .seq (.region false [⟨some 5, .mov (.tmp 0), none, []⟩,
    ⟨some 6, .mov (.tmp 1), none, []⟩,
    ⟨some 7, .bin .rem .no (.tmp 5) (.tmp 6), none, [0, 1]⟩,
    ⟨some 8, .mov (.tmp 1), none, []⟩,
    ⟨some 9, .bin .add .no (.tmp 7) (.tmp 8), none, [2, 0, 1, 3]⟩,
    ⟨some 10, .mov (.tmp 1), none, []⟩,
    ⟨some 11, .bin .rem .no (.tmp 9) (.tmp 10), none, [4, 2, 0, 1, 3, 5]⟩,
    ⟨some 4, .mov (.tmp 11), none, [6, 4, 2, 0, 1, 3, 5]⟩]) <|
  .ret⟩
def dactylref31_rest (g : String → Nat) : AFn := ⟨12, [], [.tmp 4],
  .seq (.region false [⟨some 4, .mov (.const (.int .i64 0)), none, []⟩]) <|
  .seq (.region false [⟨some 5, .mov (.tmp 0), none, []⟩,
    ⟨some 6, .mov (.tmp 1), none, []⟩,
    ⟨some 7, .bin .rem .no (.tmp 5) (.tmp 6), none, [0, 1]⟩,
    ⟨some 8, .mov (.tmp 1), none, []⟩,
    ⟨some 9, .bin .add .no (.tmp 7) (.tmp 8), none, [2, 0, 1, 3]⟩,
    ⟨some 10, .mov (.tmp 1), none, []⟩,
    ⟨some 11, .bin .rem .no (.tmp 9) (.tmp 10), none, [4, 2, 0, 1, 3, 5]⟩,
    ⟨some 4, .mov (.tmp 11), none, [6, 4, 2, 0, 1, 3, 5]⟩]) <|
  .ret⟩
def restN (n b : Int) : Nat := ((n.tmod b + b).tmod b).toNat
theorem restN_lt {n b : Int} (hb : 0 < b) : (restN n b : Int) < b := by
  unfold restN
  have h0 := Int.lt_tmod_of_pos n hb
  have h1 := Int.tmod_lt_of_pos (n.tmod b + b) hb
  have h2 := Int.tmod_nonneg b (a := n.tmod b + b) (by omega)
  omega
theorem restN_cast {n b : Int} (hb : 0 < b) : ((n.tmod b + b).tmod b) = (restN n b : Int) := by
  unfold restN
  have h0 := Int.lt_tmod_of_pos n hb
  have h2 := Int.tmod_nonneg b (a := n.tmod b + b) (by omega)
  omega
theorem restN_small {n b : Int} (hb : 0 < b) (hb2 : b ≤ 1000000) : restN n b < 1000000 := by
  have := restN_lt (n := n) hb
  omega
abbrev SpecRest (A : AProg) (f : Nat) : Prop := ∀ (n b : Int) (H : List AObj), 0 < b → b < 1000000000 → callI A f [vi n, vi b] H = some (vi (restN n b), H, [])
theorem rest_spec {A : AProg} {g : String → Nat} (h : Has A g "dactyl/secret.rest" (secret_rest g)) : SpecRest A (g "dactyl/secret.rest") := by
  intro n b H hb hb2
  refine h.call (by simp [secret_rest]) (by rfl) ?_
  simp only [secret_rest]
  have := Int.tmod_lt_of_pos n hb
  have := Int.lt_tmod_of_pos n hb
  simp only [go_sem, NB, bin_rem (show b ≠ 0 by omega), wrap_i64 (n := n.tmod b + b) (by omega) (by omega), restN_cast hb, List.append_nil, List.take_length, vi]
theorem rest31_spec {A : AProg} {g : String → Nat} (h : Has A g "dactyl/dactylref31.rest" (dactylref31_rest g)) : SpecRest A (g "dactyl/dactylref31.rest") := by
  intro n b H hb hb2
  refine h.call (by simp [dactylref31_rest]) (by rfl) ?_
  simp only [dactylref31_rest]
  have := Int.tmod_lt_of_pos n hb
  have := Int.lt_tmod_of_pos n hb
  simp only [go_sem, NB, bin_rem (show b ≠ 0 by omega), wrap_i64 (n := n.tmod b + b) (by omega) (by omega), restN_cast hb, List.append_nil, List.take_length, vi]
def cloneFn (k bytes : Nat) (zs : List AV) : AFn := ⟨8, [7], [.tmp 2],
  .seq (.region false [⟨some 2, .mov (.const (.sl true [])), none, []⟩]) <|
  .seq (.seq (.region false [⟨some 3, .mov (.tmp 0), none, []⟩,
    ⟨some 4, .isnil false (.tmp 3), none, [0]⟩]) <|
  .cond (.tmp 4) (.seq (.region false [⟨some 2, .mov (.const (.sl true [])), none, []⟩]) <|
    .ret)
    (.skip)) <|
  .seq (.region false [⟨some 5, .bsl k zs 0 [], none, []⟩,
    ⟨some 6, .mov (.tmp 0), none, []⟩,
    ⟨some 7, .app k bytes (.tmp 5) (.tmp 6), none, [0, 1]⟩,
    ⟨some 2, .mov (.tmp 7), none, [2, 0, 1]⟩]) <|
  .ret⟩
structure SpecClone (A : AProg) (f k bytes : Nat) : Prop where
  nil : ∀ H, callI A f [.sl false []] H = some (.sl false [], H, [])
  cons : ∀ (r : List AV) (rows : List (List AV)) (H : List AObj), r.length = k → dataLL (r :: rows) = true → (rows.length + 1) * (bytes + 1) ≤ 1099511627776 → callI A f [.sl false (r :: rows)] H = some (.own k (r :: rows), H, [])
theorem callI_prim {A : AProg} {f : Nat} {args : List AV} {H : List AObj} {v : AV} (h : (A.prim f).bind (· args) = some v) : callI A f args H = some (v, H, []) :=
  callI_of (n := 0) (by unfold evCall; rw [h])
theorem clone_spec {A : AProg} {f : Nat} {k bytes : Nat} {zs : List AV} (hf : A.fn f = some (cloneFn k bytes zs))
    (hp : ∀ args, (A.prim f).bind (· args) = match args with | [.sl _ []] => some (.sl false []) | _ => none) : SpecClone A f k bytes := by
  refine ⟨fun H => callI_prim (by rw [hp]), ?_⟩
  intro r rows H hk hd hroom
  obtain ⟨v1, H1, wr1, h1, rfl, rfl, rfl⟩ := call_intro' (args := [.sl false (r :: rows)]) (H := H) (K := fun v' H'' wr' => v' = .own k (r :: rows) ∧ H'' = H ∧ wr' = []) hf (by rw [hp]) (by simp [cloneFn]) (by rfl) (by
    simp only [cloneFn]
    have hr : roomy (rows.length + 1) bytes = true := by unfold roomy; simpa using hroom
    have hs : (List.all r AV.still && rows.all fun r => r.all AV.still) = true := by
      have := allStill_rows hd
      simpa using this
    simp only [dataLL, Bool.and_eq_true] at hd
    simp only [go_sem, ↓reduceIte, NB, NL, NE, BT, hk, hr, hs, underL_of_data hd.1, underLL_of_data hd.2])
  exact h1
end Go.Proofs.AM
end
