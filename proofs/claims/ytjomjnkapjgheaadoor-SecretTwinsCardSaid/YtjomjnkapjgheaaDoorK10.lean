/- Part 10 of the proof that stands in the last text of this folder (lemmas; no statement of its own). -/
import Derived.Test.YtjomjnkapjgheaaDoorK09
section
open Nat renaming reduceBEq → NB, reduceAdd → NA, reduceSub → NS, reduceMul → NM, reduceLT → NL, reduceLeDiff → ND, reduceEqDiff → NE
open Int renaming reduceLT → IL, reduceLE → ID, reduceToNat → IT, reduceEq → IE, reduceBEq → IB, reduceBNe → IN, reduceAdd → IA, reduceSub → IS, reduceNeg → IM
open Bool renaming not_true → BT, not_false → BF
namespace Go.Proofs.AM
open Go
section
variable {A : AProg}
theorem evCallv_to {H : List AObj} {site : Option Nat} {f : AV} {args : List AV} {r} (h : evCallv (callI A) H site f args = some r) : ∃ n, evCallv (evCall A n) H site f args = some r := by
  unfold evCallv at h
  split at h
  · rename_i fid first caps
    split at h
    · cases h
    · rename_i args' lent hl
      split at h
      · cases h
      · rename_i v H' wr hc
        obtain ⟨n, hn⟩ := callI_to hc
        refine ⟨n, ?_⟩
        unfold evCallv
        dsimp only
        rw [hl]
        dsimp only
        rw [hn]
        exact h
  · cases h
theorem evWF_to {H : List AObj} {ρ : SEnv} {site : Option Nat} {o : AOp} {r} (h : evWF (callI A) H ρ site o = some r) : ∃ n, evWF (evCall A n) H ρ site o = some r := by
  cases o <;> first | exact ⟨0, h⟩ | skip
  exact evCallv_to h
theorem stepF_to {site : Option Nat} {d : Bool} {H : List AObj} {ρ : SEnv} {o : AOp} {r} (h : stepF (callI A) site d ρ H o = some r) : ∃ n, stepF (evCall A n) site d ρ H o = some r := by
  unfold stepF at h
  split at h
  · rename_i hw
    obtain ⟨n, hn⟩ := evWF_to h
    exact ⟨n, by unfold stepF; rw [if_pos hw]; exact hn⟩
  · rename_i hw
    exact ⟨0, by unfold stepF; rw [if_neg hw]; exact h⟩
theorem stepD_to {site : Option Nat} {H : List AObj} {ρ : SEnv} {o : AOp} {r} (h : stepD (callI A) site ρ H o = some r) : ∃ n, stepD (evCall A n) site ρ H o = some r := by
  unfold stepD at h
  split at h
  · exact ⟨0, h⟩
  · rename_i hne
    split at h
    · rename_i hw
      split at h
      · rename_i he
        obtain ⟨n, hn⟩ := evWF_to he
        refine ⟨n, ?_⟩
        unfold stepD
        split
        · exact (hne _ _ rfl rfl).elim
        · rw [if_pos hw, hn]; exact h
      · cases h
    · rename_i hw
      refine ⟨0, ?_⟩
      unfold stepD
      split
      · exact (hne _ _ rfl rfl).elim
      · rw [if_neg hw]; exact h
theorem wpOps_sound {c : Ctx} : ∀ {ops : List AOper} {l : List AV} {H : List AObj} {wr : List Nat} {K}, wpOps (callI A) c ops (fenv l) H wr K → (ops.all (dstOk l.length)) = true →
    ∃ n s', evOps (evCall A n) c ops ⟨l, H, wr⟩ = some s' ∧ s'.ρ.length = l.length ∧ K (fenv s'.ρ) s'.H s'.wr
  | [], l, H, wr, K, h, _ => ⟨0,⟨l, H, wr⟩, rfl, rfl, h⟩
  | o :: r, l, H, wr, K, h, hd => by
    rw [List.all_cons, Bool.and_eq_true] at hd
    unfold wpOps at h
    rw [guardF_eq] at h
    split at h
    · cases h
    · rename_i hg
      split at hg
      · rename_i hok
        rw [Option.some.injEq] at hg
        rw [← putSlot_fenv hd.1] at h
        obtain ⟨n, s', h1, h2, h3⟩ := wpOps_sound h (by rw [putSlot_len]; exact hd.2)
        refine ⟨n, s', ?_, by rw [h2, putSlot_len], h3⟩
        unfold evOps
        rw [if_pos hok, if_neg (by rw [hg]; exact Bool.false_ne_true)]
        exact h1
      · cases hg
    · rename_i hg
      split at hg
      · rename_i hok
        rw [Option.some.injEq] at hg
        split at h
        · cases h
        · rename_i v H' w hs
          obtain ⟨n1, hn1⟩ := stepF_to hs
          rw [← putSlot_fenv hd.1] at h
          obtain ⟨n2, s', h1, h2, h3⟩ := wpOps_sound h (by rw [putSlot_len]; exact hd.2)
          refine ⟨max n1 n2, s', ?_, by rw [h2, putSlot_len], h3⟩
          unfold evOps
          rw [if_pos hok, if_pos hg]
          have e1 := evOp_mono (evCall_mono (Nat.le_max_left n1 n2)) ((stepF_eq (evCall A n1) c false H l o).trans hn1)
          dsimp only
          rw [e1]
          exact evOps_mono (evCall_mono (Nat.le_max_right n1 n2)) h1
      · cases hg
theorem wpD_mono {call : Nat → List AV → List AObj → Out} {c : Ctx} {keep : List Nat} : ∀ {ops : List AOper} {i : Nat} {ρ : SEnv} {H : List AObj} {wr : List Nat} {K K'}, (∀ ρ H wr log, K ρ H wr log → K' ρ H wr log) →
    wpD call c keep i ops ρ H wr K → wpD call c keep i ops ρ H wr K'
  | [], _, _, _, _, _, _, hk, h => hk _ _ _ _ h
  | o :: r, i, ρ, H, wr, K, K', hk, h => by
    unfold wpD at h ⊢
    split at h
    · cases h
    · exact wpD_mono hk h
    · split at h
      · cases h
      · refine wpD_mono (fun ρ H wr log hh => ?_) h
        split at hh
        · rename_i hc; rw [if_pos hc]; exact hk _ _ _ _ hh
        · rename_i hc; rw [if_neg hc]; exact hk _ _ _ _ hh
theorem wpD_sound {c : Ctx} {keep : List Nat} : ∀ {ops : List AOper} {i : Nat} {l : List AV} {H : List AObj} {wr : List Nat} {K}, wpD (callI A) c keep i ops (fenv l) H wr K → (ops.all (dstOk l.length)) = true →
    ∃ n s' log, evOpsD (evCall A n) c i ops ⟨l, H, wr⟩ = some (s', log) ∧ s'.ρ.length = l.length ∧ LogFits c i ops log ∧ K (fenv s'.ρ) s'.H s'.wr (log.filter fun e => keep.contains e.1)
  | [], i, l, H, wr, K, h, _ => ⟨0,⟨l, H, wr⟩, [], rfl, rfl, rfl, h⟩
  | o :: r, i, l, H, wr, K, h, hd => by
    rw [List.all_cons, Bool.and_eq_true] at hd
    unfold wpD at h
    rw [guardF_eq] at h
    split at h
    · cases h
    · rename_i hg
      split at hg
      · rename_i hok
        rw [Option.some.injEq] at hg
        rw [← putSlot_fenv hd.1] at h
        obtain ⟨n, s', log, h1, h2, h3, h4⟩ := wpD_sound h (by rw [putSlot_len]; exact hd.2)
        refine ⟨n, s', log, ?_, by rw [h2, putSlot_len], .inl h3, h4⟩
        unfold evOpsD
        rw [if_pos hok, if_neg (by rw [hg]; exact Bool.false_ne_true)]
        exact h1
      · cases hg
    · rename_i hg
      split at hg
      · rename_i hok
        rw [Option.some.injEq] at hg
        split at h
        · cases h
        · rename_i v H' rd w hs
          obtain ⟨n1, hn1⟩ := stepD_to hs
          rw [← putSlot_fenv hd.1] at h
          obtain ⟨n2, s', log, h1, h2, h3, h4⟩ := wpD_sound h (by rw [putSlot_len]; exact hd.2)
          refine ⟨max n1 n2, s', (i, rd, w) :: log, ?_, by rw [h2, putSlot_len], .inr ⟨rd, w, log, rfl, stepD_ent i hs, h3⟩, ?_⟩
          · unfold evOpsD
            rw [if_pos hok, if_pos hg]
            have e1 := evOpD_mono (evCall_mono (Nat.le_max_left n1 n2)) ((stepD_eq (evCall A n1) c H l o).trans hn1)
            dsimp only
            rw [e1]
            dsimp only
            rw [evOpsD_mono (evCall_mono (Nat.le_max_right n1 n2)) h1]
          · rw [List.filter_cons]
            dsimp only
            split at h4
            · rename_i hk; rw [if_pos hk]; exact h4
            · rename_i hk; rw [if_neg hk]; exact h4
      · cases hg
def Wp (A : AProg) (N : Nat) (c : Ctx) (x : ACode) (ρ : SEnv) (H : List AObj) (wr : List Nat) (Q : AExit → SEnv → List AObj → List Nat → Prop) : Prop :=
  ∀ l : List AV, l.length = N → fenv l = ρ → ∃ n e s', evCode A n c x ⟨l, H, wr⟩ = some (e, s') ∧ s'.ρ.length = N ∧ Q e (fenv s'.ρ) s'.H s'.wr
def wpFrz (c : Ctx) : List (Nat × Nat) → SEnv → List AObj → List Nat → (SEnv → List AObj → List Nat → Prop) → Prop
  | [], ρ, H, wr, K => K ρ H wr
  | (k + 1, t) :: r, ρ, H, wr, K =>
    if (ρ t).isUndef then wpFrz c r ρ H wr K else
    match readCells H (k + 1) (ρ t) with
    | some cs =>
      match fix H (.agg cs) with
      | some (.agg cs', H', l) =>
        match storeCells H' cs' (ρ t) with
        | some (H'', l') => wpFrz c r ρ H'' (addWr c.base wr (l ++ l')) K
        | none => False
      | _ => False
    | none => False
  | (0, t) :: r, ρ, H, wr, K =>
    match fix H (ρ t) with
    | some (v, H', l) => wpFrz c r (upd ρ t v) H' (addWr c.base wr l) K
    | none => False
theorem wpFrz_sound {c : Ctx} : ∀ {ts : List (Nat × Nat)} {l : List AV} {H : List AObj} {wr : List Nat} {K}, wpFrz c ts (fenv l) H wr K → (ts.all fun p => decide (p.2 < l.length)) = true →
    ∃ s', evFrz c ⟨l, H, wr⟩ ts = some s' ∧ s'.ρ.length = l.length ∧ K (fenv s'.ρ) s'.H s'.wr
  | [], l, H, wr, K, h, _ => ⟨⟨l, H, wr⟩, rfl, rfl, h⟩
  | (k + 1, t) :: r, l, H, wr, K, h, hd => by
    rw [List.all_cons, Bool.and_eq_true] at hd
    unfold wpFrz at h
    have e : fenv l t = (l[t]?).getD .undef := rfl
    rw [e] at h
    split at h
    · rename_i hc
      obtain ⟨s', h1, h2, h3⟩ := wpFrz_sound h hd.2
      refine ⟨s', ?_, h2, h3⟩
      unfold evFrz
      rw [if_pos hc]
      exact h1
    · rename_i hc
      split at h
      · rename_i cs hr
        split at h
        · rename_i cs' H' l1 hf
          split at h
          · rename_i H2 l2 hs
            obtain ⟨s', h1, h2, h3⟩ := wpFrz_sound h hd.2
            refine ⟨s', ?_, h2, h3⟩
            unfold evFrz
            rw [if_neg hc]
            dsimp only
            rw [hr]
            dsimp only
            rw [hf]
            dsimp only
            rw [hs]
            exact h1
          · exact h.elim
        · exact h.elim
      · exact h.elim
  | (0, t) :: r, l, H, wr, K, h, hd => by
    rw [List.all_cons, Bool.and_eq_true] at hd
    unfold wpFrz at h
    have e : fenv l t = (l[t]?).getD .undef := rfl
    rw [e] at h
    split at h
    · rename_i v H' l1 hf
      have ht : t < l.length := by simpa using hd.1
      rw [← fenv_set ht] at h
      obtain ⟨s', h1, h2, h3⟩ := wpFrz_sound h (by simpa using hd.2)
      refine ⟨s', ?_, by rw [h2]; simp, h3⟩
      unfold evFrz
      dsimp only
      rw [hf]
      exact h1
    · exact h.elim
def keepOf (c : Ctx) (ops : List AOper) : List Nat :=
  let z := ops.zipIdx
  z.filterMap fun (o, i) => if z.all fun (p, j) => if i < j then pairOk c [] o i p j else if j < i then pairOk c [] p j o i else true then none else some i
def wpc (A : AProg) (N : Nat) (c : Ctx) : ACode → SEnv → List AObj → List Nat → (AExit → SEnv → List AObj → List Nat → Prop) → Prop
  | .skip, ρ, H, wr, Q => Q .normal ρ H wr
  | .bad, _, _, _, _ => False
  | .region false ops, ρ, H, wr, Q => wpOps (callI A) c ops ρ H wr (Q .normal)
  | .region true ops, ρ, H, wr, Q => match preAlloc c H ops with
    | some H0 => wpD (callI A) c (keepOf c ops) 0 ops ρ H0 wr fun ρ H wr log => logOk (fun j => ((ops[j]?).map AOper.pre).getD []) log = true ∧ Q .normal ρ H wr
    | none => False
  | .seq a b, ρ, H, wr, Q => wpc A N c a ρ H wr fun e ρ H wr => match e with
    | .normal => wpc A N c b ρ H wr Q
    | e => Q e ρ H wr
  | .cond t a b, ρ, H, wr, Q => match t.at ρ with
    | .bool true => wpc A N c a ρ H wr Q
    | .bool false => wpc A N c b ρ H wr Q
    | _ => False
  | .block id b, ρ, H, wr, Q => wpc A N c b ρ H wr fun e ρ H wr => match e with
    | .exit id' => if id' = id then Q .normal ρ H wr else Q (.exit id') ρ H wr
    | e => Q e ρ H wr
  | .loop b, ρ, H, wr, Q => Wp A N c (.loop b) ρ H wr Q
  | .exit id, ρ, H, wr, Q => Q (.exit id) ρ H wr
  | .ret, ρ, H, wr, Q => Q .ret ρ H wr
  | .frz ts, ρ, H, wr, Q => wpFrz c ts ρ H wr (Q .normal)
def codeOk (N : Nat) (c : Ctx) : ACode → Bool
  | .region d ops => ops.all (dstOk N) && (!d || (drawOk ops && pairsOk c (keepOf c ops) 0 ops))
  | .seq a b => codeOk N c a && codeOk N c b
  | .cond _ a b => codeOk N c a && codeOk N c b
  | .block _ b => codeOk N c b
  | .loop b => codeOk N c b
  | .frz ts => ts.all fun p => decide (p.2 < N)
  | _ => true
theorem wpc_sound {N : Nat} {c : Ctx} : ∀ {x : ACode} {ρ : SEnv} {H : List AObj} {wr : List Nat} {Q}, wpc A N c x ρ H wr Q → codeOk N c x = true → Wp A N c x ρ H wr Q
  | .skip, ρ, H, wr, Q, h, _ => fun l hl he => ⟨1, .normal,⟨l, H, wr⟩, rfl, hl, by rw [wpc] at h; subst he; exact h⟩
  | .bad, _, _, _, _, h, _ => by rw [wpc] at h; exact h.elim
  | .region false ops, ρ, H, wr, Q, h, hok => fun l hl he => by
    subst he
    rw [wpc] at h
    simp only [codeOk, Bool.and_eq_true] at hok
    obtain ⟨n, s', h1, h2, h3⟩ := wpOps_sound h (by rw [hl]; exact hok.1)
    refine ⟨n + 1, .normal, s', ?_, by rw [h2, hl], h3⟩
    rw [evCode_region]
    have : evRegion (evCall A n) c false ops ⟨l, H, wr⟩ = some s' := h1
    rw [this]
  | .region true ops, ρ, H, wr, Q, h, hok => fun l hl he => by
    subst he
    rw [wpc] at h
    simp only [codeOk, Bool.and_eq_true, BT, Bool.false_or] at hok
    split at h
    · rename_i H0 hp
      obtain ⟨n, s', log, h1, h2, h3, h4, h5⟩ := wpD_sound h (by rw [hl]; exact hok.1)
      refine ⟨n + 1, .normal, s', ?_, by rw [h2, hl], h5⟩
      rw [evCode_region]
      have hlog := logOk_of_kept h3 hok.2.2 (fun p hp => hp) h4
      have : evRegion (evCall A n) c true ops ⟨l, H, wr⟩ = some s' := by
        unfold evRegion
        simp only [Bool.true_and, hok.2.1, if_true]
        rw [hp]
        dsimp only
        rw [h1]
        dsimp only
        rw [if_pos hlog]
      rw [this]
    · exact h.elim
  | .seq a b, ρ, H, wr, Q, h, hok => fun l hl he => by
    rw [wpc] at h
    simp only [codeOk, Bool.and_eq_true] at hok
    obtain ⟨n, e, s', h1, h2, h3⟩ := wpc_sound h hok.1 l hl he
    by_cases hn : e = .normal
    · subst hn
      obtain ⟨m, e', s'', g1, g2, g3⟩ := wpc_sound h3 hok.2 s'.ρ h2 rfl
      refine ⟨max n m + 1, e', s'', ?_, g2, g3⟩
      rw [evCode_seq, evCode_mono (Nat.le_max_left n m) _ _ _ _ h1]
      exact evCode_mono (Nat.le_max_right n m) _ _ _ _ g1
    · refine ⟨n + 1, e, s', ?_, h2, ?_⟩
      · rw [evCode_seq, h1]
        cases e <;> first | rfl | exact absurd rfl hn
      · cases e <;> first | exact h3 | exact absurd rfl hn
  | .cond t a b, ρ, H, wr, Q, h, hok => fun l hl he => by
    rw [wpc] at h
    simp only [codeOk, Bool.and_eq_true] at hok
    have ht : t.ev l = t.at ρ := by rw [← he]; exact t.ev_eq l
    split at h
    · rename_i hb
      obtain ⟨n, e, s', h1, h2⟩ := wpc_sound h hok.1 l hl he
      exact ⟨n + 1, e, s', by rw [evCode_cond]; dsimp only; rw [ht, hb]; exact h1, h2⟩
    · rename_i hb
      obtain ⟨n, e, s', h1, h2⟩ := wpc_sound h hok.2 l hl he
      exact ⟨n + 1, e, s', by rw [evCode_cond]; dsimp only; rw [ht, hb]; exact h1, h2⟩
    · exact h.elim
  | .block id b, ρ, H, wr, Q, h, hok => fun l hl he => by
    rw [wpc] at h
    simp only [codeOk] at hok
    obtain ⟨n, e, s', h1, h2, h3⟩ := wpc_sound h hok l hl he
    cases e with
    | normal => exact ⟨n + 1, .normal, s', by rw [evCode_block, h1], h2, h3⟩
    | ret => exact ⟨n + 1, .ret, s', by rw [evCode_block, h1], h2, h3⟩
    | exit id' =>
      dsimp only at h3
      split at h3
      · rename_i hid
        exact ⟨n + 1, .normal, s', by rw [evCode_block, h1]; dsimp only; rw [if_pos hid], h2, h3⟩
      · rename_i hid
        exact ⟨n + 1, .exit id', s', by rw [evCode_block, h1]; dsimp only; rw [if_neg hid], h2, h3⟩
  | .loop b, ρ, H, wr, Q, h, _ => by rw [wpc] at h; exact h
  | .exit id, ρ, H, wr, Q, h, _ => fun l hl he => ⟨1, .exit id,⟨l, H, wr⟩, rfl, hl, by rw [wpc] at h; subst he; exact h⟩
  | .ret, ρ, H, wr, Q, h, _ => fun l hl he => ⟨1, .ret,⟨l, H, wr⟩, rfl, hl, by rw [wpc] at h; subst he; exact h⟩
  | .frz ts, ρ, H, wr, Q, h, hok => fun l hl he => by
    rw [wpc] at h
    subst he
    obtain ⟨s', h1, h2, h3⟩ := wpFrz_sound h (by rw [hl]; exact hok)
    exact ⟨1, .normal, s', by rw [evCode_frz, h1], by rw [h2, hl], h3⟩
theorem Wp.loop {N : Nat} {c : Ctx} {b : ACode} {ρ : SEnv} {H : List AObj} {wr : List Nat} {Q} (hok : codeOk N c b = true)
    (h : wpc A N c b ρ H wr fun e ρ H wr => match e with
      | .normal => Wp A N c (.loop b) ρ H wr Q
      | e => Q e ρ H wr) : Wp A N c (.loop b) ρ H wr Q := fun l hl he => by
  obtain ⟨n, e, s', h1, h2, h3⟩ := wpc_sound h hok l hl he
  by_cases hn : e = .normal
  · subst hn
    obtain ⟨m, e', s'', g1, g2, g3⟩ := h3 s'.ρ h2 rfl
    refine ⟨max n m + 1, e', s'', ?_, g2, g3⟩
    rw [evCode_loop, evCode_mono (Nat.le_max_left n m) _ _ _ _ h1]
    exact evCode_mono (Nat.le_max_right n m) _ _ _ _ g1
  · refine ⟨n + 1, e, s', ?_, h2, ?_⟩
    · rw [evCode_loop, h1]
      cases e <;> first | rfl | exact absurd rfl hn
    · cases e <;> first | exact h3 | exact absurd rfl hn
theorem Wp.mono {N : Nat} {c : Ctx} {x : ACode} {ρ : SEnv} {H : List AObj} {wr : List Nat} {Q Q'} (hk : ∀ e ρ H wr, Q e ρ H wr → Q' e ρ H wr) (h : Wp A N c x ρ H wr Q) : Wp A N c x ρ H wr Q' := fun l hl he => by
  obtain ⟨n, e, s', h1, h2, h3⟩ := h l hl he
  exact ⟨n, e, s', h1, h2, hk _ _ _ _ h3⟩
def resVF (H : List AObj) (ρ : SEnv) : ARes → Option AV
  | .tmp t => some (ρ t)
  | .cell t k agg => match readCells H k (ρ t) with
    | some cs => ofCells agg cs
    | none => none
def resVsF (H : List AObj) (ρ : SEnv) : List ARes → Option (List AV)
  | [] => some []
  | r :: rs => match resVF H ρ r with
    | none => none
    | some v => match resVsF H ρ rs with
      | none => none
      | some vs => some (v :: vs)
theorem resVs_eq (H : List AObj) (l : List AV) : ∀ rs, resVs H l rs = resVsF H (fenv l) rs
  | [] => rfl
  | r :: rs => by
    unfold resVs resVsF
    have : resV H l r = resVF H (fenv l) r := by cases r <;> rfl
    rw [this, resVs_eq H l rs]
    rfl
def finishF (base : Nat) (rs : List ARes) (ρ : SEnv) (H : List AObj) (wr : List Nat) : Out :=
  match resVsF H ρ rs with
  | none => none
  | some [v] => match finV base H v with
    | some (v', H', l) => some (v', H', addWr base wr l)
    | none => none
  | some vs => match finVs H vs with
    | some (vs', H', l) => some (.tup vs', H', addWr base wr l)
    | none => none
def Ends (base : Nat) (rs : List ARes) (K : AV → List AObj → List Nat → Prop) : AExit → SEnv → List AObj → List Nat → Prop
  | .exit _, _, _, _ => False
  | _, ρ, H, wr => match finishF base rs ρ H wr with
    | some r => K (cutBack base r).1 (cutBack base r).2.1 (cutBack base r).2.2
    | none => False
def enterF (args : List AV) : SEnv := fun t => (args[t]?).getD .undef
theorem fenv_enter (args : List AV) (k : Nat) : fenv (args ++ List.replicate k .undef) = enterF args := by
  funext t
  unfold fenv enterF
  by_cases h : t < args.length
  · rw [List.getElem?_append_left h]
  · rw [List.getElem?_append_right (by omega), List.getElem?_eq_none (by omega : args.length ≤ t), List.getElem?_replicate]
    split <;> rfl
theorem call_intro {f : Nat} {args : List AV} {H : List AObj} {fn : AFn} {K : AV → List AObj → List Nat → Prop} (hf : A.fn f = some fn) (hp : (A.prim f).bind (· args) = none)
    (hN : args.length ≤ fn.ntmps) (hok : codeOk fn.ntmps ⟨H.length, fn.sites⟩ fn.body = true)
    (h : wpc A fn.ntmps ⟨H.length, fn.sites⟩ fn.body (enterF args) (H ++ List.replicate fn.sites.length (.gone 0)) [] (Ends H.length fn.results K)) :
    ∃ v H' wr, callI A f args H = some (v, H', wr) ∧ K v H' wr := by
  obtain ⟨n, e, s', h1, h2, h3⟩ := wpc_sound h hok (args ++ List.replicate (fn.ntmps - args.length) .undef) (by simp; omega) (fenv_enter _ _)
  have key : ∀ r, finishF H.length fn.results (fenv s'.ρ) s'.H s'.wr = some r → finish H.length fn s' = some r := by
    intro r hr
    unfold finishF at hr
    unfold finish
    rw [resVs_eq]
    exact hr
  cases e with
  | exit id => exact h3.elim
  | normal =>
    unfold Ends at h3
    dsimp only at h3
    split at h3
    · rename_i r hr
      exact ⟨_, _, _, callI_of (evCall_intro hp hf h1 (.inl rfl) (key _ hr)), h3⟩
    · exact h3.elim
  | ret =>
    unfold Ends at h3
    dsimp only at h3
    split at h3
    · rename_i r hr
      exact ⟨_, _, _, callI_of (evCall_intro hp hf h1 (.inr rfl) (key _ hr)), h3⟩
    · exact h3.elim
end
end Go.Proofs.AM
end
