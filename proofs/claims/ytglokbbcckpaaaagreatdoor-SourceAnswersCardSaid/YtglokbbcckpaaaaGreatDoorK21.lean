/- Part 21 of the proof that stands in the last text of this folder (lemmas; no statement of its own). -/
import Derived.Test.YtglokbbcckpaaaaGreatDoorK11
import Derived.Test.YtglokbbcckpaaaaGreatDoorK20
set_option linter.unusedVariables false
set_option linter.unusedSimpArgs false
section
namespace Go.AM
open Go
inductive KT where
 | e
 | n (v : AV) (l r : KT)
def aotZ : Nat -> Nat -> List Bool
 | 0, _ => []
 | k + 1, t => if t = 0 then [] else Nat.beq (t % 2) 1 :: aotZ k ((t - 1) / 2)
def aaLZ (t : Nat) : List Bool := aotZ t t
noncomputable def kget (p : List Bool) : KT -> AV :=
 List.rec (motive := fun _ => KT -> AV) (fun t => KT.casesOn t .undef fun v _ _ => v) (fun b _ ih t => KT.casesOn t .undef fun _ l r => ih (Bool.rec r l b)) p
noncomputable def kset (p : List Bool) (v : AV) : KT -> KT :=
 List.rec (motive := fun _ => KT -> KT) (fun t => KT.casesOn t (.n v .e .e) fun _ l r => .n v l r)
  (fun b _ ih t => KT.casesOn t (Bool.rec (.n .undef .e (ih .e)) (.n .undef (ih .e) .e) b) fun x l r => Bool.rec (.n x l (ih r)) (.n x (ih l) r) b) p
noncomputable def toF (t : KT) : SEnv := fun i => kget (aaLZ i) t
noncomputable def kput (d : Option Nat) (v : AV) (t : KT) : KT := match d with
 | none => t
 | some d => kset (aaLZ d) v t
theorem asCZ : ∀ p, kget p .e = .undef
 | [] => rfl
 | _ :: _ => rfl
theorem aqyZ (v : AV) : ∀ (p q : List Bool) (t : KT), kget p (kset q v t) = if p = q then v else kget p t
 | [], [], t => by cases t <;> rfl
 | b :: p, [], t => by
  cases t with
  | e =>
   show kget p (Bool.rec KT.e KT.e b) = _
   cases b <;> simp [asCZ]
  | n x l r => simp; rfl
 | [], c :: q, t => by cases t <;> cases c <;> (simp; rfl)
 | b :: p, c :: q, t => by
  have ih := aqyZ v p q
  cases t with
  | e => cases b <;> cases c <;> first | (show kget p (kset q v .e) = _; rw [ih]; by_cases h : p = q <;> simp [h, asCZ]) | (show kget p .e = _; simp [asCZ])
  | n x l r => cases b <;> cases c <;> first
   | (show kget p (kset q v r) = _; rw [ih]; by_cases h : p = q <;> simp [h] <;> rfl)
   | (show kget p (kset q v l) = _; rw [ih]; by_cases h : p = q <;> simp [h] <;> rfl)
   | (simp; rfl)
theorem ahmZ : ∀ (k t : Nat), t <= k -> aotZ k t = aaLZ t
 | 0, t, h => by
  have : t = 0 := by omega
  subst this; rfl
 | k + 1, t, h => by
  cases t with
  | zero => rfl
  | succ t =>
   show (if t + 1 = 0 then [] else Nat.beq ((t + 1) % 2) 1 :: aotZ k (t / 2)) = (if t + 1 = 0 then [] else Nat.beq ((t + 1) % 2) 1 :: aotZ t (t / 2))
   rw [ahmZ k (t / 2) (by omega), ahmZ t (t / 2) (by omega)]
theorem agPZ (t : Nat) : aaLZ (t + 1) = Nat.beq ((t + 1) % 2) 1 :: aaLZ (t / 2) := by
 show (if t + 1 = 0 then [] else Nat.beq ((t + 1) % 2) 1 :: aotZ t (t / 2)) = _
 rw [if_neg (by omega), ahmZ t (t / 2) (by omega)]
theorem amUZ : ∀ (n s t : Nat), s <= n -> aaLZ s = aaLZ t -> s = t
 | 0, s, t, hs, h => by
  have : s = 0 := by omega
  subst this
  cases t with
  | zero => rfl
  | succ t => rw [agPZ] at h; cases h
 | n + 1, s, t, hs, h => by
  cases s with
  | zero =>
   cases t with
   | zero => rfl
   | succ t => rw [agPZ] at h; cases h
  | succ s =>
   cases t with
   | zero => rw [agPZ] at h; cases h
   | succ t =>
    rw [agPZ, agPZ] at h
    injection h with h1 h2
    have h3 := amUZ n (s / 2) (t / 2) (by omega) h2
    have h4 : ((s + 1) % 2 = 1) ↔ ((t + 1) % 2 = 1) := by
     rw [<- Nat.beq_eq, <- Nat.beq_eq, h1]
    omega
theorem aiJZ (d : Option Nat) (v : AV) (t : KT) : toF (kput d v t) = updO (toF t) d v := by
 cases d with
 | none => rfl
 | some d =>
  funext i
  show kget (aaLZ i) (kset (aaLZ d) v t) = if i = d then v else kget (aaLZ i) t
  rw [aqyZ]
  by_cases h : i = d
  ·rw [if_pos h, if_pos (by rw [h])]
  ·rw [if_neg h, if_neg fun hp => h (amUZ i i d (Nat.le_refl _) hp)]
abbrev ahnZ := Nat -> List AV -> List AObj -> (AV -> List AObj -> List Nat -> Bool) -> Bool
def KOk (A : AProg) (K : ahnZ) : Prop := ∀ f args H k, K f args H k = true -> ∃ v H' wr, aapZ A f args H = some (v, H', wr) /\ k v H' wr = true
def aBUZ (H : List AObj) (site : Option Nat) (quiet : Bool) (v : AV) (H' : List AObj) (wr : List Nat) : Out :=
 if quiet then
  match v with
  | .own k rows =>
   match site with
   | some id => if id < H'.length then some (.sr id (aaDZ H' id) rows.length, make H' id (.vec · k rows), if wr.contains id then wr else id :: wr) else none
   | none => some (.sl false rows, H', wr)
  | v => some (v, H', wr)
 else if wr.isEmpty && decide (H'.length = H.length) && v.atomic then some (v, H, []) else none
noncomputable def kopt {α : Type} (o : Option α) (k : α -> Bool) : Bool := Option.rec false k o
theorem acQZ {α : Type} {o : Option α} {k : α -> Bool} (h : kopt o k = true) : ∃ a, o = some a /\ k a = true := by
 cases o with
 | none => cases h
 | some a => exact ⟨a, rfl, h⟩
noncomputable def asDZ (K : ahnZ) (H : List AObj) (site : Option Nat) (f : AV) (args : List AV) (k : AV -> List AObj -> List Nat -> Bool) : Bool :=
 match f with
 | .fn f first caps => kopt (aeYZ H (first ++ args ++ caps)) fun p =>
  K f (p.1.map AV.strip) (aaOZ H p.2) fun v H' wr => kopt (aBUZ H site p.2.isEmpty v H' wr) fun r => k r.1 r.2.1 r.2.2
 | _ => false
theorem alpZ {A : AProg} {K : ahnZ} (hK : KOk A K) {H : List AObj} {site : Option Nat} {f : AV} {args : List AV} {k} (h : asDZ K H site f args k = true) :
  ∃ r, abrZ (aapZ A) H site f args = some r /\ k r.1 r.2.1 r.2.2 = true := by
 unfold asDZ at h
 split at h
 ·rename_i f first caps
  obtain ⟨p, h1, h2⟩ := acQZ h
  obtain ⟨v, H', wr, h3, h4⟩ := hK _ _ _ _ h2
  obtain ⟨r, h5, h6⟩ := acQZ h4
  refine ⟨r, ?_, h6⟩
  obtain ⟨args', lent⟩ := p
  simp only [abrZ, h1]
  simp only at h3
  rw [h3]
  exact h5
 ·cases h
def mayW : AOp -> Bool
 | .alloc _ | .talloc .. | .box .. | .tbx .. | .bsl .. | .mks .. | .store .. | .app .. | .tapp .. | .callv .. | .invk .. | .cpy .. | .mkmap | .ins .. => true
 | _ => false
noncomputable def asEZ (K : ahnZ) (site : Option Nat) (inDraw : Bool) (op : AOp) (H : List AObj) (ρ : SEnv) (k : AV -> List AObj -> List Nat -> Bool) : Bool :=
 match op with
 | .callv f xs => asDZ K H site (f.at ρ) (xs.map (AOpd.at ρ)) k
 | .invk tab x xs => match x.at ρ with
  | .ifc t v => kopt (tab.lookup t) fun f => asDZ K H site (.fn f [v] []) (xs.map (AOpd.at ρ)) k
  | _ => false
 | op => if isW site inDraw op then kopt (wOp op H ρ site) fun r => k r.1 r.2.1 r.2.2 else false
noncomputable def axbZ (K : ahnZ) (c : Ctx) (o : AOper) (tr : KT) (H : List AObj) (k : AV -> List AObj -> List Nat -> Bool) : Bool :=
 bif mayW o.op then
  (bif isW (c.site o.dst) false o.op then asEZ K (c.site o.dst) false o.op H (toF tr) k else kopt (rOp o.op H (toF tr)) fun v => k v H [])
 else kopt (rOp o.op H (toF tr)) fun v => k v H []
theorem asFZ {site : Option Nat} {d : Bool} {op : AOp} (h : mayW op = false) : isW site d op = false := by
 cases op <;> first | rfl | (cases h)
theorem alqZ {A : AProg} {K : ahnZ} (hK : KOk A K) {site : Option Nat} {d : Bool} {op : AOp} {H : List AObj} {ρ : SEnv} {k} (h : asEZ K site d op H ρ k = true) :
  isW site d op = true /\ ∃ r, evWF (aapZ A) H ρ site op = some r /\ k r.1 r.2.1 r.2.2 = true := by
 unfold asEZ at h
 split at h
 ·obtain ⟨r, h1, h2⟩ := alpZ hK h
  exact ⟨rfl, r, h1, h2⟩
 ·rename_i tab x xs
  split at h
  ·rename_i t v hx
   obtain ⟨f, h0, h⟩ := acQZ h
   obtain ⟨r, h1, h2⟩ := alpZ hK h
   refine ⟨rfl, r, ?_, h2⟩
   simp only [evWF, hx, h0]
   exact h1
  ·cases h
 ·split at h
  ·rename_i hw
   obtain ⟨r, h1, h2⟩ := acQZ h
   exact ⟨hw, r, axaZ h1, h2⟩
  ·cases h
theorem arDZ {A : AProg} {K : ahnZ} (hK : KOk A K) {c : Ctx} {o : AOper} {tr : KT} {H : List AObj} {k} (h : axbZ K c o tr H k = true) :
  ∃ r, adAZ (aapZ A) (c.site o.dst) false (toF tr) H o.op = some r /\ k r.1 r.2.1 r.2.2 = true := by
 have viaR : isW (c.site o.dst) false o.op = false -> kopt (rOp o.op H (toF tr)) (fun v => k v H []) = true -> ∃ r, adAZ (aapZ A) (c.site o.dst) false (toF tr) H o.op = some r /\ k r.1 r.2.1 r.2.2 = true := by
  intro hw h
  obtain ⟨v, h1, h2⟩ := acQZ h
  rw [axZZ] at h1
  refine ⟨(v, H, []), ?_, h2⟩
  unfold adAZ
  rw [if_neg (by rw [hw]; simp), h1]
 unfold axbZ at h
 cases hm : mayW o.op with
 | false =>
  rw [hm] at h
  exact viaR (asFZ hm) h
 | true =>
  rw [hm] at h
  simp only [cond_true] at h
  cases hw : isW (c.site o.dst) false o.op with
  | false =>
   rw [hw] at h
   exact viaR hw h
  | true =>
   rw [hw] at h
   simp only [cond_true] at h
   obtain ⟨_, r, h1, h2⟩ := alqZ hK h
   refine ⟨r, ?_, h2⟩
   unfold adAZ
   rw [if_pos hw]
   exact h1
abbrev KQ := KT -> List AObj -> List Nat -> Bool
noncomputable def aouZ (g : Option (Option Nat × Bool)) (ρ : SEnv) (a b : Bool) : Bool := match g with
 | none => a
 | some (some t, want) => match ρ t with
  | .bool x => bif x == want then a else b
  | .tup [] => b
  | _ => false
 | some (none, _) => false
theorem amVZ {g : Option (Option Nat × Bool)} {ρ : SEnv} {a b : Bool} (h : aouZ g ρ a b = true) : (adKZ ρ g = some true /\ a = true) ∨ (adKZ ρ g = some false /\ b = true) := by
 unfold aouZ at h
 unfold adKZ
 split at h
 ·exact .inl ⟨rfl, h⟩
 ·rename_i t want
  split at h
  ·rename_i x hx
   simp only [hx]
   cases hw : x == want with
   | true => rw [hw] at h; exact .inl ⟨rfl, h⟩
   | false => rw [hw] at h; exact .inr ⟨rfl, h⟩
  ·rename_i hx
   simp only [hx]
   exact .inr ⟨trivial, h⟩
  ·cases h
 ·cases h
noncomputable def kOps (K : ahnZ) (c : Ctx) (ops : List AOper) : KT -> List AObj -> List Nat -> KQ -> Bool :=
 List.rec (motive := fun _ => KT -> List AObj -> List Nat -> KQ -> Bool) (fun tr H wr k => k tr H wr)
  (fun o _ ih tr H wr k => aouZ o.guard (toF tr) (axbZ K c o tr H fun v H' w => ih (kput o.dst v tr) H' (aaCZ c.base wr w) k) (ih (kput o.dst (.tup []) tr) H wr k)) ops
theorem akIZ {A : AProg} {K : ahnZ} (hK : KOk A K) {c : Ctx} : ∀ (ops : List AOper) {tr : KT} {H : List AObj} {wr : List Nat} {k : KQ}, kOps K c ops tr H wr k = true ->
  aiRZ (aapZ A) c ops (toF tr) H wr fun ρ H wr => ∃ tr, ρ = toF tr /\ k tr H wr = true
 | [], tr, H, wr, k, h => ⟨tr, rfl, h⟩
 | o :: ops, tr, H, wr, k, h => by
  have h' : aouZ o.guard (toF tr) (axbZ K c o tr H fun v H' w => kOps K c ops (kput o.dst v tr) H' (aaCZ c.base wr w) k) (kOps K c ops (kput o.dst (.tup []) tr) H wr k) = true := h
  unfold aiRZ
  rcases amVZ h' with ⟨h1, h2⟩ | ⟨h1, h2⟩
  ·rw [h1]
   obtain ⟨r, h3, h4⟩ := arDZ hK h2
   dsimp only
   rw [h3]
   dsimp only
   rw [<- aiJZ]
   exact akIZ hK ops h4
  ·rw [h1]
   dsimp only
   rw [<- aiJZ]
   exact akIZ hK ops h2
abbrev KL := KT -> List AObj -> List Nat -> Log -> Bool
noncomputable def asGZ (K : ahnZ) (c : Ctx) (o : AOper) (tr : KT) (H : List AObj) (k : AV -> List AObj -> List Nat -> Option (List Nat) -> Bool) : Bool :=
 match o.op, c.site o.dst with
 | .alloc _, some id => k (.ptr id ((H[id]?).elim 0 AObj.ver) 0) H [id] none
 | op, site => bif mayW op && isW site true op then asEZ K site true op H (toF tr) fun v H' w => Nat.beq H'.length H.length && k v H' [] (some w)
  else kopt (rOp op H (toF tr)) fun v => k v H (afcZ (toF tr) op) none
theorem aqzZ {A : AProg} {K : ahnZ} (hK : KOk A K) {c : Ctx} {o : AOper} {tr : KT} {H : List AObj} {k} (h : asGZ K c o tr H k = true) :
  ∃ r, aekZ (aapZ A) (c.site o.dst) (toF tr) H o.op = some r /\ k r.1 r.2.1 r.2.2.1 r.2.2.2 = true := by
 unfold asGZ at h
 unfold aekZ
 generalize o.op = op at h ⊢
 generalize c.site o.dst = site at h ⊢
 split at h
 ·exact ⟨_, rfl, h⟩
 ·rename_i hne
  have key : ∃ r, (if isW site true op then
    match evWF (aapZ A) H (toF tr) site op with
    | some (v, H', wr) => if H'.length = H.length then some (v, H', [], some wr) else none
    | none => none
   else match evRF H (toF tr) op with
    | some v => some (v, H, afcZ (toF tr) op, none)
    | none => none) = some r /\ k r.1 r.2.1 r.2.2.1 r.2.2.2 = true := by
   by_cases hm : (mayW op && isW site true op) = true
   ·rw [hm] at h
    simp only [cond_true] at h
    obtain ⟨hw, r, h3, h4⟩ := alqZ hK h
    simp only [Bool.and_eq_true, Nat.beq_eq] at h4
    refine ⟨(r.1, r.2.1, [], some r.2.2), ?_, h4.2⟩
    rw [if_pos hw, h3]
    dsimp only
    rw [if_pos h4.1]
   ·have hm' : (mayW op && isW site true op) = false := by simpa using hm
    rw [hm'] at h
    simp only [cond_false] at h
    have hw : isW site true op = false := by
     cases hq : mayW op with
     | false => exact asFZ hq
     | true => rw [hq] at hm'; simpa using hm'
    obtain ⟨v, h3, h4⟩ := acQZ h
    rw [axZZ] at h3
    refine ⟨(v, H, afcZ (toF tr) op, none), ?_, h4⟩
    rw [if_neg (by rw [hw]; simp), h3]
  obtain ⟨r, h1, h2⟩ := key
  refine ⟨r, ?_, h2⟩
  split
  ·rename_i zs id
   exact (hne zs id rfl rfl).elim
  ·exact h1
noncomputable def axcZ (K : ahnZ) (c : Ctx) (keep : List Nat) (ops : List AOper) : Nat -> KT -> List AObj -> List Nat -> KL -> Bool :=
 List.rec (motive := fun _ => Nat -> KT -> List AObj -> List Nat -> KL -> Bool) (fun _ tr H wr k => k tr H wr [])
  (fun o _ ih i tr H wr k => aouZ o.guard (toF tr) (asGZ K c o tr H fun v H' rd w => ih (i + 1) (kput o.dst v tr) H' (aaCZ c.base wr (w.getD [])) (bif keep.contains i then fun tr H wr log => k tr H wr ((i, rd, w) :: log) else k))
   (ih (i + 1) (kput o.dst (.tup []) tr) H wr k)) ops
theorem ajrZ {A : AProg} {K : ahnZ} (hK : KOk A K) {c : Ctx} {keep : List Nat} : ∀ (ops : List AOper) {i : Nat} {tr : KT} {H : List AObj} {wr : List Nat} {k : KL} {k' : SEnv -> List AObj -> List Nat -> Log -> Prop},
  (∀ tr H wr log, k tr H wr log = true -> k' (toF tr) H wr log) -> axcZ K c keep ops i tr H wr k = true -> wpD (aapZ A) c keep i ops (toF tr) H wr k'
 | [], i, tr, H, wr, k, k', hk, h => hk _ _ _ _ h
 | o :: ops, i, tr, H, wr, k, k', hk, h => by
  have h' : aouZ o.guard (toF tr) (asGZ K c o tr H fun v H' rd w => axcZ K c keep ops (i + 1) (kput o.dst v tr) H' (aaCZ c.base wr (w.getD [])) (bif keep.contains i then fun tr H wr log => k tr H wr ((i, rd, w) :: log) else k))
   (axcZ K c keep ops (i + 1) (kput o.dst (.tup []) tr) H wr k) = true := h
  unfold wpD
  rcases amVZ h' with ⟨h1, h2⟩ | ⟨h1, h2⟩
  ·rw [h1]
   obtain ⟨r, h3, h4⟩ := aqzZ hK h2
   dsimp only
   rw [h3]
   obtain ⟨v, H', rd, w⟩ := r
   dsimp only at h4 ⊢
   rw [<- aiJZ]
   refine ajrZ hK ops (fun tr H wr log hh => ?_) h4
   cases hc : keep.contains i with
   | true =>
    rw [hc] at hh
    rw [if_pos rfl]
    exact hk _ _ _ _ hh
   | false =>
    rw [hc] at hh
    rw [if_neg (by simp)]
    exact hk _ _ _ _ hh
  ·rw [h1]
   dsimp only
   rw [<- aiJZ]
   exact ajrZ hK ops hk h2
noncomputable def kFrz (c : Ctx) (ts : List (Nat × Nat)) : KT -> List AObj -> List Nat -> KQ -> Bool :=
 List.rec (motive := fun _ => KT -> List AObj -> List Nat -> KQ -> Bool) (fun tr H wr k => k tr H wr)
  (fun p _ ih tr H wr k => match p with
   | (0, t) => kopt (fixD H (toF tr t)) fun r => ih (kput (some t) r.1 tr) r.2.1 (aaCZ c.base wr r.2.2) k
   | (n + 1, t) => bif (toF tr t).isUndef then ih tr H wr k else
    kopt (aamZ H (n + 1) (toF tr t)) fun cs => kopt (fixD H (.agg cs)) fun r => match r with
     | (.agg cs', H', l) => kopt (storeCells H' cs' (toF tr t)) fun q => ih tr q.1 (aaCZ c.base wr (l ++ q.2)) k
     | _ => false) ts
theorem aiKZ {c : Ctx} : ∀ (ts : List (Nat × Nat)) {tr : KT} {l : List AV} {H : List AObj} {wr : List Nat} {k : KQ}, fenv l = toF tr -> kFrz c ts tr H wr k = true -> (ts.all fun p => decide (p.2 < l.length)) = true ->
  ∃ s' tr', afhZ c ⟨l, H, wr⟩ ts = some s' /\ s'.ρ.length = l.length /\ fenv s'.ρ = toF tr' /\ k tr' s'.H s'.wr = true
 | [], tr, l, H, wr, k, he, h, _ => ⟨⟨l, H, wr⟩, tr, rfl, rfl, he, h⟩
 | (0, t) :: ts, tr, l, H, wr, k, he, h, hd => by
  rw [List.all_cons, Bool.and_eq_true] at hd
  have h' : kopt (fixD H (toF tr t)) (fun r => kFrz c ts (kput (some t) r.1 tr) r.2.1 (aaCZ c.base wr r.2.2) k) = true := h
  obtain ⟨⟨v, H', l1⟩, h1, h2⟩ := acQZ h'
  have ht : t < l.length := by simpa using hd.1
  have hf : fenv (l.set t v) = toF (kput (some t) v tr) := by rw [aoXZ ht, he, aiJZ]; rfl
  obtain ⟨s', tr', g1, g2, g3, g4⟩ := aiKZ ts hf h2 (by simpa using hd.2)
  refine ⟨s', tr', ?_, by rw [g2]; simp, g3, g4⟩
  unfold afhZ
  dsimp only
  rw [show (l[t]?).getD .undef = toF tr t by rw [<- he]; rfl, h1]
  exact g1
 | (n + 1, t) :: ts, tr, l, H, wr, k, he, h, hd => by
  rw [List.all_cons, Bool.and_eq_true] at hd
  have e1 : (l[t]?).getD .undef = toF tr t := by rw [<- he]; rfl
  have h' : (bif (toF tr t).isUndef then kFrz c ts tr H wr k else
    kopt (aamZ H (n + 1) (toF tr t)) fun cs => kopt (fixD H (.agg cs)) fun r => match r with
     | (.agg cs', H', l) => kopt (storeCells H' cs' (toF tr t)) fun q => kFrz c ts tr q.1 (aaCZ c.base wr (l ++ q.2)) k
     | _ => false) = true := h
  cases hu : (toF tr t).isUndef with
  | true =>
   rw [hu] at h'
   obtain ⟨s', tr', g1, g2, g3, g4⟩ := aiKZ ts he h' hd.2
   refine ⟨s', tr', ?_, g2, g3, g4⟩
   unfold afhZ
   rw [if_pos (by rw [e1]; exact hu)]
   exact g1
  | false =>
   rw [hu] at h'
   simp only [cond_false] at h'
   obtain ⟨cs, h1, h2⟩ := acQZ h'
   obtain ⟨r, h3, h4⟩ := acQZ h2
   split at h4
   ·rename_i cs' H' l1
    obtain ⟨⟨H2, l2⟩, h5, h6⟩ := acQZ h4
    obtain ⟨s', tr', g1, g2, g3, g4⟩ := aiKZ ts he h6 hd.2
    refine ⟨s', tr', ?_, g2, g3, g4⟩
    unfold afhZ
    rw [if_neg (by rw [e1, hu]; simp)]
    dsimp only
    rw [e1, h1]
    dsimp only
    rw [h3]
    dsimp only
    rw [h5]
    exact g1
   ·cases h4
end Go.AM
end
section
namespace Go.AM
open Go
theorem amWZ (b : Nat) (s : List Nat) (d : Option Nat) : ((Ctx.mk b s).site d).isSome = ((Ctx.mk 0 s).site d).isSome := by
 unfold Ctx.site
 cases d with
 | none => rfl
 | some t => cases h : s.idxOf? t <;> simp [h]
theorem atHZ {s s' : Option Nat} (h : s.isSome = s'.isSome) (d : Bool) (op : AOp) : isW s d op = isW s' d op := by
 cases op <;> first | rfl | (simp only [isW, h])
theorem alrZ {s s' : Option Nat} (h : s.isSome = s'.isSome) (op : AOp) : looks s op = looks s' op := by
 cases op <;> first | rfl | (simp only [looks, h])
theorem amXZ (b : Nat) (s : List Nat) (o : AOper) : aiYZ ⟨b, s⟩ o = aiYZ ⟨0, s⟩ o := by
 have h := amWZ b s o.dst
 unfold aiYZ
 generalize (Ctx.mk b s).site o.dst = x at h ⊢
 generalize (Ctx.mk 0 s).site o.dst = y at h ⊢
 cases x <;> cases y <;> simp at h
 ·rfl
 ·cases o.op <;> rfl
theorem amYZ (b : Nat) (s : List Nat) (keep : List Nat) (o : AOper) (i : Nat) (p : AOper) (j : Nat) : amAZ ⟨b, s⟩ keep o i p j = amAZ ⟨0, s⟩ keep o i p j := by
 unfold amAZ
 rw [amXZ b, amXZ b, alrZ (amWZ b s o.dst), alrZ (amWZ b s p.dst)]
theorem ajsZ (b : Nat) (s : List Nat) (ops : List AOper) : agNZ ⟨b, s⟩ ops = agNZ ⟨0, s⟩ ops := by
 unfold agNZ
 simp only [amYZ b]
theorem alsZ (b : Nat) (s : List Nat) (keep : List Nat) : ∀ (ops : List AOper) (i : Nat), ajlZ ⟨b, s⟩ keep i ops = ajlZ ⟨0, s⟩ keep i ops
 | [], _ => rfl
 | o :: r, i => by
  unfold ajlZ
  simp only [amYZ b]
  rw [alsZ b s keep r]
theorem acDZ (N b : Nat) (s : List Nat) : ∀ x : ACode, aaSZ N ⟨b, s⟩ x = aaSZ N ⟨0, s⟩ x
 | .region d ops => by simp only [aaSZ, ajsZ b, alsZ b]
 | .seq x y => by simp only [aaSZ, acDZ N b s x, acDZ N b s y]
 | .cond _ x y => by simp only [aaSZ, acDZ N b s x, acDZ N b s y]
 | .block _ x => by simp only [aaSZ, acDZ N b s x]
 | .loop x => by simp only [aaSZ, acDZ N b s x]
 | .frz _ | .skip | .bad | .exit _ | .ret => rfl
abbrev KE := AExit -> KT -> List AObj -> List Nat -> Bool
noncomputable def axdZ (ih : KT -> List AObj -> List Nat -> KE -> Bool) (m : Nat) : KT -> List AObj -> List Nat -> KE -> Bool :=
 Nat.rec (motive := fun _ => KT -> List AObj -> List Nat -> KE -> Bool) (fun _ _ _ _ => false)
  (fun _ again tr H wr Q => ih tr H wr fun e tr H wr => AExit.casesOn (motive := fun _ => Bool) e (again tr H wr Q) (fun id => Q (.exit id) tr H wr) (Q .ret tr H wr)) m
noncomputable def azmZ (x : AOpd) (ρ : SEnv) (a b : Bool) : Bool := match x.at ρ with
 | .bool t => bif t then a else b
 | _ => false
noncomputable def arEZ (K : ahnZ) (c : Ctx) (d : Bool) (ops : List AOper) (tr : KT) (H : List AObj) (wr : List Nat) (Q : KE) : Bool :=
 bif d then kopt (abfZ c H ops) fun H0 => axcZ K c (agNZ ⟨0, c.sites⟩ ops) ops 0 tr H0 wr fun tr H wr log => acUZ (fun j => ((ops[j]?).map AOper.pre).getD []) log && Q .normal tr H wr
 else kOps K c ops tr H wr (Q .normal)
noncomputable def aqAZ (K : ahnZ) (m : Nat) (c : Ctx) (x : ACode) : KT -> List AObj -> List Nat -> KE -> Bool :=
 ACode.rec (motive := fun _ => KT -> List AObj -> List Nat -> KE -> Bool)
  (fun tr H wr Q => Q .normal tr H wr)
  (fun _ _ _ _ => false)
  (fun d ops tr H wr Q => arEZ K c d ops tr H wr Q)
  (fun _ _ iha ihb tr H wr Q => iha tr H wr fun e tr H wr => AExit.casesOn (motive := fun _ => Bool) e (ihb tr H wr Q) (fun id => Q (.exit id) tr H wr) (Q .ret tr H wr))
  (fun x _ _ iha ihb tr H wr Q => azmZ x (toF tr) (iha tr H wr Q) (ihb tr H wr Q))
  (fun id _ ih tr H wr Q => ih tr H wr fun e tr H wr => AExit.casesOn (motive := fun _ => Bool) e (Q .normal tr H wr) (fun id' => bif Nat.beq id' id then Q .normal tr H wr else Q (.exit id') tr H wr) (Q .ret tr H wr))
  (fun _ ih tr H wr Q => axdZ ih m tr H wr Q)
  (fun id tr H wr Q => Q (.exit id) tr H wr)
  (fun tr H wr Q => Q .ret tr H wr)
  (fun ts tr H wr Q => kFrz c ts tr H wr (Q .normal)) x
section
variable {A : AProg} {K : ahnZ} {m : Nat} {c : Ctx} {N : Nat}
def toQ (Q : KE) : AExit -> SEnv -> List AObj -> List Nat -> Prop := fun e ρ H wr => ∃ tr, ρ = toF tr /\ Q e tr H wr = true
theorem amZZ {b : ACode} {ih : KT -> List AObj -> List Nat -> KE -> Bool} (hok : aaSZ N c b = true)
  (hb : ∀ {tr : KT} {H : List AObj} {wr : List Nat} {Q : KE}, ih tr H wr Q = true -> Wp A N c b (toF tr) H wr (toQ Q)) :
  ∀ (m : Nat) {tr : KT} {H : List AObj} {wr : List Nat} {Q : KE}, axdZ ih m tr H wr Q = true -> Wp A N c (.loop b) (toF tr) H wr (toQ Q)
 | 0, tr, H, wr, Q, h => by cases h
 | m + 1, tr, H, wr, Q, h => by
  have h1 := hb (show ih tr H wr (fun e tr H wr => AExit.casesOn (motive := fun _ => Bool) e (axdZ ih m tr H wr Q) (fun id => Q (.exit id) tr H wr) (Q .ret tr H wr)) = true from h)
  intro l hl he
  obtain ⟨n, e, s', g1, g2, tr1, g3, g4⟩ := h1 l hl he
  cases e with
  | normal =>
   obtain ⟨n2, e', s'', k1, k2, k3⟩ := amZZ hok hb m g4 s'.ρ g2 g3
   refine ⟨max n n2 + 1, e', s'', ?_, k2, k3⟩
   rw [abDZ, abEZ (Nat.le_max_left n n2) _ _ _ _ g1]
   exact abEZ (Nat.le_max_right n n2) _ _ _ _ k1
  | exit id => exact ⟨n + 1, .exit id, s', by rw [abDZ, g1], g2, tr1, g3, g4⟩
  | ret => exact ⟨n + 1, .ret, s', by rw [abDZ, g1], g2, tr1, g3, g4⟩
theorem aemZ (hK : KOk A K) : ∀ (x : ACode) {tr : KT} {H : List AObj} {wr : List Nat} {Q : KE}, aaSZ N c x = true -> aqAZ K m c x tr H wr Q = true -> Wp A N c x (toF tr) H wr (toQ Q)
 | .skip, tr, H, wr, Q, hok, h => fun l hl he => ⟨1, .normal,⟨l, H, wr⟩, rfl, hl, tr, he, h⟩
 | .bad, tr, H, wr, Q, hok, h => by cases h
 | .region d ops, tr, H, wr, Q, hok, h => by
  have h' : arEZ K c d ops tr H wr Q = true := h
  refine adTZ ?_ hok
  unfold arEZ at h'
  cases d with
  | false =>
   simp only [cond_false] at h'
   rw [wpc]
   exact akIZ hK ops h'
  | true =>
   simp only [cond_true] at h'
   obtain ⟨H0, h1, h2⟩ := acQZ h'
   rw [wpc, h1]
   dsimp only
   have e : c = ⟨c.base, c.sites⟩ := rfl
   rw [show agNZ c ops = agNZ ⟨0, c.sites⟩ ops from ajsZ c.base c.sites ops]
   refine ajrZ hK ops (fun tr H wr log hh => ?_) h2
   rw [Bool.and_eq_true] at hh
   exact ⟨hh.1, tr, rfl, hh.2⟩
 | .seq a b, tr, H, wr, Q, hok, h => by
  simp only [aaSZ, Bool.and_eq_true] at hok
  have h' : aqAZ K m c a tr H wr (fun e tr H wr => AExit.casesOn (motive := fun _ => Bool) e (aqAZ K m c b tr H wr Q) (fun id => Q (.exit id) tr H wr) (Q .ret tr H wr)) = true := h
  intro l hl he
  obtain ⟨n, e, s', g1, g2, tr1, g3, g4⟩ := aemZ hK a hok.1 h' l hl he
  cases e with
  | normal =>
   obtain ⟨n2, e', s'', k1, k2, k3⟩ := aemZ hK b hok.2 g4 s'.ρ g2 g3
   refine ⟨max n n2 + 1, e', s'', ?_, k2, k3⟩
   rw [aclZ, abEZ (Nat.le_max_left n n2) _ _ _ _ g1]
   exact abEZ (Nat.le_max_right n n2) _ _ _ _ k1
  | exit id => exact ⟨n + 1, .exit id, s', by rw [aclZ, g1], g2, tr1, g3, g4⟩
  | ret => exact ⟨n + 1, .ret, s', by rw [aclZ, g1], g2, tr1, g3, g4⟩
 | .cond x a b, tr, H, wr, Q, hok, h => by
  simp only [aaSZ, Bool.and_eq_true] at hok
  have h' : azmZ x (toF tr) (aqAZ K m c a tr H wr Q) (aqAZ K m c b tr H wr Q) = true := h
  unfold azmZ at h'
  split at h'
  ·rename_i t hx
   intro l hl he
   have ht : x.ev l = x.at (toF tr) := by rw [<- he]; exact x.ev_eq l
   cases t with
   | true =>
    obtain ⟨n, e, s', g1, g2⟩ := aemZ hK a hok.1 h' l hl he
    exact ⟨n + 1, e, s', by rw [aczZ]; dsimp only; rw [ht, hx]; exact g1, g2⟩
   | false =>
    obtain ⟨n, e, s', g1, g2⟩ := aemZ hK b hok.2 h' l hl he
    exact ⟨n + 1, e, s', by rw [aczZ]; dsimp only; rw [ht, hx]; exact g1, g2⟩
  ·cases h'
 | .block id b, tr, H, wr, Q, hok, h => by
  simp only [aaSZ] at hok
  have h' : aqAZ K m c b tr H wr (fun e tr H wr => AExit.casesOn (motive := fun _ => Bool) e (Q .normal tr H wr) (fun id' => bif Nat.beq id' id then Q .normal tr H wr else Q (.exit id') tr H wr) (Q .ret tr H wr)) = true := h
  intro l hl he
  obtain ⟨n, e, s', g1, g2, tr1, g3, g4⟩ := aemZ hK b hok h' l hl he
  cases e with
  | normal => exact ⟨n + 1, .normal, s', by rw [ablZ, g1], g2, tr1, g3, g4⟩
  | ret => exact ⟨n + 1, .ret, s', by rw [ablZ, g1], g2, tr1, g3, g4⟩
  | exit id' =>
   dsimp only at g4
   cases hb : Nat.beq id' id with
   | true =>
    rw [hb] at g4
    exact ⟨n + 1, .normal, s', by rw [ablZ, g1]; dsimp only; rw [if_pos (Nat.eq_of_beq_eq_true hb)], g2, tr1, g3, g4⟩
   | false =>
    rw [hb] at g4
    exact ⟨n + 1, .exit id', s', by rw [ablZ, g1]; dsimp only; rw [if_neg (Nat.ne_of_beq_eq_false hb)], g2, tr1, g3, g4⟩
 | .loop b, tr, H, wr, Q, hok, h => by
  simp only [aaSZ] at hok
  exact amZZ hok (fun h => aemZ hK b hok h) m (show axdZ (aqAZ K m c b) m tr H wr Q = true from h)
 | .exit id, tr, H, wr, Q, hok, h => fun l hl he => ⟨1, .exit id,⟨l, H, wr⟩, rfl, hl, tr, he, h⟩
 | .ret, tr, H, wr, Q, hok, h => fun l hl he => ⟨1, .ret,⟨l, H, wr⟩, rfl, hl, tr, he, h⟩
 | .frz ts, tr, H, wr, Q, hok, h => fun l hl he => by
  have h' : kFrz c ts tr H wr (Q .normal) = true := h
  obtain ⟨s', tr', h1, h2, h3, h4⟩ := aiKZ ts he h' (by rw [hl]; exact hok)
  exact ⟨1, .normal, s', by rw [agMZ, h1], by rw [h2, hl], tr', h3, h4⟩
end
noncomputable def aqBZ (args : List AV) : Nat -> KT -> KT :=
 List.rec (motive := fun _ => Nat -> KT -> KT) (fun _ t => t) (fun a _ ih i t => ih (i + 1) (kset (aaLZ i) a t)) args
theorem aovZ : ∀ (args : List AV) (i : Nat) (t : KT), toF (aqBZ args i t) = fun j => if i <= j /\ j < i + args.length then (args[j - i]?).getD .undef else toF t j
 | [], i, t => by
  funext j
  show toF t j = _
  rw [if_neg (by simp)]
 | a :: r, i, t => by
  have h : toF (aqBZ r (i + 1) (kput (some i) a t)) = _ := aovZ r (i + 1) (kput (some i) a t)
  show toF (aqBZ r (i + 1) (kput (some i) a t)) = _
  rw [h, aiJZ]
  funext j
  simp only [updO, upd, List.length_cons]
  by_cases h1 : i + 1 <= j /\ j < i + 1 + r.length
  ·rw [if_pos h1, if_pos (by omega), show j - i = (j - (i + 1)) + 1 by omega, List.getElem?_cons_succ]
  ·rw [if_neg h1]
   by_cases h2 : j = i
   ·subst h2
    rw [if_pos rfl, if_pos (by omega), Nat.sub_self]
    rfl
   ·rw [if_neg h2, if_neg (by omega)]
theorem avsZ (args : List AV) : toF (aqBZ args 0 .e) = agcZ args := by
 rw [aovZ]
 funext j
 unfold agcZ
 by_cases h : j < args.length
 ·rw [if_pos (by omega), Nat.sub_zero]
 ·rw [if_neg (by omega), List.getElem?_eq_none (by omega)]
  exact asCZ _
noncomputable def asHZ {α : Type} (l : List α) (k : List α -> Bool) : Bool :=
 List.rec (motive := fun _ => (List α -> Bool) -> Bool) (fun k => k []) (fun a _ ih k => ih fun r => k (a :: r)) l k
theorem aqCZ {α : Type} : ∀ (l : List α) (k : List α -> Bool), asHZ l k = k l
 | [], _ => rfl
 | a :: r, k => aqCZ r fun r => k (a :: r)
noncomputable def aEyZ (base : Nat) (rs : List ARes) (k : AV -> List AObj -> List Nat -> Bool) : KE := fun e tr H wr =>
 AExit.casesOn (motive := fun _ => Bool) e (kopt (adnZ base rs (toF tr) H wr) fun r => asHZ (aaVZ base r).2.1 fun H' => k (aaVZ base r).1 H' (aaVZ base r).2.2) (fun _ => false)
  (kopt (adnZ base rs (toF tr) H wr) fun r => asHZ (aaVZ base r).2.1 fun H' => k (aaVZ base r).1 H' (aaVZ base r).2.2)
noncomputable def kFn (K : ahnZ) (m : Nat) (fn : AFn) (args : List AV) (H : List AObj) (k : AV -> List AObj -> List Nat -> Bool) : Bool :=
 aaSZ fn.ntmps ⟨0, fn.sites⟩ fn.body && Nat.ble args.length fn.ntmps &&
  aqAZ K m ⟨H.length, fn.sites⟩ fn.body (aqBZ args 0 .e) (H ++ List.replicate fn.sites.length (.gone 0)) [] (aEyZ H.length fn.results k)
noncomputable def alUZ (A : AProg) (m n : Nat) : ahnZ :=
 Nat.rec (motive := fun _ => ahnZ) (fun _ _ _ _ => false)
  (fun _ K f args H k => Option.rec (Option.rec false (fun fn => kFn K m fn args H k) (A.fn f)) (fun r => k (abxZ H r).1 (abxZ H r).2.1 (abxZ H r).2.2) ((A.prim f).bind (· args H))) n
theorem ajtZ (A : AProg) (m : Nat) : ∀ n, KOk A (alUZ A m n)
 | 0, f, args, H, k, h => by cases h
 | n + 1, f, args, H, k, h => by
  have h' : (Option.rec (Option.rec false (fun fn => kFn (alUZ A m n) m fn args H k) (A.fn f)) (fun r => k (abxZ H r).1 (abxZ H r).2.1 (abxZ H r).2.2) ((A.prim f).bind (· args H)) : Bool) = true := h
  cases hp : (A.prim f).bind (· args H) with
  | some r =>
   rw [hp] at h'
   refine ⟨_, _, _, ajRZ (n := 0) ?_, h'⟩
   unfold aaXZ
   rw [hp]
  | none =>
   rw [hp] at h'
   cases hf : A.fn f with
   | none => rw [hf] at h'; cases h'
   | some fn =>
    rw [hf] at h'
    have h2 : kFn (alUZ A m n) m fn args H k = true := h'
    unfold kFn at h2
    simp only [Bool.and_eq_true] at h2
    obtain ⟨⟨hok, hN⟩, hc⟩ := h2
    have hok' : aaSZ fn.ntmps ⟨H.length, fn.sites⟩ fn.body = true := by rw [acDZ]; exact hok
    have hN' : args.length <= fn.ntmps := Nat.le_of_ble_eq_true hN
    have hw := aemZ (N := fn.ntmps) (ajtZ A m n) fn.body hok' hc
    rw [avsZ] at hw
    obtain ⟨n1, e, s', h1, h2, tr, h3, h4⟩ := hw (args ++ List.replicate (fn.ntmps - args.length) .undef) (by simp; omega) (aoiZ _ _)
    have key : ∀ r, adnZ H.length fn.results (toF tr) s'.H s'.wr = some r -> ahvZ H.length fn s' = some r := by
     intro r hr
     rw [<- h3] at hr
     unfold adnZ at hr
     unfold ahvZ
     rw [aoYZ]
     exact hr
    have fin : (e = .normal ∨ e = .ret) -> kopt (adnZ H.length fn.results (toF tr) s'.H s'.wr) (fun r => asHZ (aaVZ H.length r).2.1 fun H' => k (aaVZ H.length r).1 H' (aaVZ H.length r).2.2) = true ->
      ∃ v H' wr, aapZ A f args H = some (v, H', wr) /\ k v H' wr = true := by
     intro he hk
     obtain ⟨r, hr, hk⟩ := acQZ hk
     rw [aqCZ] at hk
     exact ⟨_, _, _, ajRZ (aeQZ hp hf h1 he (key _ hr) hN'), hk⟩
    cases e with
    | normal => exact fin (.inl rfl) h4
    | ret => exact fin (.inr rfl) h4
    | exit id => cases h4
end Go.AM
end
section
namespace Go.AM
open Go
section
variable {P : Program} {glob : Glob} {A : AProg}
def asIZ (P : Program) (glob : Glob) (f : Nat) (fn : AFn) : Prop :=
 ∃ F body frz nl ty, P.funcs[f]? = some F /\ (F.name == "runtime.NumGoroutine") = false /\ F.body = some body /\
  fn.body = agTZ P { glob with nl := nl, typed := ty } frz body /\ fn.ntmps = F.ntmps /\ athZ P F.results.toList = some fn.results
def aBVZ (P : Program) (glob : Glob) (A : AProg) (f : Nat) : Prop :=
 ∀ n, (∀ m, m < n -> abSZ P glob (aaXZ A m)) -> abSZ P glob fun f' args H => if f' = f then aaXZ A n f args H else none
structure Good (P : Program) (glob : Glob) (A : AProg) : Prop where
 mixed : P.follows .mixedOrders = true
 fn : ∀ f fn, A.fn f = some fn -> asIZ P glob f fn ∨ aBVZ P glob A f
 prim : ∀ f p, A.prim f = some p -> abSZ P glob fun f' args H => if f' = f then (p args H).map (abxZ H) else none
def AExit.real : AExit -> Exit
 | .normal => .normal
 | .exit id => .exit id
 | .ret => .ret
theorem akzZ.join {base : Nat} {g g1 : G} {H : List AObj} {w : World} {d : List Deferred} {s1 s2 : ASt} {a1 a2 : Act} {w1 w2 : World} {W : List Nat}
  (h1 : Step g H w g1 s1.H w1 W) (h2 : ∀ o ∈ W, o < base -> o ∈ s1.wr) (h4 : a1.defers = d) (hwr : ∀ o ∈ s1.wr, o ∈ s2.wr)
  (h : akzZ glob base g1 s1.H w1 a1.defers s2 a2 w2) : akzZ glob base g H w d s2 a2 w2 := by
 obtain ⟨g2, W', i1, i2, i3, i4, i5⟩ := h
 refine ⟨g2, W ++ W', h1.trans i1, fun o ho hb => ?_, i3, by rw [i4, h4], i5⟩
 rcases List.mem_append.1 ho with ho | ho
 ·exact hwr o (h2 o ho hb)
 ·exact i2 o ho hb
theorem aqDZ {w : World} {b off : Nat} {x : Value} (h : w.cell? ⟨b, off, none⟩ = some x) : w.setCell ⟨b, off, none⟩ x = w := by
 have key : (w.heap.modify b fun
   | .cells c elem frozen => .cells (c.setIfInBounds off x) elem frozen
   | o => o) = w.heap := by
  apply Array.ext_getElem?
  intro i
  rw [Array.getElem?_modify]
  by_cases e : b = i
  ·subst e
   rw [if_pos rfl]
   simp only [World.cell?] at h
   cases hb : w.heap[b]? with
   | none => rfl
   | some o =>
    rw [hb] at h
    cases o with
    | cells c elem fz =>
     simp at h
     have hlt := (Array.getElem?_eq_some_iff.1 h).1
     have hx := (Array.getElem?_eq_some_iff.1 h).2
     simp only [Option.map_some, Option.some.injEq, Obj.cells.injEq, and_self, and_true]
     apply Array.ext_getElem?
     intro j
     by_cases ej : off = j
     ·subst ej; simp [hlt, hx]
     ·simp [ej]
    | _ => rfl
  ·rw [if_neg e]
 simp only [World.setCell, Option.isSome_none, Bool.false_eq_true, if_false]
 exact congrArg (fun h => { w with heap := h }) key
theorem akcZ {w : World} {b : Nat} : ∀ (vs : List Value) (off : Nat), (∀ (j : Nat) v, vs[j]? = some v -> w.cell? ⟨b, off + j, none⟩ = some v) -> w.setCells b off vs = w
 | [], _, _ => rfl
 | v :: vs, off, h => by
  have h0 := h 0 v rfl
  simp only [Nat.add_zero] at h0
  simp only [World.setCells]
  rw [aqDZ h0]
  exact akcZ vs (off + 1) fun j x hx => by
   have := h (j + 1) x (by simpa using hx)
   rwa [show off + (j + 1) = off + 1 + j by omega] at this
theorem akdZ {c : Ctx} {w : World} {a : Act} : ∀ (ts : List (Nat × Nat)) (s s' : ASt), afhZ c s ts = some s' -> ∀ (g : G), WF g s.H w -> aauZ glob g -> aanZ g s.ρ a.tmps -> akzZ glob c.base g s.H w a.defers s' a w
 | [], s, s', h, g, hw, hg, hs => by simp only [afhZ, Option.some.injEq] at h; subst h; exact .refl hw hs hg
 | (0, t) :: ts, s, s', h, g, hw, hg, hs => by
  unfold afhZ at h
  split at h
  ·rename_i v H' l hf
   obtain ⟨g1, h1, h2⟩ := aoaZ hw hf (hs.2 t)
   have hs1 : aanZ g1 (s.ρ.set t v) a.tmps := by
    refine ⟨by simpa using hs.1, fun t' => ?_⟩
    by_cases e : t = t'
    ·subst e
     by_cases hlt : t < s.ρ.length
     ·simpa [hlt] using h2
     ·have : (s.ρ.set t v)[t]? = none := List.getElem?_eq_none (by simp; omega)
      rw [this]; exact .undef _
    ·rw [getElem?_set_ne' _ _ e]
     exact (hs.2 t').mono h1.le
   have h3 := akdZ ts _ s' h g1 h1.wf (hg.mono h1.le) hs1
   obtain ⟨g2, W, i1, i2, i3, i4, i5⟩ := h3
   refine ⟨g2, l ++ W, h1.trans i1, fun o ho hb => ?_, i3, i4, i5⟩
   rcases List.mem_append.1 ho with ho | ho
   ·exact (aiDZ ts _ s' h).2.1 o ((aaBZ _ _ _).2 o ho hb)
   ·exact i2 o ho hb
  ·cases h
 | (k + 1, t) :: ts, s, s', h, g, hw, hg, hs => by
  unfold afhZ at h
  split at h
  ·exact akdZ ts _ s' h g hw hg hs
  split at h
  ·rename_i cs hr
   split at h
   ·rename_i cs' H' l hf
    split at h
    ·rename_i H2 l2 hst
     obtain ⟨b, off, vs, e, hlen, hl, hc⟩ := abgZ hw hr (hs.2 t)
     obtain ⟨g1, h1, h2⟩ := aoaZ hw hf (LRel.agg (vs := vs.toArray) (by simpa using hl))
     obtain ⟨ys, e1, hl1⟩ := h2.agg_list
     cases e1
     have hl1' : LRel g1 cs' vs := by simpa using hl1
     obtain ⟨b', off', e', _, _, h3⟩ := abBZ h1.wf hst ((hs.2 t).mono h1.le) hl1'
     rw [e] at e'
     cases e'
     have hsame : w.setCells b off vs = w := akcZ vs off fun j v hv => hc j v hv
     rw [hsame] at h3
     have h4 := akdZ ts _ s' h g1 h3.wf (hg.mono h1.le) (hs.mono h1.le)
     obtain ⟨g2, W, i1, i2, i3, i4, i5⟩ := h4
     refine ⟨g2, (l ++ l2) ++ W, (h1.trans h3).trans i1, fun o ho hb => ?_, i3, i4, i5⟩
     rcases List.mem_append.1 ho with ho | ho
     ·exact (aiDZ ts _ s' h).2.1 o ((aaBZ _ _ _).2 o ho hb)
     ·exact i2 o ho hb
    ·cases h
   ·cases h
  ·cases h
theorem WF.more {g : G} {H : List AObj} {w : World} (h : WF g H w) (k : Nat) : Step g H w g (H ++ List.replicate k (.gone 0)) w [] := by
 have hat : ∀ o l x, Backed g (H ++ List.replicate k (.gone 0)) o l x -> Backed g H o l x := fun o l x hb =>
  ⟨by rw [<- List.getElem?_append_left (h.lt o l hb.loc)]; exact hb.at_, hb.alive, hb.loc, hb.st⟩
 refine ⟨G.le.refl g,⟨h.perm, fun o l hl => by have := h.lt o l hl; simp; omega, h.blk, fun o x l hx hl => ?_, fun o l x hb => h.obj o l x (hat o l x hb), fun o l x hb => h.priv o l x (hat o l x hb),
  fun o o' l l' x x' h1 h2 => h.inj o o' l l' x x' (hat _ _ _ h1) (hat _ _ _ h2), h.whole.keep rfl rfl ⟨rfl, rfl⟩ (fun _ _ _ => rfl) fun o l y hl => .inr ⟨o, l, y, hat _ _ _ hl, rfl⟩⟩, alNZ.refl _ _ _, fun o ho _ => List.getElem?_append_left ho, by simp, fun _ l' hl => .inr ⟨l', hl, rfl⟩, fun _ _ _ => rfl⟩
 rw [List.getElem?_append_left (h.lt o l hl)] at hx
 exact h.st o x l hx hl
def ayaZ (P : Program) (glob : Glob) (A : AProg) (n : Nat) : Prop :=
 ∀ (nl : Bool) (ty : List Nat) (c : Ctx) (frz : Nat -> List (Nat × Nat)) (x : Code) (s : ASt) e s', aaNZ A n c (agTZ P { glob with nl := nl, typed := ty } frz x) s = some (e, s') -> ∀ (g : G) (a : Act) (w : World), WF g s.H w -> aauZ glob g -> aanZ g s.ρ a.tmps ->
  ∀ Q : Exit -> Act -> World -> Prop, (∀ a' w', akzZ glob c.base g s.H w a.defers s' a' w' -> Q e.real a' w') -> x.wp P Q a w /\ ∀ b, x = .loop b -> Code.rounds P b Q n a w
theorem akJZ (A0 : Good P glob A) : ∀ (n : Nat), (∀ m, m <= n -> ayaZ P glob A m) -> abSZ P glob (aaXZ A n) := by
 intro n
 induction n using Nat.strongRecOn with
 | _ n ihc =>
 intro hall
 have hcode := hall n (Nat.le_refl _)
 intro f args H av H' wr h g w xs hw hg hx
 rcases ahTZ h with ⟨p, v1, hp, hv, hr⟩ | ⟨fn, s', e, r', hf, he, hee, hfin, hr, _⟩
 ·cases hr
  exact A0.prim f p hp f args H _ _ _ (by simp [hv]; rfl) g w xs hw hg hx
 ·rcases A0.fn f fn hf with hcomp | halt
  rotate_left
  ·exact halt n (fun m hm => ihc m hm fun k hk => hall k (by omega)) f args H av H' wr (by simpa using h) g w xs hw hg hx
  obtain ⟨F, body, frz, nl, ty, e1, e2, e3, e4, e5, e6⟩ := hcomp
  refine ⟨⟨F, e1, e2, by simp [e3]⟩, calls_of_wp e1 e3 ?_⟩
  rw [e4] at he
  have hst := hw.more fn.sites.length
  refine (hcode nl ty _ frz body _ e s' he g _ w hst.wf hg ?_ _ fun a' w' hreach => ?_).1
  ·
   have hlen := hx.1
   refine ⟨by simp [aejZ, hlen, e5], fun t => ?_⟩
   simp only [aejZ]
   by_cases ht : t < args.length
   ·rw [List.getElem?_append_left ht, List.getElem?_eq_getElem ht]
    have h1 : (xs.toArray ++ Array.replicate (F.ntmps - xs.toArray.size) Go.undef).getD t Go.undef = xs[t]'(by omega) := by
     simp [Array.getD_eq_getD_getElem?, Array.getElem?_append, show t < xs.length by omega]
    rw [h1]
    exact hx.2 t _ _ (List.getElem?_eq_getElem ht) (List.getElem?_eq_getElem (by omega))
   ·rw [List.getElem?_append_right (by omega), List.getElem?_replicate]
    split <;> exact .undef _
  ·obtain ⟨g1, W, i1, i2, i3, i4, i5⟩ := hreach
   have hs1 : Step g H w g1 s'.H w' W := by simpa using hst.trans i1
   obtain ⟨vs, hvs, hcase⟩ := alfZ hfin
   obtain ⟨ys, hy1, hy2⟩ := agKZ (P := P) i1.wf i3 F.results.toList fn.results vs e6 hvs
   have hrun := arrZ hy1
   have hpost : ∃ g2, Step g H w g2 r'.2.1 w' r'.2.2 /\ agIZ g2 r'.2.1 w.heap.size w' r'.1 (awAZ ys) := by
    rcases hcase with ⟨v, v', H2, l, rfl, hfv, rfl⟩ | ⟨vs', H2, l, hne, hfv, rfl⟩
    ·have hl : ys.length = 1 := by have := hy2.1; simpa using this.symm
     obtain ⟨y, rfl⟩ := List.length_eq_one_iff.1 hl
     have hnew : ∀ o l, H.length <= o -> g1.obj o = some l -> w.heap.size <= l.b := fun o l ho hl => by
      rcases hs1.track o l hl with h1 | ⟨l0, h0, _⟩
      ·exact h1
      ·have := hw.lt o l0 h0; omega
     obtain ⟨g2, j1, j2⟩ := attZ hnew i1.wf hfv (hy2.2 0 v y rfl rfl)
     refine ⟨g2, (hs1.trans j1).narrow hw.lt fun o ho hb => ?_, j2⟩
     rcases List.mem_append.1 ho with ho | ho
     ·exact (aaBZ _ _ _).1 o (i2 o ho hb)
     ·exact (aaBZ _ _ _).2 o ho hb
    ·obtain ⟨g2, j1, j2⟩ := amzZ i1.wf hfv hy2
     have ht : awAZ ys = .tuple ys.toArray := by
      have := hy2.1
      cases ys with
      | nil => rfl
      | cons y r => cases r with
       | nil => simp at this; omega
       | cons z r => rfl
     rw [ht]
     refine ⟨g2, (hs1.trans j1).narrow hw.lt fun o ho hb => ?_, ?_⟩
     ·rcases List.mem_append.1 ho with ho | ho
      ·exact (aaBZ _ _ _).1 o (i2 o ho hb)
      ·exact (aaBZ _ _ _).2 o ho hb
     ·exact VRel.tup vs' ys.toArray (by simpa using j2.1) fun i a x ha hx => j2.2 i a x ha (by simpa using hx)
   have hfinal : ∃ g2, Step g H w g2 H' w' wr /\ agIZ g2 H' w.heap.size w' av (awAZ ys) := by
    obtain ⟨g2, k1, k2⟩ := hpost
    obtain ⟨v3, H3, wr3⟩ := r'
    simp only [aaVZ] at hr
    split at hr
    ·rename_i hcut
     simp only [Bool.and_eq_true] at hcut
     cases hr
     refine ⟨g2.cut H.length, Step.cut hw k1 fun o ho x hx => ?_, agIZ.cut k2 hcut.1⟩
     have := List.all_eq_true.1 hcut.2 o ho
     rw [hx] at this
     exact this
    ·cases hr; exact ⟨g2, k1, k2⟩
   have hb : bodyPost P F (fun e w' => match e with | .returned v => ∃ g', Step g H w g' H' w' wr /\ agIZ g' H' w.heap.size w' av v | _ => False) e.real a' w' := by
    rcases hee with rfl | rfl
    ·exact ⟨i4, _, hrun, hfinal⟩
    ·exact ⟨i4, _, hrun, hfinal⟩
   exact hb
theorem atIZ (A0 : Good P glob A) (n : Nat) : ayaZ P glob A n := by
 induction n using Nat.strongRecOn with
 | _ n ihs =>
 cases n with
 | zero => exact fun nl ty c frz x s e s' h => by rw [acgZ] at h; cases h
 | succ n =>
  have ih := ihs n (Nat.lt_succ_self n)
  have hcall := akJZ A0 n fun k hk => ihs k (by omega)
  have hfr : agJZ (aaXZ A n) := aqdZ n
  intro nl ty c frz x s e s' h g a w hw hg hs Q hQ
  have region : ∀ (m : Nat) (id : Nat) (ops : Array Oper) (d : Bool) (s s' : ASt) (g : G) (e : AExit), abSZ P glob (aaXZ A m) -> WF g s.H w -> aanZ g s.ρ a.tmps -> aauZ glob g -> aaNZ A (m + 1) c (.region d (cOps P { glob with nl := nl, typed := ty } ops.toList ops.toList [])) s = some (e, s') ->
    ∀ Q : Exit -> Act -> World -> Prop, (∀ a' w', akzZ glob c.base g s.H w a.defers s' a' w' -> Q e.real a' w') -> (Code.region id ops d).wp P Q a w := by
   intro m id ops d s s' g e hc hw hs hg h Q hQ
   rw [acyZ] at h
   split at h
   ·rename_i s1 hr
    cases h
    cases d with
    | true => exact atsZ (glob := { glob with nl := nl, typed := ty }) A0.mixed hc (aqdZ m) hr hw hg hs hQ
    | false =>
     simp only [actZ, Bool.false_and, Bool.false_eq_true, if_false] at hr
     exact apVZ (glob := { glob with nl := nl, typed := ty }) hc hr hw hg hs hQ
   ·cases h
  have noloop : ∀ {y : Code}, (∀ b, y ≠ .loop b) -> y.wp P Q a w -> y.wp P Q a w /\ ∀ b, y = .loop b -> Code.rounds P b Q (n + 1) a w := fun hne hwp => ⟨hwp, fun b hb => absurd hb (hne b)⟩
  cases x with
  | skip =>
   refine noloop (fun b => by simp) (wp_skip ?_)
   simp only [agTZ, ahcZ, Option.some.injEq, Prod.mk.injEq] at h
   obtain ⟨rfl, rfl⟩ := h
   exact hQ a w (.refl hw hs hg)
  | region id ops d =>
   refine noloop (fun b => by simp) ?_
   simp only [agTZ] at h
   split at h
   ·exact region n id ops d s s' g e hcall hw hs hg h Q hQ
   ·rename_i ts _
    rw [aclZ] at h
    cases n with
    | zero => rw [acgZ] at h; cases h
    | succ m =>
     rw [agMZ] at h
     split at h
     ·rename_i s1 hz
      split at hz
      ·rename_i s2 hf
       cases hz
       have hreach := akdZ _ s s1 hf g (w := w) (a := a) hw hg hs
       obtain ⟨g1, W, i1, i2, i3, i4, i5⟩ := hreach
       have hcm : abSZ P glob (aaXZ A m) := akJZ A0 m fun k hk => ihs k (by omega)
       refine region m id ops d s1 s' g1 e hcm i1.wf i3 i5 h Q fun a' w' hr => hQ a' w' ?_
       obtain ⟨g2, W', j1, j2, j3, j4, j5⟩ := hr
       refine ⟨g2, W ++ W', i1.trans j1, fun o ho hb => ?_, j3, j4, j5⟩
       rcases List.mem_append.1 ho with ho | ho
       ·exact (abTZ _ _ _ _ _ _ h).2.1 o (i2 o ho hb)
       ·exact j2 o ho hb
      ·cases hz
     ·rename_i hne
      exfalso
      split at h
      ·rename_i s2 hf
       exact hne s2 (by rw [hf])
      ·cases h
  | seq x y =>
   refine noloop (fun b => by simp) (wp_seq ?_)
   simp only [agTZ, aclZ] at h
   split at h
   ·rename_i s1 h1
    refine (ih nl ty c frz x s _ s1 h1 g a w hw hg hs _ fun a1 w1 hr => ?_).1
    obtain ⟨g1, W, i1, i2, i3, i4, i5⟩ := hr
    refine (ih nl ty c frz y s1 e s' h g1 a1 w1 i1.wf i5 i3 Q fun a' w' hr' => hQ a' w' ?_).1
    exact akzZ.join i1 i2 i4 (abTZ _ _ _ _ _ _ h).2.1 hr'
   ·rename_i hne
    refine (ih nl ty c frz x s e s' h g a w hw hg hs _ fun a1 w1 hr => ?_).1
    cases e with
    | normal => exact absurd h (hne s')
    | exit id => exact hQ a1 w1 hr
    | ret => exact hQ a1 w1 hr
  | cond t x y =>
   refine noloop (fun b => by simp) ?_
   cases t with
   | tmp t =>
    simp only [agTZ, aczZ] at h
    have hv := hs.2 t
    split at h
    ·rename_i hb
     simp only [AOpd.ev] at hb
     rw [hb] at hv
     have he : a.eval (.tmp t) = .bool true := by cases hv'  : a.tmps.getD t Go.undef <;> rw [hv'] at hv <;> cases hv; exact hv'
     exact wp_cond_true he (ih nl ty c frz x s e s' h g a w hw hg hs Q hQ).1
    ·rename_i hb
     simp only [AOpd.ev] at hb
     rw [hb] at hv
     have he : a.eval (.tmp t) = .bool false := by cases hv'  : a.tmps.getD t Go.undef <;> rw [hv'] at hv <;> cases hv; exact hv'
     exact wp_cond_false he (ih nl ty c frz y s e s' h g a w hw hg hs Q hQ).1
    ·cases h
   | _ => simp only [agTZ, agLZ] at h; cases h
  | block id b =>
   refine noloop (fun b => by simp) (wp_block ?_)
   simp only [agTZ, ablZ] at h
   split at h
   ·rename_i id' s1 h1
    refine (ih nl ty c frz b s _ s1 h1 g a w hw hg hs _ fun a1 w1 hr => ?_).1
    split at h
    ·rename_i hid
     cases h
     simp only [AExit.real, Exit.inBlock, hid, if_true]
     exact hQ a1 w1 hr
    ·rename_i hid
     cases h
     simp only [AExit.real, Exit.inBlock, hid, if_false]
     exact hQ a1 w1 hr
   ·rename_i hne
    refine (ih nl ty c frz b s e s' h g a w hw hg hs _ fun a1 w1 hr => ?_).1
    cases e with
    | normal => exact hQ a1 w1 hr
    | exit id' => exact absurd h (hne id' s')
    | ret => exact hQ a1 w1 hr
  | loop b =>
   have key : Code.rounds P b Q (n + 1) a w := by
    simp only [agTZ, abDZ] at h
    rw [rounds_succ]
    split at h
    ·rename_i s1 h1
     refine (ih nl ty c frz b s _ s1 h1 g a w hw hg hs _ fun a1 w1 hr => ?_).1
     obtain ⟨g1, W, i1, i2, i3, i4, i5⟩ := hr
     refine (ih nl ty c frz (.loop b) s1 e s' h g1 a1 w1 i1.wf i5 i3 Q fun a' w' hr' => hQ a' w' ?_).2 b rfl
     exact akzZ.join i1 i2 i4 (abTZ _ _ _ _ _ _ h).2.1 hr'
    ·rename_i hne
     refine (ih nl ty c frz b s e s' h g a w hw hg hs _ fun a1 w1 hr => ?_).1
     cases e with
     | normal => exact absurd h (hne s')
     | exit id => exact hQ a1 w1 hr
     | ret => exact hQ a1 w1 hr
   exact ⟨wp_loop_rounds _ key, fun b' hb' => by cases hb'; exact key⟩
  | exit id =>
   refine noloop (fun b => by simp) (wp_exit ?_)
   simp only [agTZ, ajkZ, Option.some.injEq, Prod.mk.injEq] at h
   obtain ⟨rfl, rfl⟩ := h
   exact hQ a w (.refl hw hs hg)
  | ret =>
   refine noloop (fun b => by simp) (wp_ret ?_)
   simp only [agTZ, akCZ, Option.some.injEq, Prod.mk.injEq] at h
   obtain ⟨rfl, rfl⟩ := h
   exact hQ a w (.refl hw hs hg)
  | _ => simp only [agTZ, agLZ] at h; cases h
theorem altZ (A0 : Good P glob A) (n : Nat) : abSZ P glob (aaXZ A n) := akJZ A0 n fun m _ => atIZ A0 m
end
end Go.AM
end
