/- Part 31 of the proof that stands in the last text of this folder (lemmas; no statement of its own). -/
import Derived.Test.YtglokbbcckpaaaaGreatDoorK30
set_option linter.unusedVariables false
set_option linter.unusedSimpArgs false
open Bool renaming not_true -> BT
section
namespace Go.AM
open Go
def Stp (B h m : Nat) (V : Va) (Hc : List AObj) (l : List FSt) (ρ : SEnv) (d : Option Nat) (H : List AObj) (out : Out) : Prop :=
 ∃ v H' w, out = some (v, H', w) /\ (∀ o ∈ w, B + h <= o) /\ H'.length = H.length /\ ∃ F' ∈ l, ∃ V', V.Le V' /\ RF B h m V' Hc F' (updO ρ d v) H'
section
variable {B h m : Nat} {V V' : Va} {Hc : List AObj} {F : FSt} {ρ : SEnv} {H : List AObj} {d : Option Nat}
theorem Stp.R {call : Nat -> List AV -> List AObj -> Out} {site : Option Nat} {dr : Bool} {op : AOp} (hW : isW site dr op = false) (hF : RF B h m V Hc F ρ H) {v : AV} (he : evRF H ρ op = some v) {T' : ST} {x : XV} (hg : Got B V T' x v) {l : List FSt} (hl : F.put d T' x ∈ l) :
  Stp B h m V Hc l ρ d H (adAZ call site dr ρ H op) := by
 obtain ⟨V', hle, hR⟩ := hF.put hg d
 refine ⟨v, H, [], ?_, by simp, rfl, _, hl, V', hle, hR⟩
 unfold adAZ
 rw [hW, he]
 rfl
theorem aiOZ {call : Nat -> List AV -> List AObj -> Out} {site : Option Nat} {dr : Bool} {op : AOp} (hW : isW site dr op = false) (hF : RF B h m V Hc F ρ H) {r : Option (ST × XV)} {l : List FSt} (hl : put1 F d r = some l)
  (hs : ∀ T' x, r = some (T', x) -> ∃ v, evRF H ρ op = some v /\ Got B V T' x v) : Stp B h m V Hc l ρ d H (adAZ call site dr ρ H op) := by
 unfold put1 at hl
 split at hl
 ·rename_i T' x
  cases hl
  obtain ⟨v, h1, h2⟩ := hs T' x rfl
  exact .R hW hF h1 h2 (by simp)
 ·cases hl
theorem azGZ {T : ST} (hT : T.Ok B V) {id : Nat} {li : LI} {rows : List (List AV)} (hl : T.lst.get (aaLZ id) = some li) (hd : V.δ[id]? = some rows) :
  ∃ n, V.γ[li.s]? = some n /\ (rows.length : Int) = n + li.c /\ T.lo li.s <= n /\ n <= T.hi li.s := by
 obtain ⟨_,⟨n, h1, h2⟩, _⟩ := abVZ hT hl hd
 exact ⟨n, h1, h2, hT.rng _ _ h1⟩
theorem alAZ (hF : RF B h m V Hc F ρ H) : ∀ (ps : List (Nat × Nat × AOpd)) {xs : List XV} {vs : List AV} {ys : List XV}, relL V B xs vs -> asOZ F xs ps = some ys -> ∃ ws, acAZ ρ vs ps = some ws /\ relL V B ys ws
 | [], xs, vs, ys, h1, he => by cases he; exact ⟨vs, rfl, h1⟩
 | (off, size, x) :: r, xs, vs, ys, h1, he => by
  unfold asOZ at he
  dsimp only at he
  split at he
  ·rename_i hc
   simp only [Bool.and_eq_true, aiNZ, Nat.ble_eq] at hc
   obtain ⟨c1, c2⟩ := ajwZ hc.2 (hF.opd x)
   obtain ⟨ws, w1, w2⟩ := alAZ hF r (anrZ (off := off) h1 c1) he
   refine ⟨ws, ?_, w2⟩
   unfold acAZ
   dsimp only
   rw [if_pos ⟨by rw [aaTZ c1]; exact hc.1.1, by rw [aaTZ h1]; exact hc.1.2, c2⟩]
   exact w1
  ·cases he
theorem alBZ : ∀ {ps : List (Nat × AOpd)} {n r : Nat}, aeVZ n ps = some r -> r = n + ps.length
 | [], n, r, h => by cases h; rfl
 | (i, x) :: ps, n, r, h => by
  unfold aeVZ at h
  split at h
  ·have := alBZ h; simp; omega
  ·cases h
def abGZ (ρ : SEnv) (p : Nat × AOpd) : List AV := (p.2.at ρ).strip.cells
theorem alCZ (hF : RF B h m V Hc F ρ H) {k : Nat} {alts : List (List SH)} : ∀ {ps : List (Nat × AOpd)}, asPZ F k alts ps = true -> ∀ p ∈ ps,
  (abGZ ρ p).length = k /\ (abGZ ρ p).all AV.still = true /\ acnZ (abGZ ρ p) = true /\ aaKZ alts (abGZ ρ p) /\ (∀ H, fix H (p.2.at ρ) = some ((p.2.at ρ).strip, H, []))
 | [], _, p, hp => by cases hp
 | (i, x) :: r, hc, p, hp => by
  unfold asPZ at hc
  split at hc
  ·rename_i T1 vs hs
   simp only [Bool.and_eq_true, aiNZ] at hc
   rcases List.mem_cons.1 hp with rfl | hp
   ·obtain ⟨q1, q2, q3, q4, V', l1, hT1, r1⟩ := ahDZ hF.T (hF.opd x) hs
    exact ⟨by rw [<- hc.1.1, <- aaTZ r1]; rfl, q2, q3, ankZ _ _ _ hc.1.2 (aftZ hT1 _ _ r1), q4⟩
   ·exact alCZ hF hc.2 p hp
  ·cases hc
theorem anuZ {l : List AV} (h : l.all AV.still = true) : l.all AV.cellOk = true := by
 rw [List.all_eq_true] at h ⊢
 intro v hv
 have := h v hv
 cases v <;> first | rfl | (simp [AV.still] at this; done)
theorem avVZ {α : Type} {done : List α} {x z : α} {r : Nat} : (done ++ List.replicate (r + 1) z).set done.length x = (done ++ [x]) ++ List.replicate r z := by
 rw [List.set_append_right _ _ (Nat.le_refl _), Nat.sub_self, List.replicate_succ, List.set_cons_zero, List.append_assoc]; rfl
section
variable {k : Nat} {zs : List AV}
theorem anvZ : ∀ {ps : List (Nat × AOpd)} {done : List (List AV)} {n : Nat}, aeVZ done.length ps = some n -> (∀ p ∈ ps, (abGZ ρ p).length = k /\ (abGZ ρ p).all AV.still = true) ->
  acSZ ρ k (done ++ List.replicate ps.length zs) ps = some (done ++ ps.map (abGZ ρ)) /\ achZ ρ k (done ++ List.replicate ps.length zs) ps = some (done ++ ps.map (abGZ ρ))
 | [], done, n, _, _ => by simp [acSZ, achZ]
 | (i, x) :: r, done, n, hp, ha => by
  unfold aeVZ at hp
  split at hp
  ·rename_i e
   rw [Nat.beq_eq] at e
   subst e
   obtain ⟨h1, h2⟩ := ha (done.length, x) (by simp)
   have hlen : done.length < (done ++ List.replicate (r.length + 1) zs).length := by simp
   have ih := anvZ (ps := r) (done := done ++ [abGZ ρ (done.length, x)]) (by simpa using hp) fun p hp => ha p (by simp [hp])
   rw [List.length_cons, List.map_cons]
   unfold acSZ achZ
   dsimp only
   rw [if_pos ⟨h1, hlen, h2⟩, if_pos ⟨h1, hlen, anuZ h2⟩, avVZ]
   rw [show done ++ abGZ ρ (done.length, x) :: r.map (abGZ ρ) = done ++ [abGZ ρ (done.length, x)] ++ r.map (abGZ ρ) by simp]
   exact ih
  ·cases hp
theorem ajeZ : ∀ {ps : List (Nat × AOpd)} {done : List (List AV)} {n : Nat}, aeVZ done.length ps = some n -> (∀ p ∈ ps, (abGZ ρ p).length = k /\ (abGZ ρ p).all AV.still = true /\ ∀ H, fix H (p.2.at ρ) = some ((p.2.at ρ).strip, H, [])) ->
  aefZ ρ k H (done ++ List.replicate ps.length zs) ps = some (done ++ ps.map (abGZ ρ), H, [])
 | [], done, n, _, _ => by simp [aefZ]
 | (i, x) :: r, done, n, hp, ha => by
  unfold aeVZ at hp
  split at hp
  ·rename_i e
   rw [Nat.beq_eq] at e
   subst e
   obtain ⟨h1, h2, h3⟩ := ha (done.length, x) (by simp)
   have hlen : done.length < (done ++ List.replicate (r.length + 1) zs).length := by simp
   have ih := ajeZ (ps := r) (done := done ++ [abGZ ρ (done.length, x)]) (by simpa using hp) fun p hp => ha p (by simp [hp])
   rw [List.length_cons, List.map_cons]
   unfold aefZ
   rw [h3 H]
   dsimp only
   rw [if_pos ⟨h1, hlen, h2⟩]
   rw [show (x.at ρ).strip.cells = abGZ ρ (done.length, x) from rfl, avVZ]
   rw [ih]
   simp
  ·cases hp
end
theorem alDZ (hF : RF B h m V Hc F ρ H) {x : XV} {v : AV} {T' : ST} {id : Nat} (hx : x.rel V B v) (he : asQZ F x = some (T', id)) :
  ∃ V' rows, V.Le V' /\ T'.Ok B V' /\ V'.δ[id]? = some rows /\ aeOZ H v = some rows /\ adkZ H v = some rows := by
 unfold asQZ at he
 split at he
 ·cases he
  unfold XV.rel at hx
  obtain ⟨f, rows, h1, rfl⟩ := hx
  exact ⟨V, rows, .refl, hF.T, h1, rfl, rfl⟩
 ·cases he
  unfold XV.rel at hx
  obtain ⟨rows, h1, rfl⟩ := hx
  exact ⟨V, rows, .refl, hF.T, h1, rfl, rfl⟩
 ·split at he
  ·rename_i w hw
   cases he
   unfold XV.rel at hx
   obtain ⟨e, rows, h1, h2, h3⟩ := hx
   obtain ⟨m1, m2, m3⟩ := akUZ hw
   obtain ⟨⟨e', rows', g1, g2, g3⟩, _⟩ := hF.vecs w m1
   rw [m2, h1] at g1
   rw [m3, h2] at g2
   cases g1
   cases g2
   cases e with
   | none =>
    simp only [gsv] at h3
    subst h3
    exact ⟨V, rows, .refl, hF.T, h2, rfl, rfl⟩
   | some p =>
    obtain ⟨o, n⟩ := p
    simp only [gsv] at h3
    subst h3
    have hr : aeOZ H (.sr (B + o) n rows.length) = some rows := by
     simp only [aeOZ, (g3 o n rfl).2, and_self, if_true]
    exact ⟨V, rows, .refl, hF.T, h2, hr, hr⟩
  ·cases he
 ·cases he
  unfold XV.rel at hx
  subst hx
  obtain ⟨V', l1, h1, h2⟩ := Got.nilL hF.T
  exact ⟨V', [], l1, h1, h2, rfl, rfl⟩
 ·cases he
theorem alEZ : ∀ {l : List Memo} {id s : Nat} {c : Int} {row : List XV}, alZZ l id s c = some row -> ∃ mm ∈ l, mm.id = id /\ mm.s = s /\ mm.c = c /\ mm.row = row
 | [], _, _, _, _, h => by cases h
 | a :: r, id, s, c, row, h => by
  unfold alZZ at h
  split at h
  ·rename_i e
   simp only [Bool.and_eq_true, Nat.beq_eq, ahrZ] at e
   cases h
   exact ⟨a, by simp, e.1.1, e.1.2, e.2, rfl⟩
  ·obtain ⟨mm, h1, h2⟩ := alEZ h
   exact ⟨mm, by simp [h1], h2⟩
theorem anwZ {T : ST} (hT : T.Ok B V) {id s : Nat} {c n : Int} {rows : List (List AV)} {row : List AV} (hd : V.δ[id]? = some rows) (hs : V.γ[s]? = some n) (h0 : 0 <= n + c) (hr : rows[(n + c).toNat]? = some row) :
  ∀ {alts : List (List SH)}, aaKZ alts row -> ∃ p ∈ axjZ T id s c alts, Got B V p.1 p.2 (.ep row 0)
 | [], ha => by unfold aaKZ at ha; exact ha.elim
 | a :: r, ha => by
  unfold aaKZ at ha
  unfold axjZ
  rcases ha with ha | ha
  ·obtain ⟨V', l1, h1, h2⟩ := aeJZ a row ha hT
   refine ⟨_, List.mem_cons_self, V', l1, ?_, ?_⟩
   ·have hm : ∀ mm ∈ (⟨id, s, c, (akPZ a T).2⟩ : Memo) :: (akPZ a T).1.memo, ∃ rows n row, V'.δ[mm.id]? = some rows /\ V'.γ[mm.s]? = some n /\ 0 <= n + mm.c /\ rows[(n + mm.c).toNat]? = some row /\ relL V' B mm.row row := by
     intro mm hmm
     rcases List.mem_cons.1 hmm with rfl | hmm
     ·exact ⟨rows, n, row, l1.d _ _ hd, l1.g _ _ hs, h0, hr, h2⟩
     ·exact h1.memo mm hmm
    exact { h1 with memo := hm }
   ·unfold XV.rel
    exact ⟨row, rfl, h2⟩
  ·obtain ⟨p, h1, h2⟩ := anwZ hT hd hs h0 hr ha
   exact ⟨p, List.mem_cons_of_mem _ h1, h2⟩
theorem akjZ {x : XV} {v : AV} {id : Nat} (hx : x.rel V B v) (he : appZ x = some id) : ∃ f rows, V.δ[id]? = some rows /\ v = .sl f rows := by
 unfold appZ at he
 split at he
 ·cases he; unfold XV.rel at hx; exact hx
 ·cases he; unfold XV.rel at hx; obtain ⟨rows, h1, h2⟩ := hx; exact ⟨true, rows, h1, h2⟩
 ·cases he
theorem aufZ {T : ST} (hT : T.Ok B V) {x i : XV} {v w : AV} {k : Nat} {l : List (ST × XV)} (hx : x.rel V B v) (hi : i.rel V B w) (he : idxX T x i k = some l) :
  ∃ f rows kd n row, v = .sl f rows /\ w = .int kd n /\ 0 <= n /\ rows[n.toNat]? = some row /\ row.length = k /\ ∃ p ∈ l, Got B V p.1 p.2 (.ep row 0) := by
 unfold idxX at he
 split at he
 rotate_left
 ·cases he
 rename_i id kd s c hid
 obtain ⟨f, rows, h1, rfl⟩ := akjZ hx hid
 unfold XV.rel at hi
 obtain ⟨n, h2, rfl⟩ := hi
 split at he
 ·rename_i row hm
  split at he
  ·rename_i hk
   rw [aiNZ] at hk
   cases he
   obtain ⟨mm, m1, rfl, rfl, rfl, rfl⟩ := alEZ hm
   obtain ⟨rows', n', row', g1, g2, g3, g4, g5⟩ := hT.memo mm m1
   rw [h1] at g1
   rw [h2] at g2
   cases g1
   cases g2
   exact ⟨f, rows, kd, _, row', rfl, rfl, g3, g4, by rw [aaTZ g5]; exact hk, (T, .ep mm.row 0), by simp, .same hT (by unfold XV.rel; exact ⟨row', rfl, g5⟩)⟩
  ·cases he
 ·split at he
  ·rename_i li hl
   split at he
   ·rename_i hc
    simp only [Bool.and_eq_true] at hc
    cases he
    obtain ⟨_,⟨q, q1, q2⟩, q3⟩ := abVZ hT hl h1
    have k1 := aaEZ hT qf hc.1.1 hT.zero h2
    have k2 := aaEZ hT qf hc.1.2 h2 q1
    have hlt : (n + c).toNat < rows.length := by omega
    have hg : rows[(n + c).toNat]? = some rows[(n + c).toNat] := List.getElem?_eq_getElem hlt
    have ha := q3 _ (List.getElem_mem hlt)
    obtain ⟨p, p1, p2⟩ := anwZ hT h1 h2 (by omega) hg ha
    exact ⟨f, rows, kd, _, _, rfl, rfl, by omega, hg, adHZ hc.2 ha, p, p1, p2⟩
   ·cases he
  ·cases he
theorem apuZ : ∀ {l : List (ST × XV)} {p : ST × XV}, p ∈ l -> F.put d p.1 p.2 ∈ puts F d l
 | [], _, h => by cases h
 | (T, x) :: r, p, h => by
  unfold puts
  rcases List.mem_cons.1 h with rfl | h
  ·simp
  ·exact List.mem_cons_of_mem _ (apuZ h)
theorem aoFZ {T : ST} (hT : T.Ok B V) {ds : Nat} {dc : Int} {o : Option XV} {w : Option AV} {s : Nat} {c : Int} (hw : match o, w with | none, none => True | some x, some v => x.rel V B v | _, _ => False) (he : bndX ds dc o = some (s, c)) :
  (o = none /\ w = none /\ s = ds /\ c = dc) ∨ ∃ kd n, V.γ[s]? = some n /\ w = some (.int kd (n + c)) := by
 unfold bndX at he
 split at he
 ·cases he
  cases w with
  | none => exact .inl ⟨rfl, rfl, rfl, rfl⟩
  | some v => exact hw.elim
 ·cases he
  cases w with
  | none => exact hw.elim
  | some v =>
   have hw : XV.rel V B (.num _ s c) v := hw
   unfold XV.rel at hw
   obtain ⟨n, h1, rfl⟩ := hw
   exact .inr ⟨_, n, h1, rfl⟩
 ·cases he
theorem alFZ {T : ST} (hT : T.Ok B V) {ls : Nat} {lc ln : Int} {len : Nat} (hl : V.γ[ls]? = some ln) (hlen : (len : Int) = ln + lc) {lo hi : Option AOpd} (hF : RF B h m V Hc F ρ H) {T' : ST} {s : Nat} {c : Int}
  (he : asNZ T ls lc (lo.map F.opd) (hi.map F.opd) = some (T', s, c)) :
  ∃ l r, acdZ len (lo.map (AOpd.at ρ)) (hi.map (AOpd.at ρ)) none = some (l, r, len) /\ l <= r /\ r <= len /\ ∃ V' n, V.Le V' /\ T'.Ok B V' /\ V'.γ[s]? = some n /\ ((r - l : Nat) : Int) = n + c := by
 have hm : ∀ o : Option AOpd, match o.map F.opd, o.map (AOpd.at ρ) with | none, none => True | some x, some v => x.rel V B v | _, _ => False := fun o => by
  cases o with
  | none => trivial
  | some x => exact hF.opd x
 unfold asNZ at he
 split at he
 rotate_left
 ·cases he
 rename_i s1 c1 s2 c2 e1 e2
 split at he
 rotate_left
 ·cases he
 rename_i hq
 simp only [Bool.and_eq_true] at hq
 have b1 := aoFZ hT (hm lo) e1
 have b2 := aoFZ hT (hm hi) e2
 obtain ⟨x, hx, hx2⟩ : ∃ x, V.γ[s1]? = some x /\ (lo.map (AOpd.at ρ) = none /\ x + c1 = 0 ∨ ∃ kd, lo.map (AOpd.at ρ) = some (.int kd (x + c1))) := by
  rcases b1 with ⟨_, h2, rfl, rfl⟩ | ⟨kd, n, h1, h2⟩
  ·exact ⟨0, hT.zero, .inl ⟨h2, by omega⟩⟩
  ·exact ⟨n, h1, .inr ⟨kd, h2⟩⟩
 obtain ⟨y, hy, hy2⟩ : ∃ y, V.γ[s2]? = some y /\ (hi.map (AOpd.at ρ) = none /\ y + c2 = len ∨ ∃ kd, hi.map (AOpd.at ρ) = some (.int kd (y + c2))) := by
  rcases b2 with ⟨_, h2, rfl, rfl⟩ | ⟨kd, n, h1, h2⟩
  ·exact ⟨ln, hl, .inl ⟨h2, by omega⟩⟩
  ·exact ⟨n, h1, .inr ⟨kd, h2⟩⟩
 have q1 := aaEZ hT qf hq.1.1 hT.zero hx
 have q2 := aaEZ hT qf hq.1.2 hx hy
 have q3 := aaEZ hT qf hq.2 hy hl
 have hb : acdZ len (lo.map (AOpd.at ρ)) (hi.map (AOpd.at ρ)) none = some ((x + c1).toNat, (y + c2).toNat, len) := by
  have g1 : adPZ len len (hi.map (AOpd.at ρ)) = some (y + c2).toNat := by
   rcases hy2 with ⟨e, e'⟩ | ⟨kd, e⟩
   ·rw [e]; simp only [adPZ]; rw [e']; simp
   ·rw [e]; simp only [adPZ]; rw [if_pos ⟨by omega, by omega⟩]
  have g2 : adPZ 0 (y + c2).toNat (lo.map (AOpd.at ρ)) = some (x + c1).toNat := by
   rcases hx2 with ⟨e, e'⟩ | ⟨kd, e⟩
   ·rw [e]; simp only [adPZ]; rw [e']; simp
   ·rw [e]; simp only [adPZ]; rw [if_pos ⟨by omega, by omega⟩]
  unfold acdZ
  simp only [adPZ] at g1 g2 ⊢
  simp only [g1, g2]
 refine ⟨_, _, hb, by omega, by omega, ?_⟩
 have he' : azzZ T s1 c1 s2 c2 = (T', s, c) := by injection he
 unfold azzZ at he'
 split at he'
 ·rename_i e
  rw [Nat.beq_eq] at e
  subst e
  rw [hx] at hy
  cases hy
  cases he'
  exact ⟨V, 0, .refl, hT, hT.zero, by omega⟩
 ·split at he'
  ·rename_i e
   rw [Nat.beq_eq] at e
   subst e
   rw [hT.zero] at hx
   cases hx
   cases he'
   exact ⟨V, y, .refl, hT, hy, by omega⟩
  ·have r1 := hT.rng _ _ hx
   have r2 := hT.rng _ _ hy
   cases he'
   refine ⟨V.pg (y + c2 - (x + c1)), _, Va.le_pg, hT.fresh (arRZ (by omega) (by omega)) (by omega), hT.new_s _, by omega⟩
end
end Go.AM
end
section
namespace Go.AM
open Go
section
variable {B h m : Nat} {V V' : Va} {Hc : List AObj} {F : FSt} {ρ : SEnv} {H : List AObj} {d : Option Nat}
theorem RF.grow (hF : RF B h m V Hc F ρ H) (hle : V.Le V') {T' : ST} (hT : T'.Ok B V') {site : Nat} (hs : h <= site) {os : List Nat} (hos : ∀ o ∈ os, h <= o) {H' : List AObj} {v : AV} {e : Option (Nat × Nat)} {rows : List (List AV)} {k s id : Nat}
  (h1 : V'.ε[s]? = some e) (h2 : V'.δ[id]? = some rows) (hv : gsv B e rows v) (hobj : ∀ o n, e = some (o, n) -> o ∈ os /\ H'[B + o]? = some (.vec n k rows))
  (hH : H' = H ∨ ∃ o obj, o ∈ os /\ o < m /\ H' = H.set (B + o) obj /\ (o = site ∨ ∃ n k r, H[B + o]? = some (.vec n k r))) :
  RF B h m V' Hc (F.putH d T' (.gs s id) (hset .any F.heap site) (⟨s, id, k, os⟩ :: aerZ os F.vecs)) (updO ρ d v) H' := by
 have hx : XV.rel V' B (.gs s id) v := by unfold XV.rel; exact ⟨e, rows, h1, h2, hv⟩
 have hlen : H'.length = H.length := by
  rcases hH with rfl | ⟨o, obj, _, _, rfl, _⟩
  ·rfl
  ·rw [List.length_set]
 have hget' : ∀ (o : Nat) (x : AObj), H'[B + o]? = some x -> (hget (hset .any F.heap site) o).rel V' B x := by
  intro o x hx
  rw [airZ]
  split
  ·trivial
  ·rename_i hne
   rcases hH with rfl | ⟨o2, obj, g1, g2, rfl, g3⟩
   ·exact XO.rel_mono hle (hF.heap o x hx)
   ·by_cases e2 : o = o2
    ·subst e2
     rcases g3 with rfl | ⟨n, k, r, g3⟩
     ·exact absurd ⟨rfl, by rw [hF.hl]; exact g2⟩ hne
     ·have hr := hF.heap o _ g3
      cases hg : hget F.heap o with
      | any => trivial
      | box s c =>
       rw [hg] at hr
       obtain ⟨_, _, _, _, hr, _⟩ := hr
       cases hr
    ·rw [List.getElem?_set_ne (by omega)] at hx
     exact XO.rel_mono hle (hF.heap o x hx)
 have hcut : H'.take (B + h) = Hc := by
  rcases hH with rfl | ⟨o2, obj, g1, g2, rfl, g3⟩
  ·exact hF.cut
  ·have := hos o2 g1
   rw [List.take_set_of_le (by omega)]; exact hF.cut
 have hvecs : ∀ w ∈ (⟨s, id, k, os⟩ : VF) :: aerZ os F.vecs, w.ok V' B H' /\ ∀ o ∈ w.os, h <= o := by
  intro w hw
  rcases List.mem_cons.1 hw with rfl | hw
  ·exact ⟨⟨e, rows, h1, h2, hobj⟩, hos⟩
  ·rcases hH with rfl | ⟨o2, obj, g1, g2, rfl, g3⟩
   ·obtain ⟨w1, _⟩ := afvZ hw
    exact ⟨VF.ok_mono hle (hF.vecs w w1).1, (hF.vecs w w1).2⟩
   ·exact hF.apart hle g1 obj w hw
 have hlow : ∀ o, o < h -> hget (hset .any F.heap site) o = .any := fun o ho => by
  rw [airZ, if_neg (by omega)]; exact hF.low o ho
 have key : ∀ env : XT XV, (∀ t x, env.get (aaLZ t) = some x -> x.rel V' B (updO ρ d v t)) -> RF B h m V' Hc ⟨T', env, hset .any F.heap site,⟨s, id, k, os⟩ :: aerZ os F.vecs, F.h⟩ (updO ρ d v) H' := fun env he =>
  ⟨hT, he, by rw [hlen]; exact hF.len, by rw [ajvZ]; exact hF.hl, hget', hlow, hvecs, hcut, hF.fh⟩
 cases d with
 | none => exact key _ fun t x e => XV.rel_mono hle _ _ (hF.env t x e)
 | some d => exact key _ (aptZ (fun t x e => XV.rel_mono hle _ _ (hF.env t x e)) hx)
theorem akkZ {k : Nat} {rows : List (List AV)} (h : ∀ row ∈ rows, row.length = k) : abkZ k rows = true := by
 cases rows with
 | nil => rfl
 | cons a r => simp [abkZ, h a (by simp)]
theorem aqUZ {n bytes : Nat} {hi : Int} (h1 : (n : Int) <= hi) (h2 : hi * ((bytes + 1 : Nat) : Int) <= 1099511627776) : abNZ n bytes = true := by
 unfold abNZ
 rw [decide_eq_true_eq]
 have h3 : (n : Int) * ((bytes + 1 : Nat) : Int) <= hi * ((bytes + 1 : Nat) : Int) := Int.mul_le_mul_of_nonneg_right h1 (by omega)
 have h4 : ((n * (bytes + 1) : Nat) : Int) = (n : Int) * ((bytes + 1 : Nat) : Int) := by simp
 omega
structure AppOut (B h m site : Nat) (H : List AObj) (os : List Nat) (k : Nat) (rows : List (List AV)) (v : AV) (H' : List AObj) (w : List Nat) (e : Option (Nat × Nat)) : Prop where
 val : gsv B e rows v
 obj : ∀ o n, e = some (o, n) -> o ∈ os /\ H'[B + o]? = some (.vec n k rows)
 chg : H' = H ∨ ∃ o obj, o ∈ os /\ o < m /\ H' = H.set (B + o) obj /\ (o = site ∨ ∃ n k r, H[B + o]? = some (.vec n k r))
 wr : ∀ a ∈ w, B + h <= a
theorem anxZ {site k bytes : Nat} {rows R : List (List AV)} {xv : AV} {os : List Nat} (hlen : H.length = B + m) (hs : h <= site) (hm : site < m) (hos : site ∈ os) (hx : adkZ H xv = some R) (h1 : ∀ row ∈ rows, row.length = k) (h2 : ∀ row ∈ R, row.length = k)
  (hr : abNZ (rows.length + R.length) bytes = true) : ∃ v H' w e, ahEZ H (some (B + site)) k bytes (.sl true rows) xv = some (v, H', w) /\ AppOut B h m site H os k (rows ++ R) v H' w e := by
 cases hR : R with
 | nil =>
  subst hR
  refine ⟨.sl true rows, H, [], none, ?_,⟨by simp [gsv], by simp, .inl rfl, by simp⟩⟩
  rw [aspZ, hx]
  simp [abkZ]
 | cons a r =>
  rw [<- hR]
  have hid : B + site < H.length := by omega
  refine ⟨.sr (B + site) (aaDZ H (B + site)) (rows.length + R.length), make H (B + site) (.vec · k (rows ++ R)), [B + site], some (site, aaDZ H (B + site)), ?_,⟨by simp [gsv], fun o n e => ?_, .inr ⟨site, _, hos, hm, rfl, .inl rfl⟩, by simp; omega⟩⟩
  ·rw [aspZ, hx]
   have he : R.isEmpty = false := by rw [hR]; rfl
   simp only [akkZ h2, akkZ h1, he, hr, BT, Bool.false_eq_true, if_false, Bool.and_true, if_true, if_pos hid]
  ·cases e
   refine ⟨hos, ?_⟩
   unfold make
   rw [List.getElem?_set_self hid]
   rfl
theorem avWZ {site k bytes o n : Nat} {rows R : List (List AV)} {xv : AV} {os : List Nat} {st : Option Nat} (hlen : H.length = B + m) (ho : h <= o) (hm : o < m) (hos : o ∈ os) (hx : adkZ H xv = some R) (hH : H[B + o]? = some (.vec n k rows)) (h2 : ∀ row ∈ R, row.length = k)
  (hr : abNZ (rows.length + R.length) bytes = true) : ∃ v H' w e, ahEZ H st k bytes (.sr (B + o) n rows.length) xv = some (v, H', w) /\ AppOut B h m site H os k (rows ++ R) v H' w e := by
 cases hR : R with
 | nil =>
  subst hR
  refine ⟨.sr (B + o) n rows.length, H, [], some (o, n), ?_,⟨by simp [gsv], fun o2 n2 e => ?_, .inl rfl, by simp⟩⟩
  ·rw [asqZ, hx]
   have hr' : abNZ rows.length bytes = true := by simpa using hr
   simp [abkZ, hH, hr']
  ·cases e
   rw [List.append_nil]
   exact ⟨hos, hH⟩
 | cons a r =>
  rw [<- hR]
  have hid : B + o < H.length := by omega
  refine ⟨.sr (B + o) n (rows.length + R.length), H.set (B + o) (.vec n k (rows ++ R)), [B + o], some (o, n), ?_,⟨by simp [gsv], fun o2 n2 e => ?_, .inr ⟨o, _, hos, hm, rfl, .inr ⟨n, k, rows, hH⟩⟩, by simp; omega⟩⟩
  ·rw [asqZ, hx]
   have he : R.isEmpty = false := by rw [hR]; rfl
   simp only [akkZ h2, he, hH, hr, BT, Bool.false_eq_true, if_false, and_self, if_true]
  ·cases e
   exact ⟨hos, by rw [List.getElem?_set_self hid]⟩
theorem ajyZ (hF : RF B h m V Hc F ρ H) {T : ST} {V1 : Va} (hle : V.Le V1) (hT : T.Ok B V1) {site : Nat} (hs : h <= site) {os : List Nat} (hos : ∀ o ∈ os, h <= o) {k bytes id id' : Nat} {li li' : LI} {rows R : List (List AV)} {l : List FSt} {F0 : FSt}
  (hF0 : F = F0) (hl : T.lst.get (aaLZ id) = some li) (hd : V1.δ[id]? = some R) (hl' : T.lst.get (aaLZ id') = some li') (hd' : V1.δ[id']? = some rows) (ha : ahpZ k li.alts = true)
  (he : axmZ { F0 with heap := hset .any F0.heap site } T d os k bytes li li' = some l) {sv xv : AV}
  (hev : (∀ row ∈ rows, row.length = k) -> (∀ row ∈ R, row.length = k) -> abNZ (rows.length + R.length) bytes = true -> ∃ v H' w e, ahEZ H (some (B + site)) k bytes sv xv = some (v, H', w) /\ AppOut B h m site H os k (rows ++ R) v H' w e) :
  ∃ v H' w, ahEZ H (some (B + site)) k bytes sv xv = some (v, H', w) /\ (∀ o ∈ w, B + h <= o) /\ H'.length = H.length /\ ∃ F' ∈ l, ∃ V', V.Le V' /\ RF B h m V' Hc F' (updO ρ d v) H' := by
 subst hF0
 unfold axmZ at he
 split at he
 ·cases he
 rename_i hc
 rw [Bool.and_eq_true, absZ] at hc
 dsimp only at he
 split at he
 ·cases he
 rename_i hal
 rw [Bool.and_eq_true] at hal
 obtain ⟨d1,⟨x, x1, x2⟩, x3⟩ := abVZ hT hl hd
 obtain ⟨d2,⟨y, y1, y2⟩, y3⟩ := abVZ hT hl' hd'
 have rx := hT.rng _ _ x1
 have ry := hT.rng _ _ y1
 obtain ⟨v, H', w, e, g1, g2⟩ := hev (fun row hr => adHZ hc.2 (y3 row hr)) (fun row hr => adHZ ha (x3 row hr)) (aqUZ (by push_cast; omega) hc.1)
 refine ⟨v, H', w, g1, g2.wr, by rcases g2.chg with rfl | ⟨o, obj, _, _, rfl, _⟩ <;> simp, ?_⟩
 have hlen : ((rows ++ R).length : Int) = rows.length + R.length := by simp
 have hdat : abHZ (rows ++ R) = true := by
  have : ∀ {a b : List (List AV)}, abHZ a = true -> abHZ b = true -> abHZ (a ++ b) = true := by
   intro a b
   induction a with
   | nil => intro _ h; exact h
   | cons c r ih => intro h1 h2; simp only [List.cons_append, abHZ, Bool.and_eq_true] at h1 ⊢; exact ⟨h1.1, ih h1.2 h2⟩
  exact this d2 d1
 have halt : ∀ row ∈ rows ++ R, aaKZ (ajbZ li.alts li'.alts) row := fun row hr => by
  rcases List.mem_append.1 hr with hr | hr
  ·exact acsZ _ _ _ hal.2 (y3 row hr)
  ·exact acsZ _ _ _ hal.1 (x3 row hr)
 split at he
 ·rename_i hz
  rw [Nat.beq_eq] at hz
  rw [hz, hT.zero] at x1
  cases x1
  cases he
  have hT1 := hT.freshV e
  have hT2 := hT1.freshL (li := ⟨ajbZ li.alts li'.alts, li'.s, li'.c + li.c⟩) (n := y) hdat y1 (by dsimp only; omega) halt
  exact ⟨_, List.mem_singleton.2 rfl, (V1.pe e).pd (rows ++ R), hle.trans (Va.le_pe.trans Va.le_pd),
   hF.grow (hle.trans (Va.le_pe.trans Va.le_pd)) hT2 hs hos (hT.new_v e) (hT1.new_l _) g2.val g2.obj g2.chg⟩
 ·cases he
  have hT0 := hT.fresh (n := (rows.length : Int) + R.length) (lo := T.lo li.s + li.c + (T.lo li'.s + li'.c)) (hi := T.hi li.s + li.c + (T.hi li'.s + li'.c)) (by omega) (by omega)
  have hT1 := (hT0.le (hT.new_s _) (aaRZ y1) (ca := 0) (cb := li'.c + (T.hi li.s + li.c)) (by omega)).freshV e
  have hT2 := hT1.freshL (li := ⟨ajbZ li.alts li'.alts, T.ns, 0⟩) (n := (rows.length : Int) + R.length) hdat (hT.new_s _) (by dsimp only; omega) halt
  exact ⟨_, List.mem_singleton.2 rfl, ((V1.pg _).pe e).pd (rows ++ R), hle.trans (Va.le_pg.trans (Va.le_pe.trans Va.le_pd)),
   hF.grow (hle.trans (Va.le_pg.trans (Va.le_pe.trans Va.le_pd))) hT2 hs hos (hT0.new_v e) (hT1.new_l _) g2.val g2.obj g2.chg⟩
theorem augZ (hF : RF B h m V Hc F ρ H) {site k bytes : Nat} (hs : h <= site) (hm : site < m) {sx xx : XV} {sv xv : AV} (hsx : sx.rel V B sv) (hxx : xx.rel V B xv) {l : List FSt} (he : appX F d site k bytes sx xx = some l) :
  ∃ v H' w, ahEZ H (some (B + site)) k bytes sv xv = some (v, H', w) /\ (∀ o ∈ w, B + h <= o) /\ H'.length = H.length /\ ∃ F' ∈ l, ∃ V', V.Le V' /\ RF B h m V' Hc F' (updO ρ d v) H' := by
 unfold appX at he
 dsimp only at he
 split at he
 ·cases he
 rename_i T id hal
 obtain ⟨V1, R, hle, hT, hd, _, hap⟩ := alDZ hF hxx hal
 split at he
 ·cases he
 rename_i li hl
 split at he
 ·cases he
 rename_i ha
 obtain ⟨d1,⟨x, x1, x2⟩, x3⟩ := abVZ hT hl hd
 have rx := hT.rng _ _ x1
 split at he
 ·
  unfold XV.rel at hsx
  subst hsx
  split at he
  ·rename_i hc
   rw [absZ] at hc
   cases he
   obtain ⟨v, H', w, e, g1, g2⟩ := anxZ (h := h) (rows := []) (os := [site]) (bytes := bytes) (k := k) hF.len hs hm (by simp) hap (by simp) (fun row hr => adHZ ha (x3 row hr)) (aqUZ (by simp; omega) hc)
   refine ⟨v, H', w, g1, g2.wr, by rcases g2.chg with rfl | ⟨o, obj, _, _, rfl, _⟩ <;> simp, _, List.mem_singleton.2 rfl, V1.pe e, hle.trans Va.le_pe, ?_⟩
   exact hF.grow (hle.trans Va.le_pe) (hT.freshV e) hs (by simpa using hs) (hT.new_v e) hd g2.val g2.obj g2.chg
  ·cases he
 ·rename_i id'
  unfold XV.rel at hsx
  obtain ⟨rows, h1, rfl⟩ := hsx
  split at he
  ·rename_i li' hl'
   exact ajyZ hF hle hT hs (by simpa using hs) rfl hl hd hl' (hle.d _ _ h1) ha he fun c1 c2 c3 => anxZ hF.len hs hm (by simp) hap c1 c2 c3
  ·cases he
 ·rename_i s' id'
  unfold XV.rel at hsx
  obtain ⟨e, rows, h1, h2, h3⟩ := hsx
  split at he
  ·rename_i w li' hw hl'
   split at he
   ·rename_i hk
    rw [Nat.beq_eq] at hk
    have hw' : F.vec s' id' = some w := hw
    obtain ⟨m1, m2, m3⟩ := akUZ hw'
    obtain ⟨⟨e', rows', k1, k2, k3⟩, k4⟩ := hF.vecs w m1
    rw [m2, h1] at k1
    rw [m3, h2] at k2
    cases k1
    cases k2
    have hmem : site ∈ alvZ site w.os := by
     unfold alvZ
     split
     ·rename_i hc; exact List.contains_iff_mem.1 hc
     ·simp
    have hmem2 : ∀ o ∈ w.os, o ∈ alvZ site w.os := fun o ho => by
     unfold alvZ
     split
     ·exact ho
     ·exact List.mem_cons_of_mem _ ho
    have hos : ∀ o ∈ alvZ site w.os, h <= o := fun o ho => by
     unfold alvZ at ho
     split at ho
     ·exact k4 o ho
     ·rcases List.mem_cons.1 ho with rfl | ho
      ·exact hs
      ·exact k4 o ho
    cases e with
    | none =>
     simp only [gsv] at h3
     subst h3
     exact ajyZ hF hle hT hs hos rfl hl hd hl' (hle.d _ _ h2) ha he fun c1 c2 c3 => anxZ hF.len hs hm hmem hap c1 c2 c3
    | some p =>
     obtain ⟨o, n⟩ := p
     simp only [gsv] at h3
     subst h3
     obtain ⟨q1, q2⟩ := k3 o n rfl
     rw [hk] at q2
     have hom : o < m := by have := avTZ q2; rw [hF.len] at this; omega
     exact ajyZ hF hle hT hs hos rfl hl hd hl' (hle.d _ _ h2) ha he fun c1 c2 c3 => avWZ hF.len (k4 o q1) hom (hmem2 o q1) hap q2 c2 c3
   ·cases he
  ·cases he
 ·cases he
def aqVZ (A : AProg) (B : Nat) (call : anhZ) : Prop := ∀ (f m : Nat) (xs : List XV) (T : ST) (l : List (ST × XV)) (V : Va) (vs : List AV) (Hc : List AObj), call f m xs T = some l -> T.Ok B V -> relL V B xs vs -> Hc.length = B + m ->
 ∃ v, aapZ A f vs Hc = some (v, Hc, []) /\ ∃ p ∈ l, Got B V p.1 p.2 v
theorem aedZ : ∀ {l : List Nat} {H : List AObj}, (aaOZ H l).length = H.length
 | [], H => rfl
 | o :: r, H => by unfold aaOZ; rw [aedZ, List.length_set]
theorem ajzZ (hF : RF B h m V Hc F ρ H) : ∀ (aa : List AOpd) {T : ST} {V1 : Va} {T' : ST} {ys : List XV} {b : Bool}, V.Le V1 -> T.Ok B V1 -> axnZ F T aa = some (T', ys, b) ->
  ∃ aa' lent, aeYZ H (aa.map (AOpd.at ρ)) = some (aa', lent) /\ (b = false -> lent = []) /\ ∃ V2, V1.Le V2 /\ T'.Ok B V2 /\ relL V2 B ys (aa'.map AV.strip)
 | [], T, V1, T', ys, b, hle, hT, he => by
  cases he
  exact ⟨[], [], rfl, fun _ => rfl, V1, .refl, hT, by unfold relL; rfl⟩
 | a :: r, T, V1, T', ys, b, hle, hT, he => by
  unfold axnZ at he
  split at he
  ·cases he
  rename_i T1 y b1 hy
  split at he
  ·cases he
  rename_i T2 ys2 b2 hys
  cases he
  have ha := hF.opd a
  have one : ∃ a' l1, Go.AM.lend H (a.at ρ) = some (a', l1) /\ (b1 = false -> l1 = []) /\ ∃ V2, V1.Le V2 /\ T1.Ok B V2 /\ y.rel V2 B a'.strip := by
   split at hy
   ·rename_i s id hx
    split at hy
    ·rename_i w hw
     cases hy
     rw [hx] at ha
     unfold XV.rel at ha
     obtain ⟨e, rows, h1, h2, h3⟩ := ha
     obtain ⟨m1, m2, m3⟩ := akUZ hw
     obtain ⟨⟨e', rows', k1, k2, k3⟩, k4⟩ := hF.vecs w m1
     rw [m2, h1] at k1
     rw [m3, h2] at k2
     cases k1
     cases k2
     cases e with
     | none =>
      simp only [gsv] at h3
      rw [h3]
      exact ⟨.sl true rows, [], rfl, fun _ => rfl, V1, .refl, hT, by unfold XV.rel; exact ⟨false, rows, hle.d _ _ h2, rfl⟩⟩
     | some p =>
      obtain ⟨o, n⟩ := p
      simp only [gsv] at h3
      rw [h3]
      have hst := aatZ (hF.T.dat _ _ h2)
      refine ⟨.sl false rows, [B + o], ?_, fun h => absurd h (by decide), V1, .refl, hT, by unfold XV.rel; exact ⟨false, rows, hle.d _ _ h2, rfl⟩⟩
      rw [artZ, apaZ, (k3 o n rfl).2]
      dsimp only
      rw [if_pos ⟨rfl, rfl, hst⟩]
    ·cases hy
   ·rename_i cs hx
    split at hy
    ·rename_i T3 cs' hcs
     cases hy
     rw [hx] at ha
     unfold XV.rel at ha
     obtain ⟨vs, hv, h1⟩ := ha
     obtain ⟨q1, q2, q3, q4, q5, V2, l2, hT2, r2⟩ := aezZ hT (acoZ hle _ _ h1) hcs
     rw [hv]
     refine ⟨.agg vs, [], ?_, fun _ => rfl, V2, l2, hT2, ?_⟩
     ·rw [asoZ, q4 H]
     ·rw [amGZ]; unfold XV.rel; exact ⟨_, rfl, r2⟩
    ·cases hy
   ·split at hy
    ·rename_i T3 y3 hsx
     cases hy
     obtain ⟨p, V2, l2, hT2, r2⟩ := agiZ hT (XV.rel_mono hle _ _ ha) hsx
     obtain ⟨p1, p2, p3, p4, p5, p6, p7, p8, p9⟩ := p H
     refine ⟨a.at ρ, [], ?_, fun _ => rfl, V2, l2, hT2, by rw [p5]; exact r2⟩
     cases hv : a.at ρ <;> rw [hv] at p1 p4 <;> first | exact p1 | (simp [AV.cellOk] at p4; done)
    ·cases hy
  obtain ⟨a', l1, g1, g2, V2, g3, g4, g5⟩ := one
  obtain ⟨aa', lent, k1, k2, V3, k3, k4, k5⟩ := ajzZ hF r (hle.trans g3) g4 hys
  refine ⟨a' :: aa', l1 ++ lent, ?_, fun hb => ?_, V3, g3.trans k3, k4, ?_⟩
  ·rw [List.map_cons]
   unfold aeYZ
   rw [g1, k1]
  ·simp only [Bool.or_eq_false_iff] at hb
   rw [g2 hb.1, k2 hb.2]; rfl
  ·rw [List.map_cons]
   unfold relL
   exact ⟨_, _, rfl, XV.rel_mono k3 _ _ g5, k5⟩
theorem axvZ {T : ST} (hT : T.Ok B V) {split : Bool} {l l2 : List (ST × XV)} (he : azAZ T split l = some l2) {p : ST × XV} (hp : p ∈ l) {v : AV} (hg : Got B V p.1 p.2 v) : ∃ q ∈ l2, Got B V q.1 q.2 v := by
 unfold azAZ at he
 split at he
 ·cases he; exact ⟨p, hp, hg⟩
 ·cases hp
 ·cases he; exact ⟨p, hp, hg⟩
 ·split at he
  ·cases he
  ·rename_i s hs
   split at he
   ·rename_i hc
    cases he
    rw [List.all_eq_true] at hc
    obtain ⟨V1, l1, h1, h2⟩ := hg
    have := agQZ _ _ _ (hc p hp) (aipZ h1 _ _ h2)
    obtain ⟨V2, l2, h3, h4⟩ := aiMZ s v this hT
    exact ⟨_, List.mem_singleton.2 rfl, V2, l2, h3, h4⟩
   ·cases he
theorem anyZ {lent : Bool} : ∀ {l l' : List (ST × XV)}, axoZ lent l = some l' -> ∀ p ∈ l, ∃ y, resX lent p.2 = some y /\ (p.1, y) ∈ l'
 | [], l', h, p, hp => by cases hp
 | (T, x) :: r, l', h, p, hp => by
  unfold axoZ at h
  split at h
  ·rename_i y l2 h1 h2
   cases h
   rcases List.mem_cons.1 hp with rfl | hp
   ·exact ⟨y, h1, by simp⟩
   ·obtain ⟨z, g1, g2⟩ := anyZ h2 p hp
    exact ⟨z, g1, by simp [g2]⟩
  ·cases h
theorem aoGZ {lent : Bool} {x y : XV} {v : AV} {V1 : Va} (hx : x.rel V1 B v) (he : resX lent x = some y) {H2 : List AObj} {q : Bool} (hq : lent = false -> q = true) (hH : H2.length = H.length) (hq2 : q = true -> H2 = H) :
  ∃ v', aaYZ none q H (some (v, H2, [])) = some (v', H, []) /\ y.rel V1 B v' := by
 unfold resX at he
 split at he
 ·split at he
  ·rename_i ha
   cases he
   have hat : v.atomic = true /\ (∀ k rows, v ≠ .own k rows) := by
    cases x <;> first | (simp [avIZ] at ha; done) | skip
    ·unfold XV.rel at hx; subst hx; exact ⟨rfl, fun _ _ h => by cases h⟩
    ·unfold XV.rel at hx; obtain ⟨b, rfl, _⟩ := hx; exact ⟨rfl, fun _ _ h => by cases h⟩
    ·unfold XV.rel at hx; obtain ⟨n, _, rfl⟩ := hx; exact ⟨rfl, fun _ _ h => by cases h⟩
    ·unfold XV.rel at hx; obtain ⟨s, n, rfl, _⟩ := hx; exact ⟨rfl, fun _ _ h => by cases h⟩
   refine ⟨v, ?_, hx⟩
   unfold aaYZ
   cases q with
   | true =>
    rw [hq2 rfl]
    cases v <;> first | rfl | exact absurd rfl (hat.2 _ _)
   | false =>
    simp [hH, hat.1]
  ·cases he
 ·have hq' := hq rfl
  subst hq'
  rw [hq2 rfl]
  unfold aaYZ
  simp only [if_true]
  split at he
  ·cases he
   unfold XV.rel at hx
   obtain ⟨rows, h1, h2⟩ := hx
   rcases h2 with rfl | ⟨k, rfl⟩
   ·exact ⟨_, rfl, by unfold XV.rel; exact ⟨false, rows, h1, rfl⟩⟩
   ·exact ⟨_, rfl, by unfold XV.rel; exact ⟨false, rows, h1, rfl⟩⟩
  all_goals first
   | cases he; done
   | (
    cases he
    have hx' := hx
    unfold XV.rel at hx
    first
     | (subst hx; exact ⟨_, rfl, hx'⟩)
     | (obtain ⟨b, rfl, _⟩ := hx; exact ⟨_, rfl, hx'⟩)
     | (obtain ⟨n, _, rfl⟩ := hx; exact ⟨_, rfl, hx'⟩)
     | (obtain ⟨s, n, rfl, _⟩ := hx; exact ⟨_, rfl, hx'⟩)
     | (obtain ⟨f, rows, _, rfl⟩ := hx; exact ⟨_, rfl, hx'⟩))
end
end Go.AM
end
