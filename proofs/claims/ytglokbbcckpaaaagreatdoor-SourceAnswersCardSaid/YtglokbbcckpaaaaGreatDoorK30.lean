/- Part 30 of the proof that stands in the last text of this folder (lemmas; no statement of its own). -/
import Derived.Test.YtglokbbcckpaaaaGreatDoorK13
import Derived.Test.YtglokbbcckpaaaaGreatDoorK29
set_option linter.unusedVariables false
set_option linter.unusedSimpArgs false
section
namespace Go.AM
open Go
mutual
theorem aiMZ {B : Nat} : ∀ (s : SH) (v : AV) {T : ST} {V : Va}, s.has v -> T.Ok B V -> ∃ V', V.Le V' /\ (inst s T).1.Ok B V' /\ (inst s T).2.rel V' B v
 | .any, v, T, V, h, hT => ⟨V, .refl, hT, by simp [inst, XV.rel]⟩
 | .bool, v, T, V, h, hT => by
  unfold SH.has at h
  obtain ⟨b, rfl⟩ := h
  exact ⟨V, .refl, hT, by simp [inst, XV.rel, Cd.ok]⟩
 | .num k lo hi, v, T, V, h, hT => by
  unfold SH.has at h
  obtain ⟨n, rfl, h1, h2⟩ := h
  cases hc : ieq lo hi with
  | true =>
   have he := ahrZ.1 hc
   refine ⟨V, .refl, ?_, ?_⟩
   ·simp only [inst, hc]; exact hT
   ·simp only [inst, hc]
    unfold XV.rel
    exact ⟨0, hT.zero, by rw [show n = 0 + lo by omega]⟩
  | false =>
   refine ⟨V.pg n, Va.le_pg, ?_, ?_⟩
   ·simp only [inst, hc]; exact hT.fresh h1 h2
   ·simp only [inst, hc]
    unfold XV.rel
    exact ⟨n, hT.new_s n, by rw [Int.add_zero]⟩
 | .txt hi, v, T, V, h, hT => by
  unfold SH.has at h
  obtain ⟨s, rfl, h1⟩ := h
  refine ⟨V.pg s.length, Va.le_pg, hT.fresh (by omega) h1, ?_⟩
  simp only [inst]
  unfold XV.rel
  exact ⟨s, s.length, rfl, hT.new_s _, by omega⟩
 | .sl alts lo hi, v, T, V, h, hT => by
  unfold SH.has at h
  obtain ⟨f, rows, rfl, h1, h2, h3, h4⟩ := h
  cases hc : ieq lo hi with
  | true =>
   have he := ahrZ.1 hc
   refine ⟨V.pd rows, Va.le_pd, ?_, ?_⟩
   ·simp only [inst, hc]
    exact hT.freshL (n := 0) h1 hT.zero (by dsimp only; omega) h4
   ·simp only [inst, hc]
    unfold XV.rel
    exact ⟨f, rows, hT.new_l _, rfl⟩
  | false =>
   have hT1 := hT.fresh h2 h3
   refine ⟨(V.pg rows.length).pd rows, Va.le_pg.trans Va.le_pd, ?_, ?_⟩
   ·simp only [inst, hc]
    exact hT1.freshL (n := rows.length) h1 (hT.new_s _) (by dsimp only; omega) h4
   ·simp only [inst, hc]
    unfold XV.rel
    exact ⟨f, rows, hT1.new_l _, rfl⟩
 | .agg cs, v, T, V, h, hT => by
  unfold SH.has at h
  obtain ⟨vs, rfl, h1⟩ := h
  obtain ⟨V', h2, h3, h4⟩ := aeJZ cs vs h1 hT
  refine ⟨V', h2, ?_, ?_⟩
  ·simp only [inst]; exact h3
  ·simp only [inst]; unfold XV.rel; exact ⟨vs, rfl, h4⟩
 | .tup cs, v, T, V, h, hT => by
  unfold SH.has at h
  obtain ⟨vs, rfl, h1⟩ := h
  obtain ⟨V', h2, h3, h4⟩ := aeJZ cs vs h1 hT
  refine ⟨V', h2, ?_, ?_⟩
  ·simp only [inst]; exact h3
  ·simp only [inst]; unfold XV.rel; exact ⟨vs, rfl, h4⟩
theorem aeJZ {B : Nat} : ∀ (s : List SH) (v : List AV) {T : ST} {V : Va}, hasL s v -> T.Ok B V -> ∃ V', V.Le V' /\ (akPZ s T).1.Ok B V' /\ relL V' B (akPZ s T).2 v
 | [], v, T, V, h, hT => ⟨V, .refl, hT, by unfold hasL at h; simp only [akPZ]; unfold relL; exact h⟩
 | s :: r, v, T, V, h, hT => by
  unfold hasL at h
  obtain ⟨a, vr, rfl, h1, h2⟩ := h
  obtain ⟨V1, l1, hT1, r1⟩ := aiMZ s a h1 hT
  obtain ⟨V2, l2, hT2, r2⟩ := aeJZ r vr h2 hT1
  refine ⟨V2, l1.trans l2, ?_, ?_⟩
  ·simp only [akPZ]; exact hT2
  ·simp only [akPZ]; unfold relL; exact ⟨a, vr, rfl, XV.rel_mono l2 _ _ r1, r2⟩
end
section
variable {B : Nat} {T : ST} {V : Va}
theorem alxZ (h : T.Ok B V) {id : Nat} {f : Bool} {rows : List (List AV)} (hd : V.δ[id]? = some rows) : (asLZ T id).has (.sl f rows) := by
 unfold asLZ
 split
 ·rename_i li hl
  obtain ⟨rows', n, h1, h2, h3, h4, h5⟩ := h.lst id li hl
  rw [hd] at h1
  cases h1
  unfold SH.has
  have := (h.rng _ _ h3).1
  have := afUZ h qf h3
  exact ⟨f, rows, rfl, h2, by omega, by omega, h5⟩
 ·unfold SH.has; trivial
mutual
theorem aipZ (h : T.Ok B V) : ∀ (x : XV) (v : AV), x.rel V B v -> (gen T x).has v
 | .top, v, _ => by simp [gen, SH.has]
 | .tt b, v, hv => by unfold XV.rel at hv; simp only [gen]; unfold SH.has; exact ⟨b, hv⟩
 | .bl c, v, hv => by unfold XV.rel at hv; obtain ⟨b, h1, _⟩ := hv; simp only [gen]; unfold SH.has; exact ⟨b, h1⟩
 | .num k s c, v, hv => by
  unfold XV.rel at hv
  obtain ⟨n, h1, h2⟩ := hv
  simp only [gen]
  unfold SH.has
  have := (h.rng _ _ h1).1
  have := afUZ h qf h1
  exact ⟨n + c, h2, by omega, by omega⟩
 | .txt s c, v, hv => by
  unfold XV.rel at hv
  obtain ⟨l, n, h1, h2, h3⟩ := hv
  simp only [gen]
  unfold SH.has
  have := afUZ h qf h2
  exact ⟨l, h1, by omega⟩
 | .sl id, v, hv => by unfold XV.rel at hv; obtain ⟨f, rows, h1, rfl⟩ := hv; simp only [gen]; exact alxZ h h1
 | .fsl id, v, hv => by unfold XV.rel at hv; obtain ⟨rows, h1, rfl⟩ := hv; simp only [gen]; exact alxZ h h1
 | .nil, v, hv => by
  unfold XV.rel at hv
  simp only [gen]
  unfold SH.has
  exact ⟨true, [], hv, rfl, by simp, by simp, by simp⟩
 | .agg cs, v, hv => by unfold XV.rel at hv; obtain ⟨vs, h1, h2⟩ := hv; simp only [gen]; unfold SH.has; exact ⟨vs, h1, aftZ h cs vs h2⟩
 | .tup cs, v, hv => by unfold XV.rel at hv; obtain ⟨vs, h1, h2⟩ := hv; simp only [gen]; unfold SH.has; exact ⟨vs, h1, aftZ h cs vs h2⟩
 | .ep .., v, _ => by simp [gen, SH.has]
 | .ptr .., v, _ => by simp [gen, SH.has]
 | .gs .., v, _ => by simp [gen, SH.has]
 | .own .., v, _ => by simp [gen, SH.has]
theorem aftZ (h : T.Ok B V) : ∀ (x : List XV) (v : List AV), relL V B x v -> hasL (genL T x) v
 | [], v, hv => by unfold relL at hv; simp only [genL]; unfold hasL; exact hv
 | x :: r, v, hv => by
  unfold relL at hv
  obtain ⟨a, vr, rfl, h1, h2⟩ := hv
  simp only [genL]
  unfold hasL
  exact ⟨a, vr, rfl, aipZ h x a h1, aftZ h r vr h2⟩
end
theorem alyZ (h : T.Ok B V) {b b' : Bool} : ∀ {c : Cd}, angZ T c = some b' -> c.ok V.γ b -> b = b'
 | .none, he, _ => by cases he
 | .lt a ca b1 cb, he,⟨x, y, hx, hy, hb⟩ => by
  subst hb
  simp only [angZ] at he
  split at he
  ·rename_i hq
   cases he
   have := aaEZ h qf hq hx hy
   simp; omega
  ·split at he
   ·rename_i hq
    cases he
    have := aaEZ h qf hq hy hx
    simp; omega
   ·cases he
 | .le a ca b1 cb, he,⟨x, y, hx, hy, hb⟩ => by
  subst hb
  simp only [angZ] at he
  split at he
  ·rename_i hq
   cases he
   have := aaEZ h qf hq hx hy
   simp; omega
  ·split at he
   ·rename_i hq
    cases he
    have := aaEZ h qf hq hy hx
    simp; omega
   ·cases he
 | .eq a ca b1 cb, he,⟨x, y, hx, hy, hb⟩ => by
  subst hb
  simp only [angZ] at he
  split at he
  ·rename_i hq
   cases he
   rw [Bool.or_eq_true] at hq
   rcases hq with hq | hq
   ·have := aaEZ h qf hq hx hy; simp; omega
   ·have := aaEZ h qf hq hy hx; simp; omega
  ·split at he
   ·rename_i hq
    cases he
    rw [Bool.and_eq_true] at hq
    have := aaEZ h qf hq.1 hx hy
    have := aaEZ h qf hq.2 hy hx
    simp; omega
   ·cases he
 | .ne a ca b1 cb, he,⟨x, y, hx, hy, hb⟩ => by
  subst hb
  simp only [angZ] at he
  split at he
  ·rename_i hq
   cases he
   rw [Bool.or_eq_true] at hq
   rcases hq with hq | hq
   ·have := aaEZ h qf hq hx hy; simp; omega
   ·have := aaEZ h qf hq hy hx; simp; omega
  ·split at he
   ·rename_i hq
    cases he
    rw [Bool.and_eq_true] at hq
    have := aaEZ h qf hq.1 hx hy
    have := aaEZ h qf hq.2 hy hx
    simp; omega
   ·cases he
theorem Cd.not_ok {γ : List Int} {b : Bool} : ∀ {c : Cd}, c.ok γ b -> c.not.ok γ (!b)
 | .none, _ => trivial
 | .lt ..,⟨x, y, h1, h2, h3⟩ => ⟨y, x, h2, h1, by subst h3; rw [<- decide_not]; exact decide_eq_decide.2 (by omega)⟩
 | .le ..,⟨x, y, h1, h2, h3⟩ => ⟨y, x, h2, h1, by subst h3; rw [<- decide_not]; exact decide_eq_decide.2 (by omega)⟩
 | .eq ..,⟨x, y, h1, h2, h3⟩ => ⟨x, y, h1, h2, by subst h3; rfl⟩
 | .ne ..,⟨x, y, h1, h2, h3⟩ => ⟨x, y, h1, h2, by subst h3; simp⟩
theorem aoEZ (h : T.Ok B V) : ∀ {c : Cd}, c.ok V.γ true -> (hold T c).Ok B V
 | .none, _ => h
 | .lt a ca b cb,⟨x, y, h1, h2, h3⟩ => h.le h1 h2 (by have := of_decide_eq_true h3.symm; omega)
 | .le a ca b cb,⟨x, y, h1, h2, h3⟩ => h.le h1 h2 (of_decide_eq_true h3.symm)
 | .eq a ca b cb,⟨x, y, h1, h2, h3⟩ => by
  have := of_decide_eq_true h3.symm
  exact (h.le h1 h2 (by omega)).le h2 h1 (by omega)
 | .ne a ca b cb,⟨x, y, h1, h2, h3⟩ => by
  have hne : x + ca ≠ y + cb := by simpa using h3
  simp only [hold]
  split
  ·rename_i hq
   have := aaEZ h qf hq h1 h2
   exact h.le h1 h2 (by omega)
  ·split
   ·rename_i hq
    have := aaEZ h qf hq h2 h1
    exact h.le h2 h1 (by omega)
   ·exact h
theorem aiqZ (h : T.Ok B V) {c : Cd} {b : Bool} (hc : c.ok V.γ b) : ∃ T', asMZ T c b = some T' /\ T'.Ok B V := by
 unfold asMZ
 split
 ·rename_i b' he
  have := alyZ h he hc
  subst this
  exact ⟨T, by simp, h⟩
 ·cases b with
  | true => exact ⟨_, rfl, aoEZ h hc⟩
  | false => exact ⟨_, rfl, aoEZ h (Cd.not_ok hc)⟩
def Got (B : Nat) (V : Va) (T' : ST) (x : XV) (v : AV) : Prop := ∃ V', V.Le V' /\ T'.Ok B V' /\ x.rel V' B v
theorem Got.same (h : T.Ok B V) {x : XV} {v : AV} (hx : x.rel V B v) : Got B V T x v := ⟨V, .refl, h, hx⟩
theorem Got.num (h : T.Ok B V) {k : IntKind} {lo hi n : Int} (h1 : lo <= n) (h2 : n <= hi) : Got B V (T.fresh lo hi) (.num k T.ns 0) (.int k n) :=
 ⟨V.pg n, Va.le_pg, h.fresh h1 h2, by unfold XV.rel; exact ⟨n, h.new_s n, by rw [Int.add_zero]⟩⟩
theorem akTZ {k : IntKind} {mn mx : Int} (h : kr k = some (mn, mx)) (n : Int) : (mn <= k.wrap n /\ k.wrap n <= mx) /\ (mn <= n -> n <= mx -> k.wrap n = n) := by
 unfold kr at h
 split at h
 ·cases h
  rw [Go.IntKind.wrap_i64]
  omega
 ·cases h
  rw [Go.IntKind.wrap_u8]
  omega
 ·cases h
theorem annZ {lo hi mn mx : Int} : inR lo hi mn mx = true ↔ mn <= lo /\ hi <= mx := by simp [inR, absZ]
theorem afuZ (h : T.Ok B V) {c : Cd} {T' : ST} {z : XV} (he : cmpX T c = some (T', z)) {b : Bool} (hc : c.ok V.γ b) : Got B V T' z (.bool b) := by
 unfold cmpX at he
 split at he
 ·rename_i b' hb
  cases he
  have := alyZ h hb hc
  subst this
  exact .same h (by unfold XV.rel; rfl)
 ·cases he
  exact .same h (by unfold XV.rel; exact ⟨b, rfl, hc⟩)
section
variable {k : IntKind} {a b : Nat} {ca cb x y : Int} {T' : ST} {z : XV}
theorem atXZ (h : T.Ok B V) (ha : V.γ[a]? = some x) (hb : V.γ[b]? = some y) (he : addX T k a ca b cb = some (T', z)) : Got B V T' z (.int k (k.wrap (x + ca + (y + cb)))) := by
 have ra := h.rng _ _ ha
 have rb := h.rng _ _ hb
 unfold addX at he
 split at he
 ·cases he
 ·rename_i mn mx hk
  have hw := akTZ hk (x + ca + (y + cb))
  dsimp only at he
  split at he
  ·rename_i hr
   rw [annZ] at hr
   have hw' := hw.2 (by omega) (by omega)
   rw [hw']
   split at he
   ·rename_i e
    rw [Nat.beq_eq] at e
    subst e
    rw [h.zero] at hb
    cases hb
    cases he
    exact .same h (by unfold XV.rel; exact ⟨x, ha, by congr 1; omega⟩)
   ·split at he
    ·rename_i e
     rw [Nat.beq_eq] at e
     subst e
     rw [h.zero] at ha
     cases ha
     cases he
     exact .same h (by unfold XV.rel; exact ⟨y, hb, by congr 1; omega⟩)
    ·cases he
     exact .num h (by omega) (by omega)
  ·cases he
   exact .num h hw.1.1 hw.1.2
theorem atYZ (h : T.Ok B V) (ha : V.γ[a]? = some x) (hb : V.γ[b]? = some y) (he : subX T k a ca b cb = some (T', z)) : Got B V T' z (.int k (k.wrap (x + ca - (y + cb)))) := by
 have ra := h.rng _ _ ha
 have rb := h.rng _ _ hb
 unfold subX at he
 split at he
 ·cases he
 ·rename_i mn mx hk
  have hw := akTZ hk (x + ca - (y + cb))
  dsimp only at he
  split at he
  ·rename_i hr
   rw [annZ] at hr
   have hw' := hw.2 (by omega) (by omega)
   rw [hw']
   split at he
   ·rename_i e
    rw [Nat.beq_eq] at e
    subst e
    rw [h.zero] at hb
    cases hb
    cases he
    exact .same h (by unfold XV.rel; exact ⟨x, ha, by congr 1; omega⟩)
   ·cases he
    exact .num h (by omega) (by omega)
  ·cases he
   exact .num h hw.1.1 hw.1.2
theorem anoZ : ∀ {l : List (Nat × Int × Int × Nat)} {a : Nat} {ca c : Int} {s : Nat}, apoZ l a ca c = some s -> (a, ca, c, s) ∈ l
 | [], _, _, _, _, h => by cases h
 | (a', ca', c', s') :: r, a, ca, c, s, h => by
  unfold apoZ at h
  split at h
  ·rename_i e
   simp only [Bool.and_eq_true, Nat.beq_eq, ahrZ] at e
   cases h
   obtain ⟨⟨rfl, rfl⟩, rfl⟩ := e
   simp
  ·exact List.mem_cons_of_mem _ (anoZ h)
theorem arSZ {n c : Int} (hc : 1 <= c) : 1 - c <= n.tmod c /\ n.tmod c <= c - 1 := by
 have h1 := Int.tmod_lt_of_pos n (b := c) (by omega)
 have h2 := Int.tmod_lt_of_pos (-n) (b := c) (by omega)
 rw [Int.neg_tmod] at h2
 omega
theorem atZZ (h : T.Ok B V) (ha : V.γ[a]? = some x) {c : Int} (hc : 1 <= c) (he : remX T k a ca c = some (T', z)) : Got B V T' z (.int k ((x + ca).tmod c)) := by
 have ra := h.rng _ _ ha
 unfold remX at he
 split at he
 ·rename_i s hs
  cases he
  obtain ⟨x', h1, h2⟩ := h.rems _ _ _ _ (anoZ hs)
  rw [ha] at h1
  cases h1
  exact .same h (by unfold XV.rel; exact ⟨_, h2, by rw [Int.add_zero]⟩)
 ·cases he
  have hb := arSZ (n := x + ca) hc
  have hlo : (match ile 0 (T.lo a + ca) with | true => (0 : Int) | false => 1 - c) <= (x + ca).tmod c := by
   split
   ·rename_i e
    rw [absZ] at e
    exact Int.tmod_nonneg _ (by omega)
   ·exact hb.1
  have hf := h.fresh hlo hb.2
  refine ⟨V.pg ((x + ca).tmod c), Va.le_pg, ?_, ?_⟩
  ·have hr : ∀ a' ca' c' s, (a', ca', c', s) ∈ (a, ca, c, T.ns) :: T.rems -> ∃ x', (V.pg ((x + ca).tmod c)).γ[a']? = some x' /\ (V.pg ((x + ca).tmod c)).γ[s]? = some ((x' + ca').tmod c') := by
    intro a' ca' c' s hm
    rcases List.mem_cons.1 hm with e | hm
    ·cases e
     exact ⟨x, aaRZ ha, h.new_s _⟩
    ·obtain ⟨x', h1, h2⟩ := h.rems _ _ _ _ hm
     exact ⟨x', aaRZ h1, aaRZ h2⟩
   exact { hf with rems := hr }
  ·unfold XV.rel; exact ⟨_, h.new_s _, by rw [Int.add_zero]⟩
theorem auaZ (h : T.Ok B V) {op : BinOp} {ek : EqK} (ha : V.γ[a]? = some x) (hb : V.γ[b]? = some y) (he : numX T op k a ca b cb = some (T', z)) :
  ∃ v, binV op ek (.int k (x + ca)) (.int k (y + cb)) = some v /\ Got B V T' z v := by
 have ra := h.rng _ _ ha
 have rb := h.rng _ _ hb
 unfold numX at he
 split at he
 ·exact ⟨_, by simp only [binV, if_true]; try rfl, afuZ h he ⟨x, y, ha, hb, rfl⟩⟩
 ·exact ⟨_, by simp only [binV, if_true, gt_iff_lt]; try rfl, afuZ h he ⟨y, x, hb, ha, rfl⟩⟩
 ·exact ⟨_, by simp only [binV, if_true]; try rfl, afuZ h he ⟨x, y, ha, hb, rfl⟩⟩
 ·exact ⟨_, by simp only [binV, if_true, ge_iff_le]; try rfl, afuZ h he ⟨y, x, hb, ha, rfl⟩⟩
 ·exact ⟨_, by simp only [binV, if_true]; try rfl, afuZ h he ⟨x, y, ha, hb, rfl⟩⟩
 ·exact ⟨_, by simp only [binV, if_true]; try rfl, afuZ h he ⟨x, y, ha, hb, rfl⟩⟩
 ·exact ⟨_, by simp only [binV, if_true]; try rfl, atXZ h ha hb he⟩
 ·exact ⟨_, by simp only [binV, if_true]; try rfl, atYZ h ha hb he⟩
 ·split at he
  ·rename_i mn mx hk
   cases he
   have hw := akTZ hk ((x + ca) * (y + cb))
   exact ⟨_, by simp only [binV, if_true]; try rfl, .num h hw.1.1 hw.1.2⟩
  ·cases he
 ·split at he
  ·rename_i mn mx hk hc
   simp only [Bool.and_eq_true, Nat.beq_eq, absZ] at hc
   obtain ⟨rfl, hc⟩ := hc
   rw [h.zero] at hb
   cases hb
   have hw := akTZ hk ((x + ca).tdiv (0 + cb))
   refine ⟨_, by show (if k = k /\ _ then some _ else none) = some _; rw [if_pos ⟨rfl, by omega⟩], ?_⟩
   split at he
   ·rename_i hr
    simp only [Bool.and_eq_true, absZ, annZ] at hr
    cases he
    have e : (x + ca).tdiv (0 + cb) = (x + ca) / cb := by rw [Int.zero_add]; exact Int.tdiv_eq_ediv_of_nonneg (by omega)
    have h1 : 0 <= (x + ca) / cb := Int.ediv_nonneg (by omega) (by omega)
    have h2 : (x + ca) / cb <= (T.hi a + ca) / cb := Int.ediv_le_ediv (by omega) (by omega)
    have h3 : (T.hi a + ca) / cb <= T.hi a + ca := Int.ediv_le_self _ (by omega)
    rw [hw.2 (by omega) (by omega), e]
    exact .num h h1 h2
   ·cases he
    exact .num h hw.1.1 hw.1.2
  ·cases he
 ·split at he
  ·rename_i mn mx hk hc
   simp only [Bool.and_eq_true, Nat.beq_eq, absZ] at hc
   obtain ⟨rfl, hc⟩ := hc
   rw [h.zero] at hb
   cases hb
   refine ⟨_, by show (if k = k /\ _ then some _ else none) = some _; rw [if_pos ⟨rfl, by omega⟩], ?_⟩
   rw [Int.zero_add]
   exact atZZ h ha hc he
  ·cases he
 ·cases he
theorem aubZ (h : T.Ok B V) (ha : V.γ[a]? = some x) (hb : V.γ[b]? = some y) {s t : List UInt8} (hs : (s.length : Int) = x + ca) (ht : (t.length : Int) = y + cb) (he : catX T a ca b cb = some (T', z)) :
  s.length + t.length <= 4611686018427387904 /\ Got B V T' z (.str (s ++ t)) := by
 have ra := h.rng _ _ ha
 have rb := h.rng _ _ hb
 have hl : ((s ++ t).length : Int) = s.length + t.length := by simp
 unfold catX at he
 split at he
 ·cases he
 ·rename_i hc
  rw [absZ] at hc
  refine ⟨by omega, ?_⟩
  split at he
  ·rename_i e
   rw [Nat.beq_eq] at e
   subst e
   rw [h.zero] at hb
   cases hb
   cases he
   exact .same h (by unfold XV.rel; exact ⟨_, x, rfl, ha, by omega⟩)
  ·split at he
   ·rename_i e
    rw [Nat.beq_eq] at e
    subst e
    rw [h.zero] at ha
    cases ha
    cases he
    exact .same h (by unfold XV.rel; exact ⟨_, y, rfl, hb, by omega⟩)
   ·cases he
    have hf := h.fresh (n := x + ca + (y + cb)) (lo := T.lo a + ca + (T.lo b + cb)) (hi := T.hi a + ca + (T.hi b + cb)) (by omega) (by omega)
    refine ⟨_, Va.le_pg, hf.le (h.new_s _) (aaRZ ha) (by omega), ?_⟩
    unfold XV.rel
    exact ⟨_, _, rfl, h.new_s _, by omega⟩
end
end
end Go.AM
end
section
namespace Go.AM
open Go
section
variable {B : Nat} {T : ST} {V : Va}
theorem aflZ {x : XV} {v : AV} (h : ainZ x = true) (hx : x.rel V B v) : ∃ b, v = .bool b := by
 cases x <;> first | (simp [ainZ] at h; done) | skip
 ·unfold XV.rel at hx; exact ⟨_, hx⟩
 ·unfold XV.rel at hx; obtain ⟨b, h1, _⟩ := hx; exact ⟨b, h1⟩
theorem aucZ {t : Tag} {x y : XV} {a b : AV} (h : tagX t x y = true) (hx : x.rel V B a) (hy : y.rel V B b) : ∃ r, apGZ t a b = some r := by
 unfold tagX at h
 split at h
 ·rw [Bool.and_eq_true] at h
  have hbx : ainZ x = true := by cases x <;> simp_all [ainZ]
  have hby : ainZ y = true := by cases y <;> simp_all [ainZ]
  obtain ⟨p, rfl⟩ := aflZ hbx hx
  obtain ⟨q, rfl⟩ := aflZ hby hy
  exact ⟨_, rfl⟩
 ·rw [akiZ] at h
  subst h
  unfold XV.rel at hx hy
  obtain ⟨n, _, rfl⟩ := hx
  obtain ⟨m, _, rfl⟩ := hy
  exact ⟨_, if_pos rfl⟩
 ·unfold XV.rel at hx hy
  obtain ⟨s, _, rfl, _⟩ := hx
  obtain ⟨t, _, rfl, _⟩ := hy
  exact ⟨_, rfl⟩
 ·cases h
theorem anpZ : ∀ {ts : List Tag} {xs ys : List XV} {a b : List AV}, atRZ ts xs ys = true -> relL V B xs a -> relL V B ys b -> ∃ r, aeBZ ts a b = some r
 | [], [], [], a, b, _, hx, hy => by
  unfold relL at hx hy
  subst hx hy
  exact ⟨_, rfl⟩
 | t :: ts, x :: xs, y :: ys, a, b, h, hx, hy => by
  simp only [atRZ, Bool.and_eq_true] at h
  unfold relL at hx hy
  obtain ⟨a, ar, rfl, h1, h2⟩ := hx
  obtain ⟨b, br, rfl, h3, h4⟩ := hy
  obtain ⟨r, hr⟩ := aucZ h.1 h1 h3
  obtain ⟨q, hq⟩ := anpZ h.2 h2 h4
  simp only [aeBZ, hr, hq]
  cases r <;> exact ⟨_, rfl⟩
 | [], _ :: _, _, _, _, h, _, _ | [], [], _ :: _, _, _, h, _, _ => by simp [atRZ] at h
 | _ :: _, [], _, _, _, h, _, _ | _ :: _, _ :: _, [], _, _, h, _, _ => by simp [atRZ] at h
theorem Got.bool (h : T.Ok B V) (b : Bool) : Got B V T (.bl .none) (.bool b) := .same h (by unfold XV.rel; exact ⟨b, rfl, trivial⟩)
theorem audZ (h : T.Ok B V) {op : BinOp} {ek : EqK} {x y : XV} {a b : AV} {T' : ST} {z : XV} (hx : x.rel V B a) (hy : y.rel V B b) (he : binX T op ek x y = some (T', z)) :
  ∃ v, binV op ek a b = some v /\ Got B V T' z v := by
 unfold binX at he
 split at he
 ·split at he
  ·rename_i hk
   rw [akiZ] at hk
   subst hk
   unfold XV.rel at hx hy
   obtain ⟨n, h1, rfl⟩ := hx
   obtain ⟨m, h2, rfl⟩ := hy
   exact auaZ h h1 h2 he
  ·cases he
 ·unfold XV.rel at hx hy
  obtain ⟨s, n, rfl, h1, h2⟩ := hx
  obtain ⟨t, m, rfl, h3, h4⟩ := hy
  split at he
  ·rename_i hc
   cases he
   cases op <;> first | (simp [aCbZ] at hc; done) | exact ⟨_, rfl, .bool h _⟩
  ·split at he
   ·obtain ⟨h5, h6⟩ := aubZ h h1 h3 h2 h4 he
    exact ⟨_, by simp only [binV]; rw [if_pos h5], h6⟩
   ·cases he
 ·split at he
  ·split at he
   ·rename_i hc
    rw [Bool.and_eq_true] at hc
    cases he
    unfold XV.rel at hx hy
    obtain ⟨vs, rfl, h1⟩ := hx
    obtain ⟨ws, rfl, h2⟩ := hy
    obtain ⟨r, hr⟩ := anpZ hc.2 h1 h2
    cases op <;> first | (simp [isEq] at hc; done) | skip
    ·exact ⟨.bool r, by simp only [binV, aeZZ, hr, Option.map_some], .bool h _⟩
    ·exact ⟨.bool (!r), by simp only [binV, aeZZ, hr, Option.map_some], .bool h _⟩
   ·cases he
  ·cases he
 ·split at he
  ·split at he
   ·rename_i hc
    simp only [Bool.and_eq_true] at hc
    cases he
    obtain ⟨p, rfl⟩ := aflZ hc.1.2 hx
    obtain ⟨q, rfl⟩ := aflZ hc.2 hy
    cases op <;> first | (simp [isEq] at hc; done) | skip
    ·exact ⟨.bool (p == q), by simp only [binV, aeZZ, Option.map_some], .bool h _⟩
    ·exact ⟨.bool (!(p == q)), by simp only [binV, aeZZ, Option.map_some], .bool h _⟩
   ·cases he
  ·cases he
theorem avUZ (h : T.Ok B V) {op : UnOp} {x : XV} {a : AV} {T' : ST} {z : XV} (hx : x.rel V B a) (he : unX T op x = some (T', z)) : ∃ v, unV op a = some v /\ Got B V T' z v := by
 unfold unX at he
 split at he
 ·cases he
  unfold XV.rel at hx
  subst hx
  exact ⟨_, rfl, .same h (by unfold XV.rel; rfl)⟩
 ·cases he
  unfold XV.rel at hx
  obtain ⟨b, rfl, h1⟩ := hx
  exact ⟨_, rfl, .same h (by unfold XV.rel; exact ⟨!b, rfl, Cd.not_ok h1⟩)⟩
 ·rename_i k s c
  unfold XV.rel at hx
  obtain ⟨n, h1, rfl⟩ := hx
  have rn := h.rng _ _ h1
  split at he
  ·cases he
  ·rename_i mn mx hk
   have hw := akTZ hk (0 - (n + c))
   refine ⟨_, rfl, ?_⟩
   split at he
   ·rename_i hr
    rw [annZ] at hr
    cases he
    rw [hw.2 (by omega) (by omega)]
    exact .num h (by omega) (by omega)
   ·cases he
    exact .num h hw.1.1 hw.1.2
 ·cases he
theorem aueZ (h : T.Ok B V) {mx : Bool} {x y : XV} {a b : AV} {T' : ST} {z : XV} (hx : x.rel V B a) (hy : y.rel V B b) (he : mm2X T mx x y = some (T', z)) : ∃ v, mm2 mx a b = some v /\ Got B V T' z v := by
 unfold mm2X at he
 split at he
 rotate_left
 ·cases he
 rename_i k s c k' s' c'
 split at he
 ·cases he
 rename_i hk
 rw [akiZ] at hk
 subst hk
 unfold XV.rel at hx hy
 obtain ⟨n, h1, rfl⟩ := hx
 obtain ⟨m, h2, rfl⟩ := hy
 have r1 := h.rng _ _ h1
 have r2 := h.rng _ _ h2
 refine ⟨_, if_pos rfl, ?_⟩
 have hm := @azFZ (T.lo s + c) (T.lo s' + c')
 have hM := @akSZ (T.hi s + c) (T.hi s' + c')
 have e1 : XV.rel V B (.num k s c) (.int k (n + c)) := by unfold XV.rel; exact ⟨n, h1, rfl⟩
 have e2 : XV.rel V B (.num k s' c') (.int k (m + c')) := by unfold XV.rel; exact ⟨m, h2, rfl⟩
 split at he
 ·simp only [Bool.false_eq_true, if_false]
  split at he
  ·rename_i hq
   have := aaEZ h qf hq h1 h2
   cases he
   rw [if_neg (by omega)]
   exact .same h e1
  ·split at he
   ·rename_i hq
    have := aaEZ h qf hq h2 h1
    cases he
    by_cases hlt : m + c' < n + c
    ·rw [if_pos hlt]; exact .same h e2
    ·rw [if_neg hlt, show n + c = m + c' by omega]; exact .same h e2
   ·cases he
    have hv : ∀ w, w <= n + c -> w <= m + c' -> imin (T.lo s + c) (T.lo s' + c') <= w -> Got B V (((T.fresh (imin (T.lo s + c) (T.lo s' + c')) (imin (T.hi s + c) (T.hi s' + c'))).le T.ns 0 s c).le T.ns 0 s' c') (.num k T.ns 0) (.int k w) := by
     intro w w1 w2 w3
     have hf := h.fresh (n := w) w3 (arQZ (b := T.hi s' + c') (a := T.hi s + c) (by omega) (by omega))
     refine ⟨V.pg w, Va.le_pg, (hf.le (h.new_s w) (aaRZ h1) (by omega)).le (h.new_s w) (aaRZ h2) (by omega), ?_⟩
     unfold XV.rel
     exact ⟨w, h.new_s w, by rw [Int.add_zero]⟩
    split
    ·exact hv _ (by omega) (by omega) (by omega)
    ·exact hv _ (by omega) (by omega) (by omega)
 ·simp only [if_true]
  split at he
  ·rename_i hq
   have := aaEZ h qf hq h1 h2
   cases he
   by_cases hlt : m + c' > n + c
   ·rw [if_pos hlt]; exact .same h e2
   ·rw [if_neg hlt, show n + c = m + c' by omega]; exact .same h e2
  ·split at he
   ·rename_i hq
    have := aaEZ h qf hq h2 h1
    cases he
    rw [if_neg (by omega)]
    exact .same h e1
   ·cases he
    have hl1 := @akSZ (T.lo s + c) (T.lo s' + c')
    have hl2 : ∀ w, T.lo s + c <= w -> T.lo s' + c' <= w -> imax (T.lo s + c) (T.lo s' + c') <= w := fun w => arRZ
    split
    ·exact .num h (hl2 _ (by omega) (by omega)) (by omega)
    ·exact .num h (hl2 _ (by omega) (by omega)) (by omega)
theorem aqSZ {mx : Bool} : ∀ (r : List XV) {T : ST} {V : Va} {x : XV} {a : AV} {l : List AV} {T' : ST} {z : XV}, T.Ok B V -> x.rel V B a -> relL V B r l -> mmX mx T x r = some (T', z) -> ∃ v, akZZ mx a l = some v /\ Got B V T' z v
 | [], T, V, x, a, l, T', z, h, hx, hl, he => by
  unfold relL at hl
  subst hl
  cases he
  exact ⟨a, rfl, .same h hx⟩
 | y :: r, T, V, x, a, l, T', z, h, hx, hl, he => by
  unfold relL at hl
  obtain ⟨b, lr, rfl, h1, h2⟩ := hl
  unfold mmX at he
  split at he
  ·rename_i T1 w hw
   obtain ⟨v, hv, V1, l1, hT1, hr1⟩ := aueZ h hx h1 hw
   obtain ⟨v2, hv2, V2, l2, hT2, hr2⟩ := aqSZ r hT1 hr1 (acoZ l1 _ _ h2) he
   exact ⟨v2, by simp only [akZZ, hv, hv2], V2, l1.trans l2, hT2, hr2⟩
  ·cases he
theorem abVZ (h : T.Ok B V) {id : Nat} {li : LI} {rows : List (List AV)} (hl : T.lst.get (aaLZ id) = some li) (hd : V.δ[id]? = some rows) :
  abHZ rows = true /\ (∃ n, V.γ[li.s]? = some n /\ (rows.length : Int) = n + li.c) /\ ∀ row ∈ rows, aaKZ li.alts row := by
 obtain ⟨rows', n, h1, h2, h3, h4, h5⟩ := h.lst id li hl
 rw [hd] at h1
 cases h1
 exact ⟨h2,⟨n, h3, h4⟩, h5⟩
theorem Got.nilL (h : T.Ok B V) : ∃ V', V.Le V' /\ (T.freshL ⟨[], 0, 0⟩).Ok B V' /\ V'.δ[T.nl]? = some [] :=
 ⟨V.pd [], Va.le_pd, h.freshL (n := 0) rfl h.zero (by simp) (by simp), h.new_l _⟩
theorem agiZ (h : T.Ok B V) {x : XV} {v : AV} {T' : ST} {z : XV} (hx : x.rel V B v) (he : aluZ T x = some (T', z)) :
  (∀ H, ajDZ H v = some (v, []) /\ v.strip1.strip1 = v.strip1 /\ v.strip1.still = true /\ v.cellOk = true /\ v.strip = v.strip1 /\ v.strip1.data = true /\ v.cells = [v] /\ v.strip1.cells = [v.strip1] /\ v.still = true) /\ Got B V T' z v.strip1 := by
 unfold aluZ at he
 split at he
 ·cases he
  have hx' := hx
  unfold XV.rel at hx
  obtain ⟨n, _, rfl⟩ := hx
  exact ⟨fun H => ⟨rfl, rfl, rfl, rfl, rfl, rfl, rfl, rfl, rfl⟩, .same h hx'⟩
 ·cases he
  have hx' := hx
  unfold XV.rel at hx
  obtain ⟨s, n, rfl, _⟩ := hx
  exact ⟨fun H => ⟨rfl, rfl, rfl, rfl, rfl, rfl, rfl, rfl, rfl⟩, .same h hx'⟩
 ·cases he
  have hx' := hx
  unfold XV.rel at hx
  subst hx
  exact ⟨fun H => ⟨rfl, rfl, rfl, rfl, rfl, rfl, rfl, rfl, rfl⟩, .same h hx'⟩
 ·cases he
  have hx' := hx
  unfold XV.rel at hx
  obtain ⟨b, rfl, _⟩ := hx
  exact ⟨fun H => ⟨rfl, rfl, rfl, rfl, rfl, rfl, rfl, rfl, rfl⟩, .same h hx'⟩
 ·cases he
  unfold XV.rel at hx
  obtain ⟨f, rows, h1, rfl⟩ := hx
  refine ⟨fun H => ⟨rfl, rfl, rfl, rfl, rfl, ?_, rfl, rfl, rfl⟩, .same h (by unfold XV.rel; exact ⟨false, rows, h1, rfl⟩)⟩
  exact h.dat _ _ h1
 ·cases he
  unfold XV.rel at hx
  obtain ⟨rows, h1, rfl⟩ := hx
  refine ⟨fun H => ⟨rfl, rfl, rfl, rfl, rfl, ?_, rfl, rfl, rfl⟩, .same h (by unfold XV.rel; exact ⟨false, rows, h1, rfl⟩)⟩
  exact h.dat _ _ h1
 ·cases he
  unfold XV.rel at hx
  subst hx
  obtain ⟨V', l1, h1, h2⟩ := Got.nilL h
  exact ⟨fun H => ⟨rfl, rfl, rfl, rfl, rfl, rfl, rfl, rfl, rfl⟩, V', l1, h1, by unfold XV.rel; exact ⟨false, [], h2, rfl⟩⟩
 ·cases he
end
end Go.AM
end
section
namespace Go.AM
open Go
def XO.rel (V : Va) (B : Nat) : XO -> AObj -> Prop
 | .any, _ => True
 | .box s cells, x => ∃ o' n vs, V.ε[s]? = some (some (o', n)) /\ x = .box n vs /\ relL V B cells vs
def VF.ok (V : Va) (B : Nat) (H : List AObj) (v : VF) : Prop := ∃ e rows, V.ε[v.s]? = some e /\ V.δ[v.id]? = some rows /\ (∀ o n, e = some (o, n) -> o ∈ v.os /\ H[B + o]? = some (.vec n v.k rows))
structure RF (B h m : Nat) (V : Va) (Hc : List AObj) (F : FSt) (ρ : SEnv) (H : List AObj) : Prop where
 T : F.T.Ok B V
 env : ∀ t x, F.env.get (aaLZ t) = some x -> x.rel V B (ρ t)
 len : H.length = B + m
 hl : F.heap.length = m
 heap : ∀ (o : Nat) (x : AObj), H[B + o]? = some x -> (hget F.heap o).rel V B x
 low : ∀ o, o < h -> hget F.heap o = .any
 vecs : ∀ v ∈ F.vecs, v.ok V B H /\ ∀ o ∈ v.os, h <= o
 cut : H.take (B + h) = Hc
 fh : F.h = h
theorem XO.rel_mono {V V' : Va} (h : V.Le V') {B : Nat} {x : XO} {o : AObj} (hx : x.rel V B o) : x.rel V' B o := by
 cases x with
 | any => trivial
 | box s cells =>
  obtain ⟨o', n, vs, h1, h2, h3⟩ := hx
  exact ⟨o', n, vs, h.e _ _ h1, h2, acoZ h _ _ h3⟩
theorem VF.ok_mono {V V' : Va} (h : V.Le V') {B : Nat} {H : List AObj} {v : VF} (hx : v.ok V B H) : v.ok V' B H := by
 obtain ⟨e, rows, h1, h2, h3⟩ := hx
 exact ⟨e, rows, h.e _ _ h1, h.d _ _ h2, h3⟩
theorem airZ {x : XO} : ∀ {l : List XO} {i j : Nat}, hget (hset x l i) j = if j = i /\ i < l.length then x else hget l j
 | [], i, j => by simp [hset, hget]
 | y :: r, 0, j => by cases j <;> simp [hset, hget]
 | y :: r, i + 1, 0 => by simp [hset, hget]
 | y :: r, i + 1, j + 1 => by simp only [hset, hget]; rw [airZ]; simp
theorem ajvZ {x : XO} : ∀ {l : List XO} {i : Nat}, (hset x l i).length = l.length
 | [], _ => rfl
 | y :: r, 0 => rfl
 | y :: r, i + 1 => by simp [hset, ajvZ]
theorem aqTZ : ∀ {l : List VF} {s : Nat} {v : VF}, axkZ l s = some v -> v ∈ l /\ v.s = s
 | [], _, _, h => by cases h
 | w :: r, s, v, h => by
  unfold axkZ at h
  split at h
  ·rename_i e; rw [Nat.beq_eq] at e; cases h; exact ⟨by simp, e⟩
  ·obtain ⟨h1, h2⟩ := aqTZ h; exact ⟨by simp [h1], h2⟩
theorem akUZ {F : FSt} {s id : Nat} {v : VF} (h : F.vec s id = some v) : v ∈ F.vecs /\ v.s = s /\ v.id = id := by
 unfold FSt.vec at h
 split at h
 ·rename_i w hw
  split at h
  ·rename_i e; rw [Nat.beq_eq] at e; cases h
   obtain ⟨h1, h2⟩ := aqTZ hw
   exact ⟨h1, h2, e⟩
  ·cases h
 ·cases h
theorem afvZ {os : List Nat} : ∀ {l : List VF} {v : VF}, v ∈ aerZ os l -> v ∈ l /\ ∀ o ∈ v.os, o ∉ os
 | [], _, h => by cases h
 | w :: r, v, h => by
  unfold aerZ at h
  split at h
  ·obtain ⟨h1, h2⟩ := afvZ h; exact ⟨by simp [h1], h2⟩
  ·rename_i hc
   rcases List.mem_cons.1 h with rfl | h
   ·refine ⟨by simp, fun o ho hos => ?_⟩
    have : v.os.any os.contains = true := List.any_eq_true.2 ⟨o, ho, List.contains_iff_mem.2 hos⟩
    rw [this] at hc; cases hc
   ·obtain ⟨h1, h2⟩ := afvZ h; exact ⟨by simp [h1], h2⟩
section
variable {B h m : Nat} {V V' : Va} {Hc : List AObj} {F : FSt} {ρ : SEnv} {H : List AObj}
theorem RF.at (hF : RF B h m V Hc F ρ H) (t : Nat) : (F.at t).rel V B (ρ t) := by
 unfold FSt.at
 split
 ·rename_i x hx; exact hF.env t x hx
 ·unfold XV.rel; trivial
theorem anqZ (hT : F.T.Ok B V) (v : AV) : (arLZ v).rel V B v := by
 unfold arLZ
 split
 ·unfold XV.rel; rfl
 ·unfold XV.rel; exact ⟨0, hT.zero, by rw [Int.zero_add]⟩
 ·unfold XV.rel; exact ⟨_, 0, rfl, hT.zero, by omega⟩
 ·unfold XV.rel; rfl
 ·unfold XV.rel; trivial
theorem agjZ (hT : F.T.Ok B V) : ∀ l : List AV, relL V B (l.map arLZ) l
 | [] => by unfold relL; rfl
 | v :: r => by rw [List.map_cons]; unfold relL; exact ⟨v, r, rfl, anqZ hT v, agjZ hT r⟩
theorem RF.opd (hF : RF B h m V Hc F ρ H) (x : AOpd) : (F.opd x).rel V B (x.at ρ) := by
 cases x with
 | tmp t => exact hF.at t
 | const v =>
  show (ofAV v).rel V B v
  unfold ofAV
  split
  ·unfold XV.rel; exact ⟨_, rfl, agjZ hF.T _⟩
  ·unfold XV.rel relL; exact ⟨[], rfl, rfl⟩
  ·exact anqZ hF.T _
theorem RF.opds (hF : RF B h m V Hc F ρ H) : ∀ l : List AOpd, relL V B (l.map F.opd) (l.map (AOpd.at ρ))
 | [] => by unfold relL; rfl
 | x :: r => by rw [List.map_cons, List.map_cons]; unfold relL; exact ⟨_, _, rfl, hF.opd x, hF.opds r⟩
theorem RF.ext (hF : RF B h m V Hc F ρ H) (hle : V.Le V') {T' : ST} (hT : T'.Ok B V') : RF B h m V' Hc { F with T := T' } ρ H :=
 ⟨hT, fun t x e => XV.rel_mono hle _ _ (hF.env t x e), hF.len, hF.hl, fun o x e => XO.rel_mono hle (hF.heap o x e), hF.low, fun v hv => ⟨VF.ok_mono hle (hF.vecs v hv).1, (hF.vecs v hv).2⟩, hF.cut, hF.fh⟩
theorem aptZ {env : XT XV} {ρ : SEnv} (he : ∀ t x, env.get (aaLZ t) = some x -> x.rel V B (ρ t)) {d : Nat} {x : XV} {v : AV} (hx : x.rel V B v) :
  ∀ t y, (env.set x (aaLZ d)).get (aaLZ t) = some y -> y.rel V B (upd ρ d v t) := fun t y e => by
 rw [XT.get_put] at e
 unfold upd
 by_cases ht : t = d
 ·rw [if_pos ht] at e; cases e; rw [if_pos ht]; exact hx
 ·rw [if_neg ht] at e; rw [if_neg ht]; exact he t y e
theorem RF.put (hF : RF B h m V Hc F ρ H) {T' : ST} {x : XV} {v : AV} (hg : Got B V T' x v) (d : Option Nat) : ∃ V', V.Le V' /\ RF B h m V' Hc (F.put d T' x) (updO ρ d v) H := by
 obtain ⟨V', hle, hT, hx⟩ := hg
 have h1 := hF.ext hle hT
 refine ⟨V', hle, ?_⟩
 cases d with
 | none => exact h1
 | some d => exact ⟨h1.T, aptZ h1.env hx, h1.len, h1.hl, h1.heap, h1.low, h1.vecs, h1.cut, h1.fh⟩
theorem RF.setObj (hF : RF B h m V Hc F ρ H) (hle : V.Le V') {T' : ST} (hT : T'.Ok B V') {o : Nat} (ho : h <= o) (hm : o < m) {xo : XO} {obj : AObj} (hxo : xo.rel V' B obj) {x : XV} {v : AV} (hx : x.rel V' B v) (d : Option Nat) {vecs : List VF}
  (hv : ∀ w ∈ vecs, w.ok V' B (H.set (B + o) obj) /\ ∀ o ∈ w.os, h <= o) : RF B h m V' Hc (F.putH d T' x (hset xo F.heap o) vecs) (updO ρ d v) (H.set (B + o) obj) := by
 have key : ∀ env : XT XV, (∀ t x, env.get (aaLZ t) = some x -> x.rel V' B (updO ρ d v t)) -> RF B h m V' Hc ⟨T', env, hset xo F.heap o, vecs, F.h⟩ (updO ρ d v) (H.set (B + o) obj) := fun env he =>
  ⟨hT, he, by rw [List.length_set]; exact hF.len, by rw [ajvZ]; exact hF.hl, fun o' x e => by
   dsimp only
   rw [airZ]
   by_cases e2 : o' = o
   ·subst e2
    rw [if_pos ⟨rfl, by rw [hF.hl]; exact hm⟩]
    rw [List.getElem?_set_self (by rw [hF.len]; omega)] at e
    cases e
    exact hxo
   ·rw [if_neg (fun h => e2 h.1)]
    rw [List.getElem?_set_ne (by omega)] at e
    exact XO.rel_mono hle (hF.heap o' x e), fun o' h2 => by
   dsimp only
   rw [airZ, if_neg (by omega)]
   exact hF.low o' h2, hv, by rw [List.take_set_of_le (by omega)]; exact hF.cut, hF.fh⟩
 cases d with
 | none => exact key _ fun t x e => XV.rel_mono hle _ _ (hF.env t x e)
 | some d => exact key _ (aptZ (fun t x e => XV.rel_mono hle _ _ (hF.env t x e)) hx)
theorem RF.apart (hF : RF B h m V Hc F ρ H) (hle : V.Le V') {o : Nat} {os : List Nat} (ho : o ∈ os) (obj : AObj) : ∀ w ∈ aerZ os F.vecs, w.ok V' B (H.set (B + o) obj) /\ ∀ o ∈ w.os, h <= o := fun w hw => by
 obtain ⟨h1, h2⟩ := afvZ hw
 obtain ⟨⟨e, rows, g1, g2, g3⟩, g4⟩ := hF.vecs w h1
 refine ⟨⟨e, rows, hle.e _ _ g1, hle.d _ _ g2, fun o' n e' => ?_⟩, g4⟩
 obtain ⟨k1, k2⟩ := g3 o' n e'
 refine ⟨k1, ?_⟩
 rw [List.getElem?_set_ne]
 ·exact k2
 ·intro e3
  have : o = o' := by omega
  subst this
  exact h2 o k1 ho
theorem alzZ {x : XV} {v : AV} (hc : x.cellOk = true) (hx : x.rel V B v) : v.cellOk = true /\ v.cells = [v] := by
 cases x <;> first | (simp [XV.cellOk] at hc; done) | (unfold XV.rel at hx) <;> first
  | (subst hx; exact ⟨rfl, rfl⟩)
  | (obtain ⟨b, rfl, _⟩ := hx; exact ⟨rfl, rfl⟩)
  | (obtain ⟨n, _, rfl⟩ := hx; exact ⟨rfl, rfl⟩)
  | (obtain ⟨l, n, rfl, _, _⟩ := hx; exact ⟨rfl, rfl⟩)
  | (obtain ⟨f, rows, _, rfl⟩ := hx; exact ⟨rfl, rfl⟩)
  | (obtain ⟨e, rows, _, _, hg⟩ := hx; unfold gsv at hg; split at hg <;> (subst hg; exact ⟨rfl, rfl⟩))
theorem ajwZ {x : XV} {v : AV} (hc : x.cellsX.all XV.cellOk = true) (hx : x.rel V B v) : relL V B x.cellsX v.cells /\ v.cells.all AV.cellOk = true := by
 have key : ∀ {cs : List XV} {vs : List AV}, cs.all XV.cellOk = true -> relL V B cs vs -> vs.all AV.cellOk = true := by
  intro cs
  induction cs with
  | nil => intro vs _ h; unfold relL at h; subst h; rfl
  | cons c r ih =>
   intro vs ha h
   unfold relL at h
   obtain ⟨v, vr, rfl, h1, h2⟩ := h
   rw [List.all_cons, Bool.and_eq_true] at ha ⊢
   exact ⟨(alzZ ha.1 h1).1, ih ha.2 h2⟩
 have one : ∀ {x : XV}, x.cellOk = true -> x.rel V B v -> relL V B [x] v.cells /\ v.cells.all AV.cellOk = true := by
  intro x hc hx
  obtain ⟨h1, h2⟩ := alzZ hc hx
  rw [h2]
  exact ⟨by unfold relL relL; exact ⟨v, [], rfl, hx, rfl⟩, by simp [h1]⟩
 cases x <;> first
  | (unfold XV.rel at hx; obtain ⟨vs, rfl, h1⟩ := hx; exact ⟨h1, key hc h1⟩)
  | (simp only [XV.cellsX, List.all_cons, List.all_nil, Bool.and_true] at hc; exact one hc hx)
theorem aiNZ {k : Nat} {l : List XV} : lenB k l = true ↔ l.length = k := by simp [lenB, Nat.beq_eq]
theorem aezZ : ∀ {xs : List XV} {T : ST} {V : Va} {vs : List AV} {T' : ST} {ys : List XV}, T.Ok B V -> relL V B xs vs -> affZ T xs = some (T', ys) ->
  (vs.map AV.strip1).all AV.still = true /\ acnZ (vs.map AV.strip1) = true /\ vs.all AV.cellOk = true /\ (∀ H, alLZ H vs = some (vs, [])) /\ (vs.map AV.strip1).map AV.strip1 = vs.map AV.strip1 /\
   ∃ V', V.Le V' /\ T'.Ok B V' /\ relL V' B ys (vs.map AV.strip1)
 | [], T, V, vs, T', ys, hT, hx, he => by
  unfold relL at hx
  subst hx
  cases he
  exact ⟨rfl, rfl, rfl, fun H => rfl, rfl, V, .refl, hT, by unfold relL; rfl⟩
 | x :: r, T, V, vs, T', ys, hT, hx, he => by
  unfold relL at hx
  obtain ⟨v, vr, rfl, h1, h2⟩ := hx
  unfold affZ at he
  split at he
  ·cases he
  rename_i T1 y hy
  split at he
  ·cases he
  rename_i T2 ys' hys
  cases he
  obtain ⟨p, V1, l1, hT1, r1⟩ := agiZ hT h1 hy
  obtain ⟨q1, q2, q3, q4, q5, V2, l2, hT2, r2⟩ := aezZ hT1 (acoZ l1 _ _ h2) hys
  obtain ⟨p1, p2, p3, p4, p5, p6, p7, p8, p9⟩ := p []
  have p10 : v.strip1.cellOk = true := by cases v <;> first | rfl | exact p4
  refine ⟨by rw [List.map_cons, List.all_cons, p3, q1]; rfl, ?_, by rw [List.all_cons, p4, q3]; rfl, fun H => ?_, by rw [List.map_cons, List.map_cons, p2, q5], V2, l1.trans l2, hT2, ?_⟩
  ·rw [List.map_cons]
   simp only [acnZ, p10, p6, q2, Bool.and_self]
  ·unfold alLZ
   rw [(p H).1, q4 H]
   rfl
  ·rw [List.map_cons]
   unfold relL
   exact ⟨_, _, rfl, XV.rel_mono l2 _ _ r1, r2⟩
theorem ahDZ {T : ST} (hT : T.Ok B V) {x : XV} {v : AV} {T' : ST} {ys : List XV} (hx : x.rel V B v) (he : affZ T x.cellsX = some (T', ys)) :
  v.strip.cells = v.cells.map AV.strip1 /\ (v.strip.cells).all AV.still = true /\ acnZ v.strip.cells = true /\ (∀ H, fix H v = some (v.strip, H, [])) /\ ∃ V', V.Le V' /\ T'.Ok B V' /\ relL V' B ys v.strip.cells := by
 by_cases ha : ∃ cs, x = .agg cs
 ·obtain ⟨cs, rfl⟩ := ha
  unfold XV.rel at hx
  obtain ⟨vs, rfl, h1⟩ := hx
  obtain ⟨q1, q2, q3, q4, q5, q6⟩ := aezZ hT h1 he
  refine ⟨rfl, q1, q2, fun H => ?_, q6⟩
  unfold fix
  rw [show lend H (.agg vs) = some (.agg vs, []) by
   show (match alLZ H vs with | some (cs', l) => some (AV.agg cs', l) | none => none) = _
   rw [q4 H]]
  rfl
 ·have hc : x.cellsX = [x] := by cases x <;> first | rfl | exact absurd ⟨_, rfl⟩ ha
  rw [hc] at he
  have hx1 : relL V B [x] [v] := by unfold relL relL; exact ⟨v, [], rfl, hx, rfl⟩
  have he' := he
  unfold affZ at he'
  split at he'
  ·cases he'
  rename_i T1 y hy
  obtain ⟨p, -⟩ := agiZ hT hx hy
  obtain ⟨q1, q2, q3, q4, q5, q6⟩ := aezZ hT hx1 he
  obtain ⟨p1, p2, p3, p4, p5, p6, p7, p8, p9⟩ := p []
  have e : v.strip.cells = v.cells.map AV.strip1 := by rw [p5, p7, p8]; rfl
  have e2 : v.strip.cells = [v].map AV.strip1 := by rw [p5, p8]; rfl
  refine ⟨e, by rw [e2]; exact q1, by rw [e2]; exact q2, fun H => ?_, by rw [e2]; exact q6⟩
  unfold fix
  rw [show lend H v = some (v, []) by
   have := (p H).1
   cases v <;> first | exact this | (simp [AV.cellOk] at p4; done)]
  rfl
theorem aisZ : ∀ {n : Nat} {xs : List XV} {vs : List AV}, relL V B xs vs -> relL V B (xs.drop n) (vs.drop n)
 | 0, _, _, h => h
 | n + 1, [], vs, h => by unfold relL at h; subst h; simp; unfold relL; rfl
 | n + 1, x :: r, vs, h => by
  unfold relL at h
  obtain ⟨v, vr, rfl, _, h2⟩ := h
  rw [List.drop_succ_cons, List.drop_succ_cons]
  exact aisZ (n := n) h2
theorem aitZ : ∀ {n : Nat} {xs : List XV} {vs : List AV}, relL V B xs vs -> relL V B (xs.take n) (vs.take n)
 | 0, _, _, h => by simp; unfold relL; rfl
 | n + 1, [], vs, h => by unfold relL at h; subst h; simp; unfold relL; rfl
 | n + 1, x :: r, vs, h => by
  unfold relL at h
  obtain ⟨v, vr, rfl, h1, h2⟩ := h
  rw [List.take_succ_cons, List.take_succ_cons]
  unfold relL
  exact ⟨v, _, rfl, h1, aitZ h2⟩
theorem ajxZ : ∀ {xs ys : List XV} {vs ws : List AV}, relL V B xs vs -> relL V B ys ws -> relL V B (xs ++ ys) (vs ++ ws)
 | [], ys, vs, ws, h, h' => by unfold relL at h; subst h; exact h'
 | x :: r, ys, vs, ws, h, h' => by
  unfold relL at h
  obtain ⟨v, vr, rfl, h1, h2⟩ := h
  rw [List.cons_append, List.cons_append]
  unfold relL
  exact ⟨v, _, rfl, h1, ajxZ h2 h'⟩
theorem asWZ : ∀ {i : Nat} {xs : List XV} {vs : List AV} {x : XV}, relL V B xs vs -> xs[i]? = some x -> ∃ v, vs[i]? = some v /\ x.rel V B v
 | _, [], _, _, _, h => by simp at h
 | 0, y :: r, vs, x, h, he => by
  unfold relL at h
  obtain ⟨v, vr, rfl, h1, h2⟩ := h
  simp at he
  subst he
  exact ⟨v, by simp, h1⟩
 | i + 1, y :: r, vs, x, h, he => by
  unfold relL at h
  obtain ⟨v, vr, rfl, h1, h2⟩ := h
  simp only [List.getElem?_cons_succ] at he ⊢
  exact asWZ h2 he
theorem anrZ {xs ys : List XV} {vs ws : List AV} {off : Nat} (h1 : relL V B xs vs) (h2 : relL V B ys ws) : relL V B (avHZ xs off ys) (adjZ vs off ws) := by
 unfold avHZ adjZ
 rw [aaTZ h2]
 exact ajxZ (ajxZ (aitZ h1) h2) (aisZ h1)
theorem ansZ {agg : Bool} {cs : List XV} {vs : List AV} {y : XV} (h : relL V B cs vs) (he : ofX agg cs = some y) : ∃ v, abnZ agg vs = some v /\ y.rel V B v := by
 unfold ofX at he
 cases agg with
 | true =>
  cases he
  exact ⟨.agg vs, rfl, by unfold XV.rel; exact ⟨vs, rfl, h⟩⟩
 | false =>
  dsimp only at he
  split at he
  ·cases he
   unfold relL at h
   obtain ⟨v, vr, rfl, h1, h2⟩ := h
   unfold relL at h2
   subst h2
   exact ⟨v, rfl, h1⟩
  ·cases he
theorem antZ (hF : RF B h m V Hc F ρ H) {k : Nat} {x : XV} {v : AV} {cs : List XV} (hx : x.rel V B v) (he : axlZ F k x = some cs) : ∃ vs, aamZ H k v = some vs /\ relL V B cs vs := by
 unfold axlZ at he
 split at he
 ·unfold XV.rel at hx
  obtain ⟨vs, rfl, h1⟩ := hx
  split at he
  ·rename_i hc
   rw [Nat.ble_eq] at hc
   cases he
   refine ⟨_, ?_, aitZ (aisZ h1)⟩
   simp only [aamZ]
   rw [if_pos (by rw [aaTZ h1]; exact hc)]
  ·cases he
 ·rename_i o s off
  unfold XV.rel at hx
  obtain ⟨o', n, h1, rfl⟩ := hx
  split at he
  ·rename_i s' cells hg
   split at he
   ·rename_i hc
    rw [Bool.and_eq_true, Nat.beq_eq, Nat.ble_eq] at hc
    obtain ⟨rfl, hc⟩ := hc
    cases he
    have hlt : o < m := by
     rcases Nat.lt_or_ge o m with h1 | h1
     ·exact h1
     ·have : ∀ (l : List XO) (i : Nat), l.length <= i -> hget l i = .any := by
       intro l
       induction l with
       | nil => intro i _; rfl
       | cons a r ih => intro i hi; cases i with
        | zero => simp at hi
        | succ i => exact ih i (by simpa using hi)
      rw [this _ _ (by rw [hF.hl]; exact h1)] at hg
      cases hg
    have hlt2 : B + o < H.length := by rw [hF.len]; omega
    have hH : H[B + o]? = some H[B + o] := List.getElem?_eq_getElem hlt2
    have hr := hF.heap o _ hH
    rw [hg] at hr
    obtain ⟨o2, n2, vs, g1, g2, g3⟩ := hr
    rw [h1] at g1
    cases g1
    refine ⟨(vs.drop off).take k, ?_, aitZ (aisZ g3)⟩
    simp only [aamZ, hH, g2]
    rw [if_pos ⟨trivial, by rw [aaTZ g3]; exact hc⟩]
   ·cases he
  ·cases he
 ·cases he
end
end Go.AM
end
