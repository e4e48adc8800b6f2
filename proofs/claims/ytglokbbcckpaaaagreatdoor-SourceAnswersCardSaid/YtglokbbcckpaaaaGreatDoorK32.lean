/- Part 32 of the proof that stands in the last text of this folder (lemmas; no statement of its own). -/
import Derived.Test.YtglokbbcckpaaaaGreatDoorK31
set_option linter.unusedVariables false
set_option linter.unusedSimpArgs false
section
set_option maxHeartbeats 1600000
namespace Go.AM
open Go
section
variable {B h m : Nat} {V V' : Va} {Hc : List AObj} {F : FSt} {ρ : SEnv} {H : List AObj} {d : Option Nat} {A : AProg}
theorem Stp.W {call : Nat -> List AV -> List AObj -> Out} {site : Option Nat} {dr : Bool} {op : AOp} {l : List FSt} (hW : isW site dr op = true) (hh : ∃ v H' w, evWF call H ρ site op = some (v, H', w) /\ (∀ o ∈ w, B + h <= o) /\ H'.length = H.length /\ ∃ F' ∈ l, ∃ V', V.Le V' /\ RF B h m V' Hc F' (updO ρ d v) H') :
  Stp B h m V Hc l ρ d H (adAZ call site dr ρ H op) := by
 obtain ⟨v, H', w, h1, h2, h3, h4⟩ := hh
 refine ⟨v, H', w, ?_, h2, h3, h4⟩
 unfold adAZ
 rw [if_pos hW]
 exact h1
theorem Stp.R1 {call : Nat -> List AV -> List AObj -> Out} {site : Option Nat} {dr : Bool} {op : AOp} (hW : isW site dr op = false) (hF : RF B h m V Hc F ρ H) {T' : ST} {x : XV} {v : AV} (he : evRF H ρ op = some v) (hg : Got B V T' x v) :
  Stp B h m V Hc [F.put d T' x] ρ d H (adAZ call site dr ρ H op) := .R hW hF he hg (by simp)
theorem Got.one {T : ST} {x : XV} {v : AV} (h : T.Ok B V) (hx : x.rel V B v) : Got B V T x v := .same h hx
theorem newBox (hF : RF B h m V Hc F ρ H) {o : Nat} (ho : h <= o) (hm : o < m) {cells : List XV} {vs : List AV} (hr : relL V B cells vs) :
  ∃ V', V.Le V' /\ RF B h m V' Hc (F.putH d F.T.freshV (.ptr o F.T.nv 0) (hset (.box F.T.nv cells) F.heap o) (aerZ [o] F.vecs)) (updO ρ d (.ptr (B + o) (aaDZ H (B + o)) 0)) (make H (B + o) (.box · vs)) :=
 ⟨V.pe (some (o, aaDZ H (B + o))), Va.le_pe, hF.setObj (xo := .box F.T.nv cells) Va.le_pe (hF.T.freshV _) ho hm ⟨o, aaDZ H (B + o), vs, hF.T.new_v _, rfl, acoZ Va.le_pe _ _ hr⟩ (by unfold XV.rel; exact ⟨o, _, hF.T.new_v _, rfl⟩) d (hF.apart Va.le_pe (by simp) _)⟩
theorem anzZ : ∀ {rows : List (List AV)}, (∀ row ∈ rows, aaKZ [[.num .u8 0 255]] row) -> ∃ l : List UInt8, abqZ rows = some l /\ l.length = rows.length
 | [], _ => ⟨[], rfl, rfl⟩
 | row :: r, h => by
  obtain ⟨l, h1, h2⟩ := anzZ fun row hr => h row (List.mem_cons_of_mem _ hr)
  have := h row (by simp)
  unfold aaKZ aaKZ at this
  rcases this with this | this
  ·unfold hasL hasL at this
   obtain ⟨v, vr, rfl, hv, rfl⟩ := this
   unfold SH.has at hv
   obtain ⟨n, rfl, _, _⟩ := hv
   exact ⟨_, by simp only [abqZ, h1]; rfl, by simp [h2]⟩
  ·exact this.elim
theorem akVZ : ∀ l : List UInt8, abHZ (aayZ l) = true /\ (aayZ l).length = l.length /\ ∀ row ∈ aayZ l, aaKZ [[.num .u8 0 255]] row := fun l => by
 refine ⟨ajTZ fun row hr => ?_, by simp [aayZ], fun row hr => ?_⟩
 ·simp only [aayZ, List.mem_map] at hr
  obtain ⟨b, _, rfl⟩ := hr
  rfl
 ·simp only [aayZ, List.mem_map] at hr
  obtain ⟨b, _, rfl⟩ := hr
  unfold aaKZ
  left
  unfold hasL hasL
  refine ⟨_, [], rfl, ?_, rfl⟩
  unfold SH.has
  have := b.toNat_lt
  exact ⟨_, rfl, by omega, by omega⟩
theorem auhZ {rows : List (List AV)} (h : abHZ rows = true) {r : List (List AV)} (hs : ∀ x ∈ r, x ∈ rows) : abHZ r = true := ajTZ fun v hv => akEZ h v (hs v hv)
theorem aoHZ {f : AOpd} {n : Nat} (h : arMZ f = some n) : f = .const (.fn n [] []) := by
 unfold arMZ at h
 split at h
 ·cases h; rfl
 ·cases h
set_option maxHeartbeats 4000000 in
theorem avXZ {call : anhZ} (hcall : aqVZ A B call) {split : Nat -> Bool} {dr : Bool} {site : Option Nat} (hsite : ∀ o, site = some o -> h <= o /\ o < m) (hF : RF B h m V Hc F ρ H) {op : AOp} {l : List FSt} (he : opX call split dr site F d op = some l) :
  Stp B h m V Hc l ρ d H (adAZ (aapZ A) (site.map (B + ·)) dr ρ H op) := by
 unfold opX at he
 split at he
 ·
  cases he
  exact .R1 rfl hF rfl (.one hF.T (hF.opd _))
 ·
  rename_i c a b
  have hc := hF.opd c
  split at he
  ·rename_i e
   rw [e] at hc
   unfold XV.rel at hc
   cases he
   exact .R1 (v := a.at ρ) rfl hF (by simp only [evRF, hc]; rfl) (.one hF.T (hF.opd a))
  ·rename_i e
   rw [e] at hc
   unfold XV.rel at hc
   cases he
   exact .R1 (v := b.at ρ) rfl hF (by simp only [evRF, hc]; rfl) (.one hF.T (hF.opd b))
  ·cases he
 ·
  rename_i zs
  split at he
  ·rename_i o
   cases he
   obtain ⟨ho, hm⟩ := hsite o rfl
   obtain ⟨V', h1, h2⟩ := newBox (d := d) hF ho hm (agjZ hF.T zs)
   refine .W rfl ⟨_, _, [B + o], ?_, by simp; omega, by simp [make], _, List.mem_singleton.2 rfl, V', h1, h2⟩
   simp only [evWF, Option.map_some]
   rw [if_pos (by rw [hF.len]; omega)]
  ·cases he
 ·
  rename_i k x
  split at he
  ·rename_i o
   split at he
   ·rename_i hc
    rw [Bool.and_eq_true, aiNZ] at hc
    cases he
    obtain ⟨ho, hm⟩ := hsite o rfl
    obtain ⟨c1, c2⟩ := ajwZ hc.2 (hF.opd x)
    obtain ⟨V', h1, h2⟩ := newBox (d := d) hF ho hm c1
    refine .W rfl ⟨_, _, [B + o], ?_, by simp; omega, by simp [make], _, List.mem_singleton.2 rfl, V', h1, h2⟩
    simp only [evWF, Option.map_some]
    rw [if_pos ⟨by rw [hF.len]; omega, by rw [aaTZ c1]; exact hc.1, c2⟩]
   ·cases he
  ·split at he
   ·rename_i T cs hs
    split at he
    ·rename_i hc
     rw [aiNZ] at hc
     cases he
     obtain ⟨q1, q2, q3, q4, V', l1, hT1, r1⟩ := ahDZ hF.T (hF.opd x) hs
     refine .R1 (v := .ep (x.at ρ).strip.cells 0) rfl hF ?_ ⟨V', l1, hT1, by unfold XV.rel; exact ⟨_, rfl, r1⟩⟩
     simp only [evRF]
     rw [if_pos ⟨by rw [aaTZ r1]; exact hc, q2⟩]
    ·cases he
   ·cases he
 ·
  rename_i zs ps
  split at he
  ·rename_i cs hs
   cases he
   obtain ⟨ws, w1, w2⟩ := alAZ hF ps (agjZ hF.T zs) hs
   exact .R1 (v := .agg ws) rfl hF (by simp only [evRF, w1]; rfl) (.one hF.T (by unfold XV.rel; exact ⟨ws, rfl, w2⟩))
  ·cases he
 ·
  rename_i k zs n ps
  split at he
  ·rename_i id vs hg
   cases he
   unfold aydZ at hg
   split at hg
   rotate_left
   ·cases hg
   rename_i x hn
   rw [Bool.and_eq_true, Nat.beq_eq, Nat.beq_eq] at hn
   obtain ⟨rfl, rfl⟩ := hn
   have hx := hF.opd x
   split at hg
   rotate_left
   ·cases hg
   rename_i s id' hxs
   split at hg
   rotate_left
   ·cases hg
   rename_i w hw
   cases hg
   rw [hxs] at hx
   unfold XV.rel at hx
   obtain ⟨e, rows, h1, h2, h3⟩ := hx
   obtain ⟨m1, m2, m3⟩ := akUZ hw
   obtain ⟨⟨e', rows', k1, k2, k3⟩, k4⟩ := hF.vecs w m1
   rw [m2, h1] at k1
   rw [m3, h2] at k2
   cases k1
   cases k2
   have hdat := hF.T.dat _ _ h2
   have hgen : (gen F.T (.sl id)).has (.sl false rows) := aipZ hF.T _ _ (by unfold XV.rel; exact ⟨false, rows, h2, rfl⟩)
   have hT1 := hF.T.freshL (li := ⟨[[gen F.T (.sl id)]], 0, 1⟩) (rows := [[.sl false rows]]) (n := 0) (by simp [abHZ, acnZ, AV.cellOk, AV.data, hdat]) hF.T.zero (by simp) (by
    intro row hr
    rw [List.mem_singleton.1 hr]
    unfold aaKZ
    left
    unfold hasL hasL
    exact ⟨_, [], rfl, hgen, rfl⟩)
   have hx' : XV.rel (V.pd [[.sl false rows]]) B (.fsl F.T.nl) (.sl true [[.sl false rows]]) := by unfold XV.rel; exact ⟨_, hF.T.new_l _, rfl⟩
   have fin : ∀ H', (H' = H ∨ ∃ o n, e = some (o, n) /\ H' = H.set (B + o) (.gone ((H[B + o]?).elim 0 AObj.ver))) -> RF B h m (V.pd [[.sl false rows]]) Hc (F.putH d (F.T.freshL ⟨[[gen F.T (.sl id)]], 0, 1⟩) (.fsl F.T.nl) F.heap (aerZ w.os F.vecs)) (updO ρ d (.sl true [[.sl false rows]])) H' := by
    intro H' hH
    have hget' : ∀ (o : Nat) (x : AObj), H'[B + o]? = some x -> (hget F.heap o).rel (V.pd [[.sl false rows]]) B x := by
     intro o x hx
     rcases hH with rfl | ⟨o2, n2, rfl, rfl⟩
     ·exact XO.rel_mono Va.le_pd (hF.heap o x hx)
     ·by_cases e2 : o = o2
      ·subst e2
       have hr := hF.heap o _ (k3 o n2 rfl).2
       cases hg : hget F.heap o with
       | any => trivial
       | box s c =>
        rw [hg] at hr
        obtain ⟨_, _, _, _, hr, _⟩ := hr
        cases hr
      ·rw [List.getElem?_set_ne (by omega)] at hx
       exact XO.rel_mono Va.le_pd (hF.heap o x hx)
    have hcut : H'.take (B + h) = Hc := by
     rcases hH with rfl | ⟨o2, n2, rfl, rfl⟩
     ·exact hF.cut
     ·have := k4 o2 (k3 o2 n2 rfl).1
      rw [List.take_set_of_le (by omega)]; exact hF.cut
    have hvecs : ∀ u ∈ aerZ w.os F.vecs, u.ok (V.pd [[.sl false rows]]) B H' /\ ∀ o ∈ u.os, h <= o := by
     intro u hu
     rcases hH with rfl | ⟨o2, n2, rfl, rfl⟩
     ·obtain ⟨w1, _⟩ := afvZ hu
      exact ⟨VF.ok_mono Va.le_pd (hF.vecs u w1).1, (hF.vecs u w1).2⟩
     ·exact hF.apart Va.le_pd (k3 o2 n2 rfl).1 _ u hu
    have hlen : H'.length = H.length := by rcases hH with rfl | ⟨o2, n2, _, rfl⟩ <;> simp
    cases d with
    | none => exact ⟨hT1, fun t x e => XV.rel_mono Va.le_pd _ _ (hF.env t x e), by rw [hlen]; exact hF.len, hF.hl, hget', hF.low, hvecs, hcut, hF.fh⟩
    | some d => exact ⟨hT1, aptZ (fun t x e => XV.rel_mono Va.le_pd _ _ (hF.env t x e)) hx', by rw [hlen]; exact hF.len, hF.hl, hget', hF.low, hvecs, hcut, hF.fh⟩
   cases e with
   | none =>
    simp only [gsv] at h3
    refine .W rfl ⟨_, H, [], ?_, by simp, rfl, _, List.mem_singleton.2 rfl, _, Va.le_pd, fin H (.inl rfl)⟩
    simp only [evWF, Option.map_none, aefZ, h3]
    rfl
   | some p =>
    obtain ⟨o, n⟩ := p
    simp only [gsv] at h3
    have hst := aatZ hdat
    have hfix : fix H (.sr (B + o) n rows.length) = some (.sl false rows, H.set (B + o) (.gone ((H[B + o]?).elim 0 AObj.ver)), [B + o]) := by
     unfold fix
     rw [artZ, apaZ, (k3 o n rfl).2]
     dsimp only
     rw [if_pos ⟨rfl, rfl, hst⟩]
     simp only [aaOZ, (k3 o n rfl).2]
     rfl
    have := k4 o (k3 o n rfl).1
    refine .W rfl ⟨_, _, [B + o], ?_, by simp; omega, by simp, _, List.mem_singleton.2 rfl, _, Va.le_pd, fin _ (.inr ⟨o, n, rfl, rfl⟩)⟩
    simp only [evWF, Option.map_none, aefZ, h3, hfix]
    rfl
  ·split at he
   rotate_left
   ·cases he
   rename_i alts mm e1 e2
   split at he
   rotate_left
   ·cases he
   rename_i hc
   simp only [Bool.and_eq_true, Nat.beq_eq, Nat.blt_eq] at hc
   obtain ⟨⟨rfl, hpos⟩, hcov⟩ := hc
   have hn := alBZ e2
   have hcov' := alCZ hF hcov
   have hlen : ps.length = mm := by omega
   obtain ⟨r1, r2⟩ := anvZ (k := k) (zs := zs) (done := []) (ρ := ρ) e2 fun p hp => ⟨(hcov' p hp).1, (hcov' p hp).2.1⟩
   have r3 := ajeZ (k := k) (zs := zs) (done := []) (ρ := ρ) (H := H) e2 fun p hp => ⟨(hcov' p hp).1, (hcov' p hp).2.1, (hcov' p hp).2.2.2.2⟩
   rw [List.nil_append, List.nil_append, hlen] at r1 r2 r3
   have hdat : abHZ (ps.map (abGZ ρ)) = true := ajTZ fun v hv => by
    obtain ⟨p, hp, rfl⟩ := List.mem_map.1 hv
    exact (hcov' p hp).2.2.1
   have hal : ∀ row ∈ ps.map (abGZ ρ), aaKZ alts row := fun row hr => by
    obtain ⟨p, hp, rfl⟩ := List.mem_map.1 hr
    exact (hcov' p hp).2.2.2.1
   have hrl : ((ps.map (abGZ ρ)).length : Int) = 0 + mm := by simp; omega
   split at he
   ·cases he
    have hT1 := hF.T.freshL (li := ⟨alts, 0, (mm : Int)⟩) (n := 0) hdat hF.T.zero hrl hal
    have hg : Got B V (F.T.freshL ⟨alts, 0, (mm : Int)⟩) (.fsl F.T.nl) (.sl true (ps.map (abGZ ρ))) := ⟨_, Va.le_pd, hT1, by unfold XV.rel; exact ⟨_, hF.T.new_l _, rfl⟩⟩
    cases dr with
    | true => exact .R1 rfl hF (by simp only [evRF, r1]; rfl) hg
    | false =>
     obtain ⟨V', h1, h2⟩ := hF.put hg d
     exact .W rfl ⟨_, H, [], by simp only [evWF, Option.map_none, r3], by simp, rfl, _, List.mem_singleton.2 rfl, V', h1, h2⟩
   ·rename_i o _
    cases he
    obtain ⟨ho, hm⟩ := hsite o rfl
    have hid : B + o < H.length := by rw [hF.len]; omega
    have hT1 := (hF.T.freshV (some (o, aaDZ H (B + o)))).freshL (li := ⟨alts, 0, (mm : Int)⟩) (n := 0) hdat hF.T.zero hrl hal
    have hle : V.Le ((V.pe (some (o, aaDZ H (B + o)))).pd (ps.map (abGZ ρ))) := Va.le_pe.trans Va.le_pd
    have hR := hF.grow (d := d) (k := k) hle hT1 ho (os := [o]) (by simpa using ho) (H' := make H (B + o) (.vec · k (ps.map (abGZ ρ)))) (v := .sr (B + o) (aaDZ H (B + o)) mm) (e := some (o, aaDZ H (B + o))) (rows := ps.map (abGZ ρ)) (s := F.T.nv) (id := F.T.nl)
     (hF.T.new_v _) ((hF.T.freshV _).new_l _) (by simp [gsv, hlen]) (fun o2 n2 e => by
      cases e
      refine ⟨by simp, ?_⟩
      unfold make
      rw [List.getElem?_set_self hid]; rfl) (.inr ⟨o, _, by simp, hm, rfl, .inl rfl⟩)
    refine .W rfl ⟨_, _, [B + o], ?_, by simp; omega, by simp [make], _, List.mem_singleton.2 rfl, _, hle, hR⟩
    simp only [evWF, Option.map_some, r2]
    rw [if_pos hid]
 ·
  rename_i k agg x
  split at he
  ·rename_i cs hs
   split at he
   ·rename_i y hy
    cases he
    obtain ⟨vs, h1, h2⟩ := antZ hF (hF.opd x) hs
    obtain ⟨v, h3, h4⟩ := ansZ h2 hy
    exact .R1 (v := v) rfl hF (by simp only [evRF, h1, h3]) (.one hF.T h4)
   ·cases he
  ·cases he
 ·
  rename_i k x v
  have hx := hF.opd x
  split at he
  rotate_left
  ·cases he
  rename_i o s off hxs
  split at he
  rotate_left
  ·cases he
  rename_i s' cells hg
  split at he
  rotate_left
  ·cases he
  rename_i hc
  simp only [Bool.and_eq_true, Nat.beq_eq, aiNZ, Nat.ble_eq] at hc
  obtain ⟨⟨⟨rfl, hk⟩, hco⟩, hoff⟩ := hc
  cases he
  rw [hxs] at hx
  unfold XV.rel at hx
  obtain ⟨o', n, h1, hx⟩ := hx
  obtain ⟨c1, c2⟩ := ajwZ hco (hF.opd v)
  have hlow : h <= o := by
   rcases Nat.lt_or_ge o h with h2 | h2
   ·rw [hF.low o h2] at hg; cases hg
   ·exact h2
  have hom : o < m := by
   rcases Nat.lt_or_ge o m with h1 | h1
   ·exact h1
   ·have : ∀ (l : List XO) (i : Nat), l.length <= i -> hget l i = .any := by
     intro l
     induction l with
     | nil => intro i _; rfl
     | cons a r ih => intro i hi; cases i with
      | zero => simp at hi
      | succ i => exact ih i (by simpa using hi)
    rw [this _ _ (by rw [hF.hl]; exact h1)] at hg
    cases hg
  have hid : B + o < H.length := by rw [hF.len]; omega
  have hH : H[B + o]? = some H[B + o] := List.getElem?_eq_getElem hid
  have hr := hF.heap o _ hH
  rw [hg] at hr
  obtain ⟨o2, n2, vs, g1, g2, g3⟩ := hr
  rw [h1] at g1
  cases g1
  rw [g2] at hH
  have hvok : ∀ w ∈ F.vecs, w.ok V B (H.set (B + o) (.box n (adjZ vs off (v.at ρ).cells))) /\ ∀ o ∈ w.os, h <= o := by
   intro w hw
   obtain ⟨⟨e, rows, k1, k2, k3⟩, k4⟩ := hF.vecs w hw
   refine ⟨⟨e, rows, k1, k2, fun o3 n3 e3 => ⟨(k3 o3 n3 e3).1, ?_⟩⟩, k4⟩
   have := (k3 o3 n3 e3).2
   rw [List.getElem?_set_ne]
   ·exact this
   ·intro e4
    rw [<- e4, hH] at this
    cases this
  have hR := hF.setObj (d := d) .refl hF.T hlow hom (xo := .box s (avHZ cells off (F.opd v).cellsX)) (obj := .box n (adjZ vs off (v.at ρ).cells)) ⟨o', n, _, h1, rfl, anrZ g3 c1⟩ (x := .top) (v := .undef) (by unfold XV.rel; trivial) hvok
  refine .W rfl ⟨.undef, _, [B + o], ?_, by simp; omega, by simp, _, List.mem_singleton.2 rfl, V, .refl, hR⟩
  simp only [evWF]
  rw [if_pos ⟨by rw [aaTZ c1]; exact hk, c2⟩, hx]
  simp only [storeCells, hH]
  rw [if_pos ⟨trivial, by rw [aaTZ c1, aaTZ g3]; exact hoff⟩]
 ·
  rename_i x
  have hx := hF.opd x
  split at he
  ·rename_i e
   cases he
   rw [e] at hx
   have hx' := hx
   unfold XV.rel at hx
   obtain ⟨o', n, h1, hx⟩ := hx
   exact .R1 (v := x.at ρ) rfl hF (by simp only [evRF, hx]) (.one hF.T hx')
  ·rename_i e
   cases he
   rw [e] at hx
   have hx' := hx
   unfold XV.rel at hx
   obtain ⟨vs, hx, h1⟩ := hx
   exact .R1 (v := x.at ρ) rfl hF (by simp only [evRF, hx]) (.one hF.T hx')
  ·cases he
 ·
  rename_i op ek x y
  exact aiOZ rfl hF he fun T' z hz => by
   simp only [evRF]
   exact audZ hF.T (hF.opd x) (hF.opd y) hz
 ·
  rename_i op x
  exact aiOZ rfl hF he fun T' z hz => by
   simp only [evRF]
   exact avUZ hF.T (hF.opd x) hz
 ·
  rename_i cv x
  have hx := hF.opd x
  split at he
  ·rename_i k kd s c e
   rw [e] at hx
   unfold XV.rel at hx
   obtain ⟨n, h1, hx⟩ := hx
   have rn := hF.T.rng _ _ h1
   split at he
   ·cases he
   ·rename_i mn mx hk
    have hw := akTZ hk (n + c)
    split at he
    ·rename_i hr
     rw [annZ] at hr
     cases he
     exact .R1 (v := .int k (n + c)) rfl hF (by simp only [evRF, hx, agRZ]; rw [hw.2 (by omega) (by omega)]) (.one hF.T (by unfold XV.rel; exact ⟨n, h1, rfl⟩))
    ·cases he
     exact .R1 rfl hF (by simp only [evRF, hx, agRZ]) (.num hF.T hw.1.1 hw.1.2)
  ·rename_i s c e
   rw [e] at hx
   have hx' := hx
   unfold XV.rel at hx
   obtain ⟨t, n, hx, _⟩ := hx
   cases he
   exact .R1 (v := x.at ρ) rfl hF (by simp only [evRF, hx, agRZ]) (.one hF.T hx')
  ·rename_i s c e
   rw [e] at hx
   unfold XV.rel at hx
   obtain ⟨t, n, hx, h1, h2⟩ := hx
   have rn := hF.T.rng _ _ h1
   split at he
   ·rename_i hc
    rw [absZ] at hc
    cases he
    obtain ⟨b1, b2, b3⟩ := akVZ t
    have hT1 := hF.T.freshL (li := ⟨[[.num .u8 0 255]], s, c⟩) (n := n) b1 h1 (by dsimp only; rw [b2]; exact h2) b3
    exact .R1 (v := .sl false (aayZ t)) rfl hF (by simp only [evRF, hx, agRZ]; rw [if_pos (by omega)]) ⟨_, Va.le_pd, hT1, by unfold XV.rel; exact ⟨false, _, hF.T.new_l _, rfl⟩⟩
   ·cases he
  ·split at he
   ·rename_i T id hal
    obtain ⟨V1, rows, hle, hT, hd, hro, _⟩ := alDZ hF hx hal
    split at he
    ·rename_i li hl
     split at he
     ·rename_i hc
      cases he
      obtain ⟨d1,⟨y, y1, y2⟩, y3⟩ := abVZ hT hl hd
      obtain ⟨t, t1, t2⟩ := anzZ fun row hr => acsZ _ _ _ hc (y3 row hr)
      exact .R1 (v := .str t) rfl hF (by simp only [evRF, agRZ, hro, t1]; rfl) ⟨V1, hle, hT, by unfold XV.rel; exact ⟨t, y, rfl, y1, by omega⟩⟩
     ·cases he
    ·cases he
   ·cases he
  ·cases he
 ·
  rename_i x lo hi
  have hx := hF.opd x
  split at he
  ·rename_i s c e
   rw [e] at hx
   unfold XV.rel at hx
   obtain ⟨t, n, hx, h1, h2⟩ := hx
   split at he
   ·rename_i T s' c' hs
    cases he
    obtain ⟨a, b, g1, g2, g3, V1, n', g4, g5, g6, g7⟩ := alFZ hF.T h1 h2 hF hs
    exact .R1 (v := .str ((t.take b).drop a)) rfl hF (by simp only [evRF, hx, g1]) ⟨V1, g4, g5, by unfold XV.rel; exact ⟨_, n', rfl, g6, by simp only [List.length_drop, List.length_take]; omega⟩⟩
   ·cases he
  ·cases he
 ·
  rename_i k x lo hi
  have hx := hF.opd x
  split at he
  ·rename_i id hid
   obtain ⟨f, rows, hd, hx⟩ := akjZ hx hid
   split at he
   ·rename_i li hl
    split at he
    ·rename_i T s' c' hs hal
     cases he
     obtain ⟨d1,⟨y, y1, y2⟩, y3⟩ := abVZ hF.T hl hd
     obtain ⟨a, b, g1, g2, g3, V1, n', g4, g5, g6, g7⟩ := alFZ hF.T y1 y2 hF hs
     have hsub : ∀ r ∈ (rows.take b).drop a, r ∈ rows := fun r hr => List.mem_of_mem_take (List.mem_of_mem_drop hr)
     have hT1 := g5.freshL (li := ⟨li.alts, s', c'⟩) (rows := (rows.take b).drop a) (n := n') (auhZ d1 hsub) g6 (by simp only [List.length_drop, List.length_take]; omega) fun r hr => y3 r (hsub r hr)
     refine .R1 (v := .sl (decide (rows.length = b) && ((none : Option AOpd).isSome || f)) ((rows.take b).drop a)) rfl hF ?_ ⟨_, g4.trans Va.le_pd, hT1, by unfold XV.rel; exact ⟨_, _, g5.new_l _, rfl⟩⟩
     simp only [evRF, hx, Option.map_none, g1]
     rw [akkZ fun row hr => adHZ hal (y3 row hr)]
     rfl
    ·cases he
   ·cases he
  ·cases he
 ·
  rename_i off x
  have hx := hF.opd x
  split at he
  ·rename_i o s off0 e
   cases he
   rw [e] at hx
   unfold XV.rel at hx
   obtain ⟨o', n, h1, hx⟩ := hx
   exact .R1 (v := .ptr (B + o) n (off0 + off)) rfl hF (by simp only [evRF, hx]) (.one hF.T (by unfold XV.rel; exact ⟨o', n, h1, rfl⟩))
  ·rename_i row off0 e
   cases he
   rw [e] at hx
   unfold XV.rel at hx
   obtain ⟨vs, hx, h1⟩ := hx
   exact .R1 (v := .ep vs (off0 + off)) rfl hF (by simp only [evRF, hx]) (.one hF.T (by unfold XV.rel; exact ⟨vs, rfl, h1⟩))
  ·cases he
 ·
  rename_i off k agg x
  have hx := hF.opd x
  split at he
  ·rename_i cs e
   rw [e] at hx
   unfold XV.rel at hx
   obtain ⟨vs, hx, h1⟩ := hx
   split at he
   ·rename_i y hc hy
    rw [Nat.ble_eq] at hc
    cases he
    obtain ⟨v, h3, h4⟩ := ansZ (aitZ (aisZ h1)) hy
    exact .R1 (v := v) rfl hF (by simp only [evRF, hx]; rw [if_pos (by rw [aaTZ h1]; exact hc)]; exact h3) (.one hF.T h4)
   ·cases he
  ·cases he
 ·
  rename_i x i k
  split at he
  ·rename_i l0 hl0
   cases he
   obtain ⟨f, rows, kd, n, row, e1, e2, e3, e4, e5, p, p1, p2⟩ := aufZ hF.T (hF.opd x) (hF.opd i) hl0
   refine .R (v := .ep row 0) rfl hF ?_ p2 (apuZ p1)
   simp only [evRF, e1, e2]
   rw [if_pos e3, e4]
   dsimp only
   rw [if_pos e5]
  ·cases he
 ·
  rename_i x i
  have hx := hF.opd x
  have hi := hF.opd i
  split at he
  ·rename_i s c kd s' c' e1 e2
   rw [e1] at hx
   rw [e2] at hi
   unfold XV.rel at hx hi
   obtain ⟨t, n, hx, h1, h2⟩ := hx
   obtain ⟨q, h3, hi⟩ := hi
   split at he
   ·rename_i hc
    rw [Bool.and_eq_true] at hc
    cases he
    have k1 := aaEZ hF.T qf hc.1 hF.T.zero h3
    have k2 := aaEZ hF.T qf hc.2 h3 h1
    have hlt : (q + c').toNat < t.length := by omega
    have hb := t[(q + c').toNat].toNat_lt
    refine .R1 (v := .int .u8 t[(q + c').toNat].toNat) rfl hF ?_ (.num hF.T (by omega) (by omega))
    simp only [evRF, hx, hi]
    rw [if_pos (by omega), List.getElem?_eq_getElem hlt]
   ·cases he
  ·cases he
 ·
  rename_i x
  have hx := hF.opd x
  split at he
  ·rename_i s c e
   rw [e] at hx
   unfold XV.rel at hx
   obtain ⟨t, n, hx, h1, h2⟩ := hx
   cases he
   exact .R1 (v := .int .i64 t.length) rfl hF (by simp only [evRF, hx]) (.one hF.T (by unfold XV.rel; exact ⟨n, h1, by rw [h2]⟩))
  ·cases he
 ·
  rename_i x
  have hx := hF.opd x
  have one : ∀ {id : Nat} {rows : List (List AV)} {T' : ST} {z : XV}, V.δ[id]? = some rows -> lenL F.T id = some (T', z) -> Got B V T' z (.int .i64 rows.length) := by
   intro id rows T' z hd hz
   unfold lenL at hz
   split at hz
   ·rename_i li hl
    cases hz
    obtain ⟨n, g1, g2, _⟩ := azGZ hF.T hl hd
    exact .one hF.T (by unfold XV.rel; exact ⟨n, g1, by rw [g2]⟩)
   ·cases hz
  refine aiOZ rfl hF he fun T' z hz => ?_
  unfold lenX at hz
  split at hz
  ·rename_i e
   rw [e] at hx
   unfold XV.rel at hx
   obtain ⟨f, rows, h1, hx⟩ := hx
   exact ⟨_, by simp only [evRF, hx], one h1 hz⟩
  ·rename_i e
   rw [e] at hx
   unfold XV.rel at hx
   obtain ⟨rows, h1, hx⟩ := hx
   exact ⟨_, by simp only [evRF, hx], one h1 hz⟩
  ·rename_i e
   rw [e] at hx
   unfold XV.rel at hx
   obtain ⟨e2, rows, h1, h2, h3⟩ := hx
   cases e2 with
   | none =>
    simp only [gsv] at h3
    exact ⟨_, by simp only [evRF, h3], one h2 hz⟩
   | some p =>
    obtain ⟨o, n⟩ := p
    simp only [gsv] at h3
    exact ⟨_, by simp only [evRF, h3], one h2 hz⟩
  ·rename_i e
   rw [e] at hx
   unfold XV.rel at hx
   cases hz
   exact ⟨.int .i64 0, by simp only [evRF, hx]; rfl, .one hF.T (by unfold XV.rel; exact ⟨0, hF.T.zero, rfl⟩)⟩
  ·cases hz
 ·
  rename_i n
  cases he
  exact .R1 (v := .int .i64 n) rfl hF rfl (.one hF.T (by unfold XV.rel; exact ⟨0, hF.T.zero, by rw [Int.zero_add]⟩))
 ·
  rename_i mx xs
  have hx := hF.opds xs
  split at he
  ·cases he
  ·rename_i x r e
   rw [e] at hx
   unfold relL at hx
   obtain ⟨v, vr, hv, h1, h2⟩ := hx
   refine aiOZ rfl hF he fun T' z hz => ?_
   obtain ⟨w, w1, w2⟩ := aqSZ r hF.T h1 h2 hz
   exact ⟨w, by simp only [evRF, hv, mmV]; exact w1, w2⟩
 ·
  rename_i k bytes s x
  split at he
  ·rename_i o
   obtain ⟨ho, hm⟩ := hsite o rfl
   exact .W rfl (augZ hF ho hm (hF.opd s) (hF.opd x) he)
  ·cases he
 ·
  rename_i i x
  have hx := hF.opd x
  split at he
  ·rename_i vs e
   rw [e] at hx
   unfold XV.rel at hx
   obtain ⟨ws, hx, h1⟩ := hx
   split at he
   ·rename_i y hy
    cases he
    obtain ⟨v, h2, h3⟩ := asWZ h1 hy
    exact .R1 (v := v) rfl hF (by simp only [evRF, hx]; exact h2) (.one hF.T h3)
   ·cases he
  ·cases he
 ·
  rename_i f xs
  split at he
  rotate_left
  ·cases he
  rename_i f' hf
  rw [aoHZ hf]
  split at he
  ·cases he
  rename_i T ys lent hargs
  split at he
  ·cases he
  rename_i l0 hl0
  split at he
  ·cases he
  rename_i l1 hl1
  split at he
  ·cases he
  rename_i l2 hl2
  cases he
  obtain ⟨as', lnt, g1, g2, V1, g3, g4, g5⟩ := ajzZ hF xs .refl hF.T hargs
  obtain ⟨v, c1, p, c2, V2, c3, c4, c5⟩ := hcall _ _ _ _ _ _ _ (aaOZ H lnt) hl0 g4 g5 (by rw [aedZ, hF.len, hF.hl])
  obtain ⟨y, y1, y2⟩ := anyZ hl1 p c2
  obtain ⟨v', v1, v2⟩ := aoGZ (H := H) (H2 := aaOZ H lnt) (q := lnt.isEmpty) c5 y1 (fun hb => by rw [g2 hb]; rfl) aedZ (fun hq => by
   rw [List.isEmpty_iff] at hq
   rw [hq]; rfl)
  obtain ⟨q, q1, V3, q2, q3, q4⟩ := axvZ g4 hl2 y2 ⟨V2, c3, c4, v2⟩
  obtain ⟨V4, r1, r2⟩ := hF.put ⟨V3, g3.trans q2, q3, q4⟩ d
  refine .W rfl ⟨v', H, [], ?_, by simp, rfl, _, apuZ q1, V4, r1, r2⟩
  simp only [evWF, AOpd.at, Option.map_none, aokZ, List.nil_append, List.append_nil, g1, c1]
  exact v1
 ·cases he
end
end Go.AM
end
section
namespace Go.AM
open Go
section
variable {B : Nat} {V V' Vb : Va} {T : ST}
theorem avYZ (hle : Vb.Le V) (hT : T.Ok B Vb) {s : Nat} {n : Int} (h : Nat.blt s T.ns = true) (hv : V.γ[s]? = some n) : Vb.γ[s]? = some n := by
 rw [Nat.blt_eq] at h
 have hlt : s < Vb.γ.length := by rw [hT.ns]; exact h
 have h1 : Vb.γ[s]? = some Vb.γ[s] := List.getElem?_eq_getElem hlt
 have h2 := hle.g _ _ h1
 rw [hv] at h2
 rw [h1, h2]
theorem apvZ (hle : Vb.Le V) (hT : T.Ok B Vb) {s : Nat} {n : List (List AV)} (h : Nat.blt s T.nl = true) (hv : V.δ[s]? = some n) : Vb.δ[s]? = some n := by
 rw [Nat.blt_eq] at h
 have hlt : s < Vb.δ.length := by rw [hT.nl]; exact h
 have h1 : Vb.δ[s]? = some Vb.δ[s] := List.getElem?_eq_getElem hlt
 have h2 := hle.d _ _ h1
 rw [hv] at h2
 rw [h1, h2]
theorem anAZ (hle : Vb.Le V) (hT : T.Ok B Vb) {s : Nat} {n : Option (Nat × Nat)} (h : Nat.blt s T.nv = true) (hv : V.ε[s]? = some n) : Vb.ε[s]? = some n := by
 rw [Nat.blt_eq] at h
 have hlt : s < Vb.ε.length := by rw [hT.nv]; exact h
 have h1 : Vb.ε[s]? = some Vb.ε[s] := List.getElem?_eq_getElem hlt
 have h2 := hle.e _ _ h1
 rw [hv] at h2
 rw [h1, h2]
mutual
theorem aoIZ (hle : Vb.Le V) (hT : T.Ok B Vb) : ∀ (x y : XV) (v : AV), aenZ x y = true -> inScope T y = true -> x.rel V B v -> y.rel Vb B v
 | .top, .top, v, _, _, _ => by unfold XV.rel; trivial
 | .tt a, .tt b, v, h, _, hx => by
  simp only [aenZ, beq_iff_eq] at h
  subst h
  unfold XV.rel at hx ⊢
  exact hx
 | .bl c, .bl c', v, h, hs, hx => by
  unfold XV.rel at hx ⊢
  obtain ⟨b, h1, h2⟩ := hx
  cases c' with
  | none => exact ⟨b, h1, trivial⟩
  | lt => simp [inScope, Cd.inScope] at hs
  | le => simp [inScope, Cd.inScope] at hs
  | eq => simp [inScope, Cd.inScope] at hs
  | ne => simp [inScope, Cd.inScope] at hs
 | .num k s c, .num k' s' c', v, h, hs, hx => by
  simp only [aenZ, Bool.and_eq_true, akiZ, Nat.beq_eq, ahrZ] at h
  obtain ⟨⟨rfl, rfl⟩, rfl⟩ := h
  simp only [inScope] at hs
  unfold XV.rel at hx ⊢
  obtain ⟨n, h1, h2⟩ := hx
  exact ⟨n, avYZ hle hT hs h1, h2⟩
 | .txt s c, .txt s' c', v, h, hs, hx => by
  simp only [aenZ, Bool.and_eq_true, Nat.beq_eq, ahrZ] at h
  obtain ⟨rfl, rfl⟩ := h
  simp only [inScope] at hs
  unfold XV.rel at hx ⊢
  obtain ⟨l, n, h0, h1, h2⟩ := hx
  exact ⟨l, n, h0, avYZ hle hT hs h1, h2⟩
 | .sl a, .sl b, v, h, hs, hx => by
  simp only [aenZ, Nat.beq_eq] at h
  subst h
  simp only [inScope] at hs
  unfold XV.rel at hx ⊢
  obtain ⟨f, rows, h1, h2⟩ := hx
  exact ⟨f, rows, apvZ hle hT hs h1, h2⟩
 | .fsl a, .fsl b, v, h, hs, hx => by
  simp only [aenZ, Nat.beq_eq] at h
  subst h
  simp only [inScope] at hs
  unfold XV.rel at hx ⊢
  obtain ⟨rows, h1, h2⟩ := hx
  exact ⟨rows, apvZ hle hT hs h1, h2⟩
 | .nil, .nil, v, _, _, hx => by unfold XV.rel at hx ⊢; exact hx
 | .agg a, .agg b, v, h, hs, hx => by
  simp only [aenZ] at h
  simp only [inScope] at hs
  unfold XV.rel at hx ⊢
  obtain ⟨vs, h1, h2⟩ := hx
  exact ⟨vs, h1, afVZ hle hT a b vs h hs h2⟩
 | .tup a, .tup b, v, h, hs, hx => by
  simp only [aenZ] at h
  simp only [inScope] at hs
  unfold XV.rel at hx ⊢
  obtain ⟨vs, h1, h2⟩ := hx
  exact ⟨vs, h1, afVZ hle hT a b vs h hs h2⟩
 | .ep a i, .ep b j, v, h, hs, hx => by
  simp only [aenZ, Bool.and_eq_true, Nat.beq_eq] at h
  obtain ⟨rfl, h⟩ := h
  simp only [inScope] at hs
  unfold XV.rel at hx ⊢
  obtain ⟨vs, h1, h2⟩ := hx
  exact ⟨vs, h1, afVZ hle hT a b vs h hs h2⟩
 | .ptr a s i, .ptr b s' j, v, h, hs, hx => by
  simp only [aenZ, Bool.and_eq_true, Nat.beq_eq] at h
  obtain ⟨⟨rfl, rfl⟩, rfl⟩ := h
  simp only [inScope] at hs
  unfold XV.rel at hx ⊢
  obtain ⟨o', n, h1, h2⟩ := hx
  exact ⟨o', n, anAZ hle hT hs h1, h2⟩
 | .gs s i, .gs s' j, v, h, hs, hx => by
  simp only [aenZ, Bool.and_eq_true, Nat.beq_eq] at h
  obtain ⟨rfl, rfl⟩ := h
  simp only [inScope, Bool.and_eq_true] at hs
  unfold XV.rel at hx ⊢
  obtain ⟨e, rows, h1, h2, h3⟩ := hx
  exact ⟨e, rows, anAZ hle hT hs.1 h1, apvZ hle hT hs.2 h2, h3⟩
 | .own _, y, v, h, hs, _ => by cases y <;> simp [aenZ] at h
 | .top, .tt _, _, h, _, _ | .top, .bl _, _, h, _, _ | .top, .num .., _, h, _, _ | .top, .txt .., _, h, _, _ | .top, .sl _, _, h, _, _ | .top, .fsl _, _, h, _, _ | .top, .nil, _, h, _, _ | .top, .agg _, _, h, _, _ | .top, .tup _, _, h, _, _ | .top, .ep .., _, h, _, _ | .top, .ptr .., _, h, _, _ | .top, .gs .., _, h, _, _ | .top, .own _, _, h, _, _ => by simp [aenZ] at h
 | .tt _, .top, _, h, _, _ | .tt _, .bl _, _, h, _, _ | .tt _, .num .., _, h, _, _ | .tt _, .txt .., _, h, _, _ | .tt _, .sl _, _, h, _, _ | .tt _, .fsl _, _, h, _, _ | .tt _, .nil, _, h, _, _ | .tt _, .agg _, _, h, _, _ | .tt _, .tup _, _, h, _, _ | .tt _, .ep .., _, h, _, _ | .tt _, .ptr .., _, h, _, _ | .tt _, .gs .., _, h, _, _ | .tt _, .own _, _, h, _, _ => by simp [aenZ] at h
 | .bl _, .top, _, h, _, _ | .bl _, .tt _, _, h, _, _ | .bl _, .num .., _, h, _, _ | .bl _, .txt .., _, h, _, _ | .bl _, .sl _, _, h, _, _ | .bl _, .fsl _, _, h, _, _ | .bl _, .nil, _, h, _, _ | .bl _, .agg _, _, h, _, _ | .bl _, .tup _, _, h, _, _ | .bl _, .ep .., _, h, _, _ | .bl _, .ptr .., _, h, _, _ | .bl _, .gs .., _, h, _, _ | .bl _, .own _, _, h, _, _ => by simp [aenZ] at h
 | .num .., .top, _, h, _, _ | .num .., .tt _, _, h, _, _ | .num .., .bl _, _, h, _, _ | .num .., .txt .., _, h, _, _ | .num .., .sl _, _, h, _, _ | .num .., .fsl _, _, h, _, _ | .num .., .nil, _, h, _, _ | .num .., .agg _, _, h, _, _ | .num .., .tup _, _, h, _, _ | .num .., .ep .., _, h, _, _ | .num .., .ptr .., _, h, _, _ | .num .., .gs .., _, h, _, _ | .num .., .own _, _, h, _, _ => by simp [aenZ] at h
 | .txt .., .top, _, h, _, _ | .txt .., .tt _, _, h, _, _ | .txt .., .bl _, _, h, _, _ | .txt .., .num .., _, h, _, _ | .txt .., .sl _, _, h, _, _ | .txt .., .fsl _, _, h, _, _ | .txt .., .nil, _, h, _, _ | .txt .., .agg _, _, h, _, _ | .txt .., .tup _, _, h, _, _ | .txt .., .ep .., _, h, _, _ | .txt .., .ptr .., _, h, _, _ | .txt .., .gs .., _, h, _, _ | .txt .., .own _, _, h, _, _ => by simp [aenZ] at h
 | .sl _, .top, _, h, _, _ | .sl _, .tt _, _, h, _, _ | .sl _, .bl _, _, h, _, _ | .sl _, .num .., _, h, _, _ | .sl _, .txt .., _, h, _, _ | .sl _, .fsl _, _, h, _, _ | .sl _, .nil, _, h, _, _ | .sl _, .agg _, _, h, _, _ | .sl _, .tup _, _, h, _, _ | .sl _, .ep .., _, h, _, _ | .sl _, .ptr .., _, h, _, _ | .sl _, .gs .., _, h, _, _ | .sl _, .own _, _, h, _, _ => by simp [aenZ] at h
 | .fsl _, .top, _, h, _, _ | .fsl _, .tt _, _, h, _, _ | .fsl _, .bl _, _, h, _, _ | .fsl _, .num .., _, h, _, _ | .fsl _, .txt .., _, h, _, _ | .fsl _, .sl _, _, h, _, _ | .fsl _, .nil, _, h, _, _ | .fsl _, .agg _, _, h, _, _ | .fsl _, .tup _, _, h, _, _ | .fsl _, .ep .., _, h, _, _ | .fsl _, .ptr .., _, h, _, _ | .fsl _, .gs .., _, h, _, _ | .fsl _, .own _, _, h, _, _ => by simp [aenZ] at h
 | .nil, .top, _, h, _, _ | .nil, .tt _, _, h, _, _ | .nil, .bl _, _, h, _, _ | .nil, .num .., _, h, _, _ | .nil, .txt .., _, h, _, _ | .nil, .sl _, _, h, _, _ | .nil, .fsl _, _, h, _, _ | .nil, .agg _, _, h, _, _ | .nil, .tup _, _, h, _, _ | .nil, .ep .., _, h, _, _ | .nil, .ptr .., _, h, _, _ | .nil, .gs .., _, h, _, _ | .nil, .own _, _, h, _, _ => by simp [aenZ] at h
 | .agg _, .top, _, h, _, _ | .agg _, .tt _, _, h, _, _ | .agg _, .bl _, _, h, _, _ | .agg _, .num .., _, h, _, _ | .agg _, .txt .., _, h, _, _ | .agg _, .sl _, _, h, _, _ | .agg _, .fsl _, _, h, _, _ | .agg _, .nil, _, h, _, _ | .agg _, .tup _, _, h, _, _ | .agg _, .ep .., _, h, _, _ | .agg _, .ptr .., _, h, _, _ | .agg _, .gs .., _, h, _, _ | .agg _, .own _, _, h, _, _ => by simp [aenZ] at h
 | .tup _, .top, _, h, _, _ | .tup _, .tt _, _, h, _, _ | .tup _, .bl _, _, h, _, _ | .tup _, .num .., _, h, _, _ | .tup _, .txt .., _, h, _, _ | .tup _, .sl _, _, h, _, _ | .tup _, .fsl _, _, h, _, _ | .tup _, .nil, _, h, _, _ | .tup _, .agg _, _, h, _, _ | .tup _, .ep .., _, h, _, _ | .tup _, .ptr .., _, h, _, _ | .tup _, .gs .., _, h, _, _ | .tup _, .own _, _, h, _, _ => by simp [aenZ] at h
 | .ep .., .top, _, h, _, _ | .ep .., .tt _, _, h, _, _ | .ep .., .bl _, _, h, _, _ | .ep .., .num .., _, h, _, _ | .ep .., .txt .., _, h, _, _ | .ep .., .sl _, _, h, _, _ | .ep .., .fsl _, _, h, _, _ | .ep .., .nil, _, h, _, _ | .ep .., .agg _, _, h, _, _ | .ep .., .tup _, _, h, _, _ | .ep .., .ptr .., _, h, _, _ | .ep .., .gs .., _, h, _, _ | .ep .., .own _, _, h, _, _ => by simp [aenZ] at h
 | .ptr .., .top, _, h, _, _ | .ptr .., .tt _, _, h, _, _ | .ptr .., .bl _, _, h, _, _ | .ptr .., .num .., _, h, _, _ | .ptr .., .txt .., _, h, _, _ | .ptr .., .sl _, _, h, _, _ | .ptr .., .fsl _, _, h, _, _ | .ptr .., .nil, _, h, _, _ | .ptr .., .agg _, _, h, _, _ | .ptr .., .tup _, _, h, _, _ | .ptr .., .ep .., _, h, _, _ | .ptr .., .gs .., _, h, _, _ | .ptr .., .own _, _, h, _, _ => by simp [aenZ] at h
 | .gs .., .top, _, h, _, _ | .gs .., .tt _, _, h, _, _ | .gs .., .bl _, _, h, _, _ | .gs .., .num .., _, h, _, _ | .gs .., .txt .., _, h, _, _ | .gs .., .sl _, _, h, _, _ | .gs .., .fsl _, _, h, _, _ | .gs .., .nil, _, h, _, _ | .gs .., .agg _, _, h, _, _ | .gs .., .tup _, _, h, _, _ | .gs .., .ep .., _, h, _, _ | .gs .., .ptr .., _, h, _, _ | .gs .., .own _, _, h, _, _ => by simp [aenZ] at h
theorem afVZ (hle : Vb.Le V) (hT : T.Ok B Vb) : ∀ (x y : List XV) (v : List AV), akgZ x y = true -> ahqZ T y = true -> relL V B x v -> relL Vb B y v
 | [], [], v, _, _, hx => by unfold relL at hx ⊢; exact hx
 | a :: r, b :: s, v, h, hs, hx => by
  simp only [akgZ, Bool.and_eq_true] at h
  simp only [ahqZ, Bool.and_eq_true] at hs
  unfold relL at hx ⊢
  obtain ⟨w, vr, h1, h2, h3⟩ := hx
  exact ⟨w, vr, h1, aoIZ hle hT a b w h.1 hs.1 h2, afVZ hle hT r s vr h.2 hs.2 h3⟩
 | [], _ :: _, _, h, _, _ => by simp [akgZ] at h
 | _ :: _, [], _, h, _, _ => by simp [akgZ] at h
end
def vl : AV -> Int
 | .int _ n => n
 | .str l => l.length
 | .sl _ rows => rows.length
 | .sr _ _ n => n
 | _ => 0
def aqWZ (B h : Nat) (Vb : Va) (H : List AObj) (v : AV) : Sp -> Prop
 | .put x => x.clean.rel Vb B v
 | .shp s up => s.has v /\ (∀ b c, up = some (b, c) -> ∃ y, Vb.γ[b]? = some y /\ vl v <= y + c)
 | .grow os k alts lo hi up => ∃ e rows, gsv B e rows v /\ abHZ rows = true /\ (∀ o n, e = some (o, n) -> o ∈ os /\ H[B + o]? = some (.vec n k rows)) /\ (∀ o ∈ os, h <= o) /\ lo <= (rows.length : Int) /\ (rows.length : Int) <= hi /\ (∀ row ∈ rows, aaKZ alts row) /\
  (∀ b c, up = some (b, c) -> ∃ y, Vb.γ[b]? = some y /\ (rows.length : Int) <= y + c)
theorem arTZ {x : XV} {a : Nat} {v : AV} (hs : alWZ x = some a) (hx : x.rel V B v) : ∃ n c, V.γ[a]? = some n /\ vl v = n + c /\ (∀ k s c', x = .num k s c' -> c = c') /\ (∀ s c', x = .txt s c' -> c = c') := by
 unfold alWZ at hs
 split at hs
 ·cases hs
  unfold XV.rel at hx
  obtain ⟨n, h1, rfl⟩ := hx
  exact ⟨n, _, h1, rfl, (fun _ _ _ e => by cases e; rfl), (fun _ _ e => by cases e)⟩
 ·cases hs
  unfold XV.rel at hx
  obtain ⟨l, n, rfl, h1, h2⟩ := hx
  exact ⟨n, _, h1, h2, (fun _ _ _ e => by cases e), (fun _ _ e => by cases e; rfl)⟩
 ·cases hs
theorem axwZ {s : SH} {T : ST} {a : Nat} (hs : alWZ (inst s T).2 = some a) (ha : a ≠ 0) : (∃ k, (inst s T).2 = .num k a 0) ∨ (inst s T).2 = .txt a 0 := by
 cases s with
 | any => simp [inst, alWZ] at hs
 | bool => simp [inst, alWZ] at hs
 | num k lo hi =>
  simp only [inst] at hs ⊢
  cases hc : ieq lo hi with
  | true => simp only [hc, alWZ] at hs; cases hs; exact absurd rfl ha
  | false => simp only [hc, alWZ] at hs ⊢; cases hs; exact .inl ⟨k, rfl⟩
 | txt hi => simp only [inst, alWZ] at hs ⊢; cases hs; exact .inr rfl
 | sl alts lo hi =>
  simp only [inst] at hs
  cases hc : ieq lo hi <;> simp [hc, alWZ] at hs
 | agg cs => simp [inst, alWZ] at hs
 | tup cs => simp [inst, alWZ] at hs
theorem avZZ {h : Nat} {H : List AObj} (hT : T.Ok B V) (hle : Vb.Le V) {vecs : List VF} (hv : ∀ w ∈ vecs, w.ok V B H /\ ∀ o ∈ w.os, h <= o) {sp : Sp} {v : AV} (hs : aqWZ B h Vb H v sp) :
  ∃ V', V.Le V' /\ (spX T vecs sp).1.Ok B V' /\ (spX T vecs sp).2.1.rel V' B v /\ ∀ w ∈ (spX T vecs sp).2.2, w.ok V' B H /\ ∀ o ∈ w.os, h <= o := by
 cases sp with
 | put x => exact ⟨V, .refl, hT, XV.rel_mono hle _ _ hs, hv⟩
 | shp s up =>
  obtain ⟨h1, h2⟩ := hs
  obtain ⟨V', l1, i1, i2⟩ := aiMZ s v h1 hT
  have hv' : ∀ w ∈ vecs, w.ok V' B H /\ ∀ o ∈ w.os, h <= o := fun w hw => ⟨VF.ok_mono l1 (hv w hw).1, (hv w hw).2⟩
  simp only [spX]
  split
  ·rename_i a ha
   refine ⟨V', l1, ?_, i2, hv'⟩
   cases hz : Nat.beq a 0 with
   | true => exact i1
   | false =>
    cases up with
    | none => exact i1
    | some p =>
     obtain ⟨b, c⟩ := p
     obtain ⟨y, y1, y2⟩ := h2 b c rfl
     have ha0 : a ≠ 0 := fun e => by rw [e] at hz; simp at hz
     obtain ⟨n, c', n1, n2, n3, n4⟩ := arTZ ha i2
     have hc0 : c' = 0 := by
      rcases axwZ ha ha0 with ⟨k, e⟩ | e
      ·exact n3 _ _ _ e
      ·exact n4 _ _ e
     exact i1.le n1 (l1.g _ _ (hle.g _ _ y1)) (by omega)
  ·exact ⟨V', l1, i1, i2, hv'⟩
 | grow os k alts lo hi up =>
  obtain ⟨e, rows, h1, h2, h3, h4, h5, h6, h7, h8⟩ := hs
  have hT1 := hT.fresh h5 h6
  have hT2 := hT1.freshV e
  have hT3 := hT2.freshL (li := ⟨alts, T.ns, 0⟩) (n := rows.length) h2 (hT.new_s _) (by dsimp only; omega) h7
  have hl : V.Le (((V.pg rows.length).pe e).pd rows) := Va.le_pg.trans (Va.le_pe.trans Va.le_pd)
  have hup : (azBZ (((T.fresh lo hi).freshV).freshL ⟨alts, T.ns, 0⟩) T.ns up).Ok B (((V.pg rows.length).pe e).pd rows) := by
   cases up with
   | none => exact hT3
   | some p =>
    obtain ⟨b, c⟩ := p
    obtain ⟨y, y1, y2⟩ := h8 b c rfl
    exact hT3.le (hT.new_s _) (hl.g _ _ (hle.g _ _ y1)) (by omega)
  refine ⟨_, hl, hup, ?_, ?_⟩
  ·show XV.rel _ B (.gs T.nv T.nl) v
   unfold XV.rel
   exact ⟨e, rows, hT1.new_v e, hT2.new_l _, h1⟩
  ·intro w hw
   rcases List.mem_cons.1 hw with rfl | hw
   ·exact ⟨⟨e, rows, hT1.new_v e, hT2.new_l _, h3⟩, h4⟩
   ·exact ⟨VF.ok_mono hl (hv w hw).1, (hv w hw).2⟩
variable {h m : Nat} {Hc : List AObj} {ρ : SEnv} {H : List AObj}
theorem alGZ : ∀ (sps : List (Nat × Sp)) {F : FSt} {V : Va} {X : List Nat}, F.T.Ok B V -> Vb.Le V -> (∀ t x, F.env.get (aaLZ t) = some x -> t ∉ X -> x.rel V B (ρ t)) -> (∀ w ∈ F.vecs, w.ok V B H /\ ∀ o ∈ w.os, h <= o) ->
  (∀ p ∈ sps, aqWZ B h Vb H (ρ p.1) p.2) -> (∀ t ∈ X, t ∈ sps.map Prod.fst) ->
  ∃ V', V.Le V' /\ (alwZ F sps).T.Ok B V' /\ (∀ t x, (alwZ F sps).env.get (aaLZ t) = some x -> x.rel V' B (ρ t)) /\ (∀ w ∈ (alwZ F sps).vecs, w.ok V' B H /\ ∀ o ∈ w.os, h <= o) /\ (alwZ F sps).heap = F.heap /\ (alwZ F sps).h = F.h
 | [], F, V, X, hT, hle, he, hv, hs, hx => ⟨V, .refl, hT, fun t x e => he t x e fun hm => by have := hx t hm; simp at this, hv, rfl, rfl⟩
 | (t, sp) :: r, F, V, X, hT, hle, he, hv, hs, hx => by
  obtain ⟨V1, l1, i1, i2, i3⟩ := avZZ (T := F.T) (vecs := F.vecs) hT hle hv (hs (t, sp) (by simp))
  obtain ⟨V2, l2, j1, j2, j3, j4, j5⟩ := alGZ r (F := ⟨(spX F.T F.vecs sp).1, F.env.set (spX F.T F.vecs sp).2.1 (aaLZ t), F.heap, (spX F.T F.vecs sp).2.2, F.h⟩) (V := V1) (X := X.filter (· ≠ t)) i1 (hle.trans l1)
   (fun t' x e hn => by
    dsimp only at e
    rw [XT.get_put] at e
    by_cases ht : t' = t
    ·rw [if_pos ht] at e
     cases e
     rw [ht]
     exact i2
    ·rw [if_neg ht] at e
     exact XV.rel_mono l1 _ _ (he t' x e fun hm => hn (List.mem_filter.2 ⟨hm, by simpa using ht⟩)))
   i3 (fun p hp => hs p (List.mem_cons_of_mem _ hp)) (fun t' ht' => by
    obtain ⟨q1, q2⟩ := List.mem_filter.1 ht'
    have := hx t' q1
    rw [List.map_cons] at this
    rcases List.mem_cons.1 this with e | e
    ·exact absurd e (by simpa using q2)
    ·exact e)
  exact ⟨V2, l1.trans l2, j1, j2, j3, j4, j5⟩
def axxZ (B : Nat) (Vb : Va) (obj : AObj) (y : XO) : HSp -> Prop
 | .keep => y.rel Vb B obj
 | .any => True
 | .box s cells => (∃ s' c', y = .box s' c') /\ ∃ o' n vs, Vb.ε[s]? = some (some (o', n)) /\ obj = .box n vs /\ hasL cells vs
theorem auiZ (hT : T.Ok B V) (hle : Vb.Le V) {y : XO} {hs : HSp} {obj : AObj} (hh : axxZ B Vb obj y hs) : ∃ V', V.Le V' /\ (hspX T y hs).1.Ok B V' /\ (hspX T y hs).2.rel V' B obj := by
 cases hs with
 | keep => exact ⟨V, .refl, hT, XO.rel_mono hle hh⟩
 | any => exact ⟨V, .refl, hT, trivial⟩
 | box s cells =>
  obtain ⟨_, o', n, vs, h1, h2, h3⟩ := hh
  obtain ⟨V', l1, i1, i2⟩ := aeJZ cells vs h3 hT
  exact ⟨V', l1, i1, o', n, vs, l1.e _ _ (hle.e _ _ h1), h2, i2⟩
theorem alHZ : ∀ (ys : List XO) (hs : List HSp) {T : ST} {V : Va} {g : Nat -> Option AObj}, T.Ok B V -> Vb.Le V -> (∀ (o : Nat) (x : AObj), g o = some x -> axxZ B Vb x (hget ys o) ((hs[o]?).getD .keep)) -> (∀ o, o < ys.length -> ∃ x, g o = some x) ->
  ∃ V', V.Le V' /\ (aghZ T ys hs).1.Ok B V' /\ (∀ (o : Nat) (x : AObj), g o = some x -> (hget (aghZ T ys hs).2 o).rel V' B x) /\ (aghZ T ys hs).2.length = ys.length
 | [], hs, T, V, g, hT, hle, hg, hx => by
  have e : aghZ T [] hs = (T, []) := by cases hs <;> rfl
  rw [e]
  exact ⟨V, .refl, hT, fun o x _ => trivial, rfl⟩
 | y :: r, [], T, V, g, hT, hle, hg, hx => ⟨V, .refl, hT, fun o x e => by
   have := hg o x e
   simp only [List.getElem?_nil, Option.getD_none] at this
   exact XO.rel_mono hle this, rfl⟩
 | y :: r, s :: ss, T, V, g, hT, hle, hg, hx => by
  have one : ∃ V1, V.Le V1 /\ (hspX T y s).1.Ok B V1 /\ (∀ x, g 0 = some x -> (hspX T y s).2.rel V1 B x) := by
   obtain ⟨x, h0⟩ := hx 0 (by simp)
   have := hg 0 x h0
   obtain ⟨V1, l1, i1, i2⟩ := auiZ (T := T) hT hle (y := y) (hs := s) (obj := x) (by simpa [hget] using this)
   exact ⟨V1, l1, i1, fun x' e => by rw [h0] at e; cases e; exact i2⟩
  obtain ⟨V1, l1, i1, i2⟩ := one
  obtain ⟨V2, l2, j1, j2, j3⟩ := alHZ r ss (g := fun o => g (o + 1)) i1 (hle.trans l1) (fun o x e => by simpa [hget] using hg (o + 1) x e) (fun o ho => hx (o + 1) (by simpa using ho))
  refine ⟨V2, l1.trans l2, j1, fun o x e => ?_, ?_⟩
  ·cases o with
   | zero => exact XO.rel_mono l2 (i2 x e)
   | succ o => exact j2 o x e
  ·simp only [aghZ, List.length_cons, j3]
end
end Go.AM
end
section
namespace Go.AM
open Go
structure BaseR (B h m : Nat) (Vb : Va) (F : FSt) (W : List Nat) (ρ : SEnv) : Prop where
 T : F.T.Ok B Vb
 env : ∀ t x, F.env.get (aaLZ t) = some x -> t ∉ W -> x.rel Vb B (ρ t)
 hl : F.heap.length = m
 low : ∀ o, o < h -> hget F.heap o = .any
 fh : F.h = h
section
variable {B h m : Nat} {V V' Vb : Va} {Hc : List AObj} {F Bs : FSt} {ρ ρ' : SEnv} {H : List AObj} {W : List Nat}
theorem RF.base (hF : RF B h m V Hc F ρ H) : BaseR B h m V F [] ρ := ⟨hF.T, fun t x e _ => hF.env t x e, hF.hl, hF.low, hF.fh⟩
theorem BaseR.frame (hB : BaseR B h m Vb Bs W ρ) {W' : List Nat} (hs : ∀ t ∈ W, t ∈ W') (hf : ∀ t, t ∉ W' -> ρ' t = ρ t) : BaseR B h m Vb Bs W' ρ' :=
 ⟨hB.T, fun t x e hn => by rw [hf t hn]; exact hB.env t x e fun hm => hn (hs t hm), hB.hl, hB.low, hB.fh⟩
theorem aoJZ : ∀ (ys : List XO) (hs : List HSp) (T : ST) (o : Nat), hget ys o = .any -> (∀ s c, hs[o]? ≠ some (.box s c)) -> hget (aghZ T ys hs).2 o = .any
 | [], hs, T, o, _, _ => by cases hs <;> rfl
 | y :: r, [], T, o, h1, _ => h1
 | y :: r, s :: ss, T, 0, h1, h2 => by
  have h1 : y = .any := h1
  subst h1
  simp only [aghZ, hget]
  cases s with
  | keep => rfl
  | any => rfl
  | box s c => exact absurd rfl (h2 s c)
 | y :: r, s :: ss, T, o + 1, h1, h2 => by
  simp only [aghZ, hget]
  exact aoJZ r ss _ o h1 (by simpa using h2)
theorem arUZ (hB : BaseR B h m Vb Bs W ρ) {hs : HV} {sps : List (Nat × Sp)} (hlen : H.length = B + m) (hcut : H.take (B + h) = Hc)
  (ho : ∀ (o : Nat) (x : AObj), H[B + o]? = some x -> axxZ B Vb x (hget Bs.heap o) ((hs.hs[o]?).getD .keep)) (hv : ∀ v ∈ hs.vs, v.ok Vb B H /\ ∀ o ∈ v.os, h <= o)
  (hsp : ∀ p ∈ sps, aqWZ B h Vb H (ρ p.1) p.2) (hW : ∀ t ∈ W, t ∈ sps.map Prod.fst) (hhl : hs.hs.length = Bs.heap.length) : ∃ V', Vb.Le V' /\ RF B h m V' Hc (atTZ Bs hs sps) ρ H := by
 obtain ⟨V1, l1, i1, i2, i3⟩ := alHZ Bs.heap hs.hs (g := fun o => H[B + o]?) hB.T .refl ho (fun o hlt => ⟨_, List.getElem?_eq_getElem (by rw [hB.hl] at hlt; omega)⟩)
 obtain ⟨V2, l2, j1, j2, j3, j4, j5⟩ := alGZ (ρ := ρ) (H := H) (h := h) sps (F := ⟨(aghZ Bs.T Bs.heap hs.hs).1, Bs.env, (aghZ Bs.T Bs.heap hs.hs).2, hs.vs, Bs.h⟩) (V := V1) (X := W) i1 l1
  (fun t x e hn => XV.rel_mono l1 _ _ (hB.env t x e hn)) (fun w hw => ⟨VF.ok_mono l1 (hv w hw).1, (hv w hw).2⟩) hsp hW
 refine ⟨V2, l1.trans l2, ?_⟩
 have e : atTZ Bs hs sps = alwZ ⟨(aghZ Bs.T Bs.heap hs.hs).1, Bs.env, (aghZ Bs.T Bs.heap hs.hs).2, hs.vs, Bs.h⟩ sps := rfl
 rw [e]
 refine ⟨j1, j2, hlen, by rw [j4, i3, hB.hl], fun o x e => by rw [j4]; exact XO.rel_mono l2 (i2 o x e), fun o hlt => ?_, j3, hcut, by rw [j5]; exact hB.fh⟩
 rw [j4]
 refine aoJZ _ _ _ _ (hB.low o hlt) fun s c e => ?_
 by_cases hm : o < m
 ·have := ho o _ (List.getElem?_eq_getElem (by omega))
  rw [e] at this
  obtain ⟨⟨s', c', h1⟩, _⟩ := this
  rw [hB.low o hlt] at h1
  cases h1
 ·rw [List.getElem?_eq_none (by rw [hhl, hB.hl]; omega)] at e
  cases e
theorem arVZ {x y : XV} (hs : aenZ x y = true) : aenZ x y.clean = true := by
 cases y <;> first | exact hs | (cases x <;> first | exact hs | (simp [aenZ] at hs; done) | rfl)
theorem aiPZ (hF : F.T.Ok B V) (hle : Vb.Le V) (hB : Bs.T.Ok B Vb) {s : Nat} {c n : Int} (hs : V.γ[s]? = some n) {up : Option (Nat × Int)} (h1 : upOk F.T s c up = true) {b : Nat} {cb : Int} (hup : up = some (b, cb)) (hb : Nat.blt b Bs.T.ns = true) : ∃ y, Vb.γ[b]? = some y /\ n + c <= y + cb := by
 subst hup
 unfold upOk at h1
 dsimp only at h1
 split at h1
 ·rename_i g hg
  rw [absZ] at h1
  rw [Nat.blt_eq] at hb
  have hlt : b < Vb.γ.length := by rw [hB.ns]; exact hb
  have h2 : Vb.γ[b]? = some Vb.γ[b] := List.getElem?_eq_getElem hlt
  have := aiLZ hF gf hg hs (hle.g _ _ h2)
  exact ⟨_, h2, by omega⟩
 ·cases h1
theorem ambZ (hF : RF B h m V Hc F ρ H) {x : XV} {v : AV} {s id : Nat} {w : VF} (hx : XV.rel V B (.gs s id) v) (hw : F.vec s id = some w) :
  ∃ e rows, gsv B e rows v /\ V.δ[id]? = some rows /\ (∀ o n, e = some (o, n) -> o ∈ w.os /\ H[B + o]? = some (.vec n w.k rows)) /\ (∀ o ∈ w.os, h <= o) := by
 unfold XV.rel at hx
 obtain ⟨e, rows, h1, h2, h3⟩ := hx
 obtain ⟨m1, m2, m3⟩ := akUZ hw
 obtain ⟨⟨e', rows', k1, k2, k3⟩, k4⟩ := hF.vecs w m1
 rw [m2, h1] at k1
 rw [m3, h2] at k2
 cases k1
 cases k2
 exact ⟨e, rows, h3, h2, k3, k4⟩
theorem amcZ {a b : List Nat} (h : subB a b = true) {o : Nat} (ho : o ∈ a) : o ∈ b := by
 unfold subB at h
 rw [List.all_eq_true] at h
 exact List.contains_iff_mem.1 (h o ho)
theorem aoKZ (hF : RF B h m V Hc F ρ H) (hle : Vb.Le V) (hB : Bs.T.Ok B Vb) {x : XV} {v : AV} (hx : x.rel V B v) : ∀ {sp : Sp}, spOk Bs.T F x sp = true -> aqWZ B h Vb H v sp
 | .put y, hs => by
  show y.clean.rel Vb B v
  cases y with
  | top => unfold XV.clean XV.rel; trivial
  | _ =>
   simp only [spOk, Bool.and_eq_true] at hs
   exact aoIZ hle hB _ _ _ (arVZ hs.2) hs.1 hx
 | .shp s up, hs => by
  simp only [spOk, Bool.and_eq_true] at hs
  refine ⟨agQZ _ _ _ hs.1 (aipZ hF.T _ _ hx), fun b c e => ?_⟩
  have h2 := hs.2
  subst e
  unfold aCdZ at h2
  dsimp only at h2
  rw [Bool.and_eq_true] at h2
  obtain ⟨h3, h4⟩ := h2
  split at h4
  ·unfold XV.rel at hx
   obtain ⟨n, n1, rfl⟩ := hx
   exact aiPZ hF.T hle hB n1 h4 rfl h3
  ·unfold XV.rel at hx
   obtain ⟨l, n, rfl, n1, n2⟩ := hx
   obtain ⟨y, y1, y2⟩ := aiPZ hF.T hle hB n1 h4 rfl h3
   exact ⟨y, y1, by show (l.length : Int) <= _; omega⟩
  ·cases h4
 | .grow os k alts lo hi up, hs => by
  simp only [spOk, Bool.and_eq_true, List.all_eq_true] at hs
  obtain ⟨⟨h1, h2⟩, h3⟩ := hs
  have hos : ∀ o ∈ os, h <= o := fun o ho => by have := h1 o ho; rw [Nat.ble_eq, hF.fh] at this; exact this
  split at h3
  ·unfold XV.rel at hx
   subst hx
   simp only [Bool.and_eq_true, absZ] at h3
   refine ⟨none, [], by simp [gsv], rfl, by simp, hos, by simpa using h3.1.1, by simpa using h3.1.2, by simp, fun b c e => ?_⟩
   subst e
   have h4 := h3.2
   rw [Nat.blt_eq] at h2
   have hlt : b < Vb.γ.length := by rw [hB.ns]; exact h2
   have h5 : Vb.γ[b]? = some Vb.γ[b] := List.getElem?_eq_getElem hlt
   have := (hF.T.rng _ _ (hle.g _ _ h5)).1
   have h6 := absZ.1 h4
   exact ⟨_, h5, by simp; omega⟩
  ·unfold XV.rel at hx
   obtain ⟨rows, r1, rfl⟩ := hx
   split at h3
   ·rename_i li hl
    simp only [Bool.and_eq_true, absZ] at h3
    obtain ⟨⟨⟨⟨g1, g2⟩, g3⟩, g4⟩, g5⟩ := h3
    obtain ⟨d1,⟨n, n1, n2⟩, d3⟩ := abVZ hF.T hl r1
    have rn := (hF.T.rng _ _ n1).1
    have hq := afUZ hF.T qf n1
    refine ⟨none, rows, by simp [gsv], d1, by simp, hos, by omega, by omega, fun row hr => acsZ _ _ _ g4 (d3 row hr), fun b c e => ?_⟩
    subst e
    obtain ⟨y, y1, y2⟩ := aiPZ hF.T hle hB n1 g5 rfl h2
    exact ⟨y, y1, by omega⟩
   ·cases h3
  ·rename_i s id
   split at h3
   ·rename_i w li hw hl
    simp only [Bool.and_eq_true, absZ, Nat.beq_eq] at h3
    obtain ⟨⟨⟨⟨⟨g1, g2⟩, g3⟩, g4⟩, g5⟩, g6⟩ := h3
    obtain ⟨e, rows, q1, q2, q3, q4⟩ := ambZ (x := .gs s id) hF hx hw
    obtain ⟨d1,⟨n, n1, n2⟩, d3⟩ := abVZ hF.T hl q2
    have rn := (hF.T.rng _ _ n1).1
    have hq := afUZ hF.T qf n1
    refine ⟨e, rows, q1, d1, fun o n e1 => ⟨amcZ g2 (q3 o n e1).1, by rw [g1]; exact (q3 o n e1).2⟩, hos, by omega, by omega, fun row hr => acsZ _ _ _ g5 (d3 row hr), fun b c e => ?_⟩
    subst e
    obtain ⟨y, y1, y2⟩ := aiPZ hF.T hle hB n1 g6 rfl h2
    exact ⟨y, y1, by omega⟩
   ·cases h3
  ·cases h3
theorem ajAZ (hF : RF B h m V Hc F ρ H) (hle : Vb.Le V) (hB : Bs.T.Ok B Vb) : ∀ {sps : List (Nat × Sp)}, avLZ Bs.T F sps = true -> ∀ p ∈ sps, aqWZ B h Vb H (ρ p.1) p.2
 | [], _, p, hp => by cases hp
 | (t, sp) :: r, hs, p, hp => by
  simp only [avLZ, Bool.and_eq_true] at hs
  rcases List.mem_cons.1 hp with rfl | hp
  ·exact aoKZ hF hle hB (hF.at t) hs.1
  ·exact ajAZ hF hle hB hs.2 p hp
theorem arWZ (hF : F.T.Ok B V) (hle : Vb.Le V) (hB : Bs.T.Ok B Vb) {x y : XO} {hs : HSp} {obj : AObj} (hx : x.rel V B obj) (h1 : arNZ Bs.T F x y hs = true) : axxZ B Vb obj y hs := by
 cases hs with
 | any => trivial
 | keep =>
  show y.rel Vb B obj
  cases y with
  | any => trivial
  | box s cells =>
   simp only [arNZ, Bool.and_eq_true] at h1
   obtain ⟨h2, h3⟩ := h1
   cases x with
   | any => simp [axpZ] at h3
   | box s' xs =>
    simp only [axpZ, Bool.and_eq_true, Nat.beq_eq] at h3
    obtain ⟨rfl, h3⟩ := h3
    simp only [apqZ, Bool.and_eq_true] at h2
    obtain ⟨o', n, vs, q1, q2, q3⟩ := hx
    exact ⟨o', n, vs, anAZ hle hB h2.1 q1, q2, afVZ hle hB _ _ _ h3 h2.2 q3⟩
 | box s cells =>
  simp only [arNZ, Bool.and_eq_true] at h1
  obtain ⟨h2, h3⟩ := h1
  split at h3
  ·rename_i s' xs s2 c2
   simp only [Bool.and_eq_true, Nat.beq_eq] at h3
   obtain ⟨rfl, h3⟩ := h3
   obtain ⟨o', n, vs, q1, q2, q3⟩ := hx
   exact ⟨⟨_, _, rfl⟩, o', n, vs, anAZ hle hB h2 q1, q2, aeIZ _ _ _ h3 (aftZ hF _ _ q3)⟩
  ·cases h3
theorem aklZ : ∀ {l bs : List XO} {hs : List HSp}, aniZ Bs.T F l bs hs = true -> hs.length = bs.length /\ ∀ o, arNZ Bs.T F (hget l o) (hget bs o) ((hs[o]?).getD .keep) = true
 | [], [], [], _ => ⟨rfl, fun o => rfl⟩
 | x :: r, y :: s, a :: hs, h1 => by
  simp only [aniZ, Bool.and_eq_true] at h1
  obtain ⟨g1, g2⟩ := aklZ h1.2
  refine ⟨by simp [g1], fun o => ?_⟩
  cases o with
  | zero => exact h1.1
  | succ o => simpa [hget] using g2 o
 | [], [], _ :: _, h1 | [], _ :: _, _, h1 | _ :: _, [], _, h1 | _ :: _, _ :: _, [], h1 => by simp [aniZ] at h1
theorem aujZ (hF : RF B h m V Hc F ρ H) (hle : Vb.Le V) (hB : Bs.T.Ok B Vb) {v : VF} (h1 : vfOk Bs.T F v = true) : v.ok Vb B H /\ ∀ o ∈ v.os, h <= o := by
 unfold vfOk at h1
 simp only [Bool.and_eq_true] at h1
 obtain ⟨⟨h2, h3⟩, h4⟩ := h1
 split at h4
 ·rename_i w hw
  simp only [Bool.and_eq_true, Nat.beq_eq] at h4
  obtain ⟨⟨h4, h5⟩, h6⟩ := h4
  obtain ⟨m1, m2, m3⟩ := akUZ hw
  obtain ⟨⟨e, rows, k1, k2, k3⟩, k4⟩ := hF.vecs w m1
  rw [m2] at k1
  rw [m3] at k2
  exact ⟨⟨e, rows, anAZ hle hB h2 k1, apvZ hle hB h3 k2, fun o n e1 => ⟨amcZ h5 (k3 o n e1).1, by rw [<- h4]; exact (k3 o n e1).2⟩⟩, fun o ho => k4 o (amcZ h6 ho)⟩
 ·cases h4
end
end Go.AM
end
