/- Part 33 of the proof that stands in the last text of this folder (lemmas; no statement of its own). -/
import Derived.Test.YtglokbbcckpaaaaGreatDoorK32
set_option linter.unusedVariables false
set_option linter.unusedSimpArgs false
open Bool renaming not_true -> BT
section
namespace Go.AM
open Go
section
variable {B h m : Nat} {V V' Vb R : Va} {Hc : List AObj} {F Bs : FSt} {ρ ρ' : SEnv} {H : List AObj} {W : List Nat}
theorem aiuZ : ∀ {l : List Nat} {t : Nat}, t ∈ l -> t ∈ arOZ l
 | [], _, h => h
 | a :: r, t, ht => by
  unfold arOZ
  split
  ·rename_i hc
   rcases List.mem_cons.1 ht with rfl | ht
   ·exact aiuZ (List.contains_iff_mem.1 hc)
   ·exact aiuZ ht
  ·rcases List.mem_cons.1 ht with rfl | ht
   ·simp
   ·exact List.mem_cons_of_mem _ (aiuZ ht)
theorem akWZ (hB : BaseR B h m Vb Bs W ρ) (hle : Vb.Le V) (hF : RF B h m V Hc F ρ H) {hs : HV} {sps : List (Nat × Sp)} (h1 : ∀ p ∈ sps, aqWZ B h Vb H (ρ p.1) p.2) (h2 : aqOZ Bs.T F F.heap Bs.heap hs = true) (hW : ∀ t ∈ W, t ∈ sps.map Prod.fst) :
  ∃ V', Vb.Le V' /\ RF B h m V' Hc (atTZ Bs hs sps) ρ H := by
 unfold aqOZ at h2
 rw [Bool.and_eq_true, List.all_eq_true] at h2
 obtain ⟨g1, g2⟩ := aklZ h2.1
 exact arUZ hB hF.len hF.cut (fun o x e => arWZ hF.T hle hB.T (hF.heap o x e) (g2 o)) (fun v hv => aujZ hF hle hB.T (h2.2 v hv)) h1 hW g1
theorem arXZ (hB : BaseR B h m Vb Bs W ρ) (hle : Vb.Le V) {l : List FSt} (hm : F ∈ l) (hF : RF B h m V Hc F ρ H) {J : FSt} (he : azCZ Bs W l = some J) : ∃ V', Vb.Le V' /\ RF B h m V' Hc J ρ H := by
 unfold azCZ at he
 dsimp only at he
 split at he
 ·rename_i hc
  cases he
  rw [List.all_eq_true] at hc
  have := hc F hm
  rw [Bool.and_eq_true] at this
  refine akWZ hB hle hF (ajAZ hF hle hB.T this.1) this.2 fun t ht => ?_
  rw [List.map_map]
  simp only [Function.comp_def, List.map_id']
  exact aiuZ ht
 ·cases he
def InvR (B h m : Nat) (R : Va) (Hc : List AObj) (Bs : FSt) (W : List Nat) (l : List FSt) (ρ : SEnv) (H : List AObj) : Prop := ∃ Vb V, R.Le Vb /\ Vb.Le V /\ BaseR B h m Vb Bs W ρ /\ ∃ F ∈ l, RF B h m V Hc F ρ H
theorem InvR.root (h1 : R.Le V) {l : List FSt} (hi : InvR B h m V Hc Bs W l ρ H) : InvR B h m R Hc Bs W l ρ H := by
 obtain ⟨Vb, V', g1, g2, g3⟩ := hi
 exact ⟨Vb, V', h1.trans g1, g2, g3⟩
theorem InvR.one (h1 : R.Le V) (hF : RF B h m V Hc F ρ H) : InvR B h m R Hc F [] [F] ρ H := ⟨V, V, h1, .refl, hF.base, F, by simp, hF⟩
theorem afWZ (hr : R.Le Vb) (hB : BaseR B h m Vb Bs W ρ) (hle : Vb.Le V) {l : List FSt} (hm : F ∈ l) (hF : RF B h m V Hc F ρ H) {nj : Bool} {B' : FSt} {W' : List Nat} {l' : List FSt} (he : atUZ nj Bs W l = some (B', W', l')) : InvR B h m R Hc B' W' l' ρ H := by
 unfold atUZ at he
 split at he
 ·cases hm
 ·cases he
  rw [List.mem_singleton] at hm
  subst hm
  exact .one (hr.trans hle) hF
 ·split at he
  ·cases he
   exact ⟨Vb, V, hr, hle, hB, F, hm, hF⟩
  ·split at he
   ·cases he
   ·rename_i J hJ
    cases he
    obtain ⟨V', h1, h2⟩ := arXZ hB hle hm hF hJ
    exact .one (hr.trans h1) h2
variable {A : AProg} {call : anhZ} {split : Nat -> Bool} {dr : Bool} {sites : List Nat}
theorem asXZ : ∀ {l : List Nat} {t i : Nat}, l.idxOf? t = some i -> i < l.length
 | [], t, i, h => by simp at h
 | a :: r, t, i, h => by
  rw [List.idxOf?_cons] at h
  split at h
  ·cases h; simp
  ·cases hr : r.idxOf? t with
   | none => rw [hr] at h; cases h
   | some j =>
    rw [hr] at h
    cases h
    have := asXZ hr
    simp; omega
theorem apwZ (d : Option Nat) : (Ctx.mk (B + h) sites).site d = (aggZ sites h d).map (B + ·) := by
 unfold Ctx.site aggZ
 cases d with
 | none => rfl
 | some t => dsimp only; cases sites.idxOf? t with
  | none => rfl
  | some i => simp [Nat.add_assoc]
theorem awaZ {d : Option Nat} (hm : m = h + sites.length) : ∀ o, aggZ sites h d = some o -> h <= o /\ o < m := by
 intro o ho
 unfold aggZ at ho
 cases d with
 | none => cases ho
 | some t =>
  dsimp only at ho
  split at ho
  ·rename_i i hi
   cases ho
   have := asXZ hi
   omega
  ·cases ho
def Op1 (A : AProg) (B h m : Nat) (V : Va) (Hc : List AObj) (sites : List Nat) (dr : Bool) (l : List FSt) (ρ : SEnv) (H : List AObj) (o : AOper) : Prop :=
 (adKZ ρ o.guard = some false /\ ∃ F' ∈ l, ∃ V', V.Le V' /\ RF B h m V' Hc F' (updO ρ o.dst (.tup [])) H) ∨
 (adKZ ρ o.guard = some true /\ Stp B h m V Hc l ρ o.dst H (adAZ (aapZ A) ((Ctx.mk (B + h) sites).site o.dst) dr ρ H o.op))
theorem Stp.sub {l l' : List FSt} {d : Option Nat} {out : Out} (hs : Stp B h m V Hc l ρ d H out) (hsub : ∀ F ∈ l, F ∈ l') : Stp B h m V Hc l' ρ d H out := by
 obtain ⟨v, H', w, h1, h2, h3, F', h4, h5⟩ := hs
 exact ⟨v, H', w, h1, h2, h3, F', hsub _ h4, h5⟩
theorem anBZ {α : Type} {a b : Option (List α)} {l : List α} (h : app2 a b = some l) : ∃ x y, a = some x /\ b = some y /\ l = x ++ y := by
 unfold app2 at h
 split at h
 ·rename_i x y; cases h; exact ⟨x, y, rfl, rfl, rfl⟩
 ·cases h
theorem asYZ (hF : RF B h m V Hc F ρ H) (d : Option Nat) : ∃ V', V.Le V' /\ RF B h m V' Hc (F.put d F.T (.tup [])) (updO ρ d (.tup [])) H :=
 hF.put (.same hF.T (by unfold XV.rel relL; exact ⟨[], rfl, rfl⟩)) d
theorem RF.know (hF : RF B h m V Hc F ρ H) {t : Nat} {b : Bool} (ht : ρ t = .bool b) {T' : ST} (hT : T'.Ok B V) : RF B h m V Hc { F with T := T', env := F.env.set (.tt b) (aaLZ t) } ρ H :=
 ⟨hT, fun t' x e => by
  dsimp only at e
  rw [XT.get_put] at e
  by_cases h2 : t' = t
  ·rw [if_pos h2] at e
   cases e
   rw [h2, ht]
   unfold XV.rel
   rfl
  ·rw [if_neg h2] at e
   exact hF.env t' x e, hF.len, hF.hl, hF.heap, hF.low, hF.vecs, hF.cut, hF.fh⟩
theorem anCZ (hcall : aqVZ A B call) (hm : m = h + sites.length) (hF : RF B h m V Hc F ρ H) {o : AOper} {l : List FSt} (he : avKZ call split dr sites h o F = some l) : Op1 A B h m V Hc sites dr l ρ H o := by
 have run : ∀ {F : FSt} {l : List FSt}, RF B h m V Hc F ρ H -> opX call split dr (aggZ sites h o.dst) F o.dst o.op = some l -> Stp B h m V Hc l ρ o.dst H (adAZ (aapZ A) ((Ctx.mk (B + h) sites).site o.dst) dr ρ H o.op) := fun hF he => by
  rw [apwZ]
  exact avXZ hcall (awaZ hm) hF he
 unfold avKZ at he
 split at he
 ·cases he
 ·rename_i hg
  right
  refine ⟨?_, run hF he⟩
  unfold aoBZ at hg
  split at hg
  ·rename_i e
   rw [e]; rfl
  ·cases hg
  ·rename_i t want e
   rw [e]
   have ht := hF.at t
   split at hg
   ·rename_i b hb
    rw [hb] at ht
    unfold XV.rel at ht
    split at hg
    ·rename_i hc
     simp only [adKZ, ht, hc]
    ·cases hg
   ·cases hg
   ·cases hg
   ·cases hg
 ·rename_i hg
  cases he
  left
  refine ⟨?_, _, List.mem_singleton.2 rfl, asYZ hF o.dst⟩
  unfold aoBZ at hg
  split at hg
  ·cases hg
  ·cases hg
  ·rename_i t want e
   rw [e]
   have ht := hF.at t
   split at hg
   ·rename_i b hb
    rw [hb] at ht
    unfold XV.rel at ht
    split at hg
    ·cases hg
    ·rename_i hc
     simp only [adKZ, ht, hc]
   ·cases hg
   ·rename_i hb
    rw [hb] at ht
    unfold XV.rel relL at ht
    obtain ⟨vs, ht, rfl⟩ := ht
    simp only [adKZ, ht]
   ·cases hg
 ·rename_i t c want hg
  obtain ⟨l1, l2, e1, e2, rfl⟩ := anBZ he
  unfold aoBZ at hg
  split at hg
  ·cases hg
  ·cases hg
  ·rename_i t' want' e
   have ht := hF.at t'
   split at hg
   ·split at hg <;> cases hg
   ·rename_i c' hb
    cases hg
    rw [hb] at ht
    unfold XV.rel at ht
    obtain ⟨b, hb1, hb2⟩ := ht
    unfold Op1
    rw [e]
    simp only [adKZ, hb1]
    obtain ⟨T', a1, a2⟩ := aiqZ hF.T hb2
    have hF' := hF.know hb1 a2
    by_cases hw : b = want
    ·subst hw
     right
     refine ⟨by simp, ?_⟩
     unfold avJZ at e1
     rw [a1] at e1
     exact (run hF' e1).sub fun F hF => List.mem_append_left _ hF
    ·have hw' : b = !want := by cases b <;> cases want <;> first | rfl | exact absurd rfl hw
     left
     refine ⟨by simp [hw], ?_⟩
     unfold avJZ at e2
     rw [<- hw', a1] at e2
     cases e2
     exact ⟨_, List.mem_append_right _ (List.mem_singleton.2 rfl), asYZ hF' o.dst⟩
   ·cases hg
   ·cases hg
theorem aivZ {α β : Type} {f : α -> Option (List β)} : ∀ {l : List α} {r : List β}, atSZ f l = some r -> ∀ a ∈ l, ∃ x, f a = some x /\ ∀ b ∈ x, b ∈ r
 | [], _, _, a, ha => by cases ha
 | c :: l, r, h, a, ha => by
  unfold atSZ at h
  obtain ⟨x, y, h1, h2, rfl⟩ := anBZ h
  rcases List.mem_cons.1 ha with rfl | ha
  ·exact ⟨x, h1, fun b hb => List.mem_append_left _ hb⟩
  ·obtain ⟨z, g1, g2⟩ := aivZ h2 a ha
   exact ⟨z, g1, fun b hb => List.mem_append_right _ (g2 b hb)⟩
theorem aiQZ : ∀ {base : Nat} {wr w : List Nat}, (∀ o ∈ w, base <= o) -> aaCZ base wr w = wr
 | base, wr, [], _ => rfl
 | base, wr, o :: r, h => by
  unfold aaCZ
  rw [if_neg (fun hc => by have := h o (by simp); omega)]
  exact aiQZ fun a ha => h a (List.mem_cons_of_mem _ ha)
theorem akXZ (hcall : aqVZ A B call) (hm : m = h + sites.length) : ∀ (ops : List AOper) {l l' : List FSt} {V : Va} {ρ : SEnv} {H : List AObj} {K : SEnv -> List AObj -> List Nat -> Prop}, (∃ F ∈ l, RF B h m V Hc F ρ H) -> opsX call split false sites h ops l = some l' ->
  (∀ ρ' H', (∃ F' ∈ l', ∃ V', V.Le V' /\ RF B h m V' Hc F' ρ' H') -> K ρ' H' []) -> aiRZ (aapZ A) ⟨B + h, sites⟩ ops ρ H [] K
 | [], l, l', V, ρ, H, K, hF, he, hk => by
  cases he
  obtain ⟨F, f1, f2⟩ := hF
  exact hk ρ H ⟨F, f1, V, .refl, f2⟩
 | o :: r, l, l', V, ρ, H, K, hF, he, hk => by
  obtain ⟨F, f1, f2⟩ := hF
  unfold opsX at he
  split at he
  ·cases he
  rename_i l1 hl1
  obtain ⟨x, x1, x2⟩ := aivZ hl1 F f1
  unfold aiRZ
  rcases anCZ hcall hm f2 x1 with ⟨g1, F', g2, V1, g3, g4⟩ | ⟨g1, v, H', w, g2, g3, g4, F', g5, V1, g6, g7⟩
  ·rw [g1]
   dsimp only
   exact akXZ hcall hm r ⟨F', x2 _ g2, g4⟩ he fun ρ' H' ⟨F2, k1, V2, k2, k3⟩ => hk ρ' H' ⟨F2, k1, V2, g3.trans k2, k3⟩
  ·rw [g1]
   dsimp only
   rw [g2]
   dsimp only
   rw [aiQZ g3]
   exact akXZ hcall hm r ⟨F', x2 _ g5, g7⟩ he fun ρ' H' ⟨F2, k1, V2, k2, k3⟩ => hk ρ' H' ⟨F2, k1, V2, g6.trans k2, k3⟩
end
end Go.AM
end
section
namespace Go.AM
open Go
section
variable {B h m : Nat} {V V' Vb R : Va} {Hc : List AObj} {F Bs : FSt} {ρ ρ' : SEnv} {H : List AObj} {W : List Nat}
variable {A : AProg} {call : anhZ} {split : Nat -> Bool} {dr : Bool} {sites : List Nat}
theorem awbZ (hcall : aqVZ A B call) {site : Option Nat} {d : Option Nat} (hF : RF B h m V Hc F ρ H) {f : AOpd} {xs : List AOpd} {l : List FSt} (he : opX call split dr site F d (.callv f xs) = some l) :
  ∃ v, evWF (aapZ A) H ρ (site.map (B + ·)) (.callv f xs) = some (v, H, []) := by
 simp only [opX] at he
 split at he
 rotate_left
 ·cases he
 rename_i f' hf
 rw [aoHZ hf]
 split at he
 ·cases he
 rename_i T ys lent hargs
 split at he
 ·cases he
 rename_i l0 hl0
 split at he
 ·cases he
 rename_i l1 hl1
 obtain ⟨as', lnt, g1, g2, V1, g3, g4, g5⟩ := ajzZ hF xs .refl hF.T hargs
 obtain ⟨v, c1, p, c2, V2, c3, c4, c5⟩ := hcall _ _ _ _ _ _ _ (aaOZ H lnt) hl0 g4 g5 (by rw [aedZ, hF.len, hF.hl])
 obtain ⟨y, y1, y2⟩ := anyZ hl1 p c2
 obtain ⟨v', v1, v2⟩ := aoGZ (H := H) (H2 := aaOZ H lnt) (q := lnt.isEmpty) c5 y1 (fun hb => by rw [g2 hb]; rfl) aedZ (fun hq => by
  rw [List.isEmpty_iff] at hq
  rw [hq]; rfl)
 refine ⟨v', ?_⟩
 simp only [evWF, AOpd.at, Option.map_none, aokZ, List.nil_append, List.append_nil, g1, c1]
 exact v1
theorem aukZ (hcall : aqVZ A B call) (hF : RF B h m V Hc F ρ H) {o : AOper} {l : List FSt} (he : avKZ call split dr sites h o F = some l) {f : AOpd} {xs : List AOpd} (ho : o.op = .callv f xs) (hg : adKZ ρ o.guard = some true) :
  ∃ v, evWF (aapZ A) H ρ ((Ctx.mk (B + h) sites).site o.dst) (.callv f xs) = some (v, H, []) := by
 have run : ∀ {F : FSt} {l : List FSt}, RF B h m V Hc F ρ H -> opX call split dr (aggZ sites h o.dst) F o.dst o.op = some l -> ∃ v, evWF (aapZ A) H ρ ((Ctx.mk (B + h) sites).site o.dst) (.callv f xs) = some (v, H, []) := fun hF he => by
  rw [ho] at he
  rw [apwZ]
  exact awbZ hcall hF he
 unfold avKZ at he
 split at he
 ·cases he
 ·exact run hF he
 ·rename_i hx
  unfold aoBZ at hx
  split at hx
  ·cases hx
  ·cases hx
  ·rename_i t want e
   rw [e] at hg
   have ht := hF.at t
   split at hx
   ·rename_i b hb
    rw [hb] at ht
    unfold XV.rel at ht
    split at hx
    ·cases hx
    ·rename_i hc
     simp [adKZ, ht, hc] at hg
   ·cases hx
   ·rename_i hb
    rw [hb] at ht
    unfold XV.rel relL at ht
    obtain ⟨vs, ht, rfl⟩ := ht
    simp [adKZ, ht] at hg
   ·cases hx
 ·rename_i t c want hx
  obtain ⟨l1, l2, e1, e2, rfl⟩ := anBZ he
  unfold aoBZ at hx
  split at hx
  ·cases hx
  ·cases hx
  ·rename_i t' want' e
   have ht := hF.at t'
   split at hx
   ·split at hx <;> cases hx
   ·rename_i c' hb
    cases hx
    rw [hb] at ht
    unfold XV.rel at ht
    obtain ⟨b, hb1, hb2⟩ := ht
    rw [e] at hg
    simp only [adKZ, hb1, Option.some.injEq, beq_iff_eq] at hg
    subst hg
    obtain ⟨T', a1, a2⟩ := aiqZ hF.T hb2
    unfold avJZ at e1
    rw [a1] at e1
    exact run (hF.know hb1 a2) e1
   ·cases hx
   ·cases hx
def wOk (k : Nat) (w : Option (List Nat)) : Prop := match k with
 | 0 => w = none
 | 1 => w = some []
 | _ => True
def KLog (keep sites : List Nat) : Nat -> List AOper -> Log -> Prop
 | _, [], log => log = []
 | i, o :: r, log => KLog keep sites (i + 1) r log ∨ (keep.contains i = true /\ ∃ rd w log', log = (i, rd, w) :: log' /\ KLog keep sites (i + 1) r log' /\ wOk (atWZ sites o) w)
theorem aiwZ {keep : List Nat} {a i0 : Nat} {pre : Nat -> List Nat} : ∀ {r : List AOper} {i : Nat} {log : Log}, (∀ j o, r[j]? = some o -> pre (i + j) = o.pre) -> KLog keep sites i r log -> asUZ keep sites a i0 i r = true ->
  ∀ e ∈ log, (pre e.1).contains i0 = true ∨ ∃ b, avQZ a b = true /\ wOk b e.2.2
 | [], i, log, _, hl, _, e, he => by unfold KLog at hl; subst hl; cases he
 | o :: r, i, log, hp, hl, hk, e, he => by
  simp only [asUZ, Bool.and_eq_true] at hk
  have hp' : ∀ j o', r[j]? = some o' -> pre (i + 1 + j) = o'.pre := fun j o' hj => by
   have := hp (j + 1) o' (by simpa using hj)
   rwa [show i + 1 + j = i + (j + 1) by omega]
  unfold KLog at hl
  rcases hl with hl | ⟨h1, rd, w, log', rfl, h2, h3⟩
  ·exact aiwZ hp' hl hk.2 e he
  ·rcases List.mem_cons.1 he with rfl | he
   ·have h4 := hk.1
    rw [h1] at h4
    simp only [BT, Bool.false_or, Bool.or_eq_true] at h4
    rcases h4 with h4 | h4
    ·left
     have := hp 0 o (by simp)
     simp only [Nat.add_zero] at this
     show (pre i).contains i0 = true
     rw [this]; exact h4
    ·exact .inr ⟨_, h4, h3⟩
   ·exact aiwZ hp' h2 hk.2 e he
theorem ahsZ {keep : List Nat} {pre : Nat -> List Nat} : ∀ {r : List AOper} {i : Nat} {log : Log}, (∀ j o, r[j]? = some o -> pre (i + j) = o.pre) -> KLog keep sites i r log -> amaZ keep sites i r = true -> acUZ pre log = true
 | [], i, log, _, hl, _ => by unfold KLog at hl; subst hl; rfl
 | o :: r, i, log, hp, hl, hk => by
  simp only [amaZ, Bool.and_eq_true] at hk
  have hp' : ∀ j o', r[j]? = some o' -> pre (i + 1 + j) = o'.pre := fun j o' hj => by
   have := hp (j + 1) o' (by simpa using hj)
   rwa [show i + 1 + j = i + (j + 1) by omega]
  unfold KLog at hl
  rcases hl with hl | ⟨h1, rd, w, log', rfl, h2, h3⟩
  ·exact ahsZ hp' hl hk.2
  ·unfold acUZ
   rw [ahsZ hp' h2 hk.2, Bool.and_true, List.all_eq_true]
   intro e he
   have h4 := hk.1
   rw [h1] at h4
   simp only [BT, Bool.false_or] at h4
   rcases aiwZ hp' h2 h4 e he with h5 | ⟨b, h5, h6⟩
   ·obtain ⟨j, rd', w'⟩ := e
    dsimp only at h5 ⊢
    rw [h5, Bool.true_or]
   ·obtain ⟨j, rd', w'⟩ := e
    dsimp only at h6 ⊢
    rw [Bool.or_eq_true]
    right
    generalize atWZ sites o = a at h3 h5
    match a, b, h3, h5, h6 with
    | 0, 0, h3, _, h6 => simp only [wOk] at h3 h6; subst h3 h6; rfl
    | 0, 1, h3, _, h6 => simp only [wOk] at h3 h6; subst h3 h6; simp [acEZ]
    | 0, b + 2, _, h5, _ => simp [avQZ] at h5
    | 1, 0, h3, _, h6 => simp only [wOk] at h3 h6; subst h3 h6; simp [acEZ]
    | 1, b + 1, _, h5, _ => simp [avQZ] at h5
    | a + 2, _, _, h5, _ => simp [avQZ] at h5
theorem arYZ {sites : List Nat} {keep : List Nat} {ops : List AOper} {log : Log} (hl : KLog keep sites 0 ops log) (hk : arPZ keep sites ops ops = true) : acUZ (fun j => ((ops[j]?).map AOper.pre).getD []) log = true := by
 have hp : ∀ j o, ops[j]? = some o -> (fun j => ((ops[j]?).map AOper.pre).getD []) (0 + j) = o.pre := fun j o hj => by simp [hj]
 unfold arPZ at hk
 split at hk
 ·have : ∀ (r : List AOper) (i : Nat) (log : Log), KLog [] sites i r log -> log = [] := by
   intro r
   induction r with
   | nil => intro i log h; exact h
   | cons o r ih =>
    intro i log h
    unfold KLog at h
    rcases h with h | ⟨h, _⟩
    ·exact ih _ _ h
    ·simp at h
  rw [this _ _ _ hl]
  rfl
 ·exact ahsZ hp hl hk
theorem akmZ {c : Ctx} {H : List AObj} : ∀ {ops : List AOper}, akQZ c.sites ops = true -> abfZ c H ops = some H
 | [], _ => rfl
 | o :: r, hn => by
  simp only [akQZ, Bool.and_eq_true] at hn
  unfold abfZ
  have ih := akmZ (c := c) (H := H) hn.2
  split
  ·rename_i zs id h1 h2
   have h3 := hn.1
   rw [h1] at h3
   unfold Ctx.site at h2
   unfold aggZ at h3
   cases hd : o.dst with
   | none => rw [hd] at h2; cases h2
   | some t =>
    rw [hd] at h2 h3
    dsimp only at h2 h3
    cases hi : c.sites.idxOf? t with
    | none => rw [hi] at h2; cases h2
    | some i => rw [hi] at h3; cases h3
  ·exact ih
theorem axyZ {site : Option Nat} {op : AOp} {v : AV} {H' : List AObj} {w : List Nat} (hs : adAZ (aapZ A) site true ρ H op = some (v, H', w)) (hl : H'.length = H.length) (hn : ∀ zs, op = .alloc zs -> site = none) :
  ∃ rd w', aekZ (aapZ A) site ρ H op = some (v, H', rd, w') /\ (isW site true op = true -> w' = some w) /\ (isW site true op = false -> w' = none /\ w = []) := by
 unfold adAZ at hs
 have key : aekZ (aapZ A) site ρ H op = if isW site true op then
   match evWF (aapZ A) H ρ site op with
   | some (v, H', wr) => if H'.length = H.length then some (v, H', [], some wr) else none
   | none => none
  else match evRF H ρ op with
   | some v => some (v, H, afcZ ρ op, none)
   | none => none := by
  unfold aekZ
  cases op <;> first | rfl | (cases site <;> first | rfl | (exfalso; have := hn _ rfl; cases this))
 rw [key]
 cases hw : isW site true op with
 | true =>
  rw [if_pos hw] at hs
  simp only [if_true, hs, hl]
  exact ⟨_, _, rfl, fun _ => rfl, fun h => by cases h⟩
 | false =>
  rw [if_neg (by simp [hw])] at hs
  simp only [Bool.false_eq_true, if_false]
  split at hs
  ·rename_i v' hv
   cases hs
   rw [hv]
   exact ⟨_, _, rfl, (fun h => h.elim), fun _ => ⟨rfl, rfl⟩⟩
  ·cases hs
theorem akYZ (hcall : aqVZ A B call) (hm : m = h + sites.length) (keep : List Nat) : ∀ (ops : List AOper) {i : Nat} {l l' : List FSt} {V : Va} {ρ : SEnv} {H : List AObj} {K : SEnv -> List AObj -> List Nat -> Log -> Prop}, (∃ F ∈ l, RF B h m V Hc F ρ H) -> opsX call split true sites h ops l = some l' ->
  akQZ sites ops = true -> (∀ ρ' H' log, KLog keep sites i ops log -> (∃ F' ∈ l', ∃ V', V.Le V' /\ RF B h m V' Hc F' ρ' H') -> K ρ' H' [] log) -> wpD (aapZ A) ⟨B + h, sites⟩ keep i ops ρ H [] K
 | [], i, l, l', V, ρ, H, K, hF, he, hn, hk => by
  cases he
  obtain ⟨F, f1, f2⟩ := hF
  exact hk ρ H [] rfl ⟨F, f1, V, .refl, f2⟩
 | o :: r, i, l, l', V, ρ, H, K, hF, he, hn, hk => by
  obtain ⟨F, f1, f2⟩ := hF
  simp only [akQZ, Bool.and_eq_true] at hn
  unfold opsX at he
  split at he
  ·cases he
  rename_i l1 hl1
  obtain ⟨x, x1, x2⟩ := aivZ hl1 F f1
  unfold wpD
  rcases anCZ hcall hm f2 x1 with ⟨g1, F', g2, V1, g3, g4⟩ | ⟨g1, v, H', w, g2, g3, g4, F', g5, V1, g6, g7⟩
  ·rw [g1]
   dsimp only
   exact akYZ hcall hm keep r ⟨F', x2 _ g2, g4⟩ he hn.2 fun ρ' H' log hl ⟨F2, k1, V2, k2, k3⟩ => hk ρ' H' log (.inl hl) ⟨F2, k1, V2, g3.trans k2, k3⟩
  ·rw [g1]
   dsimp only
   have hsn : ∀ zs, o.op = .alloc zs -> (Ctx.mk (B + h) sites).site o.dst = none := fun zs hz => by
    have h3 := hn.1
    rw [hz] at h3
    rw [apwZ]
    unfold aggZ at h3 ⊢
    cases hd : o.dst with
    | none => rfl
    | some t =>
     rw [hd] at h3
     dsimp only at h3 ⊢
     cases hi : sites.idxOf? t with
     | none => rfl
     | some i => rw [hi] at h3; cases h3
   obtain ⟨rd, w', s1, s2, s3⟩ := axyZ g2 g4 hsn
   rw [s1]
   dsimp only
   have hge : ∀ a ∈ w'.getD [], B + h <= a := by
    cases hw : isW ((Ctx.mk (B + h) sites).site o.dst) true o.op with
    | true => rw [s2 hw]; exact g3
    | false => rw [(s3 hw).1]; simp
   rw [aiQZ hge]
   have hwok : wOk (atWZ sites o) w' := by
    unfold atWZ
    have hiso : (aggZ sites 0 o.dst).isSome = ((Ctx.mk (B + h) sites).site o.dst).isSome := by
     rw [apwZ]
     unfold aggZ
     cases o.dst with
     | none => rfl
     | some t => dsimp only; cases sites.idxOf? t <;> rfl
    rw [atHZ hiso]
    cases hw : isW ((Ctx.mk (B + h) sites).site o.dst) true o.op with
    | false => exact (s3 hw).1
    | true =>
     dsimp only
     split
     ·rename_i f xs ho
      obtain ⟨v2, c1⟩ := aukZ hcall f2 x1 ho g1
      unfold adAZ at g2
      rw [if_pos hw, ho, c1] at g2
      cases g2
      exact s2 hw
     ·trivial
   refine akYZ hcall hm keep r ⟨F', x2 _ g5, g7⟩ he hn.2 fun ρ' H' log hl ⟨F2, k1, V2, k2, k3⟩ => ?_
   split
   ·rename_i hc
    exact hk ρ' H' _ (.inr ⟨hc, rd, w', log, rfl, hl, hwok⟩) ⟨F2, k1, V2, g6.trans k2, k3⟩
   ·exact hk ρ' H' log (.inl hl) ⟨F2, k1, V2, g6.trans k2, k3⟩
end
end Go.AM
end
section
namespace Go.AM
open Go
def awcZ (B h m : Nat) (R : Va) (Hc : List AObj) (o : Outs) (e : AExit) (ρ : SEnv) (H : List AObj) : Prop := match e with
 | .normal => InvR B h m R Hc o.base o.w o.nrm ρ H
 | .exit id => ∃ F V, (id, F) ∈ o.exs /\ R.Le V /\ RF B h m V Hc F ρ H
 | .ret => ∃ F V, F ∈ o.rts /\ R.Le V /\ RF B h m V Hc F ρ H
def ayhZ (A : AProg) (N : Nat) (sites : List Nat) (B h m : Nat) (Hc : List AObj) (x : ACode) (f : axrZ) : Prop := ∀ (Bs : FSt) (W : List Nat) (l : List FSt) (o : Outs) (R : Va) (ρ : SEnv) (H : List AObj), f Bs W l = some o -> InvR B h m R Hc Bs W l ρ H ->
 wpc A N ⟨B + h, sites⟩ x ρ H [] fun e ρ' H' wr' => wr' = [] /\ awcZ B h m R Hc o e ρ' H'
section
variable {B h m : Nat} {V V' V0 V1 V2 : Va} {Hc : List AObj} {F G Hd : FSt} {ρ ρ1 ρ' : SEnv} {H H2 : List AObj}
theorem aqXZ {s : Nat} {c : Int} {v : AV} (hx : XV.rel V B (.txt s c) v) : ∃ n l, V.γ[s]? = some n /\ v = .str l /\ vl v = n + c := by
 unfold XV.rel at hx
 obtain ⟨l, n, rfl, h1, h2⟩ := hx
 exact ⟨n, l, h1, rfl, h2⟩
theorem anDZ {x : XV} {v : AV} {id : Nat} (hx : x.rel V B v) (hg : aoCZ x = some id) : ∃ rows, V.δ[id]? = some rows /\ vl v = rows.length := by
 unfold aoCZ at hg
 split at hg
 ·cases hg
  unfold XV.rel at hx
  obtain ⟨e, rows, h1, h2, h3⟩ := hx
  refine ⟨rows, h2, ?_⟩
  cases e with
  | none => simp only [gsv] at h3; subst h3; rfl
  | some p => obtain ⟨o, n⟩ := p; simp only [gsv] at h3; subst h3; rfl
 ·cases hg
  unfold XV.rel at hx
  obtain ⟨rows, h1, rfl⟩ := hx
  exact ⟨rows, h1, rfl⟩
 ·cases hg
theorem apxZ {T : ST} (hT : T.Ok B V) {id : Nat} {li : LI} {rows : List (List AV)} (hl : T.lst.get (aaLZ id) = some li) (hd : V.δ[id]? = some rows) : ∃ n, V.γ[li.s]? = some n /\ (rows.length : Int) = n + li.c := by
 obtain ⟨_, h1, _⟩ := abVZ hT hl hd
 exact h1
theorem adIZ {t : Nat} {sp : Sp} {s : Nat} {K : Int} (hg : afgZ Hd G t sp = some (some (s, K))) (hH : RF B h m V1 Hc Hd ρ1 H) :
  0 <= K /\ (∃ n, V1.γ[s]? = some n /\ vl (ρ1 t) = n) /\ (∀ {V2 ρ' H2}, V1.Le V2 -> RF B h m V2 Hc G ρ' H2 -> vl (ρ' t) <= vl (ρ1 t) + K) := by
 have h1 := hH.at t
 unfold afgZ at hg
 split at hg
 ·split at hg
  ·rename_i s1 c1 s2 c2 e1 e2
   split at hg
   ·rename_i g hq hz
    cases hg
    have hz := ahrZ.1 hz
    subst hz
    rw [e1] at h1
    obtain ⟨n, l, n1, n2, n3⟩ := aqXZ h1
    have hk := @akSZ 0 (g + c2)
    refine ⟨hk.1,⟨n, n1, by omega⟩, fun {V2 ρ' H2} hle hG => ?_⟩
    have h2 := hG.at t
    rw [e2] at h2
    obtain ⟨n', l', m1, m2, m3⟩ := aqXZ h2
    have := aiLZ hG.T gf hq m1 (hle.g _ _ n1)
    omega
   ·cases hg
  ·cases hg
 ·split at hg
  ·rename_i s1 id s2 id' e1 e2
   split at hg
   ·rename_i li li' hl hl'
    split at hg
    ·rename_i g hq hz
     cases hg
     have hz := ahrZ.1 hz
     obtain ⟨rows, r1, r2⟩ := anDZ (id := id) h1 (by rw [e1]; rfl)
     obtain ⟨n, n1, n2⟩ := apxZ hH.T hl r1
     have hk := @akSZ 0 (g + li'.c)
     refine ⟨hk.1,⟨n, n1, by omega⟩, fun {V2 ρ' H2} hle hG => ?_⟩
     have h2 := hG.at t
     obtain ⟨rows', q1, q2⟩ := anDZ (id := id') h2 (by rw [e2]; rfl)
     obtain ⟨n', m1, m2⟩ := apxZ hG.T hl' q1
     have := aiLZ hG.T gf hq m1 (hle.g _ _ n1)
     omega
    ·cases hg
   ·cases hg
  ·cases hg
 ·cases hg
theorem aqYZ {n : Int} {t : Nat} {sp : Sp} (hs : asTZ F Hd G n t sp = true) (h0 : F.T.Ok B V0) (hF : RF B h m V0 Hc F ρ H) (hle : V0.Le V2) (hG : RF B h m V2 Hc G ρ' H2)
  (hv : ∀ s K, spOk F.T G (G.at t) sp = false -> afgZ Hd G t sp = some (some (s, K)) -> vl (ρ' t) <= vl (ρ t) + n * K) : aqWZ B h V0 H2 (ρ' t) sp := by
 unfold asTZ at hs
 have hx := hF.at t
 have hy := hG.at t
 split at hs
 ·rename_i h1
  exact aoKZ (Bs := F) hG hle h0 hy h1
 ·rename_i h1
  split at hs
  ·rename_i s K mm hgb
   have hvl := hv _ _ h1 hgb
   rw [absZ] at hs
   have e2 : ∃ s2 c2, G.at t = .txt s2 c2 := by
    unfold afgZ at hgb
    dsimp only at hgb
    split at hgb
    ·rename_i e; exact ⟨_, _, e⟩
    ·cases hgb
   obtain ⟨s2, c2, e2⟩ := e2
   rw [e2] at hy
   obtain ⟨n2, l2, m1, m2, m3⟩ := aqXZ hy
   split at hs
   ·rename_i s0 c0 e0
    rw [e0] at hx
    obtain ⟨n0, l0, q1, q2, q3⟩ := aqXZ hx
    have r0 := (h0.rng _ _ q1).2
    refine ⟨?_, by simp⟩
    unfold SH.has
    refine ⟨l2, m2, ?_⟩
    have : vl (ρ' t) = l2.length := by rw [m2]; rfl
    omega
   ·omega
  ·rename_i s K os k1 alts lo hi hgb
   have hvl := hv _ _ h1 hgb
   split at hs
   ·rename_i s2 id e2
    split at hs
    ·rename_i w li hw hl
     simp only [Bool.and_eq_true, Nat.beq_eq, absZ] at hs
     obtain ⟨⟨⟨⟨⟨g1, g2⟩, g3⟩, g4⟩, g5⟩, g6⟩ := hs
     rw [e2] at hy
     obtain ⟨e, rows, q1, q2, q3, q4⟩ := ambZ (x := .gs s2 id) hG hy hw
     obtain ⟨d1,⟨nn, n1, n2⟩, d3⟩ := abVZ hG.T hl q2
     have rn := (hG.T.rng _ _ n1).1
     obtain ⟨rows', q5, q6⟩ := anDZ (id := id) hy rfl
     rw [q2] at q5
     cases q5
     have hhi : (rows.length : Int) <= hi := by
      split at g6
      ·rename_i e0
       rw [e0] at hx
       unfold XV.rel at hx
       have : vl (ρ t) = 0 := by rw [hx]; rfl
       have := absZ.1 g6
       omega
      ·split at g6
       ·rename_i id0 hid0
        split at g6
        ·rename_i li0 hl0
         obtain ⟨rows0, p1, p2⟩ := anDZ hx hid0
         obtain ⟨n0, p3, p4⟩ := apxZ h0 hl0 p1
         have r0 := (h0.rng _ _ p3).2
         have := absZ.1 g6
         omega
        ·cases g6
       ·cases g6
     have hos : ∀ o ∈ os, h <= o := fun o ho => by
      rw [List.all_eq_true] at g3
      have := g3 o ho
      rw [Nat.ble_eq, hG.fh] at this
      exact this
     exact ⟨e, rows, q1, d1, fun o n e1 => ⟨amcZ g2 (q3 o n e1).1, by rw [g1]; exact (q3 o n e1).2⟩, hos, by omega, hhi, fun row hr => acsZ _ _ _ g4 (d3 row hr), by simp⟩
    ·cases hs
   ·cases hs
  ·cases hs
theorem aknZ {n : Int} (h0 : F.T.Ok B V0) (hF : RF B h m V0 Hc F ρ H) (hle : V0.Le V2) (hG : RF B h m V2 Hc G ρ' H2) : ∀ {sps : List (Nat × Sp)}, apsZ F Hd G n sps = true ->
  (∀ p ∈ sps, ∀ s K, spOk F.T G (G.at p.1) p.2 = false -> afgZ Hd G p.1 p.2 = some (some (s, K)) -> vl (ρ' p.1) <= vl (ρ p.1) + n * K) -> ∀ p ∈ sps, aqWZ B h V0 H2 (ρ' p.1) p.2
 | [], _, _, p, hp => by cases hp
 | (t, sp) :: r, hs, hv, p, hp => by
  simp only [apsZ, Bool.and_eq_true] at hs
  rcases List.mem_cons.1 hp with rfl | hp
  ·exact aqYZ hs.1 h0 hF hle hG (hv (t, sp) (by simp))
  ·exact aknZ h0 hF hle hG hs.2 (fun p hp => hv p (List.mem_cons_of_mem _ hp)) p hp
theorem aixZ {n : Int} (h0 : F.T.Ok B V0) (hF : RF B h m V0 Hc F ρ H) (h01 : V0.Le V1) (h12 : V1.Le V2) (hH : RF B h m V1 Hc Hd ρ1 H2) : ∀ {sps : List (Nat × Sp)} {T : ST}, T.Ok B V2 ->
  (∀ p ∈ sps, ∀ s K, spOk F.T G (G.at p.1) p.2 = false -> afgZ Hd G p.1 p.2 = some (some (s, K)) -> vl (ρ1 p.1) <= vl (ρ p.1) + n * K) -> (ajcZ F Hd G n T sps).Ok B V2
 | [], T, hT, _ => hT
 | (t, sp) :: r, T, hT, hv => by
  have ih : ∀ {T' : ST}, T'.Ok B V2 -> (ajcZ F Hd G n T' r).Ok B V2 := fun hT' => aixZ h0 hF h01 h12 hH hT' fun p hp => hv p (List.mem_cons_of_mem _ hp)
  have hx := hF.at t
  unfold ajcZ
  split
  ·rename_i s k s0 c0 e1 e2 e3
   obtain ⟨_,⟨x, x1, x2⟩, _⟩ := adIZ e2 hH
   rw [e3] at hx
   obtain ⟨n0, l0, q1, q2, q3⟩ := aqXZ hx
   have := hv (t, sp) (by simp) s k e1 e2
   exact ih (hT.le (h12.g _ _ x1) (h12.g _ _ (h01.g _ _ q1)) (by dsimp only at this; omega))
  ·rename_i s k e1 e2 e3
   obtain ⟨_,⟨x, x1, x2⟩, _⟩ := adIZ e2 hH
   rw [e3] at hx
   unfold XV.rel at hx
   have hz : vl (ρ t) = 0 := by rw [hx]; rfl
   have := hv (t, sp) (by simp) s k e1 e2
   exact ih (hT.le (h12.g _ _ x1) hT.zero (by dsimp only at this; omega))
  ·rename_i x0 s k e1 e2 e3 e4
   obtain ⟨_,⟨x, x1, x2⟩, _⟩ := adIZ e2 hH
   have := hv (t, sp) (by simp) s k e1 e2
   split
   ·rename_i id0 hid
    split
    ·rename_i li0 hl0
     obtain ⟨rows0, p1, p2⟩ := anDZ hx hid
     obtain ⟨n0, p3, p4⟩ := apxZ h0 hl0 p1
     exact ih (hT.le (h12.g _ _ x1) (h12.g _ _ (h01.g _ _ p3)) (by dsimp only at this; omega))
    ·exact ih hT
   ·exact ih hT
  ·exact ih hT
theorem RF.tab (hF : RF B h m V Hc F ρ H) {T' : ST} (hT : T'.Ok B V) : RF B h m V Hc { F with T := T' } ρ H := hF.ext .refl hT
theorem akoZ {t s : Nat} {Bd : Int} (hc : aprZ Hd G t = some (s, Bd)) (hH : RF B h m V1 Hc Hd ρ1 H) : (∃ n, V1.γ[s]? = some n /\ vl (ρ1 t) = n) /\ (∀ {V2 ρ' H2}, V1.Le V2 -> RF B h m V2 Hc G ρ' H2 -> vl (ρ1 t) + 1 <= vl (ρ' t) /\ vl (ρ1 t) <= Bd) := by
 have h1 := hH.at t
 unfold aprZ at hc
 split at hc
 ·rename_i k s1 c1 k' s2 c2 e1 e2
  split at hc
  ·rename_i hq
   simp only [Bool.and_eq_true, Nat.beq_eq, ahrZ, absZ] at hq
   obtain ⟨⟨⟨rfl, rfl⟩, hc1⟩, hpos⟩ := hq
   cases hc
   rw [e1] at h1
   unfold XV.rel at h1
   obtain ⟨n, n1, n2⟩ := h1
   have hv1 : vl (ρ1 t) = n := by rw [n2]; show n + 0 = n; omega
   refine ⟨⟨n, n1, hv1⟩, fun {V2 ρ' H2} hle hG => ?_⟩
   have h2 := hG.at t
   rw [e2] at h2
   unfold XV.rel at h2
   obtain ⟨n', m1, m2⟩ := h2
   rw [hle.g _ _ n1] at m1
   cases m1
   have hv2 : vl (ρ' t) = n + c2 := by rw [m2]; rfl
   have := afUZ hG.T qf (hle.g _ _ n1)
   exact ⟨by omega, by omega⟩
  ·cases hc
 ·cases hc
theorem afXZ : ∀ {W : List Nat} {t s : Nat} {Bd : Int}, aioZ Hd G W = some (t, s, Bd) -> aprZ Hd G t = some (s, Bd)
 | [], _, _, _, h => by cases h
 | a :: r, t, s, Bd, h => by
  unfold aioZ at h
  split at h
  ·rename_i s' B' hc
   split at h
   ·cases h; exact hc
   ·exact afXZ h
  ·exact afXZ h
variable {A : AProg} {N : Nat} {sites : List Nat}
theorem anEZ {b : ACode} {body : axrZ} (hbody : ayhZ A N sites B h m Hc b body) (hok : aaSZ N ⟨B + h, sites⟩ b = true) {W : List Nat} (hW : ∀ t ∈ dsts b, t ∈ W) (h0 : RF B h m V0 Hc F ρ H) :
  ∀ (n : Nat) {hs : HV} {sps : List (Nat × Sp)} {o : Outs}, sps.map Prod.fst = W -> atVZ body W F n hs sps = some o -> Wp A N ⟨B + h, sites⟩ (.loop b) ρ H [] fun e ρ' H' wr' => wr' = [] /\ awcZ B h m V0 Hc o e ρ' H'
 | 0, hs, sps, o, _, he => by cases he
 | n + 1, hs, sps, o, hk, he => by
  have again : ∀ {hs' : HV} {f : Nat × Sp -> Sp} {o : Outs}, atVZ body W F n hs' (sps.map fun p => (p.1, f p)) = some o -> Wp A N ⟨B + h, sites⟩ (.loop b) ρ H [] fun e ρ' H' wr' => wr' = [] /\ awcZ B h m V0 Hc o e ρ' H' := fun {hs' f o} he' =>
   anEZ hbody hok hW h0 n (by rw [List.map_map]; exact hk) he'
  unfold atVZ at he
  split at he
  ·cases he
  rename_i hfit
  rw [Bool.and_eq_true] at hfit
  dsimp only at he
  split at he
  ·cases he
  rename_i ob hob
  have hkeys : ∀ t ∈ dsts b, t ∈ sps.map Prod.fst := fun t ht => by rw [hk]; exact hW t ht
  split at he
  ·cases he
  ·
   split at he
   ·cases he
   rename_i o2 ho2
   split at he
   rotate_left
   ·cases he
   rename_i hnil
   cases he
   refine asrZ (tg := ⟨⟩) (b := b) (W := dsts b) (fun i ρ1 H1 wr1 => ρ1 = ρ /\ H1 = H /\ wr1 = []) 0 hok rfl ⟨rfl, rfl, rfl⟩ ?_
   rintro i ρ1 H1 wr1 hi ⟨rfl, rfl, rfl⟩ hf
   refine abUZ (fun e ρ' H' wr' hh hfr => ?_) (hbody F [] [F] o2 V0 ρ1 H1 ho2 (.one .refl h0))
   obtain ⟨rfl, hh⟩ := hh
   cases e with
   | normal =>
    obtain ⟨_, _, _, _, _, F', hm', _⟩ := hh
    rw [hnil] at hm'
    cases hm'
   | exit id => exact ⟨rfl, hh⟩
   | ret => exact ⟨rfl, hh⟩
  ·rename_i G hG
   split at he
   ·split at he
    ·cases he
    ·exact again he
   ·rename_i t s Bd hcount
    split at he
    rotate_left
    ·exact again he
    rename_i hround
    rw [Bool.and_eq_true] at hround
    cases he
    have hcnt := afXZ hcount
    generalize hHd : atTZ F hs sps = Hd at *
    generalize hNn : imax 0 (Bd - Hd.T.lo s + 1) = Nn at *
    have hN0 : 0 <= Nn := by rw [<- hNn]; exact (@akSZ 0 _).1
    have hN1 : Bd - Hd.T.lo s + 1 <= Nn := by rw [<- hNn]; exact (@akSZ 0 _).2
    refine asrZ (tg := ⟨⟩) (b := b) (W := dsts b) (fun i ρ1 H1 wr1 => wr1 = [] /\ (∃ V1, V0.Le V1 /\ RF B h m V1 Hc Hd ρ1 H1) /\ Hd.T.lo s + (i : Int) <= vl (ρ1 t) /\
     ∀ p ∈ sps, ∀ s K, spOk F.T G (G.at p.1) p.2 = false -> afgZ Hd G p.1 p.2 = some (some (s, K)) -> vl (ρ1 p.1) <= vl (ρ p.1) + (i : Int) * K) Nn.toNat hok rfl ?_ ?_
    ·obtain ⟨V1, l1, r1⟩ := akWZ h0.base .refl h0 (ajAZ (Bs := F) h0 .refl h0.T hfit.1) hfit.2 (fun t ht => by cases ht)
     rw [hHd] at r1
     obtain ⟨⟨x, x1, x2⟩, _⟩ := akoZ hcnt r1
     have := (r1.T.rng _ _ x1).1
     refine ⟨rfl,⟨V1, l1, r1⟩, by rw [x2]; simpa using this, fun p hp s K _ _ => by simp⟩
    ·rintro i ρ1 H1 wr1 hi ⟨rfl,⟨V1, l1, r1⟩, hc1, hg1⟩ hf
     have hin : (i : Int) <= Nn := by omega
     have hgN : ∀ p ∈ sps, ∀ s K, spOk F.T G (G.at p.1) p.2 = false -> afgZ Hd G p.1 p.2 = some (some (s, K)) -> vl (ρ1 p.1) <= vl (ρ p.1) + Nn * K := by
      intro p hp s K e1 e2
      have h1 := hg1 p hp s K e1 e2
      have hK := (adIZ e2 r1).1
      have : (i : Int) * K <= Nn * K := Int.mul_le_mul_of_nonneg_right hin hK
      omega
     refine abUZ (fun e ρ' H' wr' hh hfr => ?_) (hbody Hd [] [Hd] ob V1 ρ1 H1 hob (.one .refl r1))
     obtain ⟨rfl, hh⟩ := hh
     cases e with
     | normal =>
      obtain ⟨Vb2, V2', k1, k2, k3, F2, k4, k5⟩ := hh
      obtain ⟨Vb3, V3, q1, q2, q3, F3, q4, q5⟩ := afWZ (R := V1) k1 k3 k2 k4 k5 hG
      rw [List.mem_singleton] at q4
      subst q4
      have hle : V1.Le V3 := q1.trans q2
      obtain ⟨c1, c2⟩ := akoZ hcnt r1
      obtain ⟨c3, c4⟩ := c2 hle q5
      have hlt : (i : Int) + 1 <= Nn := by omega
      refine ⟨by omega, rfl, ?_, by push_cast; omega, ?_⟩
      ·have hv2 : ∀ p ∈ sps, ∀ s K, spOk F.T F3 (F3.at p.1) p.2 = false -> afgZ Hd F3 p.1 p.2 = some (some (s, K)) -> vl (ρ' p.1) <= vl (ρ p.1) + Nn * K := by
        intro p hp s K e1 e2
        obtain ⟨hK, _, hst⟩ := adIZ e2 r1
        have h1 := hg1 p hp s K e1 e2
        have h2 := hst hle q5
        have h3 : ((i : Int) + 1) * K <= Nn * K := Int.mul_le_mul_of_nonneg_right hlt hK
        have h4 : ((i : Int) + 1) * K = (i : Int) * K + K := by rw [Int.add_mul]; omega
        omega
       have hB : BaseR B h m V0 F (dsts b) ρ' := h0.base.frame (fun t ht => by cases ht) fun t ht => by
        have hn : (dsts b).contains t = false := by rw [Bool.eq_false_iff]; exact fun hc => ht (List.contains_iff_mem.1 hc)
        rw [hfr t hn, hf t hn]
       obtain ⟨V4, l4, r4⟩ := akWZ hB (l1.trans hle) q5 (aknZ h0.T h0 (l1.trans hle) q5 hround.1 hv2) hround.2 hkeys
       rw [hHd] at r4
       exact ⟨V4, l4, r4⟩
      ·intro p hp s K e1 e2
       obtain ⟨hK, _, hst⟩ := adIZ e2 r1
       have h1 := hg1 p hp s K e1 e2
       have h2 := hst hle q5
       have h4 : ((i + 1 : Nat) : Int) * K = (i : Int) * K + K := by push_cast; rw [Int.add_mul]; omega
       omega
     | exit id =>
      obtain ⟨F2, V2', k1, k2, k3⟩ := hh
      refine ⟨rfl, axqZ F Hd G Nn sps F2, V2', List.mem_map.2 ⟨(id, F2), k1, rfl⟩, l1.trans k2, ?_⟩
      exact k3.tab (aixZ h0.T h0 l1 k2 r1 k3.T hgN)
     | ret =>
      obtain ⟨F2, V2', k1, k2, k3⟩ := hh
      refine ⟨rfl, axqZ F Hd G Nn sps F2, V2', List.mem_map.2 ⟨F2, k1, rfl⟩, l1.trans k2, ?_⟩
      exact k3.tab (aixZ h0.T h0 l1 k2 r1 k3.T hgN)
  ·cases he
end
end Go.AM
end
section
namespace Go.AM
open Go
section
variable {B h m : Nat} {V V' Vb R : Va} {Hc : List AObj} {F Bs : FSt} {ρ ρ' : SEnv} {H : List AObj} {W : List Nat}
variable {A : AProg} {N : Nat} {call : anhZ} {split : Nat -> Bool} {nj : Bool} {sites : List Nat}
theorem alIZ (hF : RF B h m V Hc F ρ H) {c : Ctx} {x : AOpd} {b : Bool} {r : List FSt} (he : asSZ c x b F = some r) : ∃ b', x.at ρ = .bool b' /\ (b' = b -> ∃ F1 ∈ r, RF B h m V Hc F1 ρ H) := by
 have hx := hF.opd x
 unfold asSZ at he
 split at he
 ·rename_i b' e
  rw [e] at hx
  unfold XV.rel at hx
  refine ⟨b', hx, fun hb => ?_⟩
  subst hb
  simp only [beq_self_eq_true] at he
  cases he
  exact ⟨F, by simp, hF⟩
 ·rename_i cd e
  rw [e] at hx
  unfold XV.rel at hx
  obtain ⟨b', hb1, hb2⟩ := hx
  refine ⟨b', hb1, fun hb => ?_⟩
  subst hb
  obtain ⟨T', a1, a2⟩ := aiqZ hF.T hb2
  rw [a1] at he
  dsimp only at he
  cases x with
  | tmp t => cases he; exact ⟨_, List.mem_singleton.2 rfl, hF.know hb1 a2⟩
  | const v => cases he; exact ⟨_, List.mem_singleton.2 rfl, hF.tab a2⟩
 ·cases he
theorem ahtZ {id : Nat} : ∀ {l : List (Nat × FSt)} {F : FSt}, (id, F) ∈ l -> F ∈ anjZ id l
 | [], _, hm => by cases hm
 | (i, G) :: r, F, hm => by
  unfold anjZ
  rcases List.mem_cons.1 hm with e | hm
  ·cases e
   simp
  ·split
   ·exact List.mem_cons_of_mem _ (ahtZ hm)
   ·exact ahtZ hm
theorem aiyZ {id i : Nat} (hne : i ≠ id) : ∀ {l : List (Nat × FSt)} {F : FSt}, (i, F) ∈ l -> (i, F) ∈ akhZ id l
 | [], _, hm => by cases hm
 | (j, G) :: r, F, hm => by
  unfold akhZ
  rcases List.mem_cons.1 hm with e | hm
  ·cases e
   have : Nat.beq i id = false := by rw [Bool.eq_false_iff]; intro hc; exact hne (Nat.beq_eq ▸ hc)
   rw [this]
   simp
  ·split
   ·exact aiyZ hne hm
   ·exact List.mem_cons_of_mem _ (aiyZ hne hm)
theorem aeNZ {l : List Nat} {t : Nat} (h : t ∉ l) : l.contains t = false := by
 rw [Bool.eq_false_iff]
 exact fun hc => h (List.contains_iff_mem.1 hc)
theorem aqZZ {ops : List AOper} {l' : List FSt} {o : Outs} (hB : BaseR B h m Vb Bs W ρ) (hr : R.Le Vb) (hle : Vb.Le V) (he : (match (some l' : Option (List FSt)) with
   | none => none
   | some [F] => some ⟨F, [], [F], [], []⟩
   | some l' => some ⟨Bs, acrZ ops ++ W, l', [], []⟩) = some o) (hf : SlFr (acrZ ops) ρ ρ') (hm : ∃ F' ∈ l', ∃ V', V.Le V' /\ RF B h m V' Hc F' ρ' H) : InvR B h m R Hc o.base o.w o.nrm ρ' H := by
 obtain ⟨F', m1, V', m2, m3⟩ := hm
 split at he
 ·rename_i e; cases e
 ·rename_i F e
  cases e
  cases he
  rw [List.mem_singleton] at m1
  subst m1
  exact .one (hr.trans (hle.trans m2)) m3
 ·rename_i l2 e
  cases e
  cases he
  exact ⟨Vb, V', hr, hle.trans m2, hB.frame (fun t ht => List.mem_append_right _ ht) fun t ht => hf t (aeNZ fun hc => ht (List.mem_append_left _ hc)), F', m1, m3⟩
theorem aeoZ (hcall : aqVZ A B call) (hm : m = h + sites.length) : ∀ (x : ACode), aaSZ N ⟨B + h, sites⟩ x = true -> ayhZ A N sites B h m Hc x (akRZ call split nj sites h x)
 | .skip, hok => fun Bs W l o R ρ H he hi => by
  cases he
  exact ⟨rfl, hi⟩
 | .bad, hok => fun Bs W l o R ρ H he hi => by cases he
 | .region d ops, hok => fun Bs W l o R ρ H he hi => by
  obtain ⟨Vb, V, i1, i2, i3, F, i4, i5⟩ := hi
  simp only [akRZ] at he
  cases d with
  | false =>
   dsimp only at he
   cases hops : opsX call split false sites h ops l with
   | none => rw [hops] at he; cases he
   | some l' =>
    rw [hops] at he
    rw [wpc]
    refine ahjZ (fun ρ' H' wr' hK hfr => ?_) (akXZ hcall hm ops (K := fun ρ' H' wr' => wr' = [] /\ ∃ F' ∈ l', ∃ V', V.Le V' /\ RF B h m V' Hc F' ρ' H') ⟨F, i4, i5⟩ hops fun ρ' H' hh => ⟨rfl, hh⟩)
    exact ⟨hK.1, aqZZ i3 i1 i2 he hfr hK.2⟩
  | true =>
   dsimp only at he
   split at he
   ·cases he
   rename_i hc
   rw [Bool.and_eq_true] at hc
   cases hops : opsX call split true sites h ops l with
   | none => rw [hops] at he; cases he
   | some l' =>
    rw [hops] at he
    rw [wpc, akmZ hc.1]
    dsimp only
    rw [ajsZ]
    refine ajUZ (fun ρ' H' wr' log hK hfr => ?_) (akYZ hcall hm (agNZ ⟨0, sites⟩ ops) ops (K := fun ρ' H' wr' log => KLog (agNZ ⟨0, sites⟩ ops) sites 0 ops log /\ wr' = [] /\ ∃ F' ∈ l', ∃ V', V.Le V' /\ RF B h m V' Hc F' ρ' H') ⟨F, i4, i5⟩ hops hc.1 fun ρ' H' log hl hh => ⟨hl, rfl, hh⟩)
    exact ⟨arYZ hK.1 hc.2, hK.2.1, aqZZ i3 i1 i2 he hfr hK.2.2⟩
 | .seq a b, hok => fun Bs W l o R ρ H he hi => by
  simp only [aaSZ, Bool.and_eq_true] at hok
  simp only [akRZ] at he
  split at he
  ·cases he
  rename_i oa hoa
  rw [wpc]
  refine abUZ (fun e ρ' H' wr' hh hfr => ?_) (aeoZ hcall hm a hok.1 Bs W l oa R ρ H hoa hi)
  obtain ⟨rfl, hh⟩ := hh
  split at he
  ·rename_i hnil
   cases he
   cases e with
   | normal =>
    obtain ⟨_, _, _, _, _, F', hm', _⟩ := hh
    rw [hnil] at hm'
    cases hm'
   | exit id => exact ⟨rfl, hh⟩
   | ret => exact ⟨rfl, hh⟩
  ·split at he
   ·cases he
   rename_i ob hob
   cases he
   cases e with
   | normal =>
    dsimp only
    refine abUZ (fun e ρ2 H2 wr2 hh2 hfr2 => ?_) (aeoZ hcall hm b hok.2 _ _ _ _ R ρ' H' hob hh)
    obtain ⟨rfl, hh2⟩ := hh2
    cases e with
    | normal => exact ⟨rfl, hh2⟩
    | exit id =>
     obtain ⟨F2, V2, k1, k2⟩ := hh2
     exact ⟨rfl, F2, V2, List.mem_append_right _ k1, k2⟩
    | ret =>
     obtain ⟨F2, V2, k1, k2⟩ := hh2
     exact ⟨rfl, F2, V2, List.mem_append_right _ k1, k2⟩
   | exit id =>
    obtain ⟨F2, V2, k1, k2⟩ := hh
    exact ⟨rfl, F2, V2, List.mem_append_left _ k1, k2⟩
   | ret =>
    obtain ⟨F2, V2, k1, k2⟩ := hh
    exact ⟨rfl, F2, V2, List.mem_append_left _ k1, k2⟩
 | .cond x a b, hok => fun Bs W l o R ρ H he hi => by
  simp only [aaSZ, Bool.and_eq_true] at hok
  obtain ⟨Vb, V, i1, i2, i3, F, i4, i5⟩ := hi
  simp only [akRZ] at he
  split at he
  rotate_left
  ·cases he
  rename_i lt lf hlt hlf
  obtain ⟨rt, t1, t2⟩ := aivZ hlt F i4
  obtain ⟨rf, f1, f2⟩ := aivZ hlf F i4
  obtain ⟨bv, v1, v2⟩ := alIZ i5 t1
  obtain ⟨bv', v1', v3⟩ := alIZ i5 f1
  rw [v1] at v1'
  cases v1'
  split at he
  rotate_left
  ·cases he
  rename_i oa ob hoa hob
  split at he
  ·cases he
  rename_i B' W' l' hmg
  cases he
  have fin : ∀ (e : AExit) (ρ' : SEnv) (H' : List AObj) (ox : Outs), (∀ F, F ∈ ox.nrm -> F ∈ oa.nrm ++ ob.nrm) -> (∀ p, p ∈ ox.exs -> p ∈ oa.exs ++ ob.exs) -> (∀ p, p ∈ ox.rts -> p ∈ oa.rts ++ ob.rts) -> (∀ t, t ∉ x.slot ++ dsts a ++ dsts b ++ W -> ρ' t = ρ t) -> awcZ B h m Vb Hc ox e ρ' H' ->
    awcZ B h m R Hc ⟨B', W', l', oa.exs ++ ob.exs, oa.rts ++ ob.rts⟩ e ρ' H' := by
   intro e ρ' H' ox hn hx hr hfr hh
   cases e with
   | normal =>
    obtain ⟨Vb2, V2, k1, k2, k3, F2, k4, k5⟩ := hh
    exact afWZ i1 (i3.frame (fun t ht => List.mem_append_right _ ht) hfr) (k1.trans k2) (hn _ k4) k5 hmg
   | exit id =>
    obtain ⟨F2, V2, k1, k2, k3⟩ := hh
    exact ⟨F2, V2, hx _ k1, i1.trans k2, k3⟩
   | ret =>
    obtain ⟨F2, V2, k1, k2, k3⟩ := hh
    exact ⟨F2, V2, hr _ k1, i1.trans k2, k3⟩
  rw [wpc, v1]
  cases bv with
  | true =>
   dsimp only
   obtain ⟨F1, g1, g2⟩ := v2 rfl
   have hmem := t2 _ g1
   split at hoa
   ·cases hmem
   ·refine abUZ (fun e ρ' H' wr' hh hfr => ⟨hh.1, ?_⟩) (aeoZ hcall hm a hok.1 Bs (x.slot ++ W) lt oa Vb ρ H hoa ⟨Vb, V, .refl, i2, i3.frame (fun t ht => List.mem_append_right _ ht) fun _ _ => rfl, F1, hmem, g2⟩)
    exact fin e ρ' H' oa (fun F hF => List.mem_append_left _ hF) (fun F hF => List.mem_append_left _ hF) (fun F hF => List.mem_append_left _ hF) (fun t ht => hfr t (aeNZ fun hc => ht (by simp [hc]))) hh.2
  | false =>
   dsimp only
   obtain ⟨F1, g1, g2⟩ := v3 rfl
   have hmem := f2 _ g1
   split at hob
   ·cases hmem
   ·refine abUZ (fun e ρ' H' wr' hh hfr => ⟨hh.1, ?_⟩) (aeoZ hcall hm b hok.2 Bs (x.slot ++ W) lf ob Vb ρ H hob ⟨Vb, V, .refl, i2, i3.frame (fun t ht => List.mem_append_right _ ht) fun _ _ => rfl, F1, hmem, g2⟩)
    exact fin e ρ' H' ob (fun F hF => List.mem_append_right _ hF) (fun F hF => List.mem_append_right _ hF) (fun F hF => List.mem_append_right _ hF) (fun t ht => hfr t (aeNZ fun hc => ht (by simp [hc]))) hh.2
 | .block id c, hok => fun Bs W l o R ρ H he hi => by
  simp only [aaSZ] at hok
  obtain ⟨Vb, V, i1, i2, i3, F, i4, i5⟩ := hi
  simp only [akRZ] at he
  split at he
  ·cases he
  rename_i oc hoc
  rw [wpc]
  refine abUZ (fun e ρ' H' wr' hh hfr => ?_) (aeoZ hcall hm c hok Bs W l oc Vb ρ H hoc ⟨Vb, V, .refl, i2, i3, F, i4, i5⟩)
  obtain ⟨rfl, hh⟩ := hh
  have hBf : BaseR B h m Vb Bs (dsts c ++ W) ρ' := i3.frame (fun t ht => List.mem_append_right _ ht) fun t ht => hfr t (aeNZ fun hc => ht (List.mem_append_left _ hc))
  split at he
  ·rename_i hnil
   cases he
   cases e with
   | normal => exact ⟨rfl, hh.root i1⟩
   | exit id' =>
    obtain ⟨F2, V2, k1, k2, k3⟩ := hh
    dsimp only
    split
    ·rename_i e
     subst e
     have := ahtZ k1
     rw [hnil] at this
     cases this
    ·exact ⟨rfl, F2, V2, k1, i1.trans k2, k3⟩
   | ret =>
    obtain ⟨F2, V2, k1, k2, k3⟩ := hh
    exact ⟨rfl, F2, V2, k1, i1.trans k2, k3⟩
  ·split at he
   ·cases he
   rename_i B' W' l' hmg
   cases he
   cases e with
   | normal =>
    obtain ⟨Vb2, V2, k1, k2, k3, F2, k4, k5⟩ := hh
    exact ⟨rfl, afWZ i1 hBf (k1.trans k2) (List.mem_append_left _ k4) k5 hmg⟩
   | exit id' =>
    obtain ⟨F2, V2, k1, k2, k3⟩ := hh
    dsimp only
    split
    ·rename_i e
     subst e
     exact ⟨rfl, afWZ i1 hBf k2 (List.mem_append_right _ (ahtZ k1)) k3 hmg⟩
    ·rename_i hne
     exact ⟨rfl, F2, V2, aiyZ hne k1, i1.trans k2, k3⟩
   | ret =>
    obtain ⟨F2, V2, k1, k2, k3⟩ := hh
    exact ⟨rfl, F2, V2, k1, i1.trans k2, k3⟩
 | .loop c, hok => fun Bs W l o R ρ H he hi => by
  simp only [aaSZ] at hok
  obtain ⟨Vb, V, i1, i2, i3, F, i4, i5⟩ := hi
  simp only [akRZ] at he
  split at he
  ·cases i4
  ·split at he
   ·rename_i b1 w1 F0 hmg
    obtain ⟨Vb2, V2, k1, k2, k3, F2, k4, k5⟩ := afWZ i1 i3 i2 i4 i5 hmg
    rw [List.mem_singleton] at k4
    subst k4
    rw [wpc]
    refine (anEZ (aeoZ hcall hm c hok) hok (fun t ht => aiuZ ht) k5 6 (by rw [List.map_map]; simp [Function.comp_def]) he).mono fun e ρ' H' wr' hh => ⟨hh.1, ?_⟩
    have hR := k1.trans k2
    cases e with
    | normal => exact hh.2.root hR
    | exit id =>
     obtain ⟨F3, V3, q1, q2, q3⟩ := hh.2
     exact ⟨F3, V3, q1, hR.trans q2, q3⟩
    | ret =>
     obtain ⟨F3, V3, q1, q2, q3⟩ := hh.2
     exact ⟨F3, V3, q1, hR.trans q2, q3⟩
   ·cases he
 | .exit id, hok => fun Bs W l o R ρ H he hi => by
  obtain ⟨Vb, V, i1, i2, i3, F, i4, i5⟩ := hi
  cases he
  exact ⟨rfl, F, V, List.mem_map.2 ⟨F, i4, rfl⟩, i1.trans i2, i5⟩
 | .ret, hok => fun Bs W l o R ρ H he hi => by
  obtain ⟨Vb, V, i1, i2, i3, F, i4, i5⟩ := hi
  cases he
  exact ⟨rfl, F, V, i4, i1.trans i2, i5⟩
 | .frz [], hok => fun Bs W l o R ρ H he hi => by
  cases he
  exact ⟨rfl, hi⟩
 | .frz (_ :: _), hok => fun Bs W l o R ρ H he hi => by cases he
theorem alJZ : ∀ (xs : List XV) {vs : List AV} {i : Nat} {env : XT XV} {ρ : SEnv}, relL V B xs vs -> (∀ t x, env.get (aaLZ t) = some x -> t < i /\ x.rel V B (ρ t)) -> (∀ j v, vs[j]? = some v -> ρ (i + j) = v) ->
  ∀ t x, (aqQZ i xs env).get (aaLZ t) = some x -> x.rel V B (ρ t)
 | [], vs, i, env, ρ, hx, he, hρ => fun t x e => (he t x e).2
 | y :: r, vs, i, env, ρ, hx, he, hρ => by
  unfold relL at hx
  obtain ⟨v, vr, rfl, h1, h2⟩ := hx
  unfold aqQZ
  refine alJZ r h2 (fun t x e => ?_) (fun j w hw => ?_)
  ·rw [XT.get_put] at e
   by_cases ht : t = i
   ·rw [if_pos ht] at e
    cases e
    subst ht
    have := hρ 0 v (by simp)
    rw [Nat.add_zero] at this
    rw [this]
    exact ⟨by omega, h1⟩
   ·rw [if_neg ht] at e
    exact ⟨by have := (he t x e).1; omega, (he t x e).2⟩
  ·have := hρ (j + 1) w (by simpa using hw)
   rwa [show i + 1 + j = i + (j + 1) by omega]
theorem anFZ : ∀ (n o : Nat), hget (anys n) o = .any
 | 0, o => rfl
 | n + 1, 0 => rfl
 | n + 1, o + 1 => anFZ n o
theorem arZZ (hF : RF B h m V Hc F ρ H) {r : ARes} {x : XV} (he : azDZ F r = some x) : ∃ v, auPZ H ρ r = some v /\ x.rel V B v := by
 unfold azDZ at he
 cases r with
 | tmp t => cases he; exact ⟨_, rfl, hF.at t⟩
 | cell t k agg =>
  dsimp only at he
  split at he
  ·rename_i cs hcs
   obtain ⟨vs, v1, v2⟩ := antZ hF (hF.at t) hcs
   obtain ⟨v, v3, v4⟩ := ansZ v2 he
   exact ⟨v, by simp only [auPZ, v1, v3], v4⟩
  ·cases he
theorem aizZ (hF : RF B h m V Hc F ρ H) : ∀ {rs : List ARes} {xs : List XV}, asVZ F rs = some xs -> ∃ vs, amCZ H ρ rs = some vs /\ relL V B xs vs
 | [], xs, he => by cases he; exact ⟨[], rfl, by unfold relL; rfl⟩
 | r :: rs, xs, he => by
  unfold asVZ at he
  split at he
  ·rename_i x l h1 h2
   cases he
   obtain ⟨v, v1, v2⟩ := arZZ hF h1
   obtain ⟨vs, w1, w2⟩ := aizZ hF h2
   exact ⟨v :: vs, by simp only [amCZ, v1, w1], by unfold relL; exact ⟨v, vs, rfl, v2, w2⟩⟩
  ·cases he
theorem alKZ {n : Nat} : ∀ {l : List Nat} {H : List AObj}, (∀ o ∈ l, n <= o) -> (aaOZ H l).take n = H.take n
 | [], H, _ => rfl
 | o :: r, H, hl => by
  unfold aaOZ
  rw [alKZ fun a ha => hl a (List.mem_cons_of_mem _ ha), List.take_set_of_le (hl o (by simp))]
def finP (T : ST) : XV -> Option (ST × XV)
 | .agg cs => match affZ T cs with
  | some (T, cs') => some (T, .agg cs')
  | none => none
 | x => aluZ T x
theorem anGZ {T : ST} {V : Va} (hT : T.Ok B V) {x : XV} {v : AV} {T' : ST} {y : XV} (hx : x.rel V B v) (he : finP T x = some (T', y)) : (∀ H, fix H v = some (v.strip, H, [])) /\ (∀ n, v.strip.under n = true) /\ (v.cellOk = true ∨ ∃ cs, v = .agg cs) /\ (∀ o a b, v ≠ .sr o a b) /\ (∀ o a, v ≠ .mp o a) /\ ∃ V', V.Le V' /\ T'.Ok B V' /\ y.rel V' B v.strip := by
 have plain : aluZ T x = some (T', y) -> (∀ H, fix H v = some (v.strip, H, [])) /\ (∀ n, v.strip.under n = true) /\ (v.cellOk = true ∨ ∃ cs, v = .agg cs) /\ (∀ o a b, v ≠ .sr o a b) /\ (∀ o a, v ≠ .mp o a) /\ ∃ V', V.Le V' /\ T'.Ok B V' /\ y.rel V' B v.strip := by
  intro he
  obtain ⟨p, V', l1, hT1, r1⟩ := agiZ hT hx he
  obtain ⟨p1, p2, p3, p4, p5, p6, p7, p8, p9⟩ := p []
  refine ⟨fun H => ?_, fun n => by rw [p5]; exact ahgZ p6, .inl p4, fun o a b e => ?_, fun o a e => ?_, V', l1, hT1, by rw [p5]; exact r1⟩
  ·unfold fix
   rw [show lend H v = some (v, []) by
    have := (p H).1
    cases v <;> first | exact this | (simp [AV.cellOk] at p4; done)]
   rfl
  ·subst e
   simp [AV.still] at p9
  ·subst e
   have := (p []).1
   simp [AV.strip1, AV.data] at p6
 cases x with
 | agg cs =>
  simp only [finP] at he
  split at he
  ·rename_i T1 cs' hcs
   cases he
   unfold XV.rel at hx
   obtain ⟨vs, rfl, h1⟩ := hx
   obtain ⟨q1, q2, q3, q4, q5, V', l1, hT1, r1⟩ := aezZ hT h1 hcs
   refine ⟨fun H => ?_, fun n => ?_, .inr ⟨vs, rfl⟩, (fun o a b e => by cases e), (fun o a e => by cases e), V', l1, hT1, by rw [amGZ]; unfold XV.rel; exact ⟨_, rfl, r1⟩⟩
   ·unfold fix
    rw [asoZ, q4 H]
    rfl
   ·rw [amGZ]
    exact ahgZ (v := .agg (vs.map AV.strip1)) q2
  ·cases he
 | _ => exact plain he
theorem aulZ (hF : RF B h m V Hc F ρ H) {x : XV} {v : AV} {T' : ST} {y : XV} (hx : x.rel V B v) (he : finX F h x = some (T', y)) :
  ∃ v' H', finV (B + h) H v = some (v', H', []) /\ H'.take (B + h) = Hc /\ v'.under (B + h) = true /\ Got B V T' y v' ∨ ∃ v' H' w, finV (B + h) H v = some (v', H', w) /\ (∀ o ∈ w, B + h <= o) /\ H'.take (B + h) = Hc /\ v'.under (B + h) = true /\ Got B V T' y v' := by
 unfold finX at he
 split at he
 ·rename_i s id
  split at he
  ·rename_i w hw
   split at he
   ·rename_i hall
    cases he
    obtain ⟨e, rows, q1, q2, q3, q4⟩ := ambZ (x := .gs s id) hF hx hw
    have hdat := hF.T.dat _ _ q2
    cases e with
    | none =>
     simp only [gsv] at q1
     subst q1
     exact ⟨.sl false rows, H, .inl ⟨rfl, hF.cut, aaaZ hdat, .same hF.T (by unfold XV.rel; exact ⟨rows, q2, .inl rfl⟩)⟩⟩
    | some p =>
     obtain ⟨o, n⟩ := p
     simp only [gsv] at q1
     subst q1
     have ho := q4 o (q3 o n rfl).1
     have hst := aatZ hdat
     refine ⟨.own w.k rows, H, .inr ⟨.own w.k rows, aaOZ H [B + o], [B + o], ?_, by simp; omega, ?_, aaaZ hdat, .same hF.T (by unfold XV.rel; exact ⟨rows, q2, .inr ⟨w.k, rfl⟩⟩)⟩⟩
     ·simp only [finV, (q3 o n rfl).2]
      rw [if_pos ⟨trivial, trivial, by omega, hst⟩]
     ·rw [alKZ (by simp; omega)]
      exact hF.cut
   ·cases he
  ·cases he
 ·obtain ⟨g1, g2, g3, g4, g5, g6⟩ := anGZ (x := .agg _) hF.T hx he
  refine ⟨v.strip, H, .inl ⟨?_, hF.cut, g2 _, g6⟩⟩
  have := g1 H
  cases v <;> first | exact this | exact absurd rfl (g4 _ _ _) | exact absurd rfl (g5 _ _)
 ·obtain ⟨g1, g2, g3, g4, g5, g6⟩ := anGZ (x := x) hF.T hx (by
   unfold finP
   split
   ·rename_i hc; exact (hc _ rfl).elim
   ·exact he)
  refine ⟨v.strip, H, .inl ⟨?_, hF.cut, g2 _, g6⟩⟩
  have := g1 H
  cases v <;> first | exact this | exact absurd rfl (g4 _ _ _) | exact absurd rfl (g5 _ _)
end
end Go.AM
end
