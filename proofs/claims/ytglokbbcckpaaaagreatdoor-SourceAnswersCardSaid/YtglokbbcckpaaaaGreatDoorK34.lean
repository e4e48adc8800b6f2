/- Part 34 of the proof that stands in the last text of this folder (lemmas; no statement of its own). -/
import Derived.Test.YtglokbbcckpaaaaGreatDoorK28
import Derived.Test.YtglokbbcckpaaaaGreatDoorK33
set_option linter.unusedVariables false
set_option linter.unusedSimpArgs false
section
namespace Go.AM
open Go
section
variable {B h m : Nat} {V V' Vb R : Va} {Hc : List AObj} {F Bs : FSt} {ρ ρ' : SEnv} {H : List AObj} {W : List Nat}
variable {A : AProg} {N : Nat} {call : anhZ} {split : Nat -> Bool} {nj : Bool} {sites : List Nat}
theorem RF.fixGs (hF : RF B h m V Hc F ρ H) {s id : Nat} {w : VF} {v : AV} (hx : XV.rel V B (.gs s id) v) (hw : F.vec s id = some w) :
  ∃ rows H' wr, fix H v = some (.sl false rows, H', wr) /\ V.δ[id]? = some rows /\ (∀ o ∈ wr, B + h <= o) /\ RF B h m V Hc { F with vecs := aerZ w.os F.vecs } ρ H' := by
 obtain ⟨e, rows, q1, q2, q3, q4⟩ := ambZ (x := .gs s id) hF hx hw
 have hdat := hF.T.dat _ _ q2
 cases e with
 | none =>
  simp only [gsv] at q1
  subst q1
  refine ⟨rows, H, [], rfl, q2, by simp, hF.T, hF.env, hF.len, hF.hl, hF.heap, hF.low, fun u hu => ?_, hF.cut, hF.fh⟩
  exact hF.vecs u (afvZ hu).1
 | some p =>
  obtain ⟨o, n⟩ := p
  simp only [gsv] at q1
  subst q1
  have ho := q4 o (q3 o n rfl).1
  have hst := aatZ hdat
  refine ⟨rows, H.set (B + o) (.gone ((H[B + o]?).elim 0 AObj.ver)), [B + o], ?_, q2, by simp; omega, hF.T, hF.env, by rw [List.length_set]; exact hF.len, hF.hl, fun o2 x hx2 => ?_, hF.low, fun u hu => hF.apart .refl (q3 o n rfl).1 _ u hu, by rw [List.take_set_of_le (by omega)]; exact hF.cut, hF.fh⟩
  ·unfold fix
   rw [artZ, apaZ, (q3 o n rfl).2]
   dsimp only
   rw [if_pos ⟨rfl, rfl, hst⟩]
   simp only [aaOZ, (q3 o n rfl).2]
   rfl
  ·by_cases e2 : o2 = o
   ·subst e2
    have hr := hF.heap o2 _ (q3 o2 n rfl).2
    show (hget F.heap o2).rel V B x
    cases hg : hget F.heap o2 with
    | any => trivial
    | box s c =>
     rw [hg] at hr
     obtain ⟨_, _, _, _, hr, _⟩ := hr
     cases hr
   ·rw [List.getElem?_set_ne (by omega)] at hx2
    exact hF.heap o2 x hx2
theorem asaZ (hF : RF B h m V Hc F ρ H) {x : XV} {v : AV} {F1 : FSt} {y : XV} (hx : x.rel V B v) (he : avRZ F x = some (F1, y)) :
  ∃ v' H' w, fix H v = some (v', H', w) /\ (∀ o ∈ w, B + h <= o) /\ (∀ n, v'.under n = true) /\ ∃ V', V.Le V' /\ RF B h m V' Hc F1 ρ H' /\ y.rel V' B v' := by
 have plain : ∀ {T' : ST}, finP F.T x = some (T', y) -> F1 = { F with T := T' } -> ∃ v' H' w, fix H v = some (v', H', w) /\ (∀ o ∈ w, B + h <= o) /\ (∀ n, v'.under n = true) /\ ∃ V', V.Le V' /\ RF B h m V' Hc F1 ρ H' /\ y.rel V' B v' := by
  intro T' he hF1
  obtain ⟨g1, g2, g3, g4, g5, V', g6, g7, g8⟩ := anGZ hF.T hx he
  subst hF1
  exact ⟨v.strip, H, [], g1 H, by simp, g2, V', g6, hF.ext g6 g7, g8⟩
 cases x with
 | gs s id =>
  simp only [avRZ] at he
  split at he
  ·rename_i w hw
   cases he
   obtain ⟨rows, H', wr, g1, g2, g3, g4⟩ := hF.fixGs hx hw
   exact ⟨_, H', wr, g1, g3, fun n => aaaZ (hF.T.dat _ _ g2), V, .refl, g4, by unfold XV.rel; exact ⟨false, rows, g2, rfl⟩⟩
  ·cases he
 | agg cs =>
  simp only [avRZ] at he
  split at he
  ·rename_i T cs' hcs
   cases he
   exact plain (T' := T) (by simp only [finP, hcs]) rfl
  ·cases he
 | _ =>
  simp only [avRZ] at he
  split at he
  ·rename_i T y' hcs
   cases he
   exact plain (T' := T) hcs rfl
  ·cases he
theorem anHZ : ∀ (xs : List XV) {F : FSt} {V : Va} {H : List AObj} {vs : List AV} {T' : ST} {ys : List XV}, RF B h m V Hc F ρ H -> relL V B xs vs -> axsZ F xs = some (T', ys) ->
  ∃ vs' H' w, aktZ H vs = some (vs', H', w) /\ (∀ o ∈ w, B + h <= o) /\ abLZ (B + h) vs' = true /\ H'.take (B + h) = Hc /\ ∃ V', V.Le V' /\ T'.Ok B V' /\ relL V' B ys vs'
 | [], F, V, H, vs, T', ys, hF, hx, he => by
  cases he
  unfold relL at hx
  subst hx
  exact ⟨[], H, [], rfl, by simp, rfl, hF.cut, V, .refl, hF.T, by unfold relL; rfl⟩
 | x :: r, F, V, H, vs, T', ys, hF, hx, he => by
  unfold relL at hx
  obtain ⟨v, vr, rfl, h1, h2⟩ := hx
  unfold axsZ at he
  split at he
  ·cases he
  rename_i F1 y hy
  split at he
  ·cases he
  rename_i T2 ys2 hys
  cases he
  obtain ⟨v', H1, w1, g1, g2, g3, V1, g4, g5, g6⟩ := asaZ hF h1 hy
  obtain ⟨vs', H2, w2, k1, k2, k3, k4, V2, k5, k6, k7⟩ := anHZ r g5 (acoZ g4 _ _ h2) hys
  refine ⟨v' :: vs', H2, w1 ++ w2, by simp only [aktZ, g1, k1], fun o ho => ?_, by simp only [abLZ, g3, k3, Bool.and_self], k4, V2, g4.trans k5, k6, by unfold relL; exact ⟨v', vs', rfl, XV.rel_mono k5 _ _ g6, k7⟩⟩
  rcases List.mem_append.1 ho with ho | ho
  ·exact g2 o ho
  ·exact k2 o ho
theorem aumZ (hF : RF B h m V Hc F ρ H) {rs : List ARes} {T' : ST} {y : XV} (he : retX rs h F = some (T', y)) :
  ∃ v H', adnZ (B + h) rs ρ H [] = some (v, H', []) /\ H'.take (B + h) = Hc /\ v.under (B + h) = true /\ Got B V T' y v := by
 unfold retX at he
 split at he
 ·cases he
 ·rename_i x hxs
  obtain ⟨vs, v1, v2⟩ := aizZ hF hxs
  unfold relL relL at v2
  obtain ⟨v, vr, rfl, v3, rfl⟩ := v2
  unfold adnZ
  rw [v1]
  dsimp only
  obtain ⟨v', H', hh⟩ := aulZ hF v3 he
  rcases hh with ⟨g1, g2, g3, g4⟩ | ⟨v', H', w, g1, g5, g2, g3, g4⟩
  ·rw [g1]
   exact ⟨v', H', rfl, g2, g3, g4⟩
  ·rw [g1]
   exact ⟨v', H', by dsimp only; rw [aiQZ g5], g2, g3, g4⟩
 ·rename_i xs hne hxs
  split at he
  ·rename_i T ys hys
   cases he
   obtain ⟨vs, v1, v2⟩ := aizZ hF hxs
   obtain ⟨vs', H', w, g1, g2, g3, g4, V', g5, g6, g7⟩ := anHZ _ hF v2 hys
   have hlen := aaTZ v2
   unfold adnZ
   rw [v1]
   have hg : Got B V T' (.tup ys) (.tup vs') := ⟨V', g5, g6, by unfold XV.rel; exact ⟨vs', rfl, g7⟩⟩
   match vs, hlen, v2, g1 with
   | [], hlen, v2, g1 =>
    dsimp only
    rw [g1]
    exact ⟨.tup vs', H', by dsimp only; rw [aiQZ g2], g4, by simpa [AV.under] using g3, hg⟩
   | [a], hlen, v2, g1 =>
    match xs, hlen with
    | [x], _ => exact (hne x rfl).elim
   | a :: b :: c, hlen, v2, g1 =>
    dsimp only
    rw [g1]
    exact ⟨.tup vs', H', by dsimp only; rw [aiQZ g2], g4, by simpa [AV.under] using g3, hg⟩
  ·cases he
theorem araZ {rs : List ARes} : ∀ {l : List FSt} {l' : List (ST × XV)}, axtZ rs h l = some l' -> ∀ F ∈ l, ∃ p, retX rs h F = some p /\ p ∈ l'
 | [], l', _, F, hm => by cases hm
 | G :: r, l', he, F, hm => by
  unfold axtZ at he
  split at he
  ·rename_i p l2 h1 h2
   cases he
   rcases List.mem_cons.1 hm with rfl | hm
   ·exact ⟨p, h1, by simp⟩
   ·obtain ⟨q, q1, q2⟩ := araZ h2 F hm
    exact ⟨q, q1, by simp [q2]⟩
  ·cases he
end
def ahKZ (A : AProg) (hook : Nat -> Option Hook) : Prop := ∀ f k, hook f = some k -> ∀ vs Hc, aaKZ k.args vs -> ∃ v, aapZ A f vs Hc = some (v, Hc, []) /\ k.res.has v
theorem anIZ {A : AProg} {B : Nat} {mode : Nat -> Nat} {hook : Nat -> Option Hook} (hk : ahKZ A hook) : ∀ n, aqVZ A B (axuZ A mode hook n)
 | 0 => fun f m xs T l V vs Hc he => by cases he
 | n + 1 => fun f h xs T l V vs Hc he hT hx hlen => by
  unfold axuZ at he
  split at he
  ·rename_i res hu
   cases he
   unfold avSZ at hu
   split at hu
   ·rename_i k hkf
    split at hu
    ·rename_i hle
     cases hu
     obtain ⟨v, v1, v2⟩ := hk f k hkf vs Hc (ankZ _ _ _ hle (aftZ hT _ _ hx))
     exact ⟨v, v1, _, List.mem_singleton.2 rfl, aiMZ k.res v v2 hT⟩
    ·cases hu
   ·cases hu
  ·split at he
   rotate_left
   ·cases he
   rename_i fn hfn hprim
   split at he
   ·cases he
   rename_i hc
   rw [Bool.and_eq_true, Nat.ble_eq] at hc
   dsimp only at he
   split at he
   ·cases he
   rename_i o ho
   split at he
   rotate_left
   ·cases he
   rename_i hex
   have hpn : (A.prim f).bind (· vs Hc) = none := by
    cases hp : A.prim f with
    | none => rfl
    | some p => rw [hp] at hprim; cases hprim
   have hok : aaSZ fn.ntmps ⟨Hc.length, fn.sites⟩ fn.body = true := by rw [acDZ]; exact hc.2
   have hok' : aaSZ fn.ntmps ⟨B + h, fn.sites⟩ fn.body = true := by rw [acDZ]; exact hc.2
   have hF : RF B h (h + fn.sites.length) V Hc ⟨T, aqQZ 0 xs .e, anys (h + fn.sites.length), [], h⟩ (agcZ vs) (Hc ++ List.replicate fn.sites.length (.gone 0)) := by
    refine ⟨hT, ?_, ?_, by simp [anys], fun o x _ => by rw [anFZ]; trivial, fun o _ => anFZ _ _, by simp, ?_, rfl⟩
    ·refine alJZ xs hx (fun t x e => by rw [XT.get_e] at e; cases e) fun j v hv => ?_
     show (vs[0 + j]?).getD .undef = v
     rw [Nat.zero_add, hv]; rfl
    ·rw [List.length_append, List.length_replicate, hlen]; omega
    ·rw [<- hlen, List.take_left']; rfl
   obtain ⟨v, H', wr, c1, rfl, rfl, c2⟩ := akDZ (A := A) (f := f) (args := vs) (H := Hc) (fn := fn) (K := fun v H' wr => H' = Hc /\ wr = [] /\ ∃ p ∈ l, Got B V p.1 p.2 v) hfn hpn (by rw [aaTZ hx]; exact hc.1) hok (by
    rw [hlen]
    refine abUZ (fun e ρ' H' wr' hh hfr => ?_) (aeoZ (N := fn.ntmps) (anIZ hk n) rfl fn.body hok' _ _ _ o V _ _ ho (.one .refl hF))
    obtain ⟨rfl, hh⟩ := hh
    have fin : ∀ {F2 : FSt} {V2 : Va}, F2 ∈ o.nrm ++ o.rts -> V.Le V2 -> RF B h (h + fn.sites.length) V2 Hc F2 ρ' H' -> (match adnZ (B + h) fn.results ρ' H' [] with
      | some r => (fun v H' wr => H' = Hc /\ wr = [] /\ ∃ p ∈ l, Got B V p.1 p.2 v) (aaVZ (B + h) r).1 (aaVZ (B + h) r).2.1 (aaVZ (B + h) r).2.2
      | none => False) := by
     intro F2 V2 hm hle hF2
     obtain ⟨p, p1, p2⟩ := araZ he F2 hm
     obtain ⟨v, H2, g1, g2, g3, V3, g4, g5, g6⟩ := aumZ hF2 p1
     rw [g1]
     dsimp only
     rw [aruZ g3]
     exact ⟨g2, rfl, p, p2, V3, hle.trans g4, g5, g6⟩
    cases e with
    | normal =>
     obtain ⟨Vb, V2, k1, k2, k3, F2, k4, k5⟩ := hh
     exact fin (List.mem_append_left _ k4) (k1.trans k2) k5
    | ret =>
     obtain ⟨F2, V2, k1, k2, k3⟩ := hh
     exact fin (List.mem_append_right _ k1) k2 k3
    | exit id =>
     obtain ⟨F2, V2, k1, k2, k3⟩ := hh
     rw [hex] at k1
     cases k1)
   exact ⟨v, c1, c2⟩
theorem aEIZ (B : Nat) : T0.Ok B ⟨[0], [], []⟩ where
 ns := rfl
 nl := rfl
 nv := rfl
 zero := rfl
 rng := fun s n hs => by
  have : s = 0 := by have := avTZ hs; simp at this; exact this
  subst this
  cases hs
  exact ⟨by decide, by decide⟩
 les := fun a e he => by
  have : T0.edges a = [] := by unfold ST.edges T0; dsimp only; rw [XT.get_e]
  rw [this] at he
  cases he
 lst := fun id li he => by
  have : T0.lst.get (aaLZ id) = none := by unfold T0; dsimp only; rw [XT.get_e]
  rw [this] at he
  cases he
 memo := fun m hm => by cases hm
 rems := fun a ca c s hm => by cases hm
 dat := fun id rows hd => by simp at hd
theorem asbZ {A : AProg} {mode : Nat -> Nat} {hook : Nat -> Option Hook} (hk : ahKZ A hook) {n f : Nat} {shs : List SH} {l : List SH} (he : azEZ A mode hook n f shs = some l) {vs : List AV} (hv : hasL shs vs) (H : List AObj) :
  ∃ v, aapZ A f vs H = some (v, H, []) /\ ∃ s ∈ l, s.has v := by
 unfold azEZ at he
 obtain ⟨V, l1, h1, h2⟩ := aeJZ (B := H.length) shs vs hv (aEIZ H.length)
 dsimp only at he
 split at he
 ·cases he
 ·rename_i r hr
  cases he
  obtain ⟨v, v1, p, p1, V2, p2, p3, p4⟩ := anIZ (B := H.length) hk n f 0 _ _ _ V vs H hr h1 h2 rfl
  exact ⟨v, v1, _, List.mem_map.2 ⟨p, p1, rfl⟩, aipZ p3 _ _ p4⟩
def azHZ (A : AProg) (mode : Nat -> Nat) (hook : Nat -> Option Hook) (n f : Nat) (shs : List SH) (res : SH) : Bool := match azEZ A mode hook n f shs with
 | some l => l.all fun s => leSH s res
 | none => false
theorem ascZ {A : AProg} {mode : Nat -> Nat} {hook : Nat -> Option Hook} (hk : ahKZ A hook) {n f : Nat} {shs : List SH} {res : SH} (he : azHZ A mode hook n f shs res = true) {vs : List AV} (hv : hasL shs vs) (H : List AObj) :
  ∃ v, aapZ A f vs H = some (v, H, []) /\ res.has v := by
 unfold azHZ at he
 split at he
 ·rename_i l hl
  rw [List.all_eq_true] at he
  obtain ⟨v, v1, s, v2, v3⟩ := asbZ hk hl hv H
  exact ⟨v, v1, agQZ _ _ _ (he s v2) v3⟩
 ·cases he
end Go.AM
end
section
namespace Go.AM
open Go
def kI : SH := .num .i64 (-9223372036854775808) 9223372036854775807
def awdZ : List SH := [.num .i64 0 2, .sl [[kI, kI]] 0 16]
def kTxt : SH := .txt 1000
def kRun : List SH := [kI, kTxt]
def kU : Nat -> List SH
 | 0 => [.num .i64 0 10, kI, .sl [] 0 0]
 | n + 1 => [.num .i64 0 10, kI, .sl [kU n] 0 2]
def aweZ : List SH := [.num .i64 0 1, kI, .sl [] 0 0]
def anJZ : Nat -> List (List SH)
 | 0 => [aweZ]
 | n + 1 => [aweZ, [.num .i64 2 2, kI, .sl (anJZ n) 1 1], [.num .i64 8 8, kI, .sl (anJZ n) 1 1], [.num .i64 3 7, kI, .sl (anJZ n) 2 2], [.num .i64 9 10, kI, .sl (anJZ n) 2 2]]
def azIZ : List SH := [kI, kI, kI]
def aCjZ : List SH := [.num .i64 0 10, .sl [[kI]] 0 16, .sl [[.sl [[kTxt]] 0 16]] 0 16, kI, kI, .sl [awdZ] 0 16, .sl [[.sl [[.sl [azIZ] 0 16]] 0 16]] 0 16, .sl [[kTxt]] 0 16]
def asZZ (e : List SH) : List SH := [kI, .sl [kRun] 0 16] ++ e ++ aCjZ
def kB : List SH := asZZ (kU 3)
def kBs : List (List SH) := (anJZ 3).map asZZ
def arbZ : List SH := [kI, kI, kI, kI]
def kQ : List SH := [kI, .sl [kRun] 0 16, .sl [[kTxt]] 0 16, .sl [[kI]] 0 16, kTxt, kI, .sl [[kTxt]] 0 16]
def aiAZ (bs : List (List SH)) : List SH := [kTxt, .sl bs 0 16, .sl [arbZ] 0 16, .sl [kQ] 0 16]
def kFig : SH := .agg [kI, kI, .sl [awdZ] 0 16]
def aEJZ (f : Nat) : Nat := match f with
 | 43 => 1
 | 20 => 2
 | _ => 0
def ahLZ (l : List (Nat × Hook)) (f : Nat) : Option Hook := match l with
 | [] => none
 | (g, k) :: r => match Nat.beq f g with
  | true => some k
  | false => ahLZ r f
noncomputable def chk1 (l : List (Nat × Hook)) (f : Nat) (sh1 : List SH) (res : SH) : Bool := azHZ AM0 aEJZ (ahLZ l) 40 f sh1 res
noncomputable def chk (l new : List (Nat × Hook)) : Bool := new.all fun p => p.2.args.all fun sh1 => chk1 l p.1 sh1 p.2.res
theorem awfZ : ahKZ AM0 (ahLZ []) := fun f k h => by cases h
theorem arcZ : ∀ {bs : List (List SH)} {row : List AV}, aaKZ bs row -> ∃ b ∈ bs, hasL b row
 | [], _, h => by unfold aaKZ at h; exact h.elim
 | c :: r, row, h => by
  unfold aaKZ at h
  rcases h with h | h
  ·exact ⟨c, by simp, h⟩
  ·obtain ⟨b, h1, h2⟩ := arcZ h
   exact ⟨b, by simp [h1], h2⟩
theorem adJZ {l : List (Nat × Hook)} (hl : ahKZ AM0 (ahLZ l)) {f : Nat} {sh1 : List SH} {res : SH} (h : chk1 l f sh1 res = true) {vs : List AV} (hv : hasL sh1 vs) (H : List AObj) : ∃ v, aapZ AM0 f vs H = some (v, H, []) /\ res.has v := ascZ hl h hv H
theorem anKZ {l : List (Nat × Hook)} (hl : ahKZ AM0 (ahLZ l)) : ∀ {new : List (Nat × Hook)}, (∀ p ∈ new, ∀ sh1 ∈ p.2.args, ∀ vs H, hasL sh1 vs -> ∃ v, aapZ AM0 p.1 vs H = some (v, H, []) /\ p.2.res.has v) -> ahKZ AM0 (ahLZ (new ++ l))
 | [], _ => hl
 | (g, k0) :: r, h => fun f k hk vs H hv => by
  simp only [List.cons_append, ahLZ] at hk
  split at hk
  ·rename_i e
   rw [Nat.beq_eq] at e
   subst e
   cases hk
   obtain ⟨sh1, h1, h2⟩ := arcZ hv
   exact h (f, k0) (by simp) sh1 h1 vs H h2
  ·exact anKZ hl (fun p hp => h p (List.mem_cons_of_mem _ hp)) f k hk vs H hv
theorem aeWZ {l new : List (Nat × Hook)} (hl : ahKZ AM0 (ahLZ l)) (h : chk l new = true) : ahKZ AM0 (ahLZ (new ++ l)) := anKZ hl fun p hp sh1 ha vs H hv => by
 unfold chk at h
 rw [List.all_eq_true] at h
 have h1 := h p hp
 rw [List.all_eq_true] at h1
 exact adJZ hl (h1 sh1 ha) hv H
def lenF (n : Nat) : Int := match n with
 | 0 => 20
 | 1 => 50
 | 2 => 120
 | _ => 260
def lvU (n : Nat) : List (Nat × Hook) := [(186,⟨[[.agg (kU n), kI]], .bool⟩), (187,⟨[[.agg (kU n)]], kI⟩), (79,⟨[[.agg (kU n)]], kI⟩), (80,⟨[[.agg (kU n)]], kI⟩), (81,⟨[[.agg (kU n), .bool]], .bool⟩), (194,⟨[[.agg (kU n)]], .txt (lenF n)⟩), (84,⟨(anJZ n).map fun a => [.agg a], .txt (lenF n)⟩)]
def l0 : List (Nat × Hook) := lvU 0
def l1 : List (Nat × Hook) := lvU 1 ++ l0
def l2 : List (Nat × Hook) := lvU 2 ++ l1
def l3 : List (Nat × Hook) := lvU 3 ++ l2
def nwT : List (Nat × Hook) := [(76,⟨[[kTxt, kI, kI]], .bool⟩), (132,⟨[[kTxt]], .txt 2002⟩), (28,⟨[[kI]], .txt 19⟩), (135,⟨[[kI]], .txt 21⟩), (63,⟨[[kTxt, .txt 3]], .txt 4000⟩), (58,⟨[[.agg (kU 3)]], .num .i64 0 4⟩), (61,⟨(anJZ 3).map fun a => [.agg a], .txt 260⟩), (45,⟨[[.sl [azIZ] 0 16]], .txt 1000⟩)]
def l4 : List (Nat × Hook) := nwT ++ l3
def nwB : List (Nat × Hook) := [(59,⟨[[kFig]], .num .i64 0 5⟩)]
def l5 : List (Nat × Hook) := nwB ++ l4
def nwC : List (Nat × Hook) := [(129,⟨[[.agg kB]], .bool⟩), (133,⟨[[.agg kB]], .txt 2000000⟩), (46,⟨[[kFig, .agg arbZ]], .tup [.bool, .num .i64 0 6]⟩)]
def l6 : List (Nat × Hook) := nwC ++ l5
def nwD : List (Nat × Hook) := [(41,⟨[[.agg kB]], .num .i64 0 13⟩), (44,⟨kBs.map fun b => [.agg b], .txt 3000000⟩)]
def l7 : List (Nat × Hook) := nwD ++ l6
def kVal : SH := .tup [.txt 3000000, .num .i64 0 13]
def apyZ (k : SH) : List SH := [k, kI, kI, kI]
end Go.AM
end
