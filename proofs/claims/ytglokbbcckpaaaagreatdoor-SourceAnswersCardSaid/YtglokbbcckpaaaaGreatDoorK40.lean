/- Part 40 of the proof that stands in the last text of this folder (lemmas; no statement of its own). -/
import Derived.Test.YtglokbbcckpaaaaGreatDoorK14
import Derived.Test.YtglokbbcckpaaaaGreatDoorK16
import Derived.Test.YtglokbbcckpaaaaGreatDoorK21
import Derived.Test.YtglokbbcckpaaaaGreatDoorK39
import Derived.Handed
import Derived.ChangeSlices
import Derived.ProofKit
import Derived.OpenShut
import Derived.Lib.LaidTab
import Derived.Lib.ItoaNum
import Derived.SliceStrings
import Derived.ChangeMaps5
import Derived.Deep.Strs
set_option linter.unusedVariables false
set_option linter.unusedSimpArgs false
open Nat renaming reduceBEq -> NB, reduceAdd -> NA, reduceMul -> NM, reduceLT -> NL, reduceLeDiff -> ND, reduceEqDiff -> NE
open Int renaming reduceLT -> IL, reduceLE -> ID, reduceToNat -> IT
open Bool renaming not_true -> BT, not_false -> BF
section
set_option maxRecDepth 8000
namespace Go.AM
open Go
abbrev apDZ (A : AProg) (f : Nat) (it : Item) : Prop := ∀ H, ∃ v H' wr, aapZ A f [.agg [.str [], .sl false [acjZ it]]] H = some (v, H', wr) /\ (H' = H /\ wr = [] /\ ∃ (fl : Bool) (own : List (Bool × List Str)) (n : Int), v = .tup [.sl fl (own.map encL), vi n] /\ own.length <= 1 /\ ∀ p ∈ own, p.2.length <= 16 /\ ∀ s ∈ p.2, s.length <= 3000000)
theorem azLZ {α : Type} {l : List α} {i : Nat} {a : α} (h : l[i]? = some a) : (l.take (i + 1)).drop i = [a] := by
 rw [List.drop_take, Nat.add_sub_cancel_left, List.take_one, List.head?_drop, h]; rfl
set_option maxHeartbeats 6400000 in
theorem awkZ {A : AProg} {g : String -> Nat} (T : AnsSpecs A g) (ha : afqZ A g) (ht : ∀ (l : List Int) (H : List AObj), aaYZ none true H (aapZ A (g "dactyl/dactylref01.Take") [.sl false (l.map aaqZ), vi 6] H) = some (.sl false ((l.take 6).map aaqZ), H, []))
  {H : List AObj} {Q : AExit -> SEnv -> List AObj -> List Nat -> Prop} {tg} {x : Exam} (hx : x.Ok) (hF : ∀ it ∈ x.items, apDZ A (g "dactyl/dactylref25.Facts") it) {kind : Int} (hk : accZ kind) {needs : List Int} {fl : Bool} {some' : List Str} (hsm : some'.length <= 8) (hss : ∀ s ∈ some', s.length <= 60)
  {other : Str} {o1 o2 o3 o4 o5 o6 : AObj}
  {ρ : SEnv} (e1 : ρ 1 = vi kind) (e3 : ρ 3 = .str other) (e4 : ρ 4 = .sl false (needs.map aaqZ)) (e11 : ρ 11 = .ptr H.length 1 0) (e12 : ρ 12 = .sl fl (some'.map aadZ)) (e14 : ρ 14 = vi 0)
  (hQ : ∀ ρ' o2 o3 o4 o5 o6, (∀ t, adiZ.contains t = false -> ρ' t = ρ t) -> Q (.exit 2) ρ' (H ++ [.box 1 (akqZ x), o1, o2, o3, o4, o5, o6]) []) :
  wl A 195 ⟨H.length, ardZ⟩ (adhZ g) ρ (H ++ [.box 1 (akqZ x), o1, o2, o3, o4, o5, o6]) [] Q tg := by
 refine aaWZ (W := adiZ) (fun i ρ1 H1 wr => wr = [] /\ ρ1 14 = vi i /\ ∃ o2 o3 o4 o5 o6, H1 = H ++ [.box 1 (akqZ x), o1, o2, o3, o4, o5, o6]) x.items.length
  (fun ρ1 H1 wr => wr = [] /\ ∃ o2 o3 o4 o5 o6, H1 = H ++ [.box 1 (akqZ x), o1, o2, o3, o4, o5, o6])
  (by kernel_rfl) (by rfl) ⟨rfl, e14, _, _, _, _, _, rfl⟩ ?_ (by
   rintro ρ' H' wr' ⟨rfl, o2, o3, o4, o5, o6, rfl⟩ hf
   exact hQ ρ' _ _ _ _ _ hf)
 clear o2 o3 o4 o5 o6
 rintro i ρ1 H2 wr1 hil ⟨rfl, e14, o2, o3, o4, o5, o6, rfl⟩ hf
 have f1 : ρ1 1 = vi kind := (hf 1 (by decide)).trans e1
 have f3 : ρ1 3 = .str other := (hf 3 (by decide)).trans e3
 have f4 : ρ1 4 = .sl false (needs.map aaqZ) := (hf 4 (by decide)).trans e4
 have f11 : ρ1 11 = .ptr H.length 1 0 := (hf 11 (by decide)).trans e11
 have f12 : ρ1 12 = .sl fl (some'.map aadZ) := (hf 12 (by decide)).trans e12
 clear hf e1 e3 e4 e11 e12
 have hli := hx.lenI
 have hw : IntKind.i64.wrap ((i : Int) + 1) = ((i + 1 : Nat) : Int) := by rw [wrap_i64 (by omega) (by omega)]; omega
 simp only [go_sem, ↓aafZ, ↓reduceIte, NB, NA, f11, e14, akqZ, List.length_map]
 refine aacZ (fun hb => ?_) (fun hb => ?_)
 ·have hlt : i < x.items.length := by simpa using hb
  have hgi : (x.items.map acjZ)[i]? = some (acjZ x.items[i]) := getElem?_map_of hlt
  have hbd : acdZ x.items.length (some (vi i)) (some (vi ((i + 1 : Nat) : Int))) none = some (i, i + 1, x.items.length) := by
   simp only [acdZ, adPZ]
   rw [if_pos (by omega)]
   dsimp only
   rw [if_pos (by omega)]
   simp only [Int.toNat_natCast]
  have hFi := hF _ (List.getElem_mem hlt)
  have hcut := azLZ hgi
  have hh : abkZ 4 (x.items.map acjZ) = true := by cases x.items <;> rfl
  have hsd : ∀ l : List Str, ((l.map aadZ).all fun r => r.all AV.still) = true := fun l => aatZ (aabZ abuZ l)
  simp only [go_sem, ↓aafZ, ↓reduceIte, NB, NA, NE, BF, f11, e14, hw, hbd, hcut, hh, List.length_map]
  refine auVZ (hFi _) ?_
  rintro v1 H1 wr1 ⟨rfl, rfl, f, own, n, rfl, hol, how⟩
  have s1 : some'.length <= 16 /\ ∀ s ∈ some', s.length <= 3000000 := ⟨by omega, fun s hs => by have := hss s hs; omega⟩
  match own, hol, how with
  | [], _, _ =>
   simp only [go_sem, ↓aafZ, ↓reduceIte, NB, NL, NE, f12, List.map_nil, List.length_nil]
   refine aCoZ T ha ht hx hlt hk (needs := needs) (fl := fl) (some' := some') hsm (LL := [(false, some')]) ?_ (by simp) (other := other) (.lit _ _) (by simp only [go_sem, NB, f1]) (by simp only [go_sem, NB, f3]) (by simp only [go_sem, NB, f4]) (by simp only [go_sem, NB, f11]) (by simp only [go_sem, NB, f12]) (by simp only [go_sem, NB, e14]) (by simp only [go_sem, NB, List.map_cons, List.map_nil, encL]) (by simp only [go_sem]) ?_
   ·intro y hy
    simp only [List.mem_cons, List.not_mem_nil, or_false] at hy
    subst hy; exact s1
   intro ρ2 o3' o4' o5' o6' hf2
   have g14 : ρ2 14 = vi i := by rw [hf2 14 (by decide)]; simp only [go_sem, NB, e14]
   simp only [go_sem, ↓aafZ, g14, hw]
   exact ⟨hlt, _, _, _, _, _, rfl⟩
  | [p], _, how =>
   obtain ⟨p1, p2⟩ := how p (by simp)
   have hro : abNZ 2 24 = true := by decide
   simp only [go_sem, ↓aafZ, ↓reduceIte, NB, NL, NE, f12, List.map_cons, List.map_nil, List.length_cons, List.length_nil, encL]
   refine aacZ (fun hb => ?_) (fun hb => by simp at hb)
   simp only [go_sem, ↓aafZ, ↓reduceIte, NB, NA, NL, NE, ID, IT, BT, List.length_cons, List.length_nil, hro, List.getElem?_cons_zero]
   refine aCoZ T ha ht hx hlt hk (needs := needs) (fl := fl) (some' := some') hsm (LL := [(false, some'), (false, p.2)]) ?_ (by simp) (other := other) (.obj _ _) (by simp only [go_sem, NB, f1]) (by simp only [go_sem, NB, f3]) (by simp only [go_sem, NB, f4]) (by simp only [go_sem, NB, f11]) (by simp only [go_sem, NB, f12]) (by simp only [go_sem, NB, e14]) (by simp only [go_sem, NB, NA, List.map_cons, List.map_nil, encL, List.length_cons, List.length_nil]) (by simp only [go_sem]) ?_
   ·intro y hy
    simp only [List.mem_cons, List.not_mem_nil, or_false] at hy
    rcases hy with rfl | rfl
    ·exact s1
    ·exact ⟨p1, p2⟩
   intro ρ2 o3' o4' o5' o6' hf2
   have g14 : ρ2 14 = vi i := by rw [hf2 14 (by decide)]; simp only [go_sem, NB, e14]
   simp only [go_sem, ↓aafZ, g14, hw]
   exact ⟨hlt, _, _, _, _, _, rfl⟩
 ·simp only [go_sem]
  exact ⟨_, _, _, _, _, rfl⟩
end Go.AM
end
section
set_option maxRecDepth 8000
namespace Go.AM
open Go
def ajBZ (vals : List Str) : List Str := vals.map fun s => s.take 60
set_option maxHeartbeats 3200000 in
theorem axEZ {A : AProg} {g : String -> Nat} (hS : ∀ (s : Str) (H : List AObj), aapZ A (g "dactyl/dactylref01.Short") [.str s, vi 60] H = some (.str (s.take 60), H, []))
  {H : List AObj} {Q : AExit -> SEnv -> List AObj -> List Nat -> Prop} {tg} {vals : List Str} {o0 o1 o2 o3 o4 o5 o6 : AObj}
  {ρ : SEnv} (e2 : ρ 2 = .sl false (vals.map aadZ)) (e12 : ρ 12 = .sl true []) (e13 : ρ 13 = vi 0)
  (hQ : ∀ ρ' o1, (∀ t, adaZ.contains t = false -> ρ' t = ρ t) -> GSl (H.length + 1) 1 (((ajBZ vals).take 8).map aadZ) (ρ' 12) o1 -> Q (.exit 0) ρ' (H ++ [o0, o1, o2, o3, o4, o5, o6]) []) :
  wl A 195 ⟨H.length, ardZ⟩ (acZZ g) ρ (H ++ [o0, o1, o2, o3, o4, o5, o6]) [] Q tg := by
 refine aaWZ (W := adaZ) (fun i ρ1 H1 wr => wr = [] /\ ρ1 13 = vi i /\ i <= vals.length /\ ∃ o1, H1 = H ++ [o0, o1, o2, o3, o4, o5, o6] /\ GSl (H.length + 1) 1 (((ajBZ vals).take i).map aadZ) (ρ1 12) o1) 8
  (fun ρ1 H1 wr => wr = [] /\ ∃ o1, H1 = H ++ [o0, o1, o2, o3, o4, o5, o6] /\ GSl (H.length + 1) 1 (((ajBZ vals).take 8).map aadZ) (ρ1 12) o1)
  (by kernel_rfl) (by rfl) ⟨rfl, e13, Nat.zero_le _, o1, rfl, by rw [e12]; exact .nil _⟩ ?_ (by
   rintro ρ' H' wr' ⟨rfl, o1, rfl, hg⟩ hf
   exact hQ ρ' _ hf hg)
 clear o1
 rintro i ρ1 H2 wr1 hil ⟨rfl, e13, hiv, o1, rfl, hg⟩ hf
 have f2 : ρ1 2 = .sl false (vals.map aadZ) := (hf 2 (by decide)).trans e2
 clear hf
 have hlc : (ajBZ vals).length = vals.length := by simp [ajBZ]
 have hw : IntKind.i64.wrap ((i : Int) + 1) = ((i + 1 : Nat) : Int) := by rw [wrap_i64 (by omega) (by omega)]; omega
 by_cases hlt : i < vals.length
 ·have hd1 : decide (i < vals.length) = true := by simpa using hlt
  have hdI : decide ((i : Int) < (vals.length : Int)) = true := by simp; omega
  by_cases h8 : i < 8
  ·have hd2 : decide ((i : Int) < 8) = true := by simp; omega
   have hgi : (vals.map aadZ)[i]? = some [.str vals[i]] := getElem?_map_of hlt
   have hi0 : (0 : Int) <= (i : Int) := by omega
   have hit : ((i : Int)).toNat = i := by omega
   obtain ⟨v', o', hg', happ⟩ := hg.app (new := [[.str (vals[i].take 60)]]) (bytes := 16) (by simp) (by rfl) (by rw [List.length_map, List.length_take]; simp; omega)
   have hst : ((ajBZ vals).take i).map aadZ ++ [[.str (vals[i].take 60)]] = ((ajBZ vals).take (i + 1)).map aadZ := by
    have hgc : (ajBZ vals)[i]? = some (vals[i].take 60) := by unfold ajBZ; rw [List.getElem?_map, List.getElem?_eq_getElem hlt]; rfl
    rw [List.take_add_one (l := ajBZ vals), hgc, List.map_append]
    rfl
   rw [hst] at hg'
   simp only [go_sem, ↓aafZ, ↓reduceIte, NB, NL, NE, f2, e13, hd1, hd2, List.length_map, beq_self_eq_true, hi0, hit, hgi, hS, happ, hw]
   exact ⟨by omega, hlt, o', rfl, hg'⟩
  ·have hd2 : decide ((i : Int) < 8) = false := by simp; omega
   have : i = 8 := by omega
   rw [this] at hg
   simp only [go_sem, ↓aafZ, ↓reduceIte, NB, f2, e13, hd1, hd2, List.length_map, beq_self_eq_true]
   exact ⟨_, rfl, hg⟩
 ·have hd1 : decide (i < vals.length) = false := by simpa using hlt
  have hdI : decide ((i : Int) < (vals.length : Int)) = false := by simp; omega
  have hi : i = vals.length := by omega
  simp only [go_sem, ↓aafZ, ↓reduceIte, NB, BT, f2, e13, hd1, List.length_map, Bool.false_beq, Bool.false_eq_true]
  refine ⟨_, rfl, ?_⟩
  have : (ajBZ vals).take 8 = (ajBZ vals).take i := by rw [List.take_of_length_le (by omega), List.take_of_length_le (by omega)]
  rw [this]
  exact hg
structure LawSpecs (A : AProg) (g : String -> Nat) : Prop where
 ans : AnsSpecs A g
 around : afqZ A g
 take : ∀ (l : List Int) (H : List AObj), aaYZ none true H (aapZ A (g "dactyl/dactylref01.Take") [.sl false (l.map aaqZ), vi 6] H) = some (.sl false ((l.take 6).map aaqZ), H, [])
 short : ∀ (s : Str) (H : List AObj), aapZ A (g "dactyl/dactylref01.Short") [.str s, vi 60] H = some (.str (s.take 60), H, [])
 exam : ∀ {l : List Int}, acIZ l -> ∀ H, ∃ v H' wr, aapZ A (g "dactyl/dactylref23.Exam") [.sl false (l.map aaqZ)] H = some (v, H', wr) /\ (H' = H /\ wr = [] /\ axYZ v)
 facts : ∀ {it : Item}, it.Ok -> ISlack it -> apDZ A (g "dactyl/dactylref25.Facts") it
 lives : ∀ H, aapZ A (g "dactyl/dactyllaw25.lives") [] H = some (.bool true, H, [])
set_option maxHeartbeats 3200000 in
theorem areZ {A : AProg} {g : String -> Nat} (h : Has A g "dactyl/dactyllaw25.SourceAnswers" (abwZ g)) (T : LawSpecs A g) {l : List Int} (hl : acIZ l) {kind : Int} (hk : accZ kind) (vals : List Str) (other : Str) (needs : List Int) (H : List AObj) :
  aapZ A (g "dactyl/dactyllaw25.SourceAnswers") [.sl false (l.map aaqZ), vi kind, .sl false (vals.map aadZ), .str other, .sl false (needs.map aaqZ)] H = some (.bool true, H, []) := by
 refine h.call (by simp [abwZ]) (by kernel_rfl) ?_
 simp only [abwZ]
 simp only [go_sem, ↓aafZ, ↓reduceIte, NB, NA, NE]
 refine auVZ (T.exam hl _) ?_
 rintro v1 H1 wr1 ⟨rfl, rfl, x, rfl, hx, hs⟩
 simp only [go_sem, ↓aafZ, ↓reduceIte, NB, NA, NL, auoZ, aELZ, List.append_nil, abOZ (aCnZ _)]
 have hvl : ((ajBZ vals).take 8).length <= 8 := by rw [List.length_take]; omega
 have hvs : ∀ s ∈ (ajBZ vals).take 8, s.length <= 60 := by
  intro s hs
  obtain ⟨t, _, rfl⟩ := List.mem_map.1 (List.mem_of_mem_take hs)
  rw [List.length_take]; omega
 refine axEZ T.short (vals := vals) (by rfl) (by simp only [go_sem, NB]) (by simp only [go_sem]) ?_
 intro ρ2 o1 hf2 hg
 have g1 : ρ2 1 = vi kind := by rw [hf2 1 (by decide)]; rfl
 have g3 : ρ2 3 = .str other := by rw [hf2 3 (by decide)]; rfl
 have g4 : ρ2 4 = .sl false (needs.map aaqZ) := by rw [hf2 4 (by decide)]; rfl
 have g11 : ρ2 11 = .ptr H.length 1 0 := by rw [hf2 11 (by decide)]; simp only [go_sem, NB]
 clear hf2
 have hF : ∀ it ∈ x.items, apDZ A (g "dactyl/dactylref25.Facts") it := fun it hit => T.facts (hx.items it hit) (hs.item it hit)
 generalize (ajBZ vals).take 8 = sm at *
 have hsd : ((sm.map aadZ).all fun r => r.all AV.still) = true := aatZ (aabZ abuZ sm)
 have hlv := T.lives
 generalize hr : sm.map aadZ = rows at hg
 generalize h12 : ρ2 12 = v12 at hg
 cases hg with
 | nil =>
  simp only [go_sem, ↓aafZ, h12]
  refine awkZ T.ans T.around T.take hx hF hk (fl := false) (some' := sm) hvl hvs (other := other) (needs := needs) (by simp only [go_sem, NB, g1]) (by simp only [go_sem, NB, g3]) (by simp only [go_sem, NB, g4]) (by simp only [go_sem, NB, g11]) (by simp only [go_sem, NB, hr]) (by simp only [go_sem]) ?_
  intro ρ3 o2 o3 o4 o5 o6 hf3
  simp only [go_sem, ↓aafZ, ↓reduceIte, NE, hlv]
 | obj ver =>
  subst hr
  simp only [go_sem, ↓aafZ, ↓reduceIte, hsd, h12]
  refine awkZ T.ans T.around T.take hx hF hk (fl := false) (some' := sm) hvl hvs (other := other) (needs := needs) (by simp only [go_sem, NB, g1]) (by simp only [go_sem, NB, g3]) (by simp only [go_sem, NB, g4]) (by simp only [go_sem, NB, g11]) (by simp only [go_sem, NB]) (by simp only [go_sem]) ?_
  intro ρ3 o2 o3 o4 o5 o6 hf3
  simp only [go_sem, ↓aafZ, ↓reduceIte, NE, hlv]
end Go.AM
end
section
set_option maxRecDepth 8000
namespace Go.AM
open Go
theorem anLZ {A : AProg} {N : Nat} {c : Ctx} {b : Bool} {x1 x2 rest : ACode} {ρ : SEnv} {H : List AObj} {wr : List Nat} {Q : AExit -> SEnv -> List AObj -> List Nat -> Prop} {t1 t2 t3 tg} {W : List Nat} (P : SEnv -> List AObj -> List Nat -> Prop)
  (hW : dsts x1 ++ dsts x2 = W) (h1 : b = true -> wc A N c x1 ρ H wr (cutQ P ⟨⟩) ⟨⟩) (h2 : b = false -> wc A N c x2 ρ H wr (cutQ P ⟨⟩) ⟨⟩)
  (hr : ∀ ρ' H' wr', P ρ' H' wr' -> (∀ t, W.contains t = false -> ρ' t = ρ t) -> wc A N c rest ρ' H' wr' Q ⟨⟩) :
  ahAZ b (wc A N c x1 ρ H wr (atvZ A N c rest Q t1) t2) (wc A N c x2 ρ H wr (atvZ A N c rest Q t1) t3) tg := by
 have sub : ∀ (V : List Nat) (ρ' : SEnv), (∀ t ∈ V, t ∈ W) -> (∀ t, V.contains t = false -> ρ' t = ρ t) -> ∀ t, W.contains t = false -> ρ' t = ρ t := fun V ρ' hs h => SlFr.mono h hs
 refine aacZ (fun hb => ?_) (fun hb => ?_)
 ·exact axVZ (W := dsts x1) P rfl (h1 hb) fun ρ' H' wr' hP hf => hr ρ' H' wr' hP (sub _ ρ' (fun t ht => by rw [<- hW]; exact List.mem_append_left _ ht) hf)
 ·exact axVZ (W := dsts x2) P rfl (h2 hb) fun ρ' H' wr' hP hf => hr ρ' H' wr' hP (sub _ ρ' (fun t ht => by rw [<- hW]; exact List.mem_append_right _ ht) hf)
theorem axFZ {A : AProg} {g : String -> Nat} (h : Has A g "dactyl/dactylref23.box" (aewZ g)) {x y w hh : Int} (hx : 0 <= x /\ x <= 1000) (hy : 0 <= y /\ y <= 1000) (hw : 0 <= w /\ w <= 1000) (hh0 : 0 <= hh /\ hh <= 1000) (H : List AObj) :
  aapZ A (g "dactyl/dactylref23.box") [vi x, vi y, vi w, vi hh] H = some (.sl false ([(x, y), (x + w, y), (x + w, y + hh), (x, y + hh)].map aeKZ), H, []) := by
 have h1 : IntKind.i64.wrap (x + w) = x + w := wrap_i64 (by omega) (by omega)
 have h2 : IntKind.i64.wrap (y + hh) = y + hh := wrap_i64 (by omega) (by omega)
 refine h.call (by simp [aewZ]) (by kernel_rfl) ?_
 simp only [aewZ]
 simp only [go_sem, ↓reduceIte, NB, NA, NL, ND, h1, h2, aeKZ]
abbrev P4 (x y w h : Int) : List (Int × Int) := [(x, y), (x + w, y), (x + w, y + h), (x, y + h)]
theorem aCpZ {x y w h : Int} (hx : 0 <= x /\ x <= 1000) (hy : 0 <= y /\ y <= 1000) (hw : 0 <= w /\ w <= 1000) (hh0 : 0 <= h /\ h <= 1000) {k : Int} (hk : 0 <= k /\ k <= 2) : SOk (Shape.mk k (P4 x y w h)) := by
 refine ⟨⟨aaxZ hk.1 (by show k <= 1000000; omega), by simp, ?_⟩, hk⟩
 intro p hp
 simp only [List.mem_cons, List.not_mem_nil, or_false] at hp
 rcases hp with rfl | rfl | rfl | rfl
 ·exact ⟨aaxZ hx.1 (by omega), aaxZ hy.1 (by omega)⟩
 ·exact ⟨aaxZ (by show 0 <= x + w; omega) (by show x + w <= 1000000; omega), aaxZ hy.1 (by omega)⟩
 ·exact ⟨aaxZ (by show 0 <= x + w; omega) (by show x + w <= 1000000; omega), aaxZ (by show 0 <= y + h; omega) (by show y + h <= 1000000; omega)⟩
 ·exact ⟨aaxZ hx.1 (by omega), aaxZ (by show 0 <= y + h; omega) (by show y + h <= 1000000; omega)⟩
set_option maxHeartbeats 6400000 in
theorem aupZ {A : AProg} {g : String -> Nat} (h : Has A g "(*dactyl/dactylref23.Maker).Figure" (abzZ g)) (ht : abIZ A g)
  (hbx : ∀ {x y w hh : Int}, (0 <= x /\ x <= 1000) -> (0 <= y /\ y <= 1000) -> (0 <= w /\ w <= 1000) -> (0 <= hh /\ hh <= 1000) -> ∀ H, aapZ A (g "dactyl/dactylref23.box") [vi x, vi y, vi w, vi hh] H = some (.sl false ((P4 x y w hh).map aeKZ), H, [])) :
  aaMZ A (g "(*dactyl/dactylref23.Maker).Figure") [] aswZ := by
 refine h.gen (by simp [abzZ]) (fun n => by kernel_rfl) ?_
 intro l i o v H hl hlt ho
 have hne : ∀ k, (H.length + k == o) = false := fun k => by simp; omega
 simp only [abzZ]
 simp only [go_sem, ↓reduceIte, NB, NA, NL, ND, NE]
 refine aaPZ (keep := adoZ) (by rfl) (by rfl) ?_
 simp only [go_sem, ↓reduceIte, NB, NA, NL, ND, NE, adoZ]
 refine abaZ (aakZ ht (m := 4) (by decide)) hl (i := i) (by simp only [go_sem, acmZ, hlt, ho]) ?_
 rintro val i1 ⟨x1, rfl, hx0, hx1⟩
 have w1 : IntKind.i64.wrap (24 + x1) = 24 + x1 := wrap_i64 (by omega) (by omega)
 simp only [go_sem, ↓reduceIte, NA, hlt, aciZ, w1]
 refine abaZ (aakZ ht (m := 9) (by decide)) hl (i := i1) (by simp only [go_sem, aagZ, hlt]) ?_
 rintro val i2 ⟨x2, rfl, hx2, hx3⟩
 have w2 : IntKind.i64.wrap (30 + x2) = 30 + x2 := wrap_i64 (by omega) (by omega)
 have hb1 := fun H => hbx (x := 2) (y := 2) (w := 24 + x1) (hh := 30 + x2) (by decide) (by decide) (by omega) (by omega) H
 simp only [go_sem, ↓reduceIte, NB, NA, NM, NL, ND, NE, BT, BF, hlt, aahZ, w2, hb1, abNZ, acUZ, acEZ, hne, aavZ]
 refine aalZ (aakZ ht (m := 3) (by decide)) hl (i := i2) (by simp only [go_sem, aagZ, hlt]) ?_
 rintro val i3 ⟨x3, rfl, hx4, hx5⟩
 simp only [go_sem, ↓reduceIte, hlt, aahZ]
 have s1 : SOk (Shape.mk 2 (P4 2 2 (24 + x1) (30 + x2))) := aCpZ (by decide) (by decide) (by omega) (by omega) (by decide)
 refine anLZ (W := [23, 24, 25, 26, 27, 28, 29, 30, 31, 32, 33, 34, 35, 36]) (fun _ H1 wr => wr = [o] /\ ∃ i' o5, ∃ S : List Shape, 1 <= S.length /\ S.length <= 2 /\ (∀ a ∈ S, SOk a) /\
  H1 = H.set o (.box v (aaeZ l i')) ++ [.gone 0, .gone 0, .box 1 [vi 0, vi 0, .sl true []], .box 1 [vi 60, vi 50, .sr (H.length + 4) 1 S.length], .vec 1 2 (S.map adBZ), o5, .gone 0, .gone 0, .gone 0]) (by rfl) (fun hb => ?_) (fun hb => ?_) ?_
 ·refine aaPZ (keep := adpZ) (by rfl) (by rfl) ?_
  simp only [go_sem, ↓reduceIte, NB, NA, NL, ND, NE, adpZ]
  refine abaZ (aakZ ht (m := 5) (by decide)) hl (i := i3) (by simp only [go_sem, aagZ, hlt]) ?_
  rintro val i4 ⟨x4, rfl, hx6, hx7⟩
  have w4 : IntKind.i64.wrap (10 + x4) = 10 + x4 := wrap_i64 (by omega) (by omega)
  simp only [go_sem, ↓reduceIte, NA, hlt, aahZ, w4]
  refine abaZ (aakZ ht (m := 8) (by decide)) hl (i := i4) (by simp only [go_sem, aagZ, hlt]) ?_
  rintro val i5 ⟨x5, rfl, hx8, hx9⟩
  have w5 : IntKind.i64.wrap (12 + x5) = 12 + x5 := wrap_i64 (by omega) (by omega)
  simp only [go_sem, ↓reduceIte, NB, NA, NM, ND, BT, BF, hlt, aahZ, w5, abNZ, acUZ, acEZ, hne, aavZ]
  refine ⟨i5, _, [Shape.mk 2 (P4 2 2 (24 + x1) (30 + x2)), Shape.mk 0 [(10 + x4, 12 + x5)]], by simp, by simp, ?_, rfl⟩
  intro a ha
  simp only [List.mem_cons, List.not_mem_nil, or_false] at ha
  rcases ha with rfl | rfl
  ·exact s1
  ·exact ⟨⟨aaxZ (by show (0:Int) <= 0; decide) (by show (0:Int) <= 1000000; decide), by simp, fun q hq => by
    simp only [List.mem_cons, List.not_mem_nil, or_false] at hq
    subst hq
    exact ⟨aaxZ (by show 0 <= 10 + x4; omega) (by show 10 + x4 <= 1000000; omega), aaxZ (by show 0 <= 12 + x5; omega) (by show 12 + x5 <= 1000000; omega)⟩⟩, by show (0:Int) <= 0; decide, by show (0:Int) <= 2; decide⟩
 ·simp only [go_sem]
  exact ⟨i3, _, [Shape.mk 2 (P4 2 2 (24 + x1) (30 + x2))], by simp, by simp, by intro a ha; simp only [List.mem_cons, List.not_mem_nil, or_false] at ha; subst ha; exact s1, rfl⟩
 rintro ρ2 H2 wr2 ⟨rfl, i6, o5, S, hS1, hS2, hS3, rfl⟩ hf2
 have g0 : ρ2 0 = .ptr o v 0 := by rw [hf2 0 (by decide)]; simp only [go_sem, NB]
 have g2 : ρ2 2 = .ptr (H.length + 2) 1 0 := by rw [hf2 2 (by decide)]; simp only [go_sem, NB]
 have g3 : ρ2 3 = .ptr (H.length + 3) 1 0 := by rw [hf2 3 (by decide)]; simp only [go_sem, NB]
 have g94 : ρ2 94 = .undef := by rw [hf2 94 (by decide)]; simp only [go_sem, NB]
 simp only [go_sem, ↓reduceIte, NB, NE, g0]
 refine aalZ (aakZ ht (m := 4) (by decide)) hl (i := i6) (by simp only [go_sem, aagZ, hlt]) ?_
 rintro val i7 ⟨x6, rfl, hx10, hx11⟩
 have w6 : IntKind.i64.wrap (36 + x6) = 36 + x6 := wrap_i64 (by omega) (by omega)
 simp only [go_sem, ↓reduceIte, hlt, aahZ, w6]
 refine aalZ (aakZ ht (m := 2) (by decide)) hl (i := i7) (by simp only [go_sem, aagZ, hlt]) ?_
 rintro val i8 ⟨x7, rfl, hx12, hx13⟩
 simp only [go_sem, ↓reduceIte, hlt, aahZ]
 have hsh : ∀ (a : Shape) (S : List Shape), S.map adBZ ++ [[vi a.kind, .sl false (a.points.map aeKZ)]] = (S ++ [a]).map adBZ := fun a S => by simp [adBZ]
 refine anLZ (W := [43, 44, 45, 46, 47, 48, 49, 50, 51, 52, 53, 54, 55, 56, 57, 58, 59, 60, 61, 62, 63, 64, 65, 66, 67, 68, 69, 70]) (fun _ H1 wr => wr = [o] /\ ∃ i' o5 o6 o7, ∃ S : List Shape, 2 <= S.length /\ S.length <= 3 /\ (∀ a ∈ S, SOk a) /\
  H1 = H.set o (.box v (aaeZ l i')) ++ [.gone 0, .gone 0, .box 1 [vi 0, vi 0, .sl true []], .box 1 [vi 60, vi 50, .sr (H.length + 4) 1 S.length], .vec 1 2 (S.map adBZ), o5, o6, o7, .gone 0]) (by rfl) (fun hb => ?_) (fun hb => ?_) ?_
 ·refine aaPZ (keep := adqZ) (by rfl) (by rfl) ?_
  have w7 : IntKind.i64.wrap (36 + x6 + 8) = 36 + x6 + 8 := wrap_i64 (by omega) (by omega)
  simp only [go_sem, ↓reduceIte, NB, NA, NL, ND, NE, adqZ, g0, g3, w7]
  refine abaZ (aakZ ht (m := 6) (by decide)) hl (i := i8) (by simp only [go_sem, aagZ, hlt]) ?_
  rintro val i9 ⟨x8, rfl, hx14, hx15⟩
  have w8 : IntKind.i64.wrap (10 + x8) = 10 + x8 := wrap_i64 (by omega) (by omega)
  have hr : abNZ (S.length + 1) 32 = true := by unfold abNZ; simp; omega
  have hsu := hsh ⟨1, [(36 + x6, 4), (36 + x6 + 8, 10 + x8), (36 + x6, 30)]⟩ S
  simp only [List.map, aeKZ] at hsu
  simp only [go_sem, ↓reduceIte, NB, NA, BT, BF, hlt, aahZ, w8, hr, hsu, acUZ, acEZ, hne, aavZ]
  refine ⟨i9, _, _, _, S ++ [⟨1, [(36 + x6, 4), (36 + x6 + 8, 10 + x8), (36 + x6, 30)]⟩], by simp; omega, by simp; omega, ?_, by simp only [List.length_append, List.length_cons, List.length_nil, Nat.zero_add]; rfl⟩
  intro a ha
  rcases List.mem_append.mp ha with ha | ha
  ·exact hS3 a ha
  ·simp only [List.mem_cons, List.not_mem_nil, or_false] at ha
   subst ha
   refine ⟨⟨aaxZ (by show (0:Int) <= 1; decide) (by show (1:Int) <= 1000000; decide), by simp, fun q hq => ?_⟩, by show (0:Int) <= 1; decide, by show (1:Int) <= 2; decide⟩
   simp only [List.mem_cons, List.not_mem_nil, or_false] at hq
   rcases hq with rfl | rfl | rfl
   ·exact ⟨aaxZ (by show 0 <= 36 + x6; omega) (by show 36 + x6 <= 1000000; omega), aaxZ (by show (0:Int) <= 4; decide) (by show (4:Int) <= 1000000; decide)⟩
   ·exact ⟨aaxZ (by show 0 <= 36 + x6 + 8; omega) (by show 36 + x6 + 8 <= 1000000; omega), aaxZ (by show 0 <= 10 + x8; omega) (by show 10 + x8 <= 1000000; omega)⟩
   ·exact ⟨aaxZ (by show 0 <= 36 + x6; omega) (by show 36 + x6 <= 1000000; omega), aaxZ (by show (0:Int) <= 30; decide) (by show (30:Int) <= 1000000; decide)⟩
 ·refine aaPZ (keep := adrZ) (by rfl) (by rfl) ?_
  simp only [go_sem, ↓reduceIte, NB, NA, NL, ND, NE, adrZ, g0, g3]
  refine abaZ (aakZ ht (m := 12) (by decide)) hl (i := i8) (by simp only [go_sem, aagZ, hlt]) ?_
  rintro val i9 ⟨x8, rfl, hx14, hx15⟩
  have w8 : IntKind.i64.wrap (12 + x8) = 12 + x8 := wrap_i64 (by omega) (by omega)
  have hr : abNZ (S.length + 1) 32 = true := by unfold abNZ; simp; omega
  have hb2 := fun H => hbx (x := 36 + x6) (y := 5) (w := 10) (hh := 12 + x8) (by omega) (by decide) (by decide) (by omega) H
  have hsu := hsh ⟨2, P4 (36 + x6) 5 10 (12 + x8)⟩ S
  simp only [List.map] at hsu hb2
  simp only [go_sem, ↓reduceIte, NB, NA, BT, BF, hlt, aahZ, w8, hb2, hr, hsu, acUZ, acEZ, hne, aavZ]
  refine ⟨i9, _, _, _, S ++ [⟨2, P4 (36 + x6) 5 10 (12 + x8)⟩], by simp; omega, by simp; omega, ?_, by simp only [List.length_append, List.length_cons, List.length_nil, Nat.zero_add]; rfl⟩
  intro a ha
  rcases List.mem_append.mp ha with ha | ha
  ·exact hS3 a ha
  ·simp only [List.mem_cons, List.not_mem_nil, or_false] at ha
   subst ha
   exact aCpZ (by omega) (by decide) (by decide) (by omega) (by decide)
 rintro ρ3 H3 wr3 ⟨rfl, i9, o5', o6, o7, T, hT1, hT2, hT3, rfl⟩ hf3
 have e0 : ρ3 0 = .ptr o v 0 := by rw [hf3 0 (by decide)]; simp only [go_sem, NB, g0]
 have e2 : ρ3 2 = .ptr (H.length + 2) 1 0 := by rw [hf3 2 (by decide)]; simp only [go_sem, NB, g2]
 have e3 : ρ3 3 = .ptr (H.length + 3) 1 0 := by rw [hf3 3 (by decide)]; simp only [go_sem, NB, g3]
 have e94 : ρ3 94 = .undef := by rw [hf3 94 (by decide)]; simp only [go_sem, NB, g94]
 clear hf2 hf3
 simp only [go_sem, ↓reduceIte, NE, e0]
 refine aalZ (aakZ ht (m := 3) (by decide)) hl (i := i9) (by simp only [go_sem, aagZ, hlt]) ?_
 rintro val i10 ⟨x9, rfl, hx16, hx17⟩
 simp only [go_sem, ↓reduceIte, hlt, aahZ]
 refine aacZ (fun hb => ?_) (fun hb => ?_)
 ·simp only [go_sem]
  refine aaPZ (keep := adsZ) (by rfl) (by rfl) ?_
  simp only [go_sem, ↓reduceIte, NB, NA, NL, ND, NE, adsZ, e0, e3]
  refine abaZ (aakZ ht (m := 20) (by decide)) hl (i := i10) (by simp only [go_sem, aagZ, hlt]) ?_
  rintro val i11 ⟨x10, rfl, hx18, hx19⟩
  have w10 : IntKind.i64.wrap (36 + x10) = 36 + x10 := wrap_i64 (by omega) (by omega)
  have hr : abNZ (T.length + 1) 32 = true := by unfold abNZ; simp; omega
  simp only [go_sem, ↓reduceIte, NB, NA, NL, BT, BF, e3, hlt, aahZ, w10, hr, acUZ, acEZ, hne, aavZ]
  have w11 : IntKind.i64.wrap (((T.length + 1 : Nat) : Int) - 1) = (T.length : Int) := by rw [wrap_i64 (by omega) (by omega)]; omega
  have hix : (T.map adBZ ++ [[AV.int IntKind.i64 1, AV.sr H.length 1 2]])[T.length]? = some [AV.int IntKind.i64 1, AV.sr H.length 1 2] := by simp
  rw [w11]
  refine aaPZ (keep := adtZ) (by rfl) (by rfl) ?_
  have w12 : IntKind.i64.wrap (36 + x10 + 3) = 36 + x10 + 3 := wrap_i64 (by omega) (by omega)
  have hset : ∀ x y, (T.map adBZ ++ [x]).set T.length y = T.map adBZ ++ [y] := fun x y => by simp
  have hsu := hsh ⟨1, [(36, 44), (36 + x10 + 3, 44)]⟩ T
  simp only [List.map, aeKZ] at hsu
  have hlen : (T ++ [Shape.mk 1 [(36, 44), (36 + x10 + 3, 44)]]).length = T.length + 1 := by simp
  simp only [go_sem, ↓reduceIte, NB, NA, NL, ND, IL, ID, IT, adtZ, e2, e3, hix, Int.toNat_natCast, w12, hset, hsu, hlt, hlen, List.length_map, aatZ (aabZ aeGZ (T ++ [Shape.mk 1 [(36, 44), (36 + x10 + 3, 44)]])), aajZ, aaaZ (aabZ aeGZ _), aaaZ (aabZ aasZ _)]
  refine ⟨⟨i11, rfl⟩, 60, 50, T ++ [Shape.mk 1 [(36, 44), (36 + x10 + 3, 44)]], rfl, aaxZ (by decide) (by decide), aaxZ (by decide) (by decide), by simp; omega, by simp; omega, ?_⟩
  intro a ha
  rcases List.mem_append.mp ha with ha | ha
  ·exact hT3 a ha
  ·simp only [List.mem_cons, List.not_mem_nil, or_false] at ha
   subst ha
   refine ⟨⟨aaxZ (by show (0:Int) <= 1; decide) (by show (1:Int) <= 1000000; decide), by simp, fun q hq => ?_⟩, by show (0:Int) <= 1; decide, by show (1:Int) <= 2; decide⟩
   simp only [List.mem_cons, List.not_mem_nil, or_false] at hq
   rcases hq with rfl | rfl
   ·exact ⟨aaxZ (by decide) (by decide), aaxZ (by decide) (by decide)⟩
   ·exact ⟨aaxZ (by show 0 <= 36 + x10 + 3; omega) (by show 36 + x10 + 3 <= 1000000; omega), aaxZ (by show (0:Int) <= 44; decide) (by show (44:Int) <= 1000000; decide)⟩
 ·simp only [go_sem, ↓reduceIte, NB, NA, e3, e94, e2, hlt, aatZ (aabZ aeGZ T), aajZ, aaaZ (aabZ aeGZ _), aaaZ (aabZ aasZ _)]
  exact ⟨⟨i10, rfl⟩, 60, 50, T, rfl, aaxZ (by decide) (by decide), aaxZ (by decide) (by decide), hT1, by omega, hT3⟩
end Go.AM
end
section
set_option maxRecDepth 8000
namespace Go.AM
open Go
structure LawFns (A : AProg) (g : String -> Nat) : Prop where
 law : Has A g "dactyl/dactyllaw25.SourceAnswers" (abwZ g)
 exam : Has A g "dactyl/dactylref23.Exam" (aehZ g)
 short : Has A g "dactyl/dactylref01.Short" (adEZ g)
 around : Has A g "dactyl/dactylref01.Around" (acVZ g)
 takeI : Has A g "dactyl/dactylref01.Take" (aeiZ g)
 answer : Has A g "dactyl/source.Answer" (afkZ g)
 answer1 : Has A g "dactyl/source.Answer$1" (aeyZ g)
 answer25 : Has A g "dactyl/dactylref25.Answer" (acYZ g)
 score : Has A g "dactyl/source.Score" (ageZ g)
 score25 : Has A g "dactyl/dactylref25.Score" (adFZ g)
 without : Has A g "dactyl/dactyllaw25.without" (acCZ g)
 count : Has A g "dactyl/source.count" (agfZ g)
 count25 : Has A g "dactyl/dactylref25.count" (adGZ g)
 joined : Has A g "dactyl/dactylref25.joined" (acWZ g)
 needed : Has A g "dactyl/dactylref25.Needed" (acXZ g)
 indexf : Has A g "slices.IndexFunc[[]string,string]" (aaQZ g)
 index : Has A g "slices.Index[[]string,string]" (abiZ g)
 contains : Has A g "slices.Contains[[]string,string]" (aaUZ g)
 decimal : Has A g "dactyl/dactylref23.Decimal" (acBZ g)
 take : Has A g "(*dactyl/dactylref23.Maker).Take" (abWZ g)
 block : Has A g "(*dactyl/dactylref23.Maker).Block" (abKZ g)
 fact : Has A g "(*dactyl/dactylref23.Maker).Fact" (acbZ g)
 has : Has A g "dactyl/dactylref23.has" (aexZ g)
 question : Has A g "(*dactyl/dactylref23.Maker).Question" (aboZ g)
 at' : Has A g "dactyl/dactylref01.At" (adVZ g)
 runs : Has A g "(*dactyl/dactylref23.Maker).Runs" (abXZ g)
 expr : Has A g "(*dactyl/dactylref23.Maker).Expr" (acaZ g)
 sum : Has A g "(*dactyl/dactylref23.Maker).Sum" (acfZ g)
 grid : Has A g "(*dactyl/dactylref23.Maker).Grid" (abYZ g)
 figure : Has A g "(*dactyl/dactylref23.Maker).Figure" (abzZ g)
 melody : Has A g "(*dactyl/dactylref23.Maker).Melody" (abAZ g)
 lines : Has A g "(*dactyl/dactylref23.Maker).Lines" (abJZ g)
 phrase : Has A g "(*dactyl/dactylref23.Maker).Phrase" (abyZ g)
 term : Has A g "(*dactyl/dactylref23.Maker).term" (abZZ g)
 box : Has A g "dactyl/dactylref23.box" (aewZ g)
 arity : Has A g "dactyl/dactylref23.Arity" (adDZ g)
 itoa : apgZ A g
 join : A.prim (g "strings.Join") = some arGZ
 lives : ∀ H, aapZ A (g "dactyl/dactyllaw25.lives") [] H = some (.bool true, H, [])
 facts : ∀ {it : Item}, it.Ok -> ISlack it -> apDZ A (g "dactyl/dactylref25.Facts") it
theorem axGZ {A : AProg} {g : String -> Nat} (F : LawFns A g) : Gens A g := by
 have ha := amKZ F.around
 have ht := auYZ F.take F.at' ha
 have hp := atyZ F.phrase ht
 have hr := awKZ F.runs ht hp
 have har := fun op H => atzZ F.arity op H
 have htm := fun d hd => asuZ F.term ht har d hd
 have hbx : ∀ {x y w hh : Int}, (0 <= x /\ x <= 1000) -> (0 <= y /\ y <= 1000) -> (0 <= w /\ w <= 1000) -> (0 <= hh /\ hh <= 1000) -> ∀ H, aapZ A (g "dactyl/dactylref23.box") [vi x, vi y, vi w, vi hh] H = some (.sl false ((P4 x y w hh).map aeKZ), H, []) :=
  fun h1 h2 h3 h4 H => axFZ F.box h1 h2 h3 h4 H
 exact ⟨ht, fun h0 h1 => avgZ F.block hr (awOZ F.expr ht htm) (ayXZ F.sum ht) (awMZ F.grid ht hp) (aupZ F.figure ht hbx) (atBZ F.melody ht) (avdZ F.lines ht) h0 h1,
  fun hb _ h0 h1 => awPZ F.fact ht hb h0 h1, fun l hl f => awQZ F.has l hl f, fun hm => aqnZ F.question ht hp hr (almZ F.decimal) hm⟩
theorem arfZ {needs : List Int} {vals : List Str} (hn : needs.length <= 100) (h : ∀ s ∈ needed needs vals, s.length <= 3000000) : (jn [32] (needed needs vals)).length <= 1000000000000 := by
 have h1 := aybZ (sep := [32]) (l := needed needs vals) (M := 3000000) h
 have h2 := agOZ (vals := vals) needs
 have h3 : (needed needs vals).length * (3000000 + ([32] : Str).length) <= 100 * 4000001 := Nat.mul_le_mul (by omega) (by simp)
 omega
theorem azMZ {A : AProg} {g : String -> Nat} (F : LawFns A g) : AnsFns A g where
 itoa := F.itoa
 closure := fun {l} {s} hl {H} {o} {v} {id} {cell} {ob} h1 h2 h3 => aqsZ F.answer1 (fun l s hl H => anPZ F.contains (fun l s hl H => arAZ F.index l s hl H) l s hl H) hl h1 h2 h3
 indexf := fun hl _ _ _ _ _ hp => arBZ F.indexf hl hp
 count := fun s hs H => akHZ F.count s hs H
 join := fun l sep H hl hj => avtZ F.join l sep H hl hj
theorem azNZ {A : AProg} {g : String -> Nat} (F : LawFns A g) : RefFns A g where
 dec := almZ F.decimal
 needed := fun q vals h1 h2 H => aryZ F.needed q vals h1 h2 H
 count := fun s hs H => aqqZ F.count25 s hs H
 joined := fun l sep h1 h2 H => arxZ F.joined l sep h1 h2 H
theorem awlZ {A : AProg} {g : String -> Nat} (F : LawFns A g) : LawSpecs A g where
 ans := ⟨fun q vals h1 h2 h3 h4 H => aqvZ F.answer (azMZ F) q vals (by omega) (by omega) (by omega) (fun s hs => by have := h4 s hs; omega) (arfZ h1 h4) H,
  fun q vals h1 h2 h3 h4 H => aqxZ F.answer25 (azNZ F) q vals (by omega) (by omega) (by omega) (fun s hs => by have := h4 s hs; omega) (arfZ h1 h4) H,
  fun q a H => atFZ F.score q a H, fun q a H => aqpZ F.score25 q a H, fun vals needs other h1 h2 H => aqrZ F.without vals needs other h1 h2 H⟩
 around := amKZ F.around
 take := fun l H => by
  have h : aapZ A (g "dactyl/dactylref01.Take") [.sl false (l.map aaqZ), vi 6] H = _ := atGZ F.takeI l 6 (by decide) H
  rw [h]
  cases hl : l.take 6 <;> rfl
 short := fun s H => atEZ F.short s 60 H
 exam := fun hl H => avlZ F.exam (axGZ F) hl H
 facts := F.facts
 lives := F.lives
theorem argZ {A : AProg} {g : String -> Nat} (F : LawFns A g) {l : List Int} (hl : acIZ l) {kind : Int} (hk : accZ kind) (vals : List Str) (other : Str) (needs : List Int) (H : List AObj) :
  aapZ A (g "dactyl/dactyllaw25.SourceAnswers") [.sl false (l.map aaqZ), vi kind, .sl false (vals.map aadZ), .str other, .sl false (needs.map aaqZ)] H = some (.bool true, H, []) :=
 areZ F.law (awlZ F) hl hk vals other needs H
theorem atdZ : ∀ (k n : Nat), n < 10 ^ (k + 1) -> natS (k + 1) n = dec n
 | 0, n, h => by
  have h' : n < 10 := by simpa using h
  rw [dec, natS, if_pos h', if_pos h']
 | k + 1, n, h => by
  rw [dec, natS]
  split
  ·rfl
  ·rw [atdZ k (n / 10) (by rw [Nat.pow_succ] at h; omega)]
theorem awmZ {A : AProg} {g : String -> Nat} (hp : A.prim (g "strconv.Itoa") = some atJZ) : apgZ A g := by
 intro n H hn
 refine akFZ ?_
 rw [hp]
 rw [Option.bind_some]
 have h : (0 : Int) <= n /\ (n : Int) < 1000000 := ⟨by omega, by omega⟩
 have e7 : natS 7 n = dec n := atdZ 6 n (by have : (10 : Nat) ^ (6 + 1) = 10000000 := (by decide); omega)
 have e : atJZ [vi n] H = if (0 : Int) <= n /\ (n : Int) < 1000000 then some (.str (natS 7 (n : Int).toNat), [], []) else if (n : Int) < 0 /\ -1000000 < (n : Int) then some (.str (45 :: natS 7 (-(n : Int)).toNat), [], []) else none := by
  unfold atJZ
  rfl
 rw [e, if_pos h, Int.toNat_natCast, e7]
end Go.AM
end
section
set_option maxRecDepth 100000
namespace Go.AM
open Go
def aCqZ : List (String × Nat) -> String -> Nat
 | [], _ => 100000
 | (a, n) :: r, s => if a = s then n else aCqZ r s
def aEMZ : List (String × Nat) := [("dactyl/dactyllaw25.SourceAnswers", 3),
 ("dactyl/dactylref23.Exam", 4),
 ("dactyl/dactylref01.Short", 5),
 ("dactyl/dactylref25.Facts", 6),
 ("dactyl/dactylref01.Around", 7),
 ("dactyl/dactylref01.Take", 8),
 ("dactyl/source.Answer", 9),
 ("dactyl/dactylref25.Answer", 10),
 ("dactyl/source.Score", 11),
 ("dactyl/dactylref25.Score", 12),
 ("dactyl/dactyllaw25.without", 13),
 ("dactyl/dactyllaw25.lives", 14),
 ("(*dactyl/dactylref23.Maker).Take", 15),
 ("(*dactyl/dactylref23.Maker).Block", 16),
 ("(*dactyl/dactylref23.Maker).Fact", 17),
 ("dactyl/dactylref23.has", 18),
 ("(*dactyl/dactylref23.Maker).Question", 19),
 ("strconv.Itoa", 21),
 ("slices.IndexFunc[[]string,string]", 22),
 ("dactyl/source.Answer$1", 23),
 ("slices.Contains[[]string,string]", 24),
 ("dactyl/source.count", 25),
 ("strings.Join", 26),
 ("dactyl/dactylref25.Needed", 27),
 ("dactyl/dactylref23.Decimal", 28),
 ("dactyl/dactylref25.count", 29),
 ("dactyl/dactylref25.joined", 30),
 ("dactyl/dactylref01.At", 32),
 ("(*dactyl/dactylref23.Maker).Runs", 33),
 ("(*dactyl/dactylref23.Maker).Expr", 34),
 ("(*dactyl/dactylref23.Maker).Sum", 35),
 ("(*dactyl/dactylref23.Maker).Grid", 36),
 ("(*dactyl/dactylref23.Maker).Figure", 37),
 ("(*dactyl/dactylref23.Maker).Melody", 38),
 ("(*dactyl/dactylref23.Maker).Lines", 39),
 ("(*dactyl/dactylref23.Maker).Phrase", 40),
 ("slices.Index[[]string,string]", 48),
 ("(*dactyl/dactylref23.Maker).term", 55),
 ("dactyl/dactylref23.box", 56),
 ("dactyl/dactylref23.Arity", 75)]
def gZ (s : String) : Nat := aCqZ aEMZ s
theorem fnsZ : LawFns AM0 gZ where
 law := ⟨by kernel_rfl, by kernel_rfl⟩
 exam := ⟨by kernel_rfl, by kernel_rfl⟩
 short := ⟨by kernel_rfl, by kernel_rfl⟩
 around := ⟨by kernel_rfl, by kernel_rfl⟩
 takeI := ⟨by kernel_rfl, by kernel_rfl⟩
 answer := ⟨by kernel_rfl, by kernel_rfl⟩
 answer1 := ⟨by kernel_rfl, by kernel_rfl⟩
 answer25 := ⟨by kernel_rfl, by kernel_rfl⟩
 score := ⟨by kernel_rfl, by kernel_rfl⟩
 score25 := ⟨by kernel_rfl, by kernel_rfl⟩
 without := ⟨by kernel_rfl, by kernel_rfl⟩
 count := ⟨by kernel_rfl, by kernel_rfl⟩
 count25 := ⟨by kernel_rfl, by kernel_rfl⟩
 joined := ⟨by kernel_rfl, by kernel_rfl⟩
 needed := ⟨by kernel_rfl, by kernel_rfl⟩
 indexf := ⟨by kernel_rfl, by kernel_rfl⟩
 index := ⟨by kernel_rfl, by kernel_rfl⟩
 contains := ⟨by kernel_rfl, by kernel_rfl⟩
 decimal := ⟨by kernel_rfl, by kernel_rfl⟩
 take := ⟨by kernel_rfl, by kernel_rfl⟩
 block := ⟨by kernel_rfl, by kernel_rfl⟩
 fact := ⟨by kernel_rfl, by kernel_rfl⟩
 has := ⟨by kernel_rfl, by kernel_rfl⟩
 question := ⟨by kernel_rfl, by kernel_rfl⟩
 at' := ⟨by kernel_rfl, by kernel_rfl⟩
 runs := ⟨by kernel_rfl, by kernel_rfl⟩
 expr := ⟨by kernel_rfl, by kernel_rfl⟩
 sum := ⟨by kernel_rfl, by kernel_rfl⟩
 grid := ⟨by kernel_rfl, by kernel_rfl⟩
 figure := ⟨by kernel_rfl, by kernel_rfl⟩
 melody := ⟨by kernel_rfl, by kernel_rfl⟩
 lines := ⟨by kernel_rfl, by kernel_rfl⟩
 phrase := ⟨by kernel_rfl, by kernel_rfl⟩
 term := ⟨by kernel_rfl, by kernel_rfl⟩
 box := ⟨by kernel_rfl, by kernel_rfl⟩
 arity := ⟨by kernel_rfl, by kernel_rfl⟩
 itoa := awmZ (by kernel_rfl)
 join := by kernel_rfl
 lives := fun H => by
  have e : gZ "dactyl/dactyllaw25.lives" = 14 := by kernel_rfl
  rw [e]
  refine akFZ ?_
  rfl
 facts := fun {it} h hs H => by
  have e : gZ "dactyl/dactylref25.Facts" = 6 := by kernel_rfl
  rw [e]
  obtain ⟨f, own, n, h1, h2, h3⟩ := aunZ h hs H
  exact ⟨_, H, [], h1, rfl, rfl, f, own, n, rfl, h2, h3⟩
theorem arhZ {l : List Int} (hl : acIZ l) {kind : Int} (hk : accZ kind) (vals : List Str) (other : Str) (needs : List Int) (H : List AObj) :
  aapZ AM0 3 [.sl false (l.map aaqZ), vi kind, .sl false (vals.map aadZ), .str other, .sl false (needs.map aaqZ)] H = some (.bool true, H, []) := by
 have h := argZ fnsZ hl hk vals other needs H
 have e : gZ "dactyl/dactyllaw25.SourceAnswers" = 3 := by kernel_rfl
 rwa [e] at h
end Go.AM
end
section
namespace Go.AM
open Go Go.ChangeShapes Go.WideShapes Go.ChangeAt Go.RowKit
def G0 (W : World) : G := { perm := fun b i => W.cell? ⟨b, i, none⟩, obj := fun _ => none, whole := fun b => W.heap[b]?, io := (W.os, W.output) }
theorem wf0 (W : World) : WF (G0 W) [] W where
 perm := fun _ _ _ h => h
 lt := fun _ _ h => by cases h
 blk := fun _ _ h => by cases h
 st := fun _ _ _ _ h => by cases h
 obj := fun _ _ _ hb => by have := hb.loc; cases this
 priv := fun _ _ _ hb => by have := hb.loc; cases this
 inj := fun _ _ _ _ _ _ hb => by have := hb.loc; cases this
 whole := ⟨fun _ _ h => ⟨h, fun _ _ _ hb => by have := hb.loc; cases this⟩, rfl⟩
theorem ariZ {W W' : World} {g' : G} {H' : List AObj} (h : Step (G0 W) [] W g' H' W' []) {b : Nat} (hb : b < W.heap.size) : W'.heap[b]? = W.heap[b]? := h.frame.2 b hb fun o ho => by cases ho
theorem awnZ {W W' : World} {g' : G} {H' : List AObj} (h : Step (G0 W) [] W g' H' W' []) (may : MemPlace -> Prop) : W.keptBut W' may := by
 have e := h.wf.whole.io
 rw [h.le.io] at e
 have e' : (W.os, W.output) = (W'.os, W'.output) := e
 refine ⟨(congrArg Prod.fst e').symm, (congrArg Prod.snd e').symm, fun i hi => ?_⟩
 rw [ariZ h hi]
 split <;> simp_all
section
variable {H : Type} {enc : TypeId × Value -> H} {P : Program} {W : World}
theorem ateZ {t e : TypeId} {base : Nat} {v : Value} {d : DataW H} {p : List MemPlace} (ht : P.underlying t = some (.slice e)) (he : P.underlying e = some (.int .i64)) (hc : P.cellsOf e = 1)
  (hval : Value.okWide P W .any base t v) (hd : DataW.Trod enc P W 0 (fun _ => true) true t v d p) :
  ∃ l : List Int, acIZ l /\ VRel (G0 W) (.sl false (l.map aaqZ)) v /\
   ∀ (W' : World) (sp : Nat -> Bool), (∀ b, b < W.heap.size -> W'.heap[b]? = W.heap[b]?) -> (∀ q ∈ p, sp q.block = true) -> DataW.Trod enc P W' 0 sp true t v d p := by
 simp only [Value.okWide, ht, Cell.okWide] at hval
 obtain ⟨fuel, hd⟩ := hd
 have hform : v = .slice none 0 0 ∨ ∃ a len cap, v = .slice (some a) len cap /\ a.spot = none := by
  unfold Cell.ok at hval
  rw [ht] at hval
  split at hval <;> first | exact hval.elim | skip
  all_goals first | (rename_i h; cases h; done) | skip
  ·exact .inl rfl
  ·exact .inr ⟨_, _, _, rfl, hval.2.2.2.1⟩
 rcases open_ints ht he hc hd with ⟨e1, e2⟩ | ⟨a, len, cap, zs, e1, _, hl, hm, hz, e2, hcell, hwf⟩
 ·have hv : v = .slice none 0 0 := by
   rcases hform with rfl | ⟨a, len, cap, rfl, _⟩
   ·rfl
   ·simp [Value.cells] at e1
  subst hv
  cases e2
  exact ⟨[], (fun a ha => by cases ha), .slNil _, fun W' sp _ _ => shut_slice_nil ht⟩
 ·have hv : v = .slice (some a) len cap /\ a.spot = none := by
   rcases hform with rfl | ⟨a', len', cap', rfl, hs⟩
   ·simp [Value.cells] at e1
   ·simp [Value.cells] at e1
    obtain ⟨rfl, rfl, rfl⟩ := e1
    exact ⟨rfl, hs⟩
  obtain ⟨rfl, hs⟩ := hv
  simp only [Prod.mk.injEq] at e2
  obtain ⟨rfl, rfl⟩ := e2
  simp only [if_true] at hz
  have hadd : ∀ i, a.add i = ⟨a.block, a.off + i, none⟩ := fun i => by
   have ea : a = ⟨a.block, a.off, none⟩ := by cases a; simp at hs; subst hs; rfl
   rw [ea]; exact Addr.add_lit _ _ _
  have hlt : 0 < zs.length -> a.block < W.heap.size := fun h0 => by
   have := hcell 0 h0
   rw [hadd] at this
   exact World.block_lt_of_cell? (a := ⟨a.block, a.off + 0, none⟩) W this
  refine ⟨zs.take len, fun n hn => ?_, ?_, fun W' sp hW' hsp => ?_⟩
  ·have := Go.bounds_i64 (hwf n (List.mem_of_mem_take hn))
   exact ⟨this.1, this.2⟩
  ·have ea : a = ⟨a.block, a.off, none⟩ := by cases a; simp at hs; subst hs; rfl
   have hlen : ((zs.take len).map aaqZ).length = len := by simp; omega
   have key : VRel (G0 W) (.sl false ((zs.take len).map aaqZ)) (.slice (some ⟨a.block, a.off, none⟩) ((zs.take len).map aaqZ).length cap) := by
    refine .sl false _ a.block a.off cap 1 (by omega) (fun h => by cases h) (fun row hr => ?_) (fun row hr => ?_) (fun i j hi hj => ?_) fun i j row c x hr hcc hx => ?_
    ·obtain ⟨n, _, rfl⟩ := List.mem_map.1 hr; rfl
    ·obtain ⟨n, _, rfl⟩ := List.mem_map.1 hr; rfl
    ·have : j = 0 := by omega
     subst this
     show (W.cell? ⟨a.block, a.off + i * 1 + 0, none⟩).isSome
     have := hcell i (by omega)
     rw [hadd] at this
     simp only [Nat.mul_one, Nat.add_zero, this]; rfl
    ·have hi : i < len := by rw [<- hlen]; exact (List.getElem?_eq_some_iff.1 hr).1
     have hj : j = 0 := by
      obtain ⟨n, _, rfl⟩ := List.mem_map.1 (List.mem_of_getElem? hr)
      have := (List.getElem?_eq_some_iff.1 hcc).1
      simp [aaqZ] at this
      exact this
     subst hj
     have hx' : W.cell? ⟨a.block, a.off + i * 1 + 0, none⟩ = some x := hx
     have hc2 := hcell i (by omega)
     rw [hadd] at hc2
     simp only [Nat.mul_one, Nat.add_zero] at hx'
     rw [hc2] at hx'
     cases hx'
     rw [List.getElem?_map] at hr
     have hz2 : (zs.take len)[i]? = some (zs.getD i 0) := by
      rw [List.getElem?_take, if_pos hi, List.getElem?_eq_getElem (by omega)]
      simp [List.getD, show i < zs.length by omega]
     rw [hz2] at hr
     simp only [Option.map_some, Option.some.injEq] at hr
     subst hr
     simp only [aaqZ, List.getElem?_cons_zero, Option.some.injEq] at hcc
     subst hcc
     exact .int _ _
   rw [hlen, <- ea] at key
   exact key
  ·refine ⟨2, shut_ints 0 ht he hc (Nat.zero_le _) hl hm ?_ (fun i hi => ?_) hwf⟩
   ·by_cases h0 : 0 < zs.length
    ·have : sp a.block = true := hsp (.cell a.block (a.off + 0)) (MemPlace.mem_row.2 ⟨0, h0, rfl⟩)
     rw [this, if_pos rfl, hz]
    ·split <;> omega
   ·have h1 := hcell i hi
    rw [hadd] at h1 ⊢
    exact (World.cell?_of_block (a := ⟨a.block, a.off + i, none⟩) (hW' a.block (hlt (by omega)))).trans h1
end
end Go.AM
end
section
namespace Go.AM
open Go Go.ChangeShapes Go.WideShapes Go.ChangeAt Go.RowKit Go.Deep
section
variable {H : Type} {enc : TypeId × Value -> H} {P : Program} {W : World}
theorem axHZ {t e : TypeId} {base : Nat} {v : Value} {d : DataW H} {p : List MemPlace} (ht : P.underlying t = some (.slice e)) (he : P.underlying e = some .string) (hc : P.cellsOf e = 1)
  (hval : Value.okWide P W .any base t v) (hd : DataW.Trod enc P W 0 (fun _ => true) true t v d p) :
  ∃ l : List Str, VRel (G0 W) (.sl false (l.map aadZ)) v /\
   ∀ (W' : World) (sp : Nat -> Bool), (∀ b, b < W.heap.size -> W'.heap[b]? = W.heap[b]?) -> (∀ q ∈ p, sp q.block = true) -> DataW.Trod enc P W' 0 sp true t v d p := by
 simp only [Value.okWide, ht, Cell.okWide] at hval
 obtain ⟨fuel, hd⟩ := hd
 have hform : v = .slice none 0 0 ∨ ∃ a len cap, v = .slice (some a) len cap /\ a.spot = none := by
  unfold Cell.ok at hval
  rw [ht] at hval
  split at hval <;> first | exact hval.elim | skip
  all_goals first | (rename_i h; cases h; done) | skip
  ·exact .inl rfl
  ·exact .inr ⟨_, _, _, rfl, hval.2.2.2.1⟩
 rcases open_strings ht he hc hd with ⟨e1, e2⟩ | ⟨a, len, cap, zs, e1, _, hl, hm, hz, e2, hcell, hwf⟩
 ·have hv : v = .slice none 0 0 := by
   rcases hform with rfl | ⟨a, len, cap, rfl, _⟩
   ·rfl
   ·simp [Value.cells] at e1
  subst hv
  cases e2
  exact ⟨[], .slNil _, fun W' sp _ _ => shut_slice_nil ht⟩
 ·have hv : v = .slice (some a) len cap /\ a.spot = none := by
   rcases hform with rfl | ⟨a', len', cap', rfl, hs⟩
   ·simp [Value.cells] at e1
   ·simp [Value.cells] at e1
    obtain ⟨rfl, rfl, rfl⟩ := e1
    exact ⟨rfl, hs⟩
  obtain ⟨rfl, hs⟩ := hv
  simp only [Prod.mk.injEq] at e2
  obtain ⟨rfl, rfl⟩ := e2
  simp only [if_true] at hz
  have hadd : ∀ i, a.add i = ⟨a.block, a.off + i, none⟩ := fun i => by
   have ea : a = ⟨a.block, a.off, none⟩ := by cases a; simp at hs; subst hs; rfl
   rw [ea]; exact Addr.add_lit _ _ _
  have hlt : 0 < zs.length -> a.block < W.heap.size := fun h0 => by
   have := hcell 0 h0
   rw [hadd] at this
   exact World.block_lt_of_cell? (a := ⟨a.block, a.off + 0, none⟩) W this
  refine ⟨(zs.take len).map fun s => s.data.toList, ?_, fun W' sp hW' hsp => ?_⟩
  ·have ea : a = ⟨a.block, a.off, none⟩ := by cases a; simp at hs; subst hs; rfl
   have hlen : (((zs.take len).map fun s => s.data.toList).map aadZ).length = len := by simp; omega
   have key : VRel (G0 W) (.sl false (((zs.take len).map fun s => s.data.toList).map aadZ)) (.slice (some ⟨a.block, a.off, none⟩) (((zs.take len).map fun s => s.data.toList).map aadZ).length cap) := by
    refine .sl false _ a.block a.off cap 1 (by omega) (fun h => by cases h) (fun row hr => ?_) (fun row hr => ?_) (fun i j hi hj => ?_) fun i j row c x hr hcc hx => ?_
    ·obtain ⟨n, _, rfl⟩ := List.mem_map.1 hr; rfl
    ·obtain ⟨n, _, rfl⟩ := List.mem_map.1 hr; rfl
    ·have : j = 0 := by omega
     subst this
     show (W.cell? ⟨a.block, a.off + i * 1 + 0, none⟩).isSome
     have := hcell i (by omega)
     rw [hadd] at this
     simp only [Nat.mul_one, Nat.add_zero, this]; rfl
    ·have hi : i < len := by rw [<- hlen]; exact (List.getElem?_eq_some_iff.1 hr).1
     have hj : j = 0 := by
      obtain ⟨n, _, rfl⟩ := List.mem_map.1 (List.mem_of_getElem? hr)
      have := (List.getElem?_eq_some_iff.1 hcc).1
      simp [aadZ] at this
      exact this
     subst hj
     have hx' : W.cell? ⟨a.block, a.off + i * 1 + 0, none⟩ = some x := hx
     have hc2 := hcell i (by omega)
     rw [hadd] at hc2
     simp only [Nat.mul_one, Nat.add_zero] at hx'
     rw [hc2] at hx'
     cases hx'
     rw [List.getElem?_map, List.getElem?_map] at hr
     have hz2 : (zs.take len)[i]? = some (zs.getD i ByteArray.empty) := by
      rw [List.getElem?_take, if_pos hi, List.getElem?_eq_getElem (by omega)]
      simp [List.getD, show i < zs.length by omega]
     rw [hz2] at hr
     simp only [Option.map_some, Option.some.injEq] at hr
     subst hr
     simp only [aadZ, List.getElem?_cons_zero, Option.some.injEq] at hcc
     subst hcc
     exact .str _
   rw [hlen, <- ea] at key
   exact key
  ·have ea : a = ⟨a.block, a.off, none⟩ := by cases a; simp at hs; subst hs; rfl
   have e1 : (List.range len).map (fun i => (DataW.lit (.string (zs.getD i ByteArray.empty).data.toList) : DataW H)) = strs (zs.take len) := by
    apply List.ext_getElem?
    intro i
    by_cases hi : i < len
    ·simp [strs, hi, List.getD, show i < zs.length by omega]
    ·simp [strs, hi, List.getElem?_take]
   have e2 : (List.range (cap - len)).map (fun j => (DataW.lit (.string (zs.getD (len + j) ByteArray.empty).data.toList) : DataW H)) = strs (zs.drop len) := by
    apply List.ext_getElem?
    intro i
    by_cases hi : i < cap - len
    ·simp [strs, hi, List.getD, show len + i < zs.length by omega]
    ·simp [strs, hi, show zs.length <= len + i by omega]
   have hcell' : ∀ i, i < cap -> W'.cell? ⟨a.block, a.off + i, none⟩ = some (.string (zs.getD i ByteArray.empty)) := fun i hi => by
    have h1 := hcell i (by omega)
    rw [hadd] at h1
    exact (World.cell?_of_block (a := ⟨a.block, a.off + i, none⟩) (hW' a.block (hlt (by omega)))).trans h1
   have hsz : ∀ i, i < cap -> (zs.getD i ByteArray.empty).size <= maxLen := fun i hi => hwf _ (by
    have : zs.getD i ByteArray.empty = zs[i]'(by omega) := by simp [List.getD, show i < zs.length by omega]
    rw [this]
    exact List.getElem_mem _)
   by_cases h0 : 0 < zs.length
   ·have hsp1 : sp a.block = true := hsp (.cell a.block (a.off + 0)) (MemPlace.mem_row.2 ⟨0, h0, rfl⟩)
    obtain ⟨n, hn⟩ := shut_strs_whole (enc := enc) (w := W') (spare := sp) (held := true) (base := 0) ht he hc (b := a.block) (off := a.off) (Nat.zero_le _) hl hm hsp1 (fun i => zs.getD i ByteArray.empty) hcell' hsz
    rw [e1, e2, <- ea] at hn
    exact ⟨n, by rw [hz]; exact hn⟩
   ·have hc0 : cap = 0 := by omega
    have hz0 : zs = [] := List.length_eq_zero_iff.1 (by omega)
    subst hz0
    cases hsb : sp a.block with
    | true =>
     obtain ⟨n, hn⟩ := shut_strs_whole (enc := enc) (w := W') (spare := sp) (held := true) (base := 0) ht he hc (b := a.block) (off := a.off) (Nat.zero_le _) hl hm hsb (fun i => ([] : List ByteArray).getD i ByteArray.empty) hcell' hsz
     rw [e1, e2, <- ea] at hn
     exact ⟨n, by rw [hz]; exact hn⟩
    | false =>
     obtain ⟨n, hn⟩ := shut_strs (enc := enc) (w := W') (spare := sp) (held := true) (base := 0) ht he hc (b := a.block) (off := a.off) (Nat.zero_le _) hl hm hsb (fun i => ([] : List ByteArray).getD i ByteArray.empty) (fun i hi => by omega) (fun i hi => by omega)
     have hl0 : len = 0 := by omega
     subst hl0
     rw [<- ea] at hn
     exact ⟨n, hn.trans (by simp [strs])⟩
end
end Go.AM
end
