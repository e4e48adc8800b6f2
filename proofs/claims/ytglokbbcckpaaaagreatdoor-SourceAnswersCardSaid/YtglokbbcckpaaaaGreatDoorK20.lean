/- Part 20 of the proof that stands in the last text of this folder (lemmas; no statement of its own). -/
import Derived.Test.YtglokbbcckpaaaaGreatDoorK11
import Derived.Test.YtglokbbcckpaaaaGreatDoorK13
import Derived.Test.YtglokbbcckpaaaaGreatDoorK19
set_option linter.unusedVariables false
set_option linter.unusedSimpArgs false
open Nat renaming reduceBEq -> NB, reduceAdd -> NA, reduceLT -> NL, reduceLeDiff -> ND, reduceEqDiff -> NE
open Int renaming reduceLT -> IL, reduceToNat -> IT, reduceBEq -> IB, reduceNeg -> IM
open Bool renaming not_true -> BT
section
set_option maxRecDepth 8000
namespace Go.AM
open Go
abbrev alPZ (g : String -> Nat) : List AOper := [⟨some 26, .load 1 false (.tmp 5), none, []⟩,⟨some 27, .mov (.tmp 1), none, []⟩,⟨some 28, .mov (.tmp 7), none, []⟩,⟨some 29, .iaV (.tmp 27) (.tmp 28) 1, none, [1, 2]⟩,⟨some 30, .load 1 false (.tmp 29), none, [3, 1, 2]⟩,⟨some 31, .bsl 1 [(.str [])] 1 [(0, (.tmp 30))], none, [4, 3, 1, 2]⟩,⟨some 32, .app 1 16 (.tmp 26) (.tmp 31), none, [0, 5, 4, 3, 1, 2]⟩,⟨none, .store 1 (.tmp 5) (.tmp 32), none, [6, 0, 5, 4, 3, 1, 2]⟩]
abbrev ahBZ : List Nat := []
abbrev alQZ (g : String -> Nat) : ACode := .seq (.region false [⟨some 15, .bin .lss .no (.tmp 14) (.tmp 13), none, []⟩]) <| .seq (.cond (.tmp 15) (.skip) (.exit 0)) <| .seq (.block 1 (.seq (.region false [⟨some 16, .iaV (.tmp 12) (.tmp 14) 1, none, []⟩,⟨some 17, .load 1 false (.tmp 16), none, [0]⟩,⟨some 7, .mov (.tmp 17), none, [1, 0]⟩]) <| .seq (.region false [⟨some 18, .mov (.tmp 7), none, []⟩,⟨some 19, .bin .geq .no (.tmp 18) (.const (.int .i64 0)), none, [0]⟩,⟨some 20, .mov (.tmp 19), none, [1, 0]⟩,⟨some 21, .mov (.tmp 7), some (some 20, true), [2, 1, 0]⟩,⟨some 22, .mov (.tmp 1), some (some 20, true), [2, 1, 0]⟩,⟨some 23, .lenV (.tmp 22), some (some 20, true), [4, 2, 1, 0]⟩,⟨some 24, .bin .lss .no (.tmp 21) (.tmp 23), some (some 20, true), [3, 5, 4, 2, 1, 0]⟩,⟨some 25, .pick (.tmp 20) (.tmp 24) (.const (.bool false)), none, [6, 3, 5, 4, 2, 1, 0]⟩]) <| .cond (.tmp 25) (.region true (alPZ g)) (.skip))) <| .region false [⟨some 33, .bin .add .no (.tmp 14) (.const (.int .i64 1)), none, []⟩,⟨some 14, .mov (.tmp 33), none, [0]⟩]
abbrev alRZ : List Nat := [15, 16, 17, 7, 18, 19, 20, 21, 22, 23, 24, 25, 26, 27, 28, 29, 30, 31, 32, 33, 14]
abbrev alSZ (g : String -> Nat) : ACode := .seq (.region false [⟨some 49, .bin .lss .no (.tmp 48) (.tmp 47), none, []⟩]) <| .seq (.cond (.tmp 49) (.skip) (.exit 3)) <| .seq (.block 4 (.seq (.region false [⟨some 50, .iaV (.tmp 46) (.tmp 48) 1, none, []⟩,⟨some 51, .load 1 false (.tmp 50), none, [0]⟩,⟨some 10, .mov (.tmp 51), none, [1, 0]⟩]) <| .region false [⟨some 52, .mov (.tmp 8), none, []⟩,⟨some 53, .mov (.tmp 10), none, []⟩,⟨some 54, .callv (.const (.fn (g "dactyl/source.count") [] [])) [(.tmp 53)], none, [1]⟩,⟨some 55, .bin .add .no (.tmp 52) (.tmp 54), none, [0, 2, 1]⟩,⟨some 8, .mov (.tmp 55), none, [3, 0, 2, 1]⟩])) <| .region false [⟨some 56, .bin .add .no (.tmp 48) (.const (.int .i64 1)), none, []⟩,⟨some 48, .mov (.tmp 56), none, [0]⟩]
abbrev alTZ : List Nat := [49, 50, 51, 10, 52, 53, 54, 55, 8, 56, 48]
def ahCZ (g : String -> Nat) : ACode := .block 2 (.seq (.region false [⟨some 37, .bin .eql .no (.tmp 35) (.const (.int .i64 0)), none, []⟩,⟨some 36, .mov (.tmp 37), none, [0]⟩]) <| .cond (.tmp 36) (.seq (.region false [⟨some 38, .fa 2 (.tmp 2), none, []⟩,⟨some 39, .load 1 false (.tmp 38), none, [0]⟩,⟨some 40, .mkf (g "dactyl/source.Answer$1") [] [(.tmp 5)], none, []⟩,⟨some 41, .callv (.const (.fn (g "slices.IndexFunc[[]string,string]") [] [])) [(.tmp 39), (.tmp 40)], none, [1, 0, 2]⟩,⟨some 42, .mm true [(.const (.int .i64 0)), (.tmp 41)], none, [3, 1, 0, 2]⟩,⟨some 43, .callv (.const (.fn (g "strconv.Itoa") [] [])) [(.tmp 42)], none, [4, 3, 1, 0, 2]⟩,⟨some 4, .mov (.tmp 43), none, [5, 4, 3, 1, 0, 2]⟩]) <| .ret) (.seq (.region false [⟨some 45, .bin .eql .no (.tmp 35) (.const (.int .i64 1)), none, []⟩,⟨some 44, .mov (.tmp 45), none, [0]⟩]) <| .cond (.tmp 44) (.seq (.region false [⟨some 8, .mov (.const (.int .i64 0)), none, []⟩]) <| .seq (.seq (.region false [⟨some 46, .load 1 false (.tmp 5), none, []⟩,⟨some 47, .lenV (.tmp 46), none, [0]⟩,⟨some 48, .mov (.const (.int .i64 0)), none, []⟩]) <| .block 3 (.loop (alSZ g))) <| .seq (.region false [⟨some 57, .mov (.tmp 8), none, []⟩,⟨some 58, .bin .rem .no (.tmp 57) (.const (.int .i64 1000)), none, [0]⟩,⟨some 59, .callv (.const (.fn (g "strconv.Itoa") [] [])) [(.tmp 58)], none, [1, 0]⟩,⟨some 4, .mov (.tmp 59), none, [2, 1, 0]⟩]) <| .ret) (.seq (.region false [⟨some 61, .bin .eql .no (.tmp 35) (.const (.int .i64 2)), none, []⟩,⟨some 60, .mov (.tmp 61), none, [0]⟩]) <| .cond (.tmp 60) (.seq (.region false [⟨some 62, .load 1 false (.tmp 5), none, []⟩,⟨some 63, .callv (.const (.fn (g "strings.Join") [] [])) [(.tmp 62), (.const (.str [32]))], none, [0]⟩,⟨some 4, .mov (.tmp 63), none, [1, 0]⟩]) <| .ret) (.skip))))
def afkZ (g : String -> Nat) : AFn := ⟨64, [2, 5, 32], [.tmp 4],.seq (.region false [⟨some 2, .box 7 (.tmp 0), none, []⟩,⟨some 4, .mov (.const (.str [])), none, []⟩]) <| .seq (.region false [⟨some 5, .alloc [(.sl true [])], none, []⟩]) <| .seq (.seq (.region false [⟨some 11, .fa 3 (.tmp 2), none, []⟩,⟨some 12, .load 1 false (.tmp 11), none, [0]⟩,⟨some 13, .lenV (.tmp 12), none, [1, 0]⟩,⟨some 14, .mov (.const (.int .i64 0)), none, []⟩]) <| .block 0 (.loop (alQZ g))) <| .seq (.seq (.region false [⟨some 34, .fa 0 (.tmp 2), none, []⟩,⟨some 35, .load 1 false (.tmp 34), none, [0]⟩]) <| ahCZ g) <| .seq (.region false [⟨some 4, .mov (.const (.str [])), none, []⟩]) <| .ret⟩
theorem arBZ {A : AProg} {g : String -> Nat} (h : Has A g "slices.IndexFunc[[]string,string]" (aaQZ g)) {l : List Str} (hl : l.length <= 1000000000) {f o v : Nat} {p : Str -> Bool} {H : List AObj}
  (hc : ∀ s ∈ l, aapZ A f [.str s, .ptr o v 0] H = some (.bool (p s), H, [])) :
  aapZ A (g "slices.IndexFunc[[]string,string]") [.sl false (l.map aadZ), .fn f [] [.ptr o v 0]] H = some (vi (idxI p l), H, []) := by
 refine h.call (by simp [aaQZ]) (by kernel_rfl) ?_
 simp only [aaQZ]
 simp only [go_sem, ↓aafZ, NB, IM, List.length_map, List.append_nil]
 refine aaWZ (id := 0) (W := aetZ) (fun i ρ1 H1 wr => wr = [] /\ H1 = H /\ ρ1 8 = vi i /\ ∀ j (hj : j < i) (hl : j < l.length), p l[j] = false) l.length
  (fun ρ1 H1 wr => wr = [] /\ H1 = H /\ ∀ j (hl : j < l.length), p l[j] = false)
  (by kernel_rfl) (by rfl) ⟨rfl, by simp, rfl, fun j hj => by omega⟩ ?_ ?_
 ·rintro i ρ1 H1 wr1 hil ⟨rfl, rfl, e8, hn⟩ hf
  have e0 : ρ1 0 = .sl false (l.map aadZ) := by rw [hf 0 (by rfl)]; rfl
  have e1 : ρ1 1 = .fn f [] [.ptr o v 0] := by rw [hf 1 (by rfl)]; rfl
  have e7 : ρ1 7 = vi l.length := by rw [hf 7 (by rfl)]; rfl
  simp only [go_sem, ↓aafZ, IM, e8, e7]
  refine aacZ (fun hb => ?_) (fun hb => ?_)
  ·have hlt : i < l.length := by simpa using hb
   have hg : (l.map aadZ)[i]? = some [.str l[i]] := getElem?_map_of hlt
   have hn0 : (0 : Int) <= (i : Int) := by omega
   have hto : ((i : Int)).toNat = i := by omega
   have hw9 : IntKind.i64.wrap ((i : Int) + 1) = ((i + 1 : Nat) : Int) := by rw [wrap_i64 (by omega) (by omega)]; omega
   have hcall := hc l[i] (List.getElem_mem hlt)
   cases hp : p l[i] with
   | true =>
    rw [hp] at hcall
    simp only [go_sem, ↓aafZ, ↓reduceIte, NB, IM, e0, e1, e8, hg, hn0, hto, hcall, List.isEmpty_nil]
    exact (arzZ (p := p) hlt hp fun j hj => hn j hj (by omega)).symm ▸ rfl
   | false =>
    rw [hp] at hcall
    simp only [go_sem, ↓aafZ, ↓reduceIte, NB, IM, e0, e1, e8, hg, hn0, hto, hcall, List.isEmpty_nil, hw9]
    refine ⟨hlt, fun j hj hjl => ?_⟩
    by_cases e : j = i
    ·subst e; exact hp
    ·exact hn j (by omega) hjl
  ·have hi : i = l.length := by simp at hb; omega
   subst hi
   simp only [go_sem, IM]
   exact fun j hj => hn j hj hj
 ·rintro ρ' H' wr' ⟨rfl, rfl, hn⟩ hf
  simp only [go_sem, ↓aafZ, IM, amSZ (p := p) hn]
def adyZ (l : List Str) : Nat := (l.map adNZ).sum
theorem aqtZ (s : Str) : adNZ s <= 1000 * s.length + 1000 := by
 have := akGZ s.length s (Nat.le_refl _)
 rw [List.take_length] at this
 unfold adNZ
 omega
theorem aquZ : ∀ {l : List Str}, (∀ s ∈ l, s.length <= 1000000000) -> adyZ l <= l.length * 1000000001000
 | [], _ => by simp [adyZ]
 | a :: r, h => by
  have h1 := aquZ (l := r) fun s hs => h s (List.mem_cons_of_mem _ hs)
  have h2 := aqtZ a
  have h3 := h a (by simp)
  have e : adyZ (a :: r) = adNZ a + adyZ r := by simp [adyZ]
  rw [e, List.length_cons, Nat.succ_mul]
  omega
def arCZ (kind : Int) (opts l : List Str) : Str :=
 if kind = 0 then dec (if (0 : Int) < idxI (fun o => l.any fun x => o == x) opts then idxI (fun o => l.any fun x => o == x) opts else 0).toNat
 else if kind = 1 then dec (adyZ l % 1000)
 else if kind = 2 then jn [32] l
 else []
def afSZ (q : Question) (vals : List Str) : Str := arCZ q.kind q.options (needed q.needs vals)
theorem aorZ {needs : List Int} {vals : List Str} {s : Str} (h : s ∈ needed needs vals) : s ∈ vals := by
 unfold needed at h
 obtain ⟨n, _, hn⟩ := List.mem_filterMap.1 h
 split at hn
 ·exact List.mem_of_getElem? hn
 ·cases hn
structure AnsFns (A : AProg) (g : String -> Nat) : Prop where
 itoa : apgZ A g
 closure : ∀ {l : List Str} {s : Str}, l.length <= 1000000000 -> ∀ {H : List AObj} {o v id : Nat} {cell : AV} {ob : AObj}, H[o]? = some (.box v [cell]) -> H[id]? = some ob -> GSl id 1 (l.map aadZ) cell ob ->
  aapZ A (g "dactyl/source.Answer$1") [.str s, .ptr o v 0] H = some (.bool (l.any fun x => s == x), H, [])
 indexf : ∀ {l : List Str}, l.length <= 1000000000 -> ∀ {f o v : Nat} {p : Str -> Bool} {H : List AObj}, (∀ s ∈ l, aapZ A f [.str s, .ptr o v 0] H = some (.bool (p s), H, [])) ->
  aapZ A (g "slices.IndexFunc[[]string,string]") [.sl false (l.map aadZ), .fn f [] [.ptr o v 0]] H = some (vi (idxI p l), H, [])
 count : ∀ (s : Str), s.length <= 1000000000 -> ∀ H, aapZ A (g "dactyl/source.count") [.str s] H = some (vi (adNZ s), H, [])
 join : ∀ (l : List Str) (sep : Str) (H : List AObj), l.length <= 1000000000 -> (jn sep l).length <= 1000000000000 -> aapZ A (g "strings.Join") [.sl false (l.map aadZ), .str sep] H = some (.str (jn sep l), H, [])
theorem aqvZ {A : AProg} {g : String -> Nat} (h : Has A g "dactyl/source.Answer" (afkZ g)) (F : AnsFns A g) (q : Question) (vals : List Str) (hn : q.needs.length <= 1000000) (hv : vals.length <= 1000000000) (ho : q.options.length <= 900000)
  (hs : ∀ s ∈ needed q.needs vals, s.length <= 1000000000) (hj : (jn [32] (needed q.needs vals)).length <= 1000000000000) (H : List AObj) :
  aapZ A (g "dactyl/source.Answer") [.agg (encQ q), .sl false (vals.map aadZ)] H = some (.str (afSZ q vals), H, []) := by
 refine h.call (by simp [afkZ]) (by kernel_rfl) ?_
 simp only [afkZ]
 simp only [go_sem, ↓aafZ, ↓reduceIte, NB, NA, NL, ND, NE, encQ, List.length_map]
 refine aaWZ (id := 0) (W := alRZ) (fun i ρ1 H1 wr => wr = [] /\ ρ1 14 = vi i /\ ∃ cell o1, H1 = H ++ [.box 1 (encQ q), .box 1 [cell], o1] /\ GSl (H.length + 2) 1 ((needed (q.needs.take i) vals).map aadZ) cell o1) q.needs.length
  (fun ρ1 H1 wr => wr = [] /\ ∃ cell o1, H1 = H ++ [.box 1 (encQ q), .box 1 [cell], o1] /\ GSl (H.length + 2) 1 ((needed q.needs vals).map aadZ) cell o1)
  (by kernel_rfl) (by rfl) ⟨rfl, rfl, _, _, rfl, .nil _⟩ ?_ ?_
 ·rintro i ρ1 H1 wr1 hil ⟨rfl, e14, cell, o1, rfl, hg⟩ hf
  have e1 : ρ1 1 = .sl false (vals.map aadZ) := by rw [hf 1 (by rfl)]; rfl
  have e5 : ρ1 5 = .ptr (H.length + 1) 1 0 := by rw [hf 5 (by rfl)]; rfl
  have e12 : ρ1 12 = .sl false (q.needs.map aaqZ) := by rw [hf 12 (by rfl)]; rfl
  have e13 : ρ1 13 = vi q.needs.length := by rw [hf 13 (by rfl)]; rfl
  simp only [go_sem, ↓aafZ, e14, e13]
  refine aacZ (fun hb => ?_) (fun hb => ?_)
  ·have hlt : i < q.needs.length := by simpa using hb
   have hgi : (q.needs.map aaqZ)[i]? = some [vi q.needs[i]] := getElem?_map_of hlt
   have hn0 : (0 : Int) <= (i : Int) := by omega
   have hto : ((i : Int)).toNat = i := by omega
   have hw6 : IntKind.i64.wrap ((i : Int) + 1) = ((i + 1 : Nat) : Int) := by rw [wrap_i64 (by omega) (by omega)]; omega
   have hj2 := amRZ (vals := vals) hlt
   by_cases hlo : 0 <= q.needs[i]
   ·have hge : decide (q.needs[i] ≥ 0) = true := by simp; omega
    by_cases hhi : q.needs[i] < (vals.length : Int)
    ·have hlt2 : decide (q.needs[i] < (vals.length : Int)) = true := by simpa using hhi
     have hv2 : q.needs[i].toNat < vals.length := by omega
     have hgv : (vals.map aadZ)[q.needs[i].toNat]? = some [.str (vals.getD q.needs[i].toNat [])] := by rw [List.getElem?_map, List.getD_eq_getElem?_getD, List.getElem?_eq_getElem hv2]; rfl
     have hl := agOZ (vals := vals) (q.needs.take i)
     obtain ⟨v', o', hg', happ⟩ := hg.app (new := [[.str (vals.getD q.needs[i].toNat [])]]) (bytes := 16) (by simp) (by rfl) (by simp at hl ⊢; omega)
     have hne : (H.length + 1 == H.length + 2) = false := by simp
     simp only [go_sem, ↓aafZ, ↓reduceIte, NB, e14, e12, hgi, hn0, hto, hlo, beq_self_eq_true, e1, hlt2, List.length_map]
     refine aaPZ (keep := ahBZ) (by rfl) (by rfl) ?_
     simp only [go_sem, ↓aafZ, ↓reduceIte, NB, NA, NL, NE, ahBZ, e5, e1, e14, hgv, hlo, happ, hg'.cellOk, hg'.strip1, hw6]
     exact ⟨hlt, v', o', rfl, by rw [hj2, if_pos ⟨hlo, hhi⟩, List.map_append]; exact hg'⟩
    ·have hlt2 : decide (q.needs[i] < (vals.length : Int)) = false := by simpa using hhi
     simp only [go_sem, ↓aafZ, ↓reduceIte, NB, e14, e12, hgi, hn0, hto, hlo, beq_self_eq_true, e1, hlt2, hw6, List.length_map]
     exact ⟨hlt, cell, o1, rfl, by rw [hj2, if_neg (fun h => hhi h.2), List.append_nil]; exact hg⟩
   ·have hge : decide (q.needs[i] ≥ 0) = false := by simp; omega
    simp only [go_sem, ↓aafZ, ↓reduceIte, NB, BT, e14, e12, hgi, hn0, hto, hge, Bool.false_beq, hw6]
    exact ⟨hlt, cell, o1, rfl, by rw [hj2, if_neg (fun h => hlo h.1), List.append_nil]; exact hg⟩
  ·have hi : i = q.needs.length := by simp at hb; omega
   subst hi
   rw [List.take_length] at hg
   simp only [go_sem]
   exact ⟨cell, o1, rfl, hg⟩
 ·rintro ρ' H' wr' ⟨rfl, cell, o1, rfl, hg⟩ hf
  have e2 : ρ' 2 = .ptr H.length 1 0 := by rw [hf 2 (by rfl)]; rfl
  have e5 : ρ' 5 = .ptr (H.length + 1) 1 0 := by rw [hf 5 (by rfl)]; rfl
  clear hf
  simp only [go_sem, ↓aafZ, ↓reduceIte, NA, ND, e2, encQ, ahCZ]
  have hL := agOZ (vals := vals) q.needs
  have hmem := hs
  clear hs
  unfold afSZ arCZ
  generalize needed q.needs vals = L at *
  by_cases k0 : q.kind = 0
  ·rw [k0, if_pos rfl]
   have hcl : ∀ s ∈ q.options, aapZ A (g "dactyl/source.Answer$1") [.str s, .ptr (H.length + 1) 1 0] (H ++ [.box 1 (encQ q), .box 1 [cell], o1]) = some (.bool (L.any fun x => s == x), H ++ [.box 1 (encQ q), .box 1 [cell], o1], []) := fun s _ =>
    F.closure (id := H.length + 2) (ob := o1) (by omega) (by simp) (by simp) hg
   have hix := F.indexf (l := q.options) (by omega) hcl
   have hle : idxI (fun o => L.any fun x => o == x) q.options <= 900000 := by
    unfold idxI
    split
    ·rename_i j hj
     have := (List.findIdx?_eq_some_iff_getElem.1 hj).1
     omega
    ·omega
   rw [show encQ q = [vi 0, .sl false (q.stem.map afzZ), .sl false (q.options.map aadZ), .sl false (q.needs.map aaqZ), .str q.key, vi q.points, .sl false (q.reasons.map aadZ)] by rw [encQ, k0]] at hix
   generalize idxI (fun o => L.any fun x => o == x) q.options = ix at *
   obtain ⟨n, hn2, hn3⟩ : ∃ n : Nat, (if (0 : Int) < ix then ix else 0) = (n : Int) /\ n < 1000000 := ⟨(if (0 : Int) < ix then ix else 0).toNat, by split <;> omega, by split <;> omega⟩
   have hit := F.itoa n
   simp only [go_sem, ↓aafZ, ↓reduceIte, NB, NA, ND, NE, IB, e2, e5, hix, List.append_nil, gt_iff_lt, hn2, hit, hn3, Int.toNat_natCast, List.isEmpty_nil]
  ·rw [if_neg k0]
   have k0' : (q.kind == 0) = false := by simpa using k0
   by_cases k1 : q.kind = 1
   ·rw [k1, if_pos rfl]
    have hcn : adyZ L % 1000 < 1000000 := by omega
    have hitc := F.itoa (adyZ L % 1000)
    generalize hr : L.map aadZ = rows at hg
    cases hg with
    | nil =>
     have hl0 : L = [] := by simpa using hr
     subst hl0
     simp only [go_sem, ↓aafZ, ↓reduceIte, NB, IB, e5, beq_self_eq_true]
     refine ayEZ (by kernel_rfl) ?_
     simp only [go_sem, ↓aafZ, ↓reduceIte, NB, NE, aeFZ (b := 1000) (by decide), show ((0 : Int).tmod 1000) = ((adyZ [] % 1000 : Nat) : Int) from rfl, hitc, hcn]
    | obj ver rows =>
     subst hr
     simp only [go_sem, ↓aafZ, ↓reduceIte, NB, IB, e5, beq_self_eq_true, List.length_map]
     refine aaWZ (id := 3) (W := alTZ) (fun i ρ1 H1 wr => wr = [] /\ H1 = H ++ [.box 1 (encQ q), .box 1 [.sr (H.length + 2) ver L.length], .vec ver 1 (L.map aadZ)] /\ ρ1 48 = vi i /\ ρ1 8 = vi (adyZ (L.take i))) L.length
      (fun ρ1 H1 wr => wr = [] /\ H1 = H ++ [.box 1 (encQ q), .box 1 [.sr (H.length + 2) ver L.length], .vec ver 1 (L.map aadZ)] /\ ρ1 8 = vi (adyZ L))
      (by kernel_rfl) (by rfl) ⟨rfl, by rw [encQ, k1], rfl, rfl⟩ ?_ ?_
     ·rintro i ρ1 H1 wr1 hil ⟨rfl, rfl, e48, e8⟩ hf
      have e46 : ρ1 46 = .sr (H.length + 2) ver L.length := by rw [hf 46 (by rfl)]; rfl
      have e47 : ρ1 47 = vi L.length := by rw [hf 47 (by rfl)]; rfl
      have hcb := aquZ (fun s hm => hmem s (List.mem_of_mem_take (i := i) hm))
      simp only [go_sem, ↓aafZ, e48, e47]
      refine aacZ (fun hb => ?_) (fun hb => ?_)
      ·have hlt : i < L.length := by simpa using hb
       have hgi : (L.map aadZ)[i]? = some [.str L[i]] := getElem?_map_of hlt
       have hn0 : (0 : Int) <= (i : Int) /\ (i : Int) < (L.length : Int) := by omega
       have hto : ((i : Int)).toNat = i := by omega
       have hw9 : IntKind.i64.wrap ((i : Int) + 1) = ((i + 1 : Nat) : Int) := by rw [wrap_i64 (by omega) (by omega)]; omega
       have hm := hmem L[i] (List.getElem_mem hlt)
       have hcn1 := aqtZ L[i]
       have hlen : (L.take i).length <= 1000000 := by simp; omega
       have hst : adyZ (L.take (i + 1)) = adyZ (L.take i) + adNZ L[i] := by
        unfold adyZ
        rw [List.take_add_one, List.getElem?_eq_getElem hlt]
        simp only [Option.toList_some, List.map_append, List.sum_append, List.map_cons, List.map_nil, List.sum_cons, List.sum_nil, Nat.add_zero]
       have hwa : IntKind.i64.wrap ((adyZ (L.take i) : Int) + (adNZ L[i] : Int)) = ((adyZ (L.take (i + 1)) : Nat) : Int) := by
        have : adyZ (L.take i) <= 1000000 * 1000000001000 := Nat.le_trans hcb (Nat.mul_le_mul_right _ hlen)
        rw [wrap_i64 (by omega) (by omega), hst]; omega
       simp only [go_sem, ↓aafZ, ↓reduceIte, NB, NE, e46, e48, hn0, hto, hgi, F.count, hm, e8, hwa, hw9, List.length_map]
       exact hlt
      ·have hi : i = L.length := by simp at hb; omega
       subst hi
       rw [List.take_length] at e8
       simp only [go_sem, NB]
       exact e8
     ·rintro ρ2 H2 wr2 ⟨rfl, rfl, e8⟩ hf
      have hrm : ((adyZ L : Nat) : Int).tmod 1000 = ((adyZ L % 1000 : Nat) : Int) := rfl
      simp only [go_sem, ↓aafZ, ↓reduceIte, NE, e8, aeFZ (b := 1000) (by decide), hrm, hitc, hcn]
   ·rw [if_neg k1]
    have k1' : (q.kind == 1) = false := by simpa using k1
    by_cases k2 : q.kind = 2
    ·rw [k2, if_pos rfl]
     have hjn := F.join L [32]
     generalize hr : L.map aadZ = rows at hg
     cases hg with
     | nil =>
      have hl0 : L = [] := by simpa using hr
      subst hl0
      have hjn0 := fun H => hjn H (by simp) hj
      rw [List.map_nil] at hjn0
      simp only [go_sem, ↓aafZ, ↓reduceIte, NB, NE, IB, e5, hjn0, List.append_nil, List.isEmpty_nil]
     | obj ver rows =>
      subst hr
      have hst := aatZ (aabZ abuZ L)
      simp only [go_sem, ↓aafZ, ↓reduceIte, NB, NA, NE, IB, e5, hst, hjn, hj, (by omega : L.length <= 1000000000), List.append_nil, List.isEmpty_nil, List.isEmpty_cons]
    ·rw [if_neg k2]
     have k2' : (q.kind == 2) = false := by simpa using k2
     simp only [go_sem, ↓aafZ, NB, k0', k1', k2']
end Go.AM
end
section
set_option maxRecDepth 8000
namespace Go.AM
open Go
abbrev aifZ (g : String -> Nat) : List AOper := [⟨some 30, .mov (.tmp 5), none, []⟩,⟨some 31, .mov (.tmp 7), none, []⟩,⟨some 32, .iaV (.tmp 30) (.tmp 31) 1, none, [0, 1]⟩,⟨some 33, .load 1 false (.tmp 32), none, [2, 0, 1]⟩,⟨some 34, .fa 2 (.tmp 2), none, []⟩,⟨some 35, .load 1 false (.tmp 34), none, [4]⟩,⟨some 36, .mov (.tmp 6), none, []⟩,⟨some 37, .iaV (.tmp 35) (.tmp 36) 1, none, [5, 4, 6]⟩,⟨some 38, .load 1 false (.tmp 37), none, [7, 5, 4, 6]⟩,⟨some 39, .bin .eql .no (.tmp 33) (.tmp 38), none, [3, 2, 0, 1, 8, 7, 5, 4, 6]⟩]
abbrev adzZ : List Nat := []
abbrev aigZ (g : String -> Nat) : ACode := .seq (.seq (.region false [⟨some 24, .mov (.tmp 7), none, []⟩,⟨some 25, .mov (.tmp 5), none, []⟩,⟨some 26, .lenV (.tmp 25), none, [1]⟩,⟨some 27, .bin .lss .no (.tmp 24) (.tmp 26), none, [0, 2, 1]⟩]) <| .cond (.tmp 27) (.skip) (.exit 3)) <| .seq (.block 4 (.seq (.region true (aifZ g)) <| .cond (.tmp 39) (.seq (.region false [⟨some 40, .mov (.tmp 6), none, []⟩,⟨some 41, .callv (.const (.fn (g "dactyl/dactylref23.Decimal") [] [])) [(.tmp 40)], none, [0]⟩,⟨some 4, .mov (.tmp 41), none, [1, 0]⟩]) <| .ret) (.skip))) <| .region false [⟨some 28, .mov (.tmp 7), none, []⟩,⟨some 29, .bin .add .no (.tmp 28) (.const (.int .i64 1)), none, [0]⟩,⟨some 7, .mov (.tmp 29), none, [1, 0]⟩]
abbrev aihZ : List Nat := [24, 25, 26, 27, 30, 31, 32, 33, 34, 35, 36, 37, 38, 39, 40, 41, 4, 28, 29, 7]
abbrev aiiZ (g : String -> Nat) : ACode := .seq (.seq (.region false [⟨some 17, .mov (.tmp 6), none, []⟩,⟨some 18, .fa 2 (.tmp 2), none, []⟩,⟨some 19, .load 1 false (.tmp 18), none, [1]⟩,⟨some 20, .lenV (.tmp 19), none, [2, 1]⟩,⟨some 21, .bin .lss .no (.tmp 17) (.tmp 20), none, [0, 3, 2, 1]⟩]) <| .cond (.tmp 21) (.skip) (.exit 1)) <| .seq (.block 2 (.seq (.region false [⟨some 7, .mov (.const (.int .i64 0)), none, []⟩]) <| .block 3 (.loop (aigZ g)))) <| .region false [⟨some 22, .mov (.tmp 6), none, []⟩,⟨some 23, .bin .add .no (.tmp 22) (.const (.int .i64 1)), none, [0]⟩,⟨some 6, .mov (.tmp 23), none, [1, 0]⟩]
abbrev aijZ : List Nat := [17, 18, 19, 20, 21, 7, 24, 25, 26, 27, 30, 31, 32, 33, 34, 35, 36, 37, 38, 39, 40, 41, 4, 28, 29, 7, 22, 23, 6]
abbrev aikZ (g : String -> Nat) : ACode := .seq (.seq (.region false [⟨some 44, .mov (.tmp 9), none, []⟩,⟨some 45, .mov (.tmp 5), none, []⟩,⟨some 46, .lenV (.tmp 45), none, [1]⟩,⟨some 47, .bin .lss .no (.tmp 44) (.tmp 46), none, [0, 2, 1]⟩]) <| .cond (.tmp 47) (.skip) (.exit 5)) <| .seq (.block 6 (.region false [⟨some 50, .mov (.tmp 8), none, []⟩,⟨some 51, .mov (.tmp 5), none, []⟩,⟨some 52, .mov (.tmp 9), none, []⟩,⟨some 53, .iaV (.tmp 51) (.tmp 52) 1, none, [1, 2]⟩,⟨some 54, .load 1 false (.tmp 53), none, [3, 1, 2]⟩,⟨some 55, .callv (.const (.fn (g "dactyl/dactylref25.count") [] [])) [(.tmp 54)], none, [4, 3, 1, 2]⟩,⟨some 56, .bin .add .no (.tmp 50) (.tmp 55), none, [0, 5, 4, 3, 1, 2]⟩,⟨some 8, .mov (.tmp 56), none, [6, 0, 5, 4, 3, 1, 2]⟩])) <| .region false [⟨some 48, .mov (.tmp 9), none, []⟩,⟨some 49, .bin .add .no (.tmp 48) (.const (.int .i64 1)), none, [0]⟩,⟨some 9, .mov (.tmp 49), none, [1, 0]⟩]
abbrev ailZ : List Nat := [44, 45, 46, 47, 50, 51, 52, 53, 54, 55, 56, 8, 48, 49, 9]
def aeUZ (g : String -> Nat) : ACode := .block 0 (.seq (.region false [⟨some 16, .bin .eql .no (.tmp 14) (.const (.int .i64 0)), none, []⟩,⟨some 15, .mov (.tmp 16), none, [0]⟩]) <| .cond (.tmp 15) (.seq (.seq (.region false [⟨some 6, .mov (.const (.int .i64 0)), none, []⟩]) <| .block 1 (.loop (aiiZ g))) <| .seq (.region false [⟨some 4, .mov (.const (.str [48])), none, []⟩]) <| .ret) (.seq (.region false [⟨some 43, .bin .eql .no (.tmp 14) (.const (.int .i64 1)), none, []⟩,⟨some 42, .mov (.tmp 43), none, [0]⟩]) <| .cond (.tmp 42) (.seq (.region false [⟨some 8, .mov (.const (.int .i64 0)), none, []⟩]) <| .seq (.seq (.region false [⟨some 9, .mov (.const (.int .i64 0)), none, []⟩]) <| .block 5 (.loop (aikZ g))) <| .seq (.region false [⟨some 57, .mov (.tmp 8), none, []⟩,⟨some 58, .bin .rem .no (.tmp 57) (.const (.int .i64 1000)), none, [0]⟩,⟨some 59, .callv (.const (.fn (g "dactyl/dactylref23.Decimal") [] [])) [(.tmp 58)], none, [1, 0]⟩,⟨some 4, .mov (.tmp 59), none, [2, 1, 0]⟩]) <| .ret) (.seq (.region false [⟨some 61, .bin .eql .no (.tmp 14) (.const (.int .i64 2)), none, []⟩,⟨some 60, .mov (.tmp 61), none, [0]⟩]) <| .cond (.tmp 60) (.seq (.region false [⟨some 62, .mov (.tmp 5), none, []⟩,⟨some 63, .callv (.const (.fn (g "dactyl/dactylref25.joined") [] [])) [(.tmp 62), (.const (.str [32]))], none, [0]⟩,⟨some 4, .mov (.tmp 63), none, [1, 0]⟩]) <| .ret) (.skip))))
def acYZ (g : String -> Nat) : AFn := ⟨64, [2], [.tmp 4],.seq (.region false [⟨some 2, .box 7 (.tmp 0), none, []⟩,⟨some 4, .mov (.const (.str [])), none, []⟩]) <| .seq (.region false [⟨some 10, .load 7 true (.tmp 2), none, []⟩,⟨some 11, .mov (.tmp 1), none, []⟩,⟨some 12, .callv (.const (.fn (g "dactyl/dactylref25.Needed") [] [])) [(.tmp 10), (.tmp 11)], none, [0, 1]⟩,⟨some 5, .mov (.tmp 12), none, [2, 0, 1]⟩]) <| .seq (.seq (.region false [⟨some 13, .fa 0 (.tmp 2), none, []⟩,⟨some 14, .load 1 false (.tmp 13), none, [0]⟩]) <| aeUZ g) <| .seq (.region false [⟨some 4, .mov (.const (.str [])), none, []⟩]) <| .ret⟩
structure RefFns (A : AProg) (g : String -> Nat) : Prop where
 dec : ajpZ A g
 needed : ∀ (q : Question) (vals : List Str), q.needs.length <= 1000000 -> vals.length <= 1000000000 -> ∀ H, aapZ A (g "dactyl/dactylref25.Needed") [.agg (encQ q), .sl false (vals.map aadZ)] H = some (apjZ ((needed q.needs vals).map aadZ), H, [])
 count : ∀ (s : Str), s.length <= 1000000000 -> ∀ H, aapZ A (g "dactyl/dactylref25.count") [.str s] H = some (vi (adNZ s % 1000 : Nat), H, [])
 joined : ∀ (l : List Str) (sep : Str), l.length <= 1000000000 -> (jn sep l).length <= 1000000000000 -> ∀ H, aapZ A (g "dactyl/dactylref25.joined") [.sl false (l.map aadZ), .str sep] H = some (.str (jn sep l), H, [])
theorem amTZ {H : List AObj} {l : List Str} : aaYZ none true H (some (apjZ (l.map aadZ), H, [])) = some (.sl false (l.map aadZ), H, []) := by
 cases l <;> rfl
def aeqZ (l : List Str) : Nat := (l.map fun s => adNZ s % 1000).sum
theorem aosZ : ∀ l : List Str, aeqZ l % 1000 = adyZ l % 1000
 | [] => rfl
 | a :: r => by
  have ih := aosZ r
  have e1 : aeqZ (a :: r) = adNZ a % 1000 + aeqZ r := by simp [aeqZ]
  have e2 : adyZ (a :: r) = adNZ a + adyZ r := by simp [adyZ]
  rw [e1, e2]
  omega
theorem aqwZ : ∀ l : List Str, aeqZ l <= l.length * 1000
 | [] => by simp [aeqZ]
 | a :: r => by
  have ih := aqwZ r
  have e1 : aeqZ (a :: r) = adNZ a % 1000 + aeqZ r := by simp [aeqZ]
  rw [e1, List.length_cons]
  omega
theorem asBZ (a b : Str) : (a == b) = (b == a) := by
 rw [Bool.eq_iff_iff, beq_iff_eq, beq_iff_eq]
 exact eq_comm
set_option maxHeartbeats 3200000 in
theorem aqxZ {A : AProg} {g : String -> Nat} (h : Has A g "dactyl/dactylref25.Answer" (acYZ g)) (F : RefFns A g) (q : Question) (vals : List Str) (hn : q.needs.length <= 1000000) (hv : vals.length <= 1000000000) (ho : q.options.length <= 900000)
  (hs : ∀ s ∈ needed q.needs vals, s.length <= 1000000000) (hj : (jn [32] (needed q.needs vals)).length <= 1000000000000) (H : List AObj) :
  aapZ A (g "dactyl/dactylref25.Answer") [.agg (encQ q), .sl false (vals.map aadZ)] H = some (.str (afSZ q vals), H, []) := by
 refine h.call (by simp [acYZ]) (by kernel_rfl) ?_
 simp only [acYZ]
 have hna : aaYZ none true (H ++ [.box 1 (encQ q)]) (aapZ A (g "dactyl/dactylref25.Needed") [.agg (encQ q), .sl false (vals.map aadZ)] (H ++ [.box 1 (encQ q)])) = some (.sl false ((needed q.needs vals).map aadZ), H ++ [.box 1 (encQ q)], []) := by
  rw [F.needed q vals hn hv]; exact amTZ
 simp only [encQ] at hna
 have hL := agOZ (vals := vals) q.needs
 have hmem := hs
 clear hs
 unfold afSZ arCZ
 generalize needed q.needs vals = L at *
 simp only [go_sem, ↓aafZ, ↓reduceIte, NB, NA, NL, ND, NE, encQ, hna, List.append_nil, List.isEmpty_nil, aeUZ]
 by_cases k0 : q.kind = 0
 ·simp only [k0]
  rw [k0] at hna
  simp only [go_sem, ↓aafZ, k0]
  refine aaWZ (id := 1) (W := aijZ) (fun i ρ1 H1 wr => wr = [] /\ H1 = H ++ [.box 1 (encQ q)] /\ ρ1 6 = vi i /\ ∀ j (hj : j < i) (hl : j < q.options.length), (L.any fun x => q.options[j] == x) = false) q.options.length
   (fun ρ1 H1 wr => wr = [] /\ H1 = H ++ [.box 1 (encQ q)] /\ ∀ j (hl : j < q.options.length), (L.any fun x => q.options[j] == x) = false)
   (by kernel_rfl) (by rfl) ⟨rfl, by rw [encQ, k0], rfl, fun j hj => by omega⟩ ?_ ?_
  ·rintro i ρ1 H1 wr1 hil ⟨rfl, rfl, e6, hno⟩ hf
   have e2 : ρ1 2 = .ptr H.length 1 0 := by rw [hf 2 (by rfl)]; rfl
   have e5 : ρ1 5 = .sl false (L.map aadZ) := by rw [hf 5 (by rfl)]; rfl
   clear hf
   simp only [go_sem, ↓aafZ, ↓reduceIte, NB, NA, ND, e6, e2, encQ, List.length_map]
   refine aacZ (fun hb => ?_) (fun hb => ?_)
   ·have hlt : i < q.options.length := by simpa using hb
    have hgi : (q.options.map aadZ)[i]? = some [.str q.options[i]] := getElem?_map_of hlt
    have hn0 : (0 : Int) <= (i : Int) := by omega
    have hto : ((i : Int)).toNat = i := by omega
    have hw6 : IntKind.i64.wrap ((i : Int) + 1) = ((i + 1 : Nat) : Int) := by rw [wrap_i64 (by omega) (by omega)]; omega
    simp only [go_sem, ↓aafZ]
    refine aaWZ (id := 3) (W := aihZ) (fun k ρ2 H2 wr => wr = [] /\ H2 = H ++ [.box 1 (encQ q)] /\ ρ2 7 = vi k /\ ∀ j (hj : j < k) (hl : j < L.length), (q.options[i] == L[j]) = false) L.length
     (fun ρ2 H2 wr => wr = [] /\ H2 = H ++ [.box 1 (encQ q)] /\ ∀ j (hl : j < L.length), (q.options[i] == L[j]) = false)
     (by kernel_rfl) (by rfl) ⟨rfl, by rw [encQ], rfl, fun j hj => by omega⟩ ?_ ?_
    ·rintro k ρ2 H2 wr2 hkl ⟨rfl, rfl, f7, hno2⟩ hf2
     have f2 : ρ2 2 = .ptr H.length 1 0 := by rw [hf2 2 (by rfl)]; simp only [go_sem, NB, e2]
     have f5 : ρ2 5 = .sl false (L.map aadZ) := by rw [hf2 5 (by rfl)]; simp only [go_sem, NB, e5]
     have f6 : ρ2 6 = vi i := by rw [hf2 6 (by rfl)]; simp only [go_sem, NB, e6]
     clear hf2
     simp only [go_sem, ↓aafZ, NB, f7, f5, List.length_map]
     refine aacZ (fun hb2 => ?_) (fun hb2 => ?_)
     ·have hlk : k < L.length := by simpa using hb2
      have hgk : (L.map aadZ)[k]? = some [.str L[k]] := getElem?_map_of hlk
      have hk0 : (0 : Int) <= (k : Int) := by omega
      have hkt : ((k : Int)).toNat = k := by omega
      have hw7 : IntKind.i64.wrap ((k : Int) + 1) = ((k + 1 : Nat) : Int) := by rw [wrap_i64 (by omega) (by omega)]; omega
      simp only [go_sem]
      refine aaPZ (keep := adzZ) (by rfl) (by rfl) ?_
      cases hc : (L[k] == q.options[i]) with
      | true =>
       have hd := F.dec i
       simp only [go_sem, ↓aafZ, ↓reduceIte, NB, NA, ND, NE, adzZ, f7, f5, f6, f2, hgk, hk0, hkt, hgi, hn0, hto, hc, encQ, hd, List.append_nil, List.isEmpty_nil, (by omega : i < 1000000)]
       have hp : (L.any fun x => q.options[i] == x) = true := List.any_eq_true.2 ⟨_, List.getElem_mem hlk, by rw [asBZ]; exact hc⟩
       have hix := arzZ (p := fun o => L.any fun x => o == x) hlt hp fun j hj => hno j hj (by omega)
       have : ((if (0 : Int) < idxI (fun o => L.any fun x => o == x) q.options then idxI (fun o => L.any fun x => o == x) q.options else 0)).toNat = i := by rw [hix]; split <;> omega
       simp only [this, k0, if_true]
      | false =>
       simp only [go_sem, ↓aafZ, ↓reduceIte, NB, NA, ND, adzZ, f7, f5, f6, f2, hgk, hk0, hkt, hgi, hn0, hto, hc, encQ, hw7]
       refine ⟨hlk, fun j hj hjl => ?_⟩
       by_cases e : j = k
       ·subst e; rw [asBZ]; exact hc
       ·exact hno2 j (by omega) hjl
     ·have hi : k = L.length := by simp at hb2; omega
      subst hi
      simp only [go_sem]
      exact fun j hj => hno2 j hj hj
    ·rintro ρ2 H2 wr2 ⟨rfl, rfl, hno2⟩ hf2
     have f6 : ρ2 6 = vi i := by rw [hf2 6 (by rfl)]; simp only [go_sem, NB, e6]
     clear hf2
     simp only [go_sem, ↓aafZ, f6, hw6]
     refine ⟨hlt, by rw [encQ], fun j hj hjl => ?_⟩
     by_cases e : j = i
     ·subst e
      rw [Bool.eq_false_iff]
      intro hc
      obtain ⟨x, hx, hxe⟩ := List.any_eq_true.1 hc
      obtain ⟨m, hm, rfl⟩ := List.getElem_of_mem hx
      rw [hno2 m hm] at hxe
      cases hxe
     ·exact hno j (by omega) hjl
   ·have hi : i = q.options.length := by simp at hb; omega
    subst hi
    simp only [go_sem]
    exact fun j hj => hno j hj hj
  ·rintro ρ' H' wr' ⟨rfl, rfl, hno⟩ hf
   have hix := amSZ (p := fun o => L.any fun x => o == x) (l := q.options) hno
   simp only [go_sem, ↓aafZ, ↓reduceIte, IL, IT, IM, hix, k0]
   rw [show dec 0 = [48] from by unfold dec; rfl]
 ·have k0' : (q.kind == 0) = false := by simpa using k0
  rw [if_neg k0]
  by_cases k1 : q.kind = 1
  ·have hcn : aeqZ L % 1000 < 1000000 := by omega
   have hitc := F.dec (aeqZ L % 1000)
   simp only [k1]
   simp only [go_sem, ↓aafZ, NB, IB, k1, beq_self_eq_true]
   refine aaWZ (id := 5) (W := ailZ) (fun i ρ1 H1 wr => wr = [] /\ H1 = H ++ [.box 1 (encQ q)] /\ ρ1 9 = vi i /\ ρ1 8 = vi (aeqZ (L.take i))) L.length
    (fun ρ1 H1 wr => wr = [] /\ H1 = H ++ [.box 1 (encQ q)] /\ ρ1 8 = vi (aeqZ L))
    (by kernel_rfl) (by rfl) ⟨rfl, by rw [encQ, k1], rfl, rfl⟩ ?_ ?_
   ·rintro i ρ1 H1 wr1 hil ⟨rfl, rfl, e9, e8⟩ hf
    have e5 : ρ1 5 = .sl false (L.map aadZ) := by rw [hf 5 (by rfl)]; rfl
    clear hf
    simp only [go_sem, ↓aafZ, NB, e9, e5, List.length_map]
    refine aacZ (fun hb => ?_) (fun hb => ?_)
    ·have hlt : i < L.length := by simpa using hb
     have hgi : (L.map aadZ)[i]? = some [.str L[i]] := getElem?_map_of hlt
     have hn0 : (0 : Int) <= (i : Int) := by omega
     have hto : ((i : Int)).toNat = i := by omega
     have hw9 : IntKind.i64.wrap ((i : Int) + 1) = ((i + 1 : Nat) : Int) := by rw [wrap_i64 (by omega) (by omega)]; omega
     have hm := hmem L[i] (List.getElem_mem hlt)
     have hcb := aqwZ (L.take i)
     have hlen : (L.take i).length <= 1000000 := by simp; omega
     have hst : aeqZ (L.take (i + 1)) = aeqZ (L.take i) + adNZ L[i] % 1000 := by
      unfold aeqZ
      rw [List.take_add_one, List.getElem?_eq_getElem hlt]
      simp only [Option.toList_some, List.map_append, List.sum_append, List.map_cons, List.map_nil, List.sum_cons, List.sum_nil, Nat.add_zero]
     have hwa : IntKind.i64.wrap ((aeqZ (L.take i) : Int) + ((adNZ L[i] % 1000 : Nat) : Int)) = ((aeqZ (L.take (i + 1)) : Nat) : Int) := by
      rw [wrap_i64 (by omega) (by omega), hst]; omega
     simp only [go_sem, ↓aafZ, ↓reduceIte, NB, NE, e5, e9, hn0, hto, hgi, F.count, hm, e8, hwa, hw9, List.append_nil, List.isEmpty_nil]
     exact hlt
    ·have hi : i = L.length := by simp at hb; omega
     subst hi
     rw [List.take_length] at e8
     simp only [go_sem, NB]
     exact e8
   ·rintro ρ2 H2 wr2 ⟨rfl, rfl, e8⟩ hf
    have hrm : ((aeqZ L : Nat) : Int).tmod 1000 = ((aeqZ L % 1000 : Nat) : Int) := rfl
    simp only [go_sem, ↓aafZ, ↓reduceIte, NE, e8, aeFZ (b := 1000) (by decide), hrm, hitc, hcn, k1, List.append_nil, List.isEmpty_nil]
    rw [aosZ]
  ·have k1' : (q.kind == 1) = false := by simpa using k1
   rw [if_neg k1]
   by_cases k2 : q.kind = 2
   ·simp only [k2]
    simp only [go_sem, ↓aafZ, ↓reduceIte, NB, NE, IB, k2, beq_self_eq_true, F.joined, hj, (by omega : L.length <= 1000000000), List.append_nil, List.isEmpty_nil]
   ·have k2' : (q.kind == 2) = false := by simpa using k2
    rw [if_neg k2]
    simp only [go_sem, ↓aafZ, NB, k0', k1', k2']
end Go.AM
end
section
namespace Go.AM
open Go
def aBBZ (x : AOpd) (H : List AObj) (ρ : SEnv) : Option AV := some (x.at ρ)
def azdZ (c : AOpd) (a : AOpd) (b : AOpd) (H : List AObj) (ρ : SEnv) : Option AV := match c.at ρ with
  | .bool t => some (if t then a.at ρ else b.at ρ)
  | _ => none
def awSZ (zs : List AV) (H : List AObj) (ρ : SEnv) : Option AV := if zs.all AV.still then some (.ep (zs.map AV.strip1) 0) else none
def aBCZ (k : Nat) (x : AOpd) (H : List AObj) (ρ : SEnv) : Option AV :=
  let vs := (x.at ρ).strip.cells
  if vs.length = k /\ vs.all AV.still then some (.ep vs 0) else none
def awTZ (zs : List AV) (parts : List (Nat × Nat × AOpd)) (H : List AObj) (ρ : SEnv) : Option AV := (acAZ ρ zs parts).map .agg
def aBDZ (k : Nat) (zs : List AV) (n : Nat) (parts : List (Nat × AOpd)) (H : List AObj) (ρ : SEnv) : Option AV := (acSZ ρ k (List.replicate n zs) parts).map (.sl true)
def aBEZ (u0 : Nat) (bytes : Nat) (zs : List AV) (len : AOpd) (cap : AOpd) (H : List AObj) (ρ : SEnv) : Option AV := match len.at ρ, cap.at ρ with
  | .int _ n, .int _ c => if 0 <= n /\ n = c /\ abNZ n.toNat bytes then some (.sl true (List.replicate n.toNat (zs.map AV.strip1))) else none
  | _, _ => none
def azeZ (k : Nat) (agg : Bool) (x : AOpd) (H : List AObj) (ρ : SEnv) : Option AV := match aamZ H k (x.at ρ) with
  | some cs => abnZ agg cs
  | none => none
def awUZ (x : AOpd) (H : List AObj) (ρ : SEnv) : Option AV := match x.at ρ with
  | .ptr o v off => some (.ptr o v off)
  | .vp o v n k i off => some (.vp o v n k i off)
  | .ep row off => some (.ep row off)
  | .fn f a b => some (.fn f a b)
  | _ => none
def awVZ (neg : Bool) (x : AOpd) (H : List AObj) (ρ : SEnv) : Option AV := match x.at ρ with
  | .sl _ (_ :: _) | .sr .. => some (.bool neg)
  | .nilSl => some (.bool !neg)
  | _ => none
def aBFZ (op : BinOp) (ek : EqK) (x : AOpd) (y : AOpd) (H : List AObj) (ρ : SEnv) : Option AV := binV op ek (x.at ρ) (y.at ρ)
def aEvZ (op : UnOp) (x : AOpd) (H : List AObj) (ρ : SEnv) : Option AV := unV op (x.at ρ)
def azfZ (c : AConv) (x : AOpd) (H : List AObj) (ρ : SEnv) : Option AV := agRZ H c (x.at ρ)
def aBGZ (f : Nat) (first : List AOpd) (caps : List AOpd) (H : List AObj) (ρ : SEnv) : Option AV := if (first.map (AOpd.at ρ)).all AV.still && (caps.map (AOpd.at ρ)).all AV.still then some (.fn f (first.map fun x => (x.at ρ).strip1) (caps.map fun x => (x.at ρ).strip1)) else none
def avoZ (x : AOpd) (lo : Option AOpd) (hi : Option AOpd) (H : List AObj) (ρ : SEnv) : Option AV := match x.at ρ with
  | .str s => match acdZ s.length (lo.map (AOpd.at ρ)) (hi.map (AOpd.at ρ)) none with
   | some (l, h, _) => some (.str ((s.take h).drop l))
   | none => none
  | _ => none
def avpZ (k : Nat) (x : AOpd) (lo : Option AOpd) (hi : Option AOpd) (mx : Option AOpd) (H : List AObj) (ρ : SEnv) : Option AV := match x.at ρ with
  | .sl full rows => match acdZ rows.length (lo.map (AOpd.at ρ)) (hi.map (AOpd.at ρ)) (mx.map (AOpd.at ρ)) with
   | some (l, h, m) => if abkZ k rows && (!mx.isSome || hi.isSome) then some (.sl (decide (m = h) && (mx.isSome || full)) ((rows.take h).drop l)) else none
   | none => none
  | _ => none
def azgZ (k : Nat) (x : AOpd) (lo : Option AOpd) (H : List AObj) (ρ : SEnv) : Option AV := match x.at ρ with
  | .sl full rows => match acdZ rows.length (lo.map (AOpd.at ρ)) none none with
   | some (l, h, m) => if abkZ k rows then some (.sl (decide (m = h) && full) ((rows.take h).drop l)) else none
   | none => none
  | .sr o v n => match H[o]? with
   | some (.vec v' _ rows) => if v' = v /\ rows.length = n then match adPZ 0 n (lo.map (AOpd.at ρ)) with
     | some l => some (.srv o v n k l)
     | none => none
    else none
   | _ => none
  | _ => none
def avqZ (n : Nat) (k : Nat) (x : AOpd) (lo : Option AOpd) (hi : Option AOpd) (mx : Option AOpd) (H : List AObj) (ρ : SEnv) : Option AV := match x.at ρ with
  | .ep row off => if off + n * k <= row.length then
    let rows := amdZ k n (row.drop off)
    match acdZ n (lo.map (AOpd.at ρ)) (hi.map (AOpd.at ρ)) (mx.map (AOpd.at ρ)) with
    | some (l, h, m) => if !mx.isSome || hi.isSome then some (.sl (decide (m = h)) ((rows.take h).drop l)) else none
    | none => none
   else none
  | _ => none
def aEwZ (off : Nat) (x : AOpd) (H : List AObj) (ρ : SEnv) : Option AV := match x.at ρ with
  | .ptr o v off0 => some (.ptr o v (off0 + off))
  | .vp o v n k i off0 => some (.vp o v n k i (off0 + off))
  | .ep row off0 => some (.ep row (off0 + off))
  | _ => none
def aBHZ (off : Nat) (k : Nat) (agg : Bool) (x : AOpd) (H : List AObj) (ρ : SEnv) : Option AV := match x.at ρ with
  | .agg cs => if off + k <= cs.length then abnZ agg ((cs.drop off).take k) else none
  | _ => none
def aBIZ (x : AOpd) (i : AOpd) (k : Nat) (H : List AObj) (ρ : SEnv) : Option AV := match x.at ρ, i.at ρ with
  | .sl _ rows, .int _ n => if 0 <= n then match rows[n.toNat]? with
    | some row => if row.length = k then some (.ep row 0) else none
    | none => none
   else none
  | .sr o v len, .int _ n => if 0 <= n /\ n < len then some (.vp o v len k n.toNat 0) else none
  | _, _ => none
def aBJZ (len : Nat) (k : Nat) (x : AOpd) (i : AOpd) (H : List AObj) (ρ : SEnv) : Option AV := match x.at ρ, i.at ρ with
  | .ptr o v off, .int _ n => if 0 <= n /\ n < len then some (.ptr o v (off + n.toNat * k)) else none
  | .ep row off, .int _ n => if 0 <= n /\ n < len then some (.ep row (off + n.toNat * k)) else none
  | _, _ => none
def aBKZ (x : AOpd) (i : AOpd) (H : List AObj) (ρ : SEnv) : Option AV := match x.at ρ, i.at ρ with
  | .str s, .int _ n => if 0 <= n then match s[n.toNat]? with
    | some b => some (.int .u8 b.toNat)
    | none => none
   else none
  | _, _ => none
def aBLZ (len : Nat) (k : Nat) (agg : Bool) (x : AOpd) (i : AOpd) (H : List AObj) (ρ : SEnv) : Option AV := match x.at ρ, i.at ρ with
  | .agg cs, .int _ n => if 0 <= n /\ n < len /\ n.toNat * k + k <= cs.length then abnZ agg ((cs.drop (n.toNat * k)).take k) else none
  | _, _ => none
def azhZ (x : AOpd) (H : List AObj) (ρ : SEnv) : Option AV := match x.at ρ with
  | .str s => some (.int .i64 s.length)
  | _ => none
def aziZ (x : AOpd) (H : List AObj) (ρ : SEnv) : Option AV := match x.at ρ with
  | .sl _ rows => some (.int .i64 rows.length)
  | .sr _ _ n => some (.int .i64 n)
  | .nilSl => some (.int .i64 0)
  | _ => none
def azjZ (n : Nat) (H : List AObj) (ρ : SEnv) : Option AV := some (.int .i64 n)
def aExZ (mx : Bool) (xs : List AOpd) (H : List AObj) (ρ : SEnv) : Option AV := mmV mx (xs.map (AOpd.at ρ))
def aBMZ (i : Nat) (x : AOpd) (H : List AObj) (ρ : SEnv) : Option AV := match x.at ρ with
  | .tup vs => vs[i]?
  | _ => none
def awWZ (t : Nat) (x : AOpd) (H : List AObj) (ρ : SEnv) : Option AV := if (x.at ρ).inIfc then some (.ifc t (x.at ρ)) else none
def azkZ (zero : AV) (m : AOpd) (k : AOpd) (ok : Bool) (H : List AObj) (ρ : SEnv) : Option AV := match m.at ρ with
  | .mp o v => match H[o]? with
   | some (.map v' es) => if v' = v then
     match aeuZ (k.at ρ) es 0 with
     | some (some (_, x)) => if ok then some (.tup [x, .bool true]) else some x
     | some none => if ok then some (.tup [zero, .bool false]) else some zero
     | none => none
    else none
   | _ => none
  | .fmp ks vs => match aeuZ (k.at ρ) (ks.zip vs) 0 with
   | some (some (_, x)) => if ok then some (.tup [x, .bool true]) else some x
   | some none => if ok then some (.tup [zero, .bool false]) else some zero
   | none => none
  | _ => none
def rOp : AOp -> List AObj -> SEnv -> Option AV := fun op => match op with
 | .mov a0 => aBBZ a0
 | .pick a0 a1 a2 => azdZ a0 a1 a2
 | .alloc a0 => awSZ a0
 | .box a0 a1 => aBCZ a0 a1
 | .build a0 a1 => awTZ a0 a1
 | .bsl a0 a1 a2 a3 => aBDZ a0 a1 a2 a3
 | .mks a0 a1 a2 a3 a4 => aBEZ a0 a1 a2 a3 a4
 | .load a0 a1 a2 => azeZ a0 a1 a2
 | .nilck a0 => awUZ a0
 | .isnil a0 a1 => awVZ a0 a1
 | .bin a0 a1 a2 a3 => aBFZ a0 a1 a2 a3
 | .un a0 a1 => aEvZ a0 a1
 | .conv a0 a1 => azfZ a0 a1
 | .mkf a0 a1 a2 => aBGZ a0 a1 a2
 | .sliceS a0 a1 a2 => avoZ a0 a1 a2
 | .sliceV a0 a1 a2 a3 a4 => avpZ a0 a1 a2 a3 a4
 | .view a0 a1 a2 => azgZ a0 a1 a2
 | .sliceA a0 a1 a2 a3 a4 a5 => avqZ a0 a1 a2 a3 a4 a5
 | .fa a0 a1 => aEwZ a0 a1
 | .fld a0 a1 a2 a3 => aBHZ a0 a1 a2 a3
 | .iaV a0 a1 a2 => aBIZ a0 a1 a2
 | .iaA a0 a1 a2 a3 => aBJZ a0 a1 a2 a3
 | .ixS a0 a1 => aBKZ a0 a1
 | .ixA a0 a1 a2 a3 a4 => aBLZ a0 a1 a2 a3 a4
 | .lenS a0 => azhZ a0
 | .lenV a0 => aziZ a0
 | .lenC a0 => azjZ a0
 | .mm a0 a1 => aExZ a0 a1
 | .ext a0 a1 => aBMZ a0 a1
 | .mkifc a0 a1 => awWZ a0 a1
 | .look a0 a1 a2 a3 => azkZ a0 a1 a2 a3
 | _ => fun _ _ => none
theorem axZZ (op : AOp) (H : List AObj) (ρ : SEnv) : rOp op H ρ = evRF H ρ op := by cases op <;> rfl
def awXZ (zs : List AV) (H : List AObj) (ρ : SEnv) (site : Option Nat) : Out := match site with
  | some id => if id < H.length then some (.ptr id (aaDZ H id) 0, make H id (.box · zs), [id]) else none
  | none => none
def avrZ (ty : Nat) (zs : List AV) (H : List AObj) (ρ : SEnv) (site : Option Nat) : Out := match site with
  | some id => if id < H.length then some (.ptr id (aaDZ H id) 0, make H id (.tbox · ty zs), [id]) else none
  | none => none
def aBNZ (k : Nat) (x : AOpd) (H : List AObj) (ρ : SEnv) (site : Option Nat) : Out := match site with
  | some id => if id < H.length /\ (x.at ρ).cells.length = k /\ (x.at ρ).cells.all AV.cellOk then some (.ptr id (aaDZ H id) 0, make H id (.box · (x.at ρ).cells), [id]) else none
  | none => none
def aBOZ (ty : Nat) (k : Nat) (x : AOpd) (H : List AObj) (ρ : SEnv) (site : Option Nat) : Out := match site with
  | some id => if id < H.length /\ (x.at ρ).cells.length = k /\ (x.at ρ).cells.all AV.cellOk then some (.ptr id (aaDZ H id) 0, make H id (.tbox · ty (x.at ρ).cells), [id]) else none
  | none => none
def awYZ (k : Nat) (x : AOpd) (v : AOpd) (H : List AObj) (ρ : SEnv) (site : Option Nat) : Out := if (v.at ρ).cells.length = k /\ (v.at ρ).cells.all AV.cellOk then
   match storeCells H (v.at ρ).cells (x.at ρ) with
   | some (H', wr) => some (.undef, H', wr)
   | none => none
  else none
def aBPZ (k : Nat) (zs : List AV) (n : Nat) (parts : List (Nat × AOpd)) (H : List AObj) (ρ : SEnv) (site : Option Nat) : Out := match site with
  | some id => match achZ ρ k (List.replicate n zs) parts with
   | some rows => if id < H.length then some (.sr id (aaDZ H id) n, make H id (.vec · k rows), [id]) else none
   | none => none
  | none => match aefZ ρ k H (List.replicate n zs) parts with
   | some (rows, H', wr) => some (.sl true rows, H', wr)
   | none => none
def aBQZ (k : Nat) (bytes : Nat) (zs : List AV) (len : AOpd) (cap : AOpd) (H : List AObj) (ρ : SEnv) (site : Option Nat) : Out := match len.at ρ, cap.at ρ with
  | .int _ n, .int _ c =>
   if 0 <= n /\ n = c /\ abNZ n.toNat bytes then
    match site with
    | some id => if id < H.length then some (.sr id (aaDZ H id) n.toNat, make H id (.vec · k (List.replicate n.toNat (zs.map AV.strip1))), [id]) else none
    | none => some (.sl true (List.replicate n.toNat (zs.map AV.strip1)), H, [])
   else match site with
    | some id => if n = 0 /\ 0 < c /\ abNZ c.toNat bytes /\ id < H.length then some (.sr id (aaDZ H id) 0, make H id (.vec · k []), [id]) else none
    | none => none
  | _, _ => none
def aBRZ (k : Nat) (bytes : Nat) (s : AOpd) (x : AOpd) (H : List AObj) (ρ : SEnv) (site : Option Nat) : Out := ahEZ H site k bytes (s.at ρ) (x.at ρ)
def azlZ (ty : Nat) (k : Nat) (bytes : Nat) (s : AOpd) (x : AOpd) (H : List AObj) (ρ : SEnv) (site : Option Nat) : Out := anRZ H site ty k bytes (s.at ρ) (x.at ρ)
def aBSZ (k : Nat) (x : AOpd) (y : AOpd) (H : List AObj) (ρ : SEnv) (site : Option Nat) : Out := match x.at ρ with
  | .srv o v n k' lo => match H[o]? with
   | some (.vec v' k2 rows) => match adkZ H (y.at ρ) with
    | some new => if new.isEmpty then some (.int .i64 0, H, []) else if v' = v /\ rows.length = n /\ k2 = k /\ k' = k /\ abkZ k new /\ lo + new.length <= n then
      some (.int .i64 (new.length : Nat), H.set o (.vec v k (rows.take lo ++ new ++ rows.drop (lo + new.length))), [o])
     else none
    | none => none
   | _ => none
  | _ => none
def awZZ  (H : List AObj) (ρ : SEnv) (site : Option Nat) : Out := match site with
  | some id => if id < H.length then some (.mp id (aaDZ H id), make H id (.map · []), [id]) else none
  | none => none
def aBTZ (m : AOpd) (k : AOpd) (v : AOpd) (H : List AObj) (ρ : SEnv) (site : Option Nat) : Out := match m.at ρ, k.at ρ with
  | .mp o ver, key => match H[o]? with
   | some (.map v' es) =>
    if v' = ver /\ (arlZ key key).isSome /\ (v.at ρ).strip.cells.all AV.still then
     match aeuZ key es 0 with
     | some (some (i, _)) => some (.undef, H.set o (.map ver (es.set i (key, (v.at ρ).strip))), [o])
     | some none => some (.undef, H.set o (.map ver (es ++ [(key, (v.at ρ).strip)])), [o])
     | none => none
    else none
   | _ => none
  | _, _ => none
def wOp : AOp -> List AObj -> SEnv -> Option Nat -> Out := fun op => match op with
 | .alloc a0 => awXZ a0
 | .talloc a0 a1 => avrZ a0 a1
 | .box a0 a1 => aBNZ a0 a1
 | .tbx a0 a1 a2 => aBOZ a0 a1 a2
 | .store a0 a1 a2 => awYZ a0 a1 a2
 | .bsl a0 a1 a2 a3 => aBPZ a0 a1 a2 a3
 | .mks a0 a1 a2 a3 a4 => aBQZ a0 a1 a2 a3 a4
 | .app a0 a1 a2 a3 => aBRZ a0 a1 a2 a3
 | .tapp a0 a1 a2 a3 a4 => azlZ a0 a1 a2 a3 a4
 | .cpy a0 a1 a2 => aBSZ a0 a1 a2
 | .mkmap => awZZ
 | .ins a0 a1 a2 => aBTZ a0 a1 a2
 | _ => fun _ _ _ => none
theorem axaZ {call : Nat -> List AV -> List AObj -> Out} {op : AOp} {H : List AObj} {ρ : SEnv} {site : Option Nat} {r} (h : wOp op H ρ site = some r) : evWF call H ρ site op = some r := by
 cases op <;> first | exact h | (simp [wOp] at h; done)
end Go.AM
end
