/- Part 39 of the proof that stands in the last text of this folder (lemmas; no statement of its own). -/
import Derived.Test.YtglokbbcckpaaaaGreatDoorK18
import Derived.Test.YtglokbbcckpaaaaGreatDoorK22
import Derived.Test.YtglokbbcckpaaaaGreatDoorK35
import Derived.Test.YtglokbbcckpaaaaGreatDoorK36
import Derived.Test.YtglokbbcckpaaaaGreatDoorK37
import Derived.Test.YtglokbbcckpaaaaGreatDoorK38
set_option linter.unusedVariables false
set_option linter.unusedSimpArgs false
open Nat renaming reduceBEq -> NB, reduceAdd -> NA, reduceLT -> NL, reduceLeDiff -> ND, reduceEqDiff -> NE
open Bool renaming not_true -> BT, not_false -> BF
section
namespace Go.AM
open Go
theorem hs0 : ahKZ AM0 (ahLZ l0) := by have := aeWZ awfZ z_u0; rwa [List.append_nil] at this
theorem hs1 : ahKZ AM0 (ahLZ l1) := aeWZ hs0 z_u1
theorem hs2 : ahKZ AM0 (ahLZ l2) := aeWZ hs1 z_u2
theorem hs3 : ahKZ AM0 (ahLZ l3) := aeWZ hs2 z_u3
theorem hs4 : ahKZ AM0 (ahLZ l4) := aeWZ hs3 z_t
theorem hs5 : ahKZ AM0 (ahLZ l5) := aeWZ hs4 z_b
theorem apzZ {l : List (Nat × Hook)} {p : Nat × Hook} {r : List (Nat × Hook)} (h1 : chk l [p] = true) (h2 : chk l r = true) : chk l (p :: r) = true := by
 unfold chk at h1 h2 ⊢
 rw [List.all_cons, List.all_nil, Bool.and_true] at h1
 rw [List.all_cons, h1, h2]; rfl
theorem hs6 : ahKZ AM0 (ahLZ l6) := aeWZ hs5 (apzZ z_c1 (apzZ z_c2 z_c3))
theorem hs7 : ahKZ AM0 (ahLZ l7) := aeWZ hs6 (apzZ z_d1 z_d2)
theorem azJZ : leSH (.agg (aiAZ kBs)) (.agg (aiAZ [kB])) = true := by kernel_rfl
theorem axzZ {vs : List AV} (hv : hasL [.agg (aiAZ kBs), .agg arbZ] vs) (H : List AObj) : ∃ v, aapZ AM0 20 vs H = some (v, H, []) /\ kVal.has v := by
 unfold hasL hasL hasL at hv
 obtain ⟨a, _, rfl, ha, b, _, rfl, hb, rfl⟩ := hv
 have ha' := agQZ _ _ _ azJZ ha
 unfold SH.has arbZ hasL at hb
 obtain ⟨bs, rfl, k, ks, rfl, hk, hks⟩ := hb
 unfold kI SH.has at hk
 obtain ⟨n, rfl, n1, n2⟩ := hk
 have mk : ∀ lo hi : Int, lo <= n -> n <= hi -> (SH.agg (apyZ (.num .i64 lo hi))).has (.agg (.int .i64 n :: ks)) := fun lo hi h1 h2 => by
  unfold SH.has apyZ hasL
  refine ⟨_, rfl, _, _, rfl, ?_, hks⟩
  unfold SH.has
  exact ⟨n, rfl, h1, h2⟩
 have two : ∀ {s t : SH} {x y : AV}, s.has x -> t.has y -> hasL [s, t] [x, y] := fun h1 h2 => by
  unfold hasL hasL hasL
  exact ⟨_, _, rfl, h1, _, _, rfl, h2, rfl⟩
 by_cases c1 : n < 0
 ·exact adJZ hs7 z_vm (two ha' (mk _ _ n1 (by omega))) H
 by_cases c2 : n = 0
 ·exact adJZ hs7 z_v0 (two ha (mk _ _ (by omega) (by omega))) H
 by_cases c3 : n = 1
 ·exact adJZ hs7 z_v1 (two ha' (mk _ _ (by omega) (by omega))) H
 by_cases c4 : n <= 4
 ·exact adJZ hs7 z_v2 (two ha' (mk _ _ (by omega) (by omega))) H
 by_cases c5 : n = 5
 ·exact adJZ hs7 z_v5 (two ha' (mk _ _ (by omega) (by omega))) H
 by_cases c6 : n = 6
 ·exact adJZ hs7 z_v6 (two ha' (mk _ _ (by omega) (by omega))) H
 ·exact adJZ hs7 z_vp (two ha' (mk _ _ (by omega) n2)) H
theorem hs8 : ahKZ AM0 (ahLZ ((20,⟨[[.agg (aiAZ kBs), .agg arbZ]], kVal⟩) :: l7)) := anKZ (new := [(20,⟨[[.agg (aiAZ kBs), .agg arbZ]], kVal⟩)]) hs7 fun p hp sh1 h1 vs H hv => by
 rw [List.mem_singleton] at hp
 subst hp
 rw [List.mem_singleton] at h1
 subst h1
 exact axzZ hv H
theorem axAZ {vs : List AV} (hv : hasL [.agg [kTxt, .sl [aiAZ kBs] 1 1]] vs) (H : List AObj) : ∃ v, aapZ AM0 6 vs H = some (v, H, []) /\ (SH.tup [.sl [[.sl [[.txt 3000000]] 0 16]] 0 1, .num .i64 0 13]).has v := adJZ hs8 z_f hv H
end Go.AM
end
section
set_option maxRecDepth 8000
namespace Go.AM
open Go
theorem hasI {n : Int} (h : accZ n) : kI.has (vi n) := by
 unfold kI SH.has
 exact ⟨n, rfl, h.1, h.2⟩
theorem hasT {s : Str} (h : ahZZ s) : kTxt.has (.str s) := by
 unfold kTxt SH.has
 exact ⟨s, rfl, by unfold ahZZ at h; omega⟩
theorem hasN {n lo hi : Int} (h1 : lo <= n) (h2 : n <= hi) : (SH.num .i64 lo hi).has (vi n) := by
 unfold SH.has
 exact ⟨n, rfl, h1, h2⟩
theorem aazZ {s : SH} {r : List SH} {v : AV} {vs : List AV} (h1 : s.has v) (h2 : hasL r vs) : hasL (s :: r) (v :: vs) := by
 rw [hasL]
 exact ⟨v, vs, rfl, h1, h2⟩
theorem aeXZ : hasL [] [] := by rw [hasL]
theorem aCkZ {cs : List SH} {vs : List AV} (h : hasL cs vs) : (SH.agg cs).has (.agg vs) := by
 rw [SH.has]
 exact ⟨vs, rfl, h⟩
theorem aceZ {a : List SH} {vs : List AV} (h : hasL a vs) : aaKZ [a] vs := afsZ h (by simp)
theorem ahuZ {α : Type} {f : α -> List AV} {l : List α} {alts : List (List SH)} {lo hi : Int} (hd : ∀ a, acnZ (f a) = true) (h1 : lo <= (l.length : Int)) (h2 : (l.length : Int) <= hi) (h : ∀ a ∈ l, aaKZ alts (f a)) : (SH.sl alts lo hi).has (.sl false (l.map f)) := by
 rw [SH.has]
 refine ⟨false, l.map f, rfl, aabZ hd l, by simpa using h1, by simpa using h2, fun row hr => ?_⟩
 obtain ⟨a, ha, rfl⟩ := List.mem_map.1 hr
 exact h a ha
theorem apAZ : ∀ {a b : List SH} {x y : List AV}, hasL a x -> hasL b y -> hasL (a ++ b) (x ++ y)
 | [], b, x, y, h1, h2 => by
  rw [hasL] at h1
  subst h1
  exact h2
 | s :: r, b, x, y, h1, h2 => by
  rw [hasL] at h1
  obtain ⟨v, vs, rfl, h3, h4⟩ := h1
  exact aazZ h3 (apAZ h4 h2)
theorem ataZ : ∀ (d : Nat) (e : Expr), Deep (d + 1) e -> ∃ a, a ∈ anJZ d /\ hasL a (aaGZ e)
 | d, .mk op n kids, h => by
  cases h with
  | mk _ _ _ _ h1 h2 h3 h4 h5 =>
   have hn : accZ n := aaxZ h2.1 h2.2
   have enc : aaGZ (.mk op n kids) = [vi op, vi n, .sl false (kids.map aaGZ)] := by rw [aaGZ, abvZ]
   rw [enc]
   have row : ∀ {lo hi : Int} {alts : List (List SH)} {k : Int}, lo <= op -> op <= hi -> (kids.length : Int) = k -> (∀ e ∈ kids, aaKZ alts (aaGZ e)) -> hasL [.num .i64 lo hi, kI, .sl alts k k] [vi op, vi n, .sl false (kids.map aaGZ)] := fun g1 g2 g3 g4 =>
    aazZ (hasN g1 g2) (aazZ (hasI hn) (aazZ (ahuZ abpZ (by omega) (by omega) g4) aeXZ))
   have leaf : kids.length = 0 /\ op <= 1 -> hasL aweZ [vi op, vi n, .sl false (kids.map aaGZ)] := fun hl => by
    have hk : kids = [] := List.length_eq_zero_iff.1 hl.1
    exact row h1.1 hl.2 (by simp [hk]) (by simp [hk])
   cases d with
   | zero =>
    have hk0 : kids = [] := by
     cases kids with
     | nil => rfl
     | cons e r => cases h4 e (by simp)
    subst hk0
    refine ⟨aweZ, by simp [anJZ], leaf ⟨rfl, ?_⟩⟩
    rcases h5 with g | g | g
    ·exact g.2
    ·simp at g
    ·simp at g
   | succ d =>
    have kid : ∀ e ∈ kids, aaKZ (anJZ d) (aaGZ e) := fun e he => by
     obtain ⟨a, ha, hv⟩ := ataZ d e (h4 e he)
     exact afsZ hv ha
    rcases h5 with g | g | g
    ·exact ⟨aweZ, by simp [anJZ], leaf g⟩
    ·rcases g.2 with g2 | g2
     ·exact ⟨_, List.mem_cons_of_mem _ (List.mem_cons_self ..), row (by omega) (by omega) (by omega) kid⟩
     ·exact ⟨_, List.mem_cons_of_mem _ (List.mem_cons_of_mem _ (List.mem_cons_self ..)), row (by omega) (by omega) (by omega) kid⟩
    ·rcases g.2 with g2 | g2
     ·exact ⟨_, List.mem_cons_of_mem _ (List.mem_cons_of_mem _ (List.mem_cons_of_mem _ (List.mem_cons_self ..))), row (by omega) (by omega) (by omega) kid⟩
     ·exact ⟨_, List.mem_cons_of_mem _ (List.mem_cons_of_mem _ (List.mem_cons_of_mem _ (List.mem_cons_of_mem _ (List.mem_cons_self ..)))), row (by omega) (by omega) (by omega) kid⟩
theorem awgZ {r : Run} (h : r.Ok) : aaKZ [kRun] (afzZ r) := aceZ (aazZ (hasI h.lang) (aazZ (hasT h.text) aeXZ))
theorem apBZ {s : Str} (h : ahZZ s) : aaKZ [[kTxt]] (aadZ s) := aceZ (aazZ (hasT h) aeXZ)
theorem awhZ {n : Int} (h : accZ n) : aaKZ [[kI]] (aaqZ n) := aceZ (aazZ (hasI h) aeXZ)
theorem awiZ {s : Shape} (h : s.Ok) (hk : 0 <= s.kind /\ s.kind <= 2) : aaKZ [awdZ] (adBZ s) := by
 have := h.len
 exact aceZ (aazZ (hasN hk.1 hk.2) (aazZ (ahuZ aomZ (by omega) (by omega) fun p hp => aceZ (aazZ (hasI (h.points p hp).1) (aazZ (hasI (h.points p hp).2) aeXZ))) aeXZ))
theorem axBZ {n : Note} (h : n.Ok) : aaKZ [azIZ] (aelZ n) := aceZ (aazZ (hasI h.step) (aazZ (hasI h.length) (aazZ (hasI h.alter) aeXZ)))
theorem awjZ {b : Block} (h : b.Ok) (hs : BSlack b) : aaKZ kBs (aawZ b) := by
 obtain ⟨a, ha, hv⟩ := ataZ 3 b.expr hs.fit.expr
 have l1 := h.lenR
 have l2 := h.lenA
 have l3 := h.lenG
 have l4 := h.lenS
 have l5 := h.lenH
 have l6 := h.lenL
 refine afsZ (b := asZZ a) ?_ (List.mem_map.2 ⟨a, ha, rfl⟩)
 unfold asZZ aawZ
 refine apAZ (apAZ ?_ hv) ?_
 ·exact aazZ (hasI h.kind) (aazZ (ahuZ aeLZ (by omega) (by omega) fun r hr => awgZ (h.runs r hr)) aeXZ)
 ·unfold aCjZ
  refine aazZ (hasN hs.fit.sumOp.1 hs.fit.sumOp.2) (aazZ (ahuZ aasZ (by omega) (by omega) fun n hn => awhZ (h.sumA n hn)) ?_)
  refine aazZ (ahuZ ajVZ (by omega) (by omega) fun r hr => ?_) (aazZ (hasI h.w) (aazZ (hasI h.h) ?_))
  ·obtain ⟨g1, g2⟩ := h.grid r hr
   exact aceZ (aazZ (ahuZ abuZ (by omega) (by omega) fun s hs => apBZ (g2 s hs)) aeXZ)
  refine aazZ (ahuZ aeGZ (by omega) (by omega) fun s hm => awiZ (h.shapes s hm) (hs.fit.shapes s hm)) ?_
  refine aazZ (ahuZ ahYZ (by omega) (by omega) fun x hx => ?_) (aazZ (ahuZ abuZ (by omega) (by omega) fun s hs => apBZ (h.lines s hs)) aeXZ)
  obtain ⟨g1, g2⟩ := h.hands x hx
  refine aceZ (aazZ (ahuZ apeZ (by omega) (by omega) fun l hl => ?_) aeXZ)
  obtain ⟨g3, g4⟩ := g2 l hl
  exact aceZ (aazZ (ahuZ amIZ (by omega) (by omega) fun n hn => axBZ (g4 n hn)) aeXZ)
theorem axCZ {f : Fact} (h : f.Ok) : aaKZ [arbZ] (aaAZ f) := aceZ (aazZ (hasI h.kind) (aazZ (hasI h.block) (aazZ (hasI h.a) (aazZ (hasI h.b) aeXZ))))
theorem aEKZ {q : Question} (h : q.Ok) : aaKZ [kQ] (encQ q) := by
 have l1 := h.lenS
 have l2 := h.lenO
 have l3 := h.lenN
 have l4 := h.lenR
 refine aceZ (aazZ (hasI h.kind) (aazZ (ahuZ aeLZ (by omega) (by omega) fun r hr => awgZ (h.stem r hr)) (aazZ (ahuZ abuZ (by omega) (by omega) fun s hs => apBZ (h.options s hs)) (aazZ (ahuZ aasZ (by omega) (by omega) fun s hs => awhZ (h.needs s hs)) ?_))))
 exact aazZ (hasT h.key) (aazZ (hasI h.points) (aazZ (ahuZ abuZ (by omega) (by omega) fun s hs => apBZ (h.reasons s hs)) aeXZ))
theorem axDZ {x : Item} (h : x.Ok) (hs : ISlack x) : hasL (aiAZ kBs) (acjZ x) := by
 have l1 := h.lenB
 have l2 := h.lenF
 have l3 := h.lenA
 refine aazZ (hasT h.name) (aazZ (ahuZ adCZ (by omega) (by omega) fun b hb => awjZ (h.blocks b hb) (hs.block b hb)) ?_)
 exact aazZ (ahuZ acHZ (by omega) (by omega) fun f hf => axCZ (h.facts f hf)) (aazZ (ahuZ adLZ (by omega) (by omega) fun q hq => aEKZ (h.ask q hq)) aeXZ)
theorem aunZ {x : Item} (h : x.Ok) (hs : ISlack x) (H : List AObj) : ∃ (f : Bool) (own : List (Bool × List Str)) (n : Int), aapZ AM0 6 [.agg [.str [], .sl false [acjZ x]]] H = some (.tup [.sl f (own.map fun p => [.sl p.1 (p.2.map aadZ)]), vi n], H, []) /\
  own.length <= 1 /\ ∀ p ∈ own, p.2.length <= 16 /\ ∀ s ∈ p.2, s.length <= 3000000 := by
 have h0 : hasL [.agg [kTxt, .sl [aiAZ kBs] 1 1]] [.agg [.str [], .sl false ([x].map acjZ)]] := aazZ (aCkZ (aazZ (hasT (by decide)) (aazZ (ahuZ ajWZ (by simp) (by simp) fun y hy => by
  rw [List.mem_singleton] at hy
  subst hy
  exact aceZ (axDZ h hs)) aeXZ))) aeXZ
 obtain ⟨v, hv, hk⟩ := axAZ h0 H
 unfold SH.has hasL hasL hasL at hk
 obtain ⟨vs, rfl, a, _, rfl, ha, b, _, rfl, hb, rfl⟩ := hk
 unfold SH.has at hb
 obtain ⟨n, rfl, hb⟩ := hb
 unfold SH.has at ha
 obtain ⟨f, rows, rfl, ha⟩ := ha
 have strs : ∀ rs : List (List AV), (∀ r ∈ rs, aaKZ [[.txt 3000000]] r) -> ∃ l : List Str, rs = l.map aadZ /\ ∀ s ∈ l, s.length <= 3000000 := by
  intro rs
  induction rs with
  | nil => intro _; exact ⟨[], rfl, by simp⟩
  | cons r rs ih =>
   intro hr
   obtain ⟨l, rfl, hl⟩ := ih fun x hx => hr x (List.mem_cons_of_mem _ hx)
   have h1 := hr r (by simp)
   unfold aaKZ aaKZ hasL hasL SH.has at h1
   rcases h1 with ⟨v, vr, rfl,⟨s, rfl, hs⟩, rfl⟩ | h1
   ·exact ⟨s :: l, rfl, fun t ht => by
     rcases List.mem_cons.1 ht with rfl | ht
     ·omega
     ·exact hl t ht⟩
   ·cases h1
 have owns : ∀ rs : List (List AV), (∀ r ∈ rs, aaKZ [[.sl [[.txt 3000000]] 0 16]] r) -> ∃ own : List (Bool × List Str), (rs = own.map fun p => [.sl p.1 (p.2.map aadZ)]) /\ ∀ p ∈ own, p.2.length <= 16 /\ ∀ s ∈ p.2, s.length <= 3000000 := by
  intro rs
  induction rs with
  | nil => intro _; exact ⟨[], rfl, by simp⟩
  | cons r rs ih =>
   intro hr
   obtain ⟨own, rfl, hown⟩ := ih fun x hx => hr x (List.mem_cons_of_mem _ hx)
   have h1 := hr r (by simp)
   unfold aaKZ aaKZ hasL hasL SH.has at h1
   rcases h1 with ⟨v, vr, rfl,⟨f, rows, rfl, h2, h3, h4, h5⟩, rfl⟩ | h1
   ·obtain ⟨l, rfl, hl⟩ := strs rows h5
    refine ⟨(f, l) :: own, rfl, fun p hp => ?_⟩
    rcases List.mem_cons.1 hp with rfl | hp
    ·exact ⟨by rw [List.length_map] at h4; show l.length <= 16; omega, hl⟩
    ·exact hown p hp
   ·cases h1
 obtain ⟨own, rfl, hown⟩ := owns rows ha.2.2.2
 refine ⟨f, own, n, hv, ?_, hown⟩
 have := ha.2.2.1
 simp at this
 omega
end Go.AM
end
section
set_option maxRecDepth 8000
namespace Go.AM
open Go
abbrev acZZ (g : String -> Nat) : ACode := .seq (.seq (.region false [⟨some 28, .mov (.tmp 13), none, []⟩,⟨some 29, .mov (.tmp 2), none, []⟩,⟨some 30, .lenV (.tmp 29), none, [1]⟩,⟨some 31, .bin .lss .no (.tmp 28) (.tmp 30), none, [0, 2, 1]⟩,⟨some 32, .mov (.tmp 31), none, [3, 0, 2, 1]⟩,⟨some 33, .mov (.tmp 13), some (some 32, true), [4, 3, 0, 2, 1]⟩,⟨some 34, .bin .lss .no (.tmp 33) (.const (.int .i64 8)), some (some 32, true), [5, 4, 3, 0, 2, 1]⟩,⟨some 35, .pick (.tmp 32) (.tmp 34) (.const (.bool false)), none, [6, 5, 4, 3, 0, 2, 1]⟩]) <| .cond (.tmp 35) (.skip) (.exit 0)) <| .seq (.block 1 (.region false [⟨some 38, .mov (.tmp 12), none, []⟩,⟨some 39, .mov (.tmp 2), none, []⟩,⟨some 40, .mov (.tmp 13), none, []⟩,⟨some 41, .iaV (.tmp 39) (.tmp 40) 1, none, [1, 2]⟩,⟨some 42, .load 1 false (.tmp 41), none, [3, 1, 2]⟩,⟨some 43, .callv (.const (.fn (g "dactyl/dactylref01.Short") [] [])) [(.tmp 42), (.const (.int .i64 60))], none, [4, 3, 1, 2]⟩,⟨some 44, .bsl 1 [(.str [])] 1 [(0, (.tmp 43))], none, [5, 4, 3, 1, 2]⟩,⟨some 45, .app 1 16 (.tmp 38) (.tmp 44), none, [0, 6, 5, 4, 3, 1, 2]⟩,⟨some 12, .mov (.tmp 45), none, [7, 0, 6, 5, 4, 3, 1, 2]⟩])) <| .region false [⟨some 36, .mov (.tmp 13), none, []⟩,⟨some 37, .bin .add .no (.tmp 36) (.const (.int .i64 1)), none, [0]⟩,⟨some 13, .mov (.tmp 37), none, [1, 0]⟩]
abbrev adaZ : List Nat := [28, 29, 30, 31, 32, 33, 34, 35, 38, 39, 40, 41, 42, 43, 44, 45, 12, 36, 37, 13]
abbrev afmZ (g : String -> Nat) : List AOper := [⟨some 123, .mov (.tmp 21), none, []⟩,⟨some 124, .mov (.tmp 22), none, []⟩,⟨some 125, .iaV (.tmp 123) (.tmp 124) 7, none, [0, 1]⟩,⟨some 126, .load 7 true (.tmp 125), none, [2, 0, 1]⟩,⟨some 127, .mov (.tmp 17), none, []⟩,⟨some 128, .mov (.tmp 23), none, []⟩,⟨some 129, .iaV (.tmp 127) (.tmp 128) 1, none, [4, 5]⟩,⟨some 130, .load 1 false (.tmp 129), none, [6, 4, 5]⟩,⟨some 131, .callv (.const (.fn (g "dactyl/source.Answer") [] [])) [(.tmp 126), (.tmp 130)], none, [3, 2, 0, 1, 7, 6, 4, 5]⟩,⟨some 24, .mov (.tmp 131), none, [8, 3, 2, 0, 1, 7, 6, 4, 5]⟩]
abbrev abbZ : List Nat := []
abbrev afnZ (g : String -> Nat) : List AOper := [⟨some 132, .mov (.tmp 21), none, []⟩,⟨some 133, .mov (.tmp 22), none, []⟩,⟨some 134, .iaV (.tmp 132) (.tmp 133) 7, none, [0, 1]⟩,⟨some 135, .load 7 true (.tmp 134), none, [2, 0, 1]⟩,⟨some 136, .mov (.tmp 17), none, []⟩,⟨some 137, .mov (.tmp 23), none, []⟩,⟨some 138, .iaV (.tmp 136) (.tmp 137) 1, none, [4, 5]⟩,⟨some 139, .load 1 false (.tmp 138), none, [6, 4, 5]⟩,⟨some 140, .callv (.const (.fn (g "dactyl/dactylref25.Answer") [] [])) [(.tmp 135), (.tmp 139)], none, [3, 2, 0, 1, 7, 6, 4, 5]⟩,⟨some 25, .mov (.tmp 140), none, [8, 3, 2, 0, 1, 7, 6, 4, 5]⟩]
abbrev abcZ : List Nat := []
abbrev afoZ (g : String -> Nat) : List AOper := [⟨some 141, .mov (.tmp 24), none, []⟩,⟨some 142, .mov (.tmp 25), none, []⟩,⟨some 143, .bin .neq .no (.tmp 141) (.tmp 142), none, [0, 1]⟩,⟨some 144, .mov (.tmp 143), none, [2, 0, 1]⟩,⟨some 145, .mov (.tmp 21), some (some 144, false), [3, 2, 0, 1]⟩,⟨some 146, .mov (.tmp 22), some (some 144, false), [3, 2, 0, 1]⟩,⟨some 147, .iaV (.tmp 145) (.tmp 146) 7, some (some 144, false), [4, 5, 3, 2, 0, 1]⟩,⟨some 148, .load 7 true (.tmp 147), some (some 144, false), [6, 4, 5, 3, 2, 0, 1]⟩,⟨some 149, .mov (.tmp 24), some (some 144, false), [3, 2, 0, 1]⟩,⟨some 150, .callv (.const (.fn (g "dactyl/source.Score") [] [])) [(.tmp 148), (.tmp 149)], some (some 144, false), [7, 6, 4, 5, 8, 3, 2, 0, 1]⟩,⟨some 151, .mov (.tmp 21), some (some 144, false), [3, 2, 0, 1]⟩,⟨some 152, .mov (.tmp 22), some (some 144, false), [3, 2, 0, 1]⟩,⟨some 153, .iaV (.tmp 151) (.tmp 152) 7, some (some 144, false), [10, 11, 3, 2, 0, 1]⟩,⟨some 154, .load 7 true (.tmp 153), some (some 144, false), [12, 10, 11, 3, 2, 0, 1]⟩,⟨some 155, .mov (.tmp 24), some (some 144, false), [3, 2, 0, 1]⟩,⟨some 156, .callv (.const (.fn (g "dactyl/dactylref25.Score") [] [])) [(.tmp 154), (.tmp 155)], some (some 144, false), [13, 12, 10, 11, 14, 9, 7, 6, 4, 5, 8, 3, 2, 0, 1]⟩,⟨some 157, .bin .neq .no (.tmp 150) (.tmp 156), some (some 144, false), [15, 13, 12, 10, 11, 14, 9, 7, 6, 4, 5, 8, 3, 2, 0, 1]⟩,⟨some 158, .pick (.tmp 144) (.const (.bool true)) (.tmp 157), none, [16, 15, 13, 12, 10, 11, 14, 9, 7, 6, 4, 5, 8, 3, 2, 0, 1]⟩,⟨some 159, .mov (.tmp 158), none, [17, 16, 15, 13, 12, 10, 11, 14, 9, 7, 6, 4, 5, 8, 3, 2, 0, 1]⟩,⟨some 160, .mov (.tmp 21), some (some 159, false), [18, 17, 16, 15, 13, 12, 10, 11, 14, 9, 7, 6, 4, 5, 8, 3, 2, 0, 1]⟩,⟨some 161, .mov (.tmp 22), some (some 159, false), [18, 17, 16, 15, 13, 12, 10, 11, 14, 9, 7, 6, 4, 5, 8, 3, 2, 0, 1]⟩,⟨some 162, .iaV (.tmp 160) (.tmp 161) 7, some (some 159, false), [19, 20, 18, 17, 16, 15, 13, 12, 10, 11, 14, 9, 7, 6, 4, 5, 8, 3, 2, 0, 1]⟩,⟨some 163, .load 7 true (.tmp 162), some (some 159, false), [21, 19, 20, 18, 17, 16, 15, 13, 12, 10, 11, 14, 9, 7, 6, 4, 5, 8, 3, 2, 0, 1]⟩,⟨some 164, .fa 4 (.tmp 19), some (some 159, false), [18, 17, 16, 15, 13, 12, 10, 11, 14, 9, 7, 6, 4, 5, 8, 3, 2, 0, 1]⟩,⟨some 165, .load 1 false (.tmp 164), some (some 159, false), [23, 18, 17, 16, 15, 13, 12, 10, 11, 14, 9, 7, 6, 4, 5, 8, 3, 2, 0, 1]⟩,⟨some 166, .callv (.const (.fn (g "dactyl/source.Score") [] [])) [(.tmp 163), (.tmp 165)], some (some 159, false), [22, 21, 19, 20, 24, 23, 18, 17, 16, 15, 13, 12, 10, 11, 14, 9, 7, 6, 4, 5, 8, 3, 2, 0, 1]⟩,⟨some 167, .mov (.tmp 21), some (some 159, false), [18, 17, 16, 15, 13, 12, 10, 11, 14, 9, 7, 6, 4, 5, 8, 3, 2, 0, 1]⟩,⟨some 168, .mov (.tmp 22), some (some 159, false), [18, 17, 16, 15, 13, 12, 10, 11, 14, 9, 7, 6, 4, 5, 8, 3, 2, 0, 1]⟩,⟨some 169, .iaV (.tmp 167) (.tmp 168) 7, some (some 159, false), [26, 27, 18, 17, 16, 15, 13, 12, 10, 11, 14, 9, 7, 6, 4, 5, 8, 3, 2, 0, 1]⟩,⟨some 170, .load 7 true (.tmp 169), some (some 159, false), [28, 26, 27, 18, 17, 16, 15, 13, 12, 10, 11, 14, 9, 7, 6, 4, 5, 8, 3, 2, 0, 1]⟩,⟨some 171, .fa 4 (.tmp 19), some (some 159, false), [18, 17, 16, 15, 13, 12, 10, 11, 14, 9, 7, 6, 4, 5, 8, 3, 2, 0, 1]⟩,⟨some 172, .load 1 false (.tmp 171), some (some 159, false), [30, 18, 17, 16, 15, 13, 12, 10, 11, 14, 9, 7, 6, 4, 5, 8, 3, 2, 0, 1]⟩,⟨some 173, .callv (.const (.fn (g "dactyl/dactylref25.Score") [] [])) [(.tmp 170), (.tmp 172)], some (some 159, false), [29, 28, 26, 27, 31, 30, 25, 22, 21, 19, 20, 24, 23, 18, 17, 16, 15, 13, 12, 10, 11, 14, 9, 7, 6, 4, 5, 8, 3, 2, 0, 1]⟩,⟨some 174, .bin .neq .no (.tmp 166) (.tmp 173), some (some 159, false), [32, 29, 28, 26, 27, 31, 30, 25, 22, 21, 19, 20, 24, 23, 18, 17, 16, 15, 13, 12, 10, 11, 14, 9, 7, 6, 4, 5, 8, 3, 2, 0, 1]⟩,⟨some 175, .pick (.tmp 159) (.const (.bool true)) (.tmp 174), none, [33, 32, 29, 28, 26, 27, 31, 30, 25, 22, 21, 19, 20, 24, 23, 18, 17, 16, 15, 13, 12, 10, 11, 14, 9, 7, 6, 4, 5, 8, 3, 2, 0, 1]⟩]
abbrev abdZ : List Nat := [9, 13, 25, 29, 31]
abbrev afpZ (g : String -> Nat) : List AOper := [⟨some 176, .mov (.tmp 21), none, []⟩,⟨some 177, .mov (.tmp 22), none, []⟩,⟨some 178, .iaV (.tmp 176) (.tmp 177) 7, none, [0, 1]⟩,⟨some 179, .load 7 true (.tmp 178), none, [2, 0, 1]⟩,⟨some 180, .mov (.tmp 17), none, []⟩,⟨some 181, .mov (.tmp 23), none, []⟩,⟨some 182, .iaV (.tmp 180) (.tmp 181) 1, none, [4, 5]⟩,⟨some 183, .load 1 false (.tmp 182), none, [6, 4, 5]⟩,⟨some 184, .mov (.tmp 21), none, []⟩,⟨some 185, .mov (.tmp 22), none, []⟩,⟨some 186, .iaV (.tmp 184) (.tmp 185) 7, none, [8, 9]⟩,⟨some 187, .fa 3 (.tmp 186), none, [10, 8, 9]⟩,⟨some 188, .load 1 false (.tmp 187), none, [11, 10, 8, 9]⟩,⟨some 189, .mov (.tmp 3), none, []⟩,⟨some 190, .callv (.const (.fn (g "dactyl/dactyllaw25.without") [] [])) [(.tmp 183), (.tmp 188), (.tmp 189)], none, [7, 6, 4, 5, 12, 11, 10, 8, 9, 13]⟩,⟨some 191, .callv (.const (.fn (g "dactyl/source.Answer") [] [])) [(.tmp 179), (.tmp 190)], none, [3, 2, 0, 1, 14, 7, 6, 4, 5, 12, 11, 10, 8, 9, 13]⟩,⟨some 192, .mov (.tmp 24), none, []⟩,⟨some 193, .bin .neq .no (.tmp 191) (.tmp 192), none, [15, 3, 2, 0, 1, 14, 7, 6, 4, 5, 12, 11, 10, 8, 9, 13, 16]⟩]
abbrev abeZ : List Nat := [3, 14]
abbrev adbZ (g : String -> Nat) : ACode := .seq (.seq (.region false [⟨some 117, .mov (.tmp 23), none, []⟩,⟨some 118, .mov (.tmp 17), none, []⟩,⟨some 119, .lenV (.tmp 118), none, [1]⟩,⟨some 120, .bin .lss .no (.tmp 117) (.tmp 119), none, [0, 2, 1]⟩]) <| .cond (.tmp 120) (.skip) (.exit 8)) <| .seq (.block 9 (.seq (.region true (afmZ g)) <| .seq (.region true (afnZ g)) <| .seq (.seq (.region true (afoZ g)) <| .cond (.tmp 175) (.seq (.region false [⟨some 10, .mov (.const (.bool false)), none, []⟩]) <| .ret) (.skip)) <| .seq (.region true (afpZ g)) <| .cond (.tmp 193) (.seq (.region false [⟨some 10, .mov (.const (.bool false)), none, []⟩]) <| .ret) (.skip))) <| .region false [⟨some 121, .mov (.tmp 23), none, []⟩,⟨some 122, .bin .add .no (.tmp 121) (.const (.int .i64 1)), none, [0]⟩,⟨some 23, .mov (.tmp 122), none, [1, 0]⟩]
abbrev adcZ : List Nat := [117, 118, 119, 120, 123, 124, 125, 126, 127, 128, 129, 130, 131, 24, 132, 133, 134, 135, 136, 137, 138, 139, 140, 25, 141, 142, 143, 144, 145, 146, 147, 148, 149, 150, 151, 152, 153, 154, 155, 156, 157, 158, 159, 160, 161, 162, 163, 164, 165, 166, 167, 168, 169, 170, 171, 172, 173, 174, 175, 10, 176, 177, 178, 179, 180, 181, 182, 183, 184, 185, 186, 187, 188, 189, 190, 191, 192, 193, 10, 121, 122, 23]
abbrev addZ (g : String -> Nat) : ACode := .seq (.seq (.region false [⟨some 113, .mov (.tmp 22), none, []⟩,⟨some 114, .bin .lss .no (.tmp 113) (.const (.int .i64 2)), none, [0]⟩]) <| .cond (.tmp 114) (.skip) (.exit 6)) <| .seq (.block 7 (.seq (.region false [⟨some 23, .mov (.const (.int .i64 0)), none, []⟩]) <| .block 8 (.loop (adbZ g)))) <| .region false [⟨some 115, .mov (.tmp 22), none, []⟩,⟨some 116, .bin .add .no (.tmp 115) (.const (.int .i64 1)), none, [0]⟩,⟨some 22, .mov (.tmp 116), none, [1, 0]⟩]
abbrev adeZ : List Nat := [113, 114, 23, 117, 118, 119, 120, 123, 124, 125, 126, 127, 128, 129, 130, 131, 24, 132, 133, 134, 135, 136, 137, 138, 139, 140, 25, 141, 142, 143, 144, 145, 146, 147, 148, 149, 150, 151, 152, 153, 154, 155, 156, 157, 158, 159, 160, 161, 162, 163, 164, 165, 166, 167, 168, 169, 170, 171, 172, 173, 174, 175, 10, 176, 177, 178, 179, 180, 181, 182, 183, 184, 185, 186, 187, 188, 189, 190, 191, 192, 193, 10, 121, 122, 23, 115, 116, 22]
abbrev adfZ (g : String -> Nat) : ACode := .seq (.seq (.region false [⟨some 75, .mov (.tmp 18), none, []⟩,⟨some 76, .fa 1 (.tmp 11), none, []⟩,⟨some 77, .load 1 false (.tmp 76), none, [1]⟩,⟨some 78, .mov (.tmp 14), none, []⟩,⟨some 79, .iaV (.tmp 77) (.tmp 78) 4, none, [2, 1, 3]⟩,⟨some 80, .fa 3 (.tmp 79), none, [4, 2, 1, 3]⟩,⟨some 81, .load 1 false (.tmp 80), none, [5, 4, 2, 1, 3]⟩,⟨some 82, .lenV (.tmp 81), none, [6, 5, 4, 2, 1, 3]⟩,⟨some 83, .bin .lss .no (.tmp 75) (.tmp 82), none, [0, 7, 6, 5, 4, 2, 1, 3]⟩]) <| .cond (.tmp 83) (.skip) (.exit 4)) <| .seq (.block 5 (.seq (.region false [⟨some 86, .fa 1 (.tmp 11), none, []⟩,⟨some 87, .load 1 false (.tmp 86), none, [0]⟩,⟨some 88, .mov (.tmp 14), none, []⟩,⟨some 89, .iaV (.tmp 87) (.tmp 88) 4, none, [1, 0, 2]⟩,⟨some 90, .fa 3 (.tmp 89), none, [3, 1, 0, 2]⟩,⟨some 91, .load 1 false (.tmp 90), none, [4, 3, 1, 0, 2]⟩,⟨some 92, .mov (.tmp 18), none, []⟩,⟨some 93, .iaV (.tmp 91) (.tmp 92) 7, none, [5, 4, 3, 1, 0, 2, 6]⟩,⟨some 94, .load 7 true (.tmp 93), none, [7, 5, 4, 3, 1, 0, 2, 6]⟩,⟨some 19, .alloc [(.int .i64 0), (.sl true []), (.sl true []), (.sl true []), (.str []), (.int .i64 0), (.sl true [])], none, []⟩,⟨none, .store 7 (.tmp 19) (.tmp 94), none, [8, 7, 5, 4, 3, 1, 0, 2, 6, 9]⟩]) <| .seq (.region false [⟨some 95, .load 7 true (.tmp 19), none, []⟩,⟨some 20, .alloc [(.int .i64 0), (.sl true []), (.sl true []), (.sl true []), (.str []), (.int .i64 0), (.sl true [])], none, []⟩,⟨none, .store 7 (.tmp 20) (.tmp 95), none, [0, 1]⟩]) <| .seq (.region false [⟨some 96, .mov (.tmp 1), none, []⟩,⟨some 97, .callv (.const (.fn (g "dactyl/dactylref01.Around") [] [])) [(.tmp 96), (.const (.int .i64 5))], none, [0]⟩,⟨some 98, .bin .sub .no (.tmp 97) (.const (.int .i64 1)), none, [1, 0]⟩,⟨some 99, .fa 0 (.tmp 20), none, [2, 1, 0]⟩,⟨none, .store 1 (.tmp 99) (.tmp 98), none, [3, 2, 1, 0]⟩]) <| .seq (.region false [⟨some 100, .mov (.tmp 4), none, []⟩,⟨some 101, .callv (.const (.fn (g "dactyl/dactylref01.Take") [] [])) [(.tmp 100), (.const (.int .i64 6))], none, [0]⟩,⟨some 102, .fa 3 (.tmp 20), none, [1, 0]⟩,⟨none, .store 1 (.tmp 102) (.tmp 101), none, [2, 1, 0]⟩]) <| .seq (.region false [⟨some 103, .bsl 1 [(.str [])] 0 [], none, []⟩,⟨some 104, .fa 2 (.tmp 19), none, []⟩,⟨some 105, .load 1 false (.tmp 104), none, [1]⟩,⟨some 106, .app 1 16 (.tmp 103) (.tmp 105), none, [0, 2, 1]⟩,⟨some 107, .mov (.tmp 12), none, []⟩,⟨some 108, .app 1 16 (.tmp 106) (.tmp 107), none, [4, 3, 0, 2, 1]⟩,⟨some 109, .fa 2 (.tmp 20), none, [5, 4, 3, 0, 2, 1]⟩,⟨none, .store 1 (.tmp 109) (.tmp 108), none, [6, 5, 4, 3, 0, 2, 1]⟩]) <| .seq (.region false [⟨some 110, .load 7 true (.tmp 19), none, []⟩,⟨some 111, .load 7 true (.tmp 20), none, []⟩,⟨some 112, .bsl 7 [(.int .i64 0), (.sl false []), (.sl false []), (.sl false []), (.str []), (.int .i64 0), (.sl false [])] 2 [(0, (.tmp 110)), (1, (.tmp 111))], none, [0, 1]⟩,⟨some 21, .mov (.tmp 112), none, [2, 0, 1]⟩]) <| .seq (.region false [⟨some 22, .mov (.const (.int .i64 0)), none, []⟩]) <| .block 6 (.loop (addZ g)))) <| .region false [⟨some 84, .mov (.tmp 18), none, []⟩,⟨some 85, .bin .add .no (.tmp 84) (.const (.int .i64 1)), none, [0]⟩,⟨some 18, .mov (.tmp 85), none, [1, 0]⟩]
abbrev adgZ : List Nat := [75, 76, 77, 78, 79, 80, 81, 82, 83, 86, 87, 88, 89, 90, 91, 92, 93, 94, 19, 95, 20, 96, 97, 98, 99, 100, 101, 102, 103, 104, 105, 106, 107, 108, 109, 110, 111, 112, 21, 22, 113, 114, 23, 117, 118, 119, 120, 123, 124, 125, 126, 127, 128, 129, 130, 131, 24, 132, 133, 134, 135, 136, 137, 138, 139, 140, 25, 141, 142, 143, 144, 145, 146, 147, 148, 149, 150, 151, 152, 153, 154, 155, 156, 157, 158, 159, 160, 161, 162, 163, 164, 165, 166, 167, 168, 169, 170, 171, 172, 173, 174, 175, 10, 176, 177, 178, 179, 180, 181, 182, 183, 184, 185, 186, 187, 188, 189, 190, 191, 192, 193, 10, 121, 122, 23, 115, 116, 22, 84, 85, 18]
abbrev adhZ (g : String -> Nat) : ACode := .seq (.seq (.region false [⟨some 46, .mov (.tmp 14), none, []⟩,⟨some 47, .fa 1 (.tmp 11), none, []⟩,⟨some 48, .load 1 false (.tmp 47), none, [1]⟩,⟨some 49, .lenV (.tmp 48), none, [2, 1]⟩,⟨some 50, .bin .lss .no (.tmp 46) (.tmp 49), none, [0, 3, 2, 1]⟩]) <| .cond (.tmp 50) (.skip) (.exit 2)) <| .seq (.block 3 (.seq (.region false [⟨some 54, .fa 1 (.tmp 11), none, []⟩,⟨some 55, .load 1 false (.tmp 54), none, [0]⟩,⟨some 56, .mov (.tmp 14), none, []⟩,⟨some 57, .mov (.tmp 14), none, []⟩,⟨some 58, .bin .add .no (.tmp 57) (.const (.int .i64 1)), none, [3]⟩,⟨some 59, .sliceV 4 (.tmp 55) (some (.tmp 56)) (some (.tmp 58)) none, none, [1, 0, 2, 4, 3]⟩,⟨some 60, .build [(.str []), (.sl true [])] [(1, 1, (.tmp 59))], none, [5, 1, 0, 2, 4, 3]⟩,⟨some 61, .callv (.const (.fn (g "dactyl/dactylref25.Facts") [] [])) [(.tmp 60)], none, [6, 5, 1, 0, 2, 4, 3]⟩,⟨some 53, .mov (.tmp 61), none, [7, 6, 5, 1, 0, 2, 4, 3]⟩,⟨some 62, .ext 0 (.tmp 53), none, [8, 7, 6, 5, 1, 0, 2, 4, 3]⟩,⟨some 63, .ext 1 (.tmp 53), none, [8, 7, 6, 5, 1, 0, 2, 4, 3]⟩,⟨some 15, .mov (.tmp 62), none, [9, 8, 7, 6, 5, 1, 0, 2, 4, 3]⟩,⟨some 16, .mov (.tmp 63), none, [10, 11, 9, 8, 7, 6, 5, 1, 0, 2, 4, 3]⟩]) <| .seq (.region false [⟨some 64, .mov (.tmp 12), none, []⟩,⟨some 65, .bsl 1 [(.sl false [])] 1 [(0, (.tmp 64))], none, [0]⟩,⟨some 17, .mov (.tmp 65), none, [1, 0]⟩]) <| .seq (.seq (.region false [⟨some 66, .mov (.tmp 15), none, []⟩,⟨some 67, .lenV (.tmp 66), none, [0]⟩,⟨some 68, .bin .gtr .no (.tmp 67) (.const (.int .i64 0)), none, [1, 0]⟩]) <| .cond (.tmp 68) (.region false [⟨some 69, .mov (.tmp 17), none, []⟩,⟨some 70, .mov (.tmp 15), none, []⟩,⟨some 71, .iaV (.tmp 70) (.const (.int .i64 0)) 1, none, [1]⟩,⟨some 72, .load 1 false (.tmp 71), none, [2, 1]⟩,⟨some 73, .bsl 1 [(.sl false [])] 1 [(0, (.tmp 72))], none, [3, 2, 1]⟩,⟨some 74, .app 1 24 (.tmp 69) (.tmp 73), none, [0, 4, 3, 2, 1]⟩,⟨some 17, .mov (.tmp 74), none, [5, 0, 4, 3, 2, 1]⟩]) (.skip)) <| .seq (.region false [⟨some 18, .mov (.const (.int .i64 0)), none, []⟩]) <| .block 4 (.loop (adfZ g)))) <| .region false [⟨some 51, .mov (.tmp 14), none, []⟩,⟨some 52, .bin .add .no (.tmp 51) (.const (.int .i64 1)), none, [0]⟩,⟨some 14, .mov (.tmp 52), none, [1, 0]⟩]
abbrev adiZ : List Nat := [46, 47, 48, 49, 50, 54, 55, 56, 57, 58, 59, 60, 61, 53, 62, 63, 15, 16, 64, 65, 17, 66, 67, 68, 69, 70, 71, 72, 73, 74, 17, 18, 75, 76, 77, 78, 79, 80, 81, 82, 83, 86, 87, 88, 89, 90, 91, 92, 93, 94, 19, 95, 20, 96, 97, 98, 99, 100, 101, 102, 103, 104, 105, 106, 107, 108, 109, 110, 111, 112, 21, 22, 113, 114, 23, 117, 118, 119, 120, 123, 124, 125, 126, 127, 128, 129, 130, 131, 24, 132, 133, 134, 135, 136, 137, 138, 139, 140, 25, 141, 142, 143, 144, 145, 146, 147, 148, 149, 150, 151, 152, 153, 154, 155, 156, 157, 158, 159, 160, 161, 162, 163, 164, 165, 166, 167, 168, 169, 170, 171, 172, 173, 174, 175, 10, 176, 177, 178, 179, 180, 181, 182, 183, 184, 185, 186, 187, 188, 189, 190, 191, 192, 193, 10, 121, 122, 23, 115, 116, 22, 84, 85, 18, 51, 52, 14]
def abwZ (g : String -> Nat) : AFn := ⟨195, [11, 45, 74, 19, 20, 106, 108], [.tmp 10],.seq (.region false [⟨some 10, .mov (.const (.bool false)), none, []⟩]) <| .seq (.region false [⟨some 26, .mov (.tmp 0), none, []⟩,⟨some 27, .callv (.const (.fn (g "dactyl/dactylref23.Exam") [] [])) [(.tmp 26)], none, [0]⟩,⟨some 11, .alloc [(.str []), (.sl true [])], none, []⟩,⟨none, .store 2 (.tmp 11) (.tmp 27), none, [1, 0, 2]⟩]) <| .seq (.region false [⟨some 12, .mov (.const (.sl true [])), none, []⟩]) <| .seq (.seq (.region false [⟨some 13, .mov (.const (.int .i64 0)), none, []⟩]) <| .block 0 (.loop (acZZ g))) <| .seq (.seq (.seq (.frz [(0, 12)]) <| .region false [⟨some 14, .mov (.const (.int .i64 0)), none, []⟩]) <| .block 2 (.loop (adhZ g))) <| .seq (.region false [⟨some 194, .callv (.const (.fn (g "dactyl/dactyllaw25.lives") [] [])) [], none, []⟩,⟨some 10, .mov (.tmp 194), none, [0]⟩]) <| .ret⟩
theorem apCZ (q : Question) : (encQ q).length = 7 := rfl
theorem akpZ (q : Question) : List.take 7 (encQ q) = encQ q := List.take_of_length_le (Nat.le_refl _)
theorem aClZ (q : Question) : (encQ q).drop 4 = [.str q.key, vi q.points, .sl false (q.reasons.map aadZ)] := rfl
theorem aCmZ (q : Question) : (encQ q).drop 3 = [.sl false (q.needs.map aaqZ), .str q.key, vi q.points, .sl false (q.reasons.map aadZ)] := rfl
inductive TLs (id : Nat) : List (List AV) -> AV -> AObj -> Prop
 | lit (rows : List (List AV)) (o : AObj) : TLs id rows (.sl true rows) o
 | obj (ver : Nat) (rows : List (List AV)) : TLs id rows (.sr id ver rows.length) (.vec ver 1 rows)
def encL (p : Bool × List Str) : List AV := [.sl p.1 (p.2.map aadZ)]
structure AnsSpecs (A : AProg) (g : String -> Nat) : Prop where
 ans : ∀ (q : Question) (vals : List Str), q.needs.length <= 100 -> q.options.length <= 1000 -> vals.length <= 1000 -> (∀ s ∈ needed q.needs vals, s.length <= 3000000) -> ∀ H, aapZ A (g "dactyl/source.Answer") [.agg (encQ q), .sl false (vals.map aadZ)] H = some (.str (afSZ q vals), H, [])
 ref : ∀ (q : Question) (vals : List Str), q.needs.length <= 100 -> q.options.length <= 1000 -> vals.length <= 1000 -> (∀ s ∈ needed q.needs vals, s.length <= 3000000) -> ∀ H, aapZ A (g "dactyl/dactylref25.Answer") [.agg (encQ q), .sl false (vals.map aadZ)] H = some (.str (afSZ q vals), H, [])
 score : ∀ (q : Question) (a : Str) (H : List AObj), aapZ A (g "dactyl/source.Score") [.agg (encQ q), .str a] H = some (vi (aloZ q a), H, [])
 score25 : ∀ (q : Question) (a : Str) (H : List AObj), aapZ A (g "dactyl/dactylref25.Score") [.agg (encQ q), .str a] H = some (vi (aloZ q a), H, [])
 without : ∀ (vals : List Str) (needs : List Int) (other : Str), needs.length <= 1000000 -> vals.length <= 1000000 -> ∀ H, aapZ A (g "dactyl/dactyllaw25.without") [.sl false (vals.map aadZ), .sl false (needs.map aaqZ), .str other] H = some (apjZ ((aaJZ vals needs other).map aadZ), H, [])
abbrev ardZ : List Nat := [11, 45, 74, 19, 20, 106, 108]
set_option maxHeartbeats 6400000 in
theorem azKZ {A : AProg} {g : String -> Nat} (T : AnsSpecs A g) {H : List AObj} {Q : AExit -> SEnv -> List AObj -> List Nat -> Prop} {tg} {qs : List Question} (hq : ∀ q ∈ qs, q.needs.length <= 100 /\ q.options.length <= 1000) {j : Nat} (hj : j < qs.length)
  {LL : List (Bool × List Str)} (hL : ∀ p ∈ LL, p.2.length <= 16 /\ ∀ s ∈ p.2, s.length <= 3000000) (hLn : LL.length <= 2) {q0 : Question} {v3 : Nat} {other : Str} {v17 : AV} {o0 o1 o2 o4 o5 o6 : AObj} (hv : TLs (H.length + 2) (LL.map encL) v17 o2)
  {ρ : SEnv} (e3 : ρ 3 = .str other) (e17 : ρ 17 = v17) (e19 : ρ 19 = .ptr (H.length + 3) v3 0) (e21 : ρ 21 = .sl true (qs.map encQ)) (e22 : ρ 22 = vi j) (e23 : ρ 23 = vi 0)
  (hQ : ∀ ρ', (∀ t, adcZ.contains t = false -> ρ' t = ρ t) -> Q (.exit 8) ρ' (H ++ [o0, o1, o2, .box v3 (encQ q0), o4, o5, o6]) []) :
  wl A 195 ⟨H.length, ardZ⟩ (adbZ g) ρ (H ++ [o0, o1, o2, .box v3 (encQ q0), o4, o5, o6]) [] Q tg := by
 refine aaWZ (W := adcZ) (fun m ρ1 H1 wr => wr = [] /\ H1 = H ++ [o0, o1, o2, .box v3 (encQ q0), o4, o5, o6] /\ ρ1 23 = vi m) LL.length
  (fun ρ1 H1 wr => wr = [] /\ H1 = H ++ [o0, o1, o2, .box v3 (encQ q0), o4, o5, o6])
  (by kernel_rfl) (by rfl) ⟨rfl, rfl, e23⟩ ?_ (by
   rintro ρ' H' wr' ⟨rfl, rfl⟩ hf
   exact hQ ρ' hf)
 rintro m ρ1 H2 wr1 hml ⟨rfl, rfl, e23⟩ hf
 have f3 : ρ1 3 = .str other := (hf 3 (by decide)).trans e3
 have f17 : ρ1 17 = v17 := (hf 17 (by decide)).trans e17
 have f19 : ρ1 19 = .ptr (H.length + 3) v3 0 := (hf 19 (by decide)).trans e19
 have f21 : ρ1 21 = .sl true (qs.map encQ) := (hf 21 (by decide)).trans e21
 have f22 : ρ1 22 = vi j := (hf 22 (by decide)).trans e22
 clear hf e3 e17 e19 e21 e22
 obtain ⟨q1, q2⟩ := hq _ (List.getElem_mem hj)
 have hgq : (qs.map encQ)[j]? = some (encQ qs[j]) := getElem?_map_of hj
 generalize qs[j] = q at *
 generalize hrows : LL.map encL = rows at hv
 have hrl : rows.length = LL.length := by rw [<- hrows, List.length_map]
 have body : m < LL.length -> ∃ p, LL[m]? = some p /\ rows[m]? = some [.sl p.1 (p.2.map aadZ)] /\ p.2.length <= 16 /\ ∀ s ∈ p.2, s.length <= 3000000 := by
  intro hlt
  have h1 := hL _ (List.getElem_mem hlt)
  refine ⟨LL[m], List.getElem?_eq_getElem hlt, ?_, h1.1, h1.2⟩
  rw [<- hrows]
  exact getElem?_map_of hlt
 have hj0 : (0 : Int) <= (j : Int) := by omega
 have hjt : ((j : Int)).toNat = j := by omega
 cases hv with
 | lit =>
  simp only [go_sem, ↓aafZ, NB, f17, e23, hrl]
  refine aacZ (fun hb => ?_) (fun hb => ?_)
  ·have hlt : m < LL.length := by simpa using hb
   obtain ⟨p, -, hgm, p1, p2⟩ := body hlt
   have hn : ∀ s ∈ needed q.needs p.2, s.length <= 3000000 := fun s hs => p2 s (aorZ hs)
   have c1 := T.ans q p.2 q1 q2 (by omega) hn
   have c2 := T.ref q p.2 q1 q2 (by omega) hn
   have c3 := T.score q
   have c4 := T.score25 q
   have c5 := T.ans q (aaJZ p.2 q.needs other) q1 q2 (by simp [aaJZ]; omega) (by rw [agBZ]; exact hn)
   rw [aiZZ] at c5
   have c6 : ∀ H, aaYZ none true H (aapZ A (g "dactyl/dactyllaw25.without") [.sl false (p.2.map aadZ), .sl false (q.needs.map aaqZ), .str other] H) = some (.sl false ((aaJZ p.2 q.needs other).map aadZ), H, []) := fun H => by
    rw [T.without p.2 q.needs other (by omega) (by omega)]; exact amTZ
   generalize afSZ q p.2 = an at *
   generalize aaJZ p.2 q.needs other = wo at *
   have hm0 : (0 : Int) <= (m : Int) := by omega
   have hmt : ((m : Int)).toNat = m := by omega
   have hw : IntKind.i64.wrap ((m : Int) + 1) = ((m + 1 : Nat) : Int) := by rw [wrap_i64 (by omega) (by omega)]; omega
   simp only [go_sem]
   refine aaPZ (keep := abbZ) (by rfl) (by rfl) ?_
   simp only [go_sem, ↓aafZ, ↓reduceIte, NB, NA, NE, abbZ, f17, f21, f22, e23, hj0, hjt, hm0, hmt, hgq, hgm, apCZ, akpZ, aaFZ (adLZ _), aaoZ (adLZ _), c1]
   refine aaPZ (keep := abcZ) (by rfl) (by rfl) ?_
   simp only [go_sem, ↓aafZ, ↓reduceIte, NB, NA, NE, abcZ, f17, f21, f22, e23, hj0, hjt, hm0, hmt, hgq, hgm, apCZ, akpZ, aaFZ (adLZ _), aaoZ (adLZ _), c2]
   refine aaPZ (keep := abdZ) (by rfl) (by rfl) ?_
   simp only [go_sem, ↓aafZ, ↓reduceIte, NB, NA, ND, NE, BF, abdZ, f21, f22, hj0, hjt, hgq, apCZ, akpZ, aaFZ (adLZ _), aaoZ (adLZ _), acUZ, acEZ, aavZ, f19, c3, c4, bne_self_eq_false, beq_self_eq_true, aClZ]
   refine aaPZ (keep := abeZ) (by rfl) (by rfl) ?_
   simp only [go_sem, ↓aafZ, ↓reduceIte, NB, NA, ND, NE, abeZ, f17, f21, f22, e23, hj0, hjt, hm0, hmt, hgq, hgm, apCZ, akpZ, aaFZ (adLZ _), aaoZ (adLZ _), acUZ, acEZ, aavZ, f3, c5, c6, bne_self_eq_false, beq_self_eq_true, aCmZ, hw]
   exact hlt
  ·simp only [go_sem]
 | obj ver =>
  simp only [go_sem, ↓aafZ, NB, f17, e23, hrl]
  refine aacZ (fun hb => ?_) (fun hb => ?_)
  ·have hlt : m < LL.length := by simpa using hb
   have hltI : (m : Int) < (LL.length : Int) := by omega
   obtain ⟨p, -, hgm, p1, p2⟩ := body hlt
   have hn : ∀ s ∈ needed q.needs p.2, s.length <= 3000000 := fun s hs => p2 s (aorZ hs)
   have c1 := T.ans q p.2 q1 q2 (by omega) hn
   have c2 := T.ref q p.2 q1 q2 (by omega) hn
   have c3 := T.score q
   have c4 := T.score25 q
   have c5 := T.ans q (aaJZ p.2 q.needs other) q1 q2 (by simp [aaJZ]; omega) (by rw [agBZ]; exact hn)
   rw [aiZZ] at c5
   have c6 : ∀ H, aaYZ none true H (aapZ A (g "dactyl/dactyllaw25.without") [.sl false (p.2.map aadZ), .sl false (q.needs.map aaqZ), .str other] H) = some (.sl false ((aaJZ p.2 q.needs other).map aadZ), H, []) := fun H => by
    rw [T.without p.2 q.needs other (by omega) (by omega)]; exact amTZ
   generalize afSZ q p.2 = an at *
   generalize aaJZ p.2 q.needs other = wo at *
   have hm0 : (0 : Int) <= (m : Int) := by omega
   have hmt : ((m : Int)).toNat = m := by omega
   have hw : IntKind.i64.wrap ((m : Int) + 1) = ((m + 1 : Nat) : Int) := by rw [wrap_i64 (by omega) (by omega)]; omega
   simp only [go_sem]
   refine aaPZ (keep := abbZ) (by rfl) (by rfl) ?_
   simp only [go_sem, ↓aafZ, ↓reduceIte, NB, NA, NE, abbZ, f17, hrl, hlt, hltI, f21, f22, e23, hj0, hjt, hm0, hmt, hgq, hgm, apCZ, akpZ, aaFZ (adLZ _), aaoZ (adLZ _), c1]
   refine aaPZ (keep := abcZ) (by rfl) (by rfl) ?_
   simp only [go_sem, ↓aafZ, ↓reduceIte, NB, NA, NE, abcZ, f17, hrl, hltI, f21, f22, e23, hj0, hjt, hm0, hmt, hgq, hgm, apCZ, akpZ, aaFZ (adLZ _), aaoZ (adLZ _), c2]
   refine aaPZ (keep := abdZ) (by rfl) (by rfl) ?_
   simp only [go_sem, ↓aafZ, ↓reduceIte, NB, NA, ND, NE, BF, abdZ, f21, f22, hj0, hjt, hgq, apCZ, akpZ, aaFZ (adLZ _), aaoZ (adLZ _), acUZ, acEZ, aavZ, f19, c3, c4, bne_self_eq_false, beq_self_eq_true, aClZ]
   refine aaPZ (keep := abeZ) (by rfl) (by rfl) ?_
   simp only [go_sem, ↓aafZ, ↓reduceIte, NB, NA, ND, NE, abeZ, f17, hrl, hlt, hltI, f21, f22, e23, hj0, hjt, hm0, hmt, hgq, hgm, apCZ, akpZ, aaFZ (adLZ _), aaoZ (adLZ _), acUZ, acEZ, aavZ, f3, c5, c6, bne_self_eq_false, beq_self_eq_true, aCmZ, hw]
  ·simp only [go_sem]
set_option maxHeartbeats 3200000 in
theorem atbZ {A : AProg} {g : String -> Nat} (T : AnsSpecs A g) {H : List AObj} {Q : AExit -> SEnv -> List AObj -> List Nat -> Prop} {tg} {qs : List Question} (hq : ∀ q ∈ qs, q.needs.length <= 100 /\ q.options.length <= 1000) (hq2 : qs.length = 2)
  {LL : List (Bool × List Str)} (hL : ∀ p ∈ LL, p.2.length <= 16 /\ ∀ s ∈ p.2, s.length <= 3000000) (hLn : LL.length <= 2) {q0 : Question} {v3 : Nat} {other : Str} {v17 : AV} {o0 o1 o2 o4 o5 o6 : AObj} (hv : TLs (H.length + 2) (LL.map encL) v17 o2)
  {ρ : SEnv} (e3 : ρ 3 = .str other) (e17 : ρ 17 = v17) (e19 : ρ 19 = .ptr (H.length + 3) v3 0) (e21 : ρ 21 = .sl true (qs.map encQ)) (e22 : ρ 22 = vi 0)
  (hQ : ∀ ρ', (∀ t, adeZ.contains t = false -> ρ' t = ρ t) -> Q (.exit 6) ρ' (H ++ [o0, o1, o2, .box v3 (encQ q0), o4, o5, o6]) []) :
  wl A 195 ⟨H.length, ardZ⟩ (addZ g) ρ (H ++ [o0, o1, o2, .box v3 (encQ q0), o4, o5, o6]) [] Q tg := by
 refine aaWZ (W := adeZ) (fun j ρ1 H1 wr => wr = [] /\ H1 = H ++ [o0, o1, o2, .box v3 (encQ q0), o4, o5, o6] /\ ρ1 22 = vi j) 2
  (fun ρ1 H1 wr => wr = [] /\ H1 = H ++ [o0, o1, o2, .box v3 (encQ q0), o4, o5, o6])
  (by kernel_rfl) (by rfl) ⟨rfl, rfl, e22⟩ ?_ (by
   rintro ρ' H' wr' ⟨rfl, rfl⟩ hf
   exact hQ ρ' hf)
 rintro j ρ1 H2 wr1 hjl ⟨rfl, rfl, e22⟩ hf
 have f3 : ρ1 3 = .str other := (hf 3 (by decide)).trans e3
 have f17 : ρ1 17 = v17 := (hf 17 (by decide)).trans e17
 have f19 : ρ1 19 = .ptr (H.length + 3) v3 0 := (hf 19 (by decide)).trans e19
 have f21 : ρ1 21 = .sl true (qs.map encQ) := (hf 21 (by decide)).trans e21
 simp only [go_sem, ↓aafZ, e22]
 refine aacZ (fun hb => ?_) (fun hb => ?_)
 ·have hlt : j < qs.length := by simp at hb; omega
  simp only [go_sem, ↓aafZ]
  refine azKZ (other := other) (v17 := v17) (v3 := v3) (q0 := q0) T hq hlt hL hLn hv (by simp only [go_sem, NB, f3]) (by simp only [go_sem, NB, f17]) (by simp only [go_sem, NB, f19]) (by simp only [go_sem, NB, f21]) (by simp only [go_sem, NB, e22]) (by simp only [go_sem]) ?_
  intro ρ2 hf2
  have g22 : ρ2 22 = vi j := by rw [hf2 22 (by decide)]; simp only [go_sem, NB, e22]
  simp only [go_sem, ↓aafZ, g22]
  rw [abhZ (by omega)]
  exact ⟨by omega, rfl⟩
 ·simp only [go_sem]
end Go.AM
end
section
set_option maxRecDepth 8000
namespace Go.AM
open Go
def akqZ (x : Exam) : List AV := [.str x.title, .sl false (x.items.map acjZ)]
theorem auoZ (x : Exam) : auXZ x = .agg (akqZ x) := rfl
theorem aELZ (x : Exam) : (akqZ x).length = 2 := rfl
theorem aCnZ (x : Exam) : acnZ (akqZ x) = true := by simp [akqZ, acnZ, AV.data, AV.cellOk, aabZ ajWZ]
def oddQ (q : Question) (k : Int) (some' : List Str) (needs : List Int) : Question := ⟨k, q.stem, q.options ++ some', needs, q.key, q.points, q.reasons⟩
theorem atcZ (q : Question) (k : Int) (some' : List Str) (needs : List Int) : encQ (oddQ q k some' needs) = [vi k, .sl false (q.stem.map afzZ), .sl false (q.options.map aadZ ++ some'.map aadZ), .sl false (needs.map aaqZ), .str q.key, vi q.points, .sl false (q.reasons.map aadZ)] := by
 simp only [encQ, oddQ, List.map_append]
set_option maxHeartbeats 6400000 in
theorem aCoZ {A : AProg} {g : String -> Nat} (T : AnsSpecs A g) (ha : afqZ A g) (ht : ∀ (l : List Int) (H : List AObj), aaYZ none true H (aapZ A (g "dactyl/dactylref01.Take") [.sl false (l.map aaqZ), vi 6] H) = some (.sl false ((l.take 6).map aaqZ), H, []))
  {H : List AObj} {Q : AExit -> SEnv -> List AObj -> List Nat -> Prop} {tg} {x : Exam} (hx : x.Ok) {i : Nat} (hi : i < x.items.length) {kind : Int} (hk : accZ kind) {needs : List Int} {fl : Bool} {some' : List Str} (hsm : some'.length <= 8)
  {LL : List (Bool × List Str)} (hL : ∀ p ∈ LL, p.2.length <= 16 /\ ∀ s ∈ p.2, s.length <= 3000000) (hLn : LL.length <= 2) {other : Str} {v17 : AV} {o1 o2 o3 o4 o5 o6 : AObj} (hv : TLs (H.length + 2) (LL.map encL) v17 o2)
  {ρ : SEnv} (e1 : ρ 1 = vi kind) (e3 : ρ 3 = .str other) (e4 : ρ 4 = .sl false (needs.map aaqZ)) (e11 : ρ 11 = .ptr H.length 1 0) (e12 : ρ 12 = .sl fl (some'.map aadZ)) (e14 : ρ 14 = vi i) (e17 : ρ 17 = v17) (e18 : ρ 18 = vi 0)
  (hQ : ∀ ρ' o3 o4 o5 o6, (∀ t, adgZ.contains t = false -> ρ' t = ρ t) -> Q (.exit 4) ρ' (H ++ [.box 1 (akqZ x), o1, o2, o3, o4, o5, o6]) []) :
  wl A 195 ⟨H.length, ardZ⟩ (adfZ g) ρ (H ++ [.box 1 (akqZ x), o1, o2, o3, o4, o5, o6]) [] Q tg := by
 have hok := hx.items _ (List.getElem_mem hi)
 have hgi : (x.items.map acjZ)[i]? = some (acjZ x.items[i]) := getElem?_map_of hi
 generalize x.items[i] = it at *
 refine aaWZ (W := adgZ) (fun k ρ1 H1 wr => wr = [] /\ ρ1 18 = vi k /\ ∃ o3 o4 o5 o6, H1 = H ++ [.box 1 (akqZ x), o1, o2, o3, o4, o5, o6]) it.ask.length
  (fun ρ1 H1 wr => wr = [] /\ ∃ o3 o4 o5 o6, H1 = H ++ [.box 1 (akqZ x), o1, o2, o3, o4, o5, o6])
  (by kernel_rfl) (by rfl) ⟨rfl, e18, _, _, _, _, rfl⟩ ?_ (by
   rintro ρ' H' wr' ⟨rfl, o3, o4, o5, o6, rfl⟩ hf
   exact hQ ρ' _ _ _ _ hf)
 clear o3 o4 o5 o6
 rintro k ρ1 H2 wr1 hkl ⟨rfl, e18, o3, o4, o5, o6, rfl⟩ hf
 have f1 : ρ1 1 = vi kind := (hf 1 (by decide)).trans e1
 have f3 : ρ1 3 = .str other := (hf 3 (by decide)).trans e3
 have f4 : ρ1 4 = .sl false (needs.map aaqZ) := (hf 4 (by decide)).trans e4
 have f11 : ρ1 11 = .ptr H.length 1 0 := (hf 11 (by decide)).trans e11
 have f12 : ρ1 12 = .sl fl (some'.map aadZ) := (hf 12 (by decide)).trans e12
 have f14 : ρ1 14 = vi i := (hf 14 (by decide)).trans e14
 have f17 : ρ1 17 = v17 := (hf 17 (by decide)).trans e17
 clear hf e1 e3 e4 e11 e12 e14 e17
 have hi0 : (0 : Int) <= (i : Int) := by omega
 have hit : ((i : Int)).toNat = i := by omega
 have hk0 : (0 : Int) <= (k : Int) := by omega
 have hkt : ((k : Int)).toNat = k := by omega
 simp only [go_sem, ↓aafZ, ↓reduceIte, NB, NA, f11, f14, e18, akqZ, hi0, hit, hgi, acjZ, List.length_map]
 refine aacZ (fun hb => ?_) (fun hb => ?_)
 ·have hlt : k < it.ask.length := by simpa using hb
  have hqo := hok.ask _ (List.getElem_mem hlt)
  have hgq : (it.ask.map encQ)[k]? = some (encQ it.ask[k]) := getElem?_map_of hlt
  generalize it.ask[k] = q at *
  obtain ⟨hs1, hs2⟩ := atDZ (c := 1) hk (m := 5) (by decide) (by decide) (by decide) (by decide)
  have hw : IntKind.i64.wrap ((k : Int) + 1) = ((k + 1 : Nat) : Int) := by have := hok.lenA; rw [wrap_i64 (by omega) (by omega)]; omega
  simp only [go_sem, ↓aafZ, ↓reduceIte, NB, NA, NL, NE, f11, f14, e18, hi0, hit, hgi, acjZ, hk0, hkt, hgq, apCZ, akpZ, abOZ (adLZ _)]
  have hsd : ∀ l : List Str, ((l.map aadZ).all fun r => r.all AV.still) = true := fun l => aatZ (aabZ abuZ l)
  have hsd2 : ∀ l l' : List Str, ((l.map aadZ ++ l'.map aadZ).all fun r => r.all AV.still) = true := fun l l' => by rw [<- List.map_append]; exact hsd _
  have hh : ∀ l : List Str, abkZ 1 (l.map aadZ) = true := fun l => by cases l <;> rfl
  have hro : ∀ n : Nat, n <= 100 -> abNZ n 16 = true := fun n hn => by unfold abNZ; simp; omega
  have hol := hqo.lenO
  have hnl := hqo.lenN
  have h2 : ∀ p ∈ [q, oddQ q (around kind 5 - 1) some' (needs.take 6)], p.needs.length <= 100 /\ p.options.length <= 1000 := by
   intro p hp
   simp only [List.mem_cons, List.not_mem_nil, or_false] at hp
   rcases hp with rfl | rfl
   ·exact ⟨by omega, by omega⟩
   ·refine ⟨?_, ?_⟩
    ·show (needs.take 6).length <= 100
     rw [List.length_take]; omega
    ·show (q.options ++ some').length <= 1000
     rw [List.length_append]; omega
  by_cases hoe : q.options = []
  ·have he1 : (q.options.map aadZ).isEmpty = true := by rw [hoe]; rfl
   by_cases hse : some' = []
   ·have he2 : (some'.map aadZ).isEmpty = true := by rw [hse]; rfl
    simp only [go_sem, ↓aafZ, ↓reduceIte, NB, NA, NL, ND, NE, BT, f1, ha kind, hs1, f4, ht, f12, encQ, he1, he2, hh]
    refine atbZ (other := other) (v17 := v17) (v3 := o3.ver + 1) (q0 := q) (qs := [q, oddQ q (around kind 5 - 1) some' (needs.take 6)]) T h2 rfl hL hLn hv (by simp only [go_sem, NB, f3]) (by simp only [go_sem, NB, f17]) (by simp only [go_sem, NB]) (by simp only [List.map_cons, List.map_nil, atcZ]; simp only [go_sem, NB, encQ, List.map_nil, List.append_nil, hoe, hse]) (by simp only [go_sem]) ?_
    intro ρ2 hf2
    have g18 : ρ2 18 = vi k := by rw [hf2 18 (by decide)]; simp only [go_sem, NB, e18]
    simp only [go_sem, ↓aafZ, g18, hw]
    exact ⟨hlt, _, _, _, _, rfl⟩
   ·have he2 : (some'.map aadZ).isEmpty = false := by cases some' with | nil => exact absurd rfl hse | cons a r => rfl
    have hr1 := hro some'.length (by omega)
    simp only [go_sem, ↓aafZ, ↓reduceIte, NB, NA, NL, ND, NE, BT, f1, ha kind, hs1, f4, ht, f12, encQ, he1, he2, hh, hsd, hr1, List.length_map, Nat.zero_add, List.nil_append]
    refine atbZ (other := other) (v17 := v17) (v3 := o3.ver + 1) (q0 := q) (qs := [q, oddQ q (around kind 5 - 1) some' (needs.take 6)]) T h2 rfl hL hLn hv (by simp only [go_sem, NB, f3]) (by simp only [go_sem, NB, f17]) (by simp only [go_sem, NB]) (by simp only [List.map_cons, List.map_nil, atcZ]; simp only [go_sem, NB, encQ, List.map_nil, List.nil_append, hoe]) (by simp only [go_sem]) ?_
    intro ρ2 hf2
    have g18 : ρ2 18 = vi k := by rw [hf2 18 (by decide)]; simp only [go_sem, NB, e18]
    simp only [go_sem, ↓aafZ, g18, hw]
    exact ⟨hlt, _, _, _, _, rfl⟩
  ·have he1 : (q.options.map aadZ).isEmpty = false := by cases hqo' : q.options with | nil => exact absurd hqo' hoe | cons a r => rfl
   by_cases hse : some' = []
   ·have he2 : (some'.map aadZ).isEmpty = true := by rw [hse]; rfl
    have hn0 : (some'.map aadZ).length = 0 := by rw [hse]; rfl
    have hr1 := hro q.options.length (by omega)
    simp only [go_sem, ↓aafZ, ↓reduceIte, NB, NA, NL, ND, NE, BT, f1, ha kind, hs1, f4, ht, f12, encQ, he1, he2, hh, hsd, hr1, hn0, List.length_map, Nat.zero_add, List.nil_append, Nat.add_zero]
    refine atbZ (other := other) (v17 := v17) (v3 := o3.ver + 1) (q0 := q) (qs := [q, oddQ q (around kind 5 - 1) some' (needs.take 6)]) T h2 rfl hL hLn hv (by simp only [go_sem, NB, f3]) (by simp only [go_sem, NB, f17]) (by simp only [go_sem, NB]) (by simp only [List.map_cons, List.map_nil, atcZ]; simp only [go_sem, NB, encQ, List.map_nil, List.append_nil, hse]) (by simp only [go_sem]) ?_
    intro ρ2 hf2
    have g18 : ρ2 18 = vi k := by rw [hf2 18 (by decide)]; simp only [go_sem, NB, e18]
    simp only [go_sem, ↓aafZ, g18, hw]
    exact ⟨hlt, _, _, _, _, rfl⟩
   ·have he2 : (some'.map aadZ).isEmpty = false := by cases some' with | nil => exact absurd rfl hse | cons a r => rfl
    have hr1 := hro q.options.length (by omega)
    have hr2 := hro (q.options.length + some'.length) (by omega)
    simp only [go_sem, ↓aafZ, ↓reduceIte, NB, NA, NL, ND, NE, BT, f1, ha kind, hs1, f4, ht, f12, encQ, he1, he2, hh, hsd2, hr1, hr2, List.length_map, List.length_append, Nat.zero_add, List.nil_append]
    refine atbZ (other := other) (v17 := v17) (v3 := o3.ver + 1) (q0 := q) (qs := [q, oddQ q (around kind 5 - 1) some' (needs.take 6)]) T h2 rfl hL hLn hv (by simp only [go_sem, NB, f3]) (by simp only [go_sem, NB, f17]) (by simp only [go_sem, NB]) (by simp only [List.map_cons, List.map_nil, atcZ]; simp only [go_sem, NB, encQ]) (by simp only [go_sem]) ?_
    intro ρ2 hf2
    have g18 : ρ2 18 = vi k := by rw [hf2 18 (by decide)]; simp only [go_sem, NB, e18]
    simp only [go_sem, ↓aafZ, g18, hw]
    exact ⟨hlt, _, _, _, _, rfl⟩
 ·simp only [go_sem]
  exact ⟨_, _, _, _, rfl⟩
end Go.AM
end
