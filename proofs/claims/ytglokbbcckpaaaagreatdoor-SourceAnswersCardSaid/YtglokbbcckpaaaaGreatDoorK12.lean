/- Part 12 of the proof that stands in the last text of this folder (lemmas; no statement of its own). -/
import Derived.Test.YtglokbbcckpaaaaGreatDoorK11
import Derived.Laws.BitsLemmas
import Derived.KernelRfl
set_option linter.unusedVariables false
set_option linter.unusedSimpArgs false
open Nat renaming reduceAdd -> NA, reduceLT -> NL, reduceLeDiff -> ND
open Bool renaming not_true -> BT, not_false -> BF
section
namespace Go.AM
open Go
structure Tg {α : Type} (a : α) : Type where
def amDZ {α : Type} (x : Option α) (k : α -> Prop) (tg : Tg k) : Prop := match x with
 | some a => k a
 | none => False
@[go_sem] theorem azRZ {α : Type} {a : α} {k : α -> Prop} {t : Tg k} : amDZ (some a) k t = k a := (rfl)
def bnd {α : Type} (x : Option α) (k : α -> Prop) : Prop := amDZ x k ⟨⟩
@[go_sem] theorem aCrZ {α : Type} {a : α} {k : α -> Prop} : bnd (some a) k = k a := (rfl)
@[congr] theorem aAFZ {α : Type} {x y : Option α} {k : α -> Prop} (h : x = y) : bnd x k = bnd y k := by rw [h]
theorem aafZ {α : Type} {x : Option α} {k : α -> Prop} : bnd x k = amDZ x k ⟨⟩ := (rfl)
def ahAZ (b : Bool) (x y : Prop) (tg : Tg (x, y)) : Prop := match b with
 | true => x
 | false => y
@[go_sem] theorem ayvZ {x y : Prop} {t : Tg (x, y)} : ahAZ true x y t = x := (rfl)
@[go_sem] theorem axOZ {x y : Prop} {t : Tg (x, y)} : ahAZ false x y t = y := (rfl)
theorem aacZ {b : Bool} {x y : Prop} {t : Tg (x, y)} (h1 : b = true -> x) (h2 : b = false -> y) : ahAZ b x y t := by
 cases b
 ·exact h2 rfl
 ·exact h1 rfl
def axPZ : AV -> Option Bool
 | .bool b => some b
 | _ => none
@[go_sem] theorem aywZ {b : Bool} : axPZ (.bool b) = some b := (rfl)
def aqgZ (b : Bool) : AV -> Option Bool
 | .bool b' => some (b' == b)
 | .tup [] => some false
 | _ => none
@[go_sem] theorem ayxZ {b b' : Bool} : aqgZ b (.bool b') = some (b' == b) := (rfl)
def wo (call : Nat -> List AV -> List AObj -> Out) (c : Ctx) (ops : List AOper) (ρ : SEnv) (H : List AObj) (wr : List Nat) (K : SEnv -> List AObj -> List Nat -> Prop) (tg : Tg (call, c, ops, K)) : Prop := aiRZ call c ops ρ H wr K
def wd (call : Nat -> List AV -> List AObj -> Out) (c : Ctx) (keep : List Nat) (i : Nat) (ops : List AOper) (ρ : SEnv) (H : List AObj) (wr : List Nat) (L : SEnv -> List AObj -> List Nat -> Log -> Prop) (tg : Tg (call, c, keep, ops, L)) : Prop :=
 wpD call c keep i ops ρ H wr L
def wc (A : AProg) (N : Nat) (c : Ctx) (x : ACode) (ρ : SEnv) (H : List AObj) (wr : List Nat) (Q : AExit -> SEnv -> List AObj -> List Nat -> Prop) (tg : Tg (A, N, c, x, Q)) : Prop := wpc A N c x ρ H wr Q
def wl (A : AProg) (N : Nat) (c : Ctx) (x : ACode) (ρ : SEnv) (H : List AObj) (wr : List Nat) (Q : AExit -> SEnv -> List AObj -> List Nat -> Prop) (tg : Tg (A, N, c, x, Q)) : Prop := Wp A N c (.loop x) ρ H wr Q
def wfz (c : Ctx) (ts : List (Nat × Nat)) (ρ : SEnv) (H : List AObj) (wr : List Nat) (K : SEnv -> List AObj -> List Nat -> Prop) (tg : Tg (c, ts, K)) : Prop := ajSZ c ts ρ H wr K
section
variable {call : Nat -> List AV -> List AObj -> Out} {c : Ctx} {ρ : SEnv} {H : List AObj} {wr : List Nat} {r : List AOper} {p : List Nat} {d : Nat}
 {K : SEnv -> List AObj -> List Nat -> Prop} {t : Tg (call, c, r, K)}
@[go_sem] theorem aENZ {t : Tg (call, c, [], K)} : wo call c [] ρ H wr K t = K ρ H wr := (rfl)
theorem wo_R {op : AOp} {t : Tg (call, c,⟨some d, op, none, p⟩ :: r, K)} (h : isW (c.site (some d)) false op = false) : wo call c (⟨some d, op, none, p⟩ :: r) ρ H wr K t = bnd (evRF H ρ op) fun v => wo call c r (upd ρ d v) H wr K ⟨⟩ := by
 unfold wo
 conv => lhs; unfold aiRZ
 simp only [adKZ]
 unfold adAZ
 rw [if_neg (by simp [h])]
 cases evRF H ρ op <;> rfl
@[go_sem] theorem aEOZ {x1 : AOpd} {t : Tg (call, c,⟨some d, .mov x1, none, p⟩ :: r, K)} : wo call c (⟨some d, .mov x1, none, p⟩ :: r) ρ H wr K t = bnd (evRF H ρ (.mov x1)) fun v => wo call c r (upd ρ d v) H wr K ⟨⟩ := wo_R rfl
@[go_sem] theorem aDIZ {x1 : AOpd} {y1 : AOpd} {z1 : AOpd} {t : Tg (call, c,⟨some d, .pick x1 y1 z1, none, p⟩ :: r, K)} : wo call c (⟨some d, .pick x1 y1 z1, none, p⟩ :: r) ρ H wr K t = bnd (evRF H ρ (.pick x1 y1 z1)) fun v => wo call c r (upd ρ d v) H wr K ⟨⟩ := wo_R rfl
@[go_sem] theorem aCsZ {zs1 : List AV} {ps1 : List (Nat × Nat × AOpd)} {t : Tg (call, c,⟨some d, .build zs1 ps1, none, p⟩ :: r, K)} : wo call c (⟨some d, .build zs1 ps1, none, p⟩ :: r) ρ H wr K t = bnd (evRF H ρ (.build zs1 ps1)) fun v => wo call c r (upd ρ d v) H wr K ⟨⟩ := wo_R rfl
@[go_sem] theorem aDJZ {k1 : Nat} {agg1 : Bool} {x1 : AOpd} {t : Tg (call, c,⟨some d, .load k1 agg1 x1, none, p⟩ :: r, K)} : wo call c (⟨some d, .load k1 agg1 x1, none, p⟩ :: r) ρ H wr K t = bnd (evRF H ρ (.load k1 agg1 x1)) fun v => wo call c r (upd ρ d v) H wr K ⟨⟩ := wo_R rfl
@[go_sem] theorem aCtZ {x1 : AOpd} {t : Tg (call, c,⟨some d, .nilck x1, none, p⟩ :: r, K)} : wo call c (⟨some d, .nilck x1, none, p⟩ :: r) ρ H wr K t = bnd (evRF H ρ (.nilck x1)) fun v => wo call c r (upd ρ d v) H wr K ⟨⟩ := wo_R rfl
@[go_sem] theorem aEPZ {b1 : BinOp} {e1 : EqK} {x1 : AOpd} {y1 : AOpd} {t : Tg (call, c,⟨some d, .bin b1 e1 x1 y1, none, p⟩ :: r, K)} : wo call c (⟨some d, .bin b1 e1 x1 y1, none, p⟩ :: r) ρ H wr K t = bnd (evRF H ρ (.bin b1 e1 x1 y1)) fun v => wo call c r (upd ρ d v) H wr K ⟨⟩ := wo_R rfl
@[go_sem] theorem aFlZ {u1 : UnOp} {x1 : AOpd} {t : Tg (call, c,⟨some d, .un u1 x1, none, p⟩ :: r, K)} : wo call c (⟨some d, .un u1 x1, none, p⟩ :: r) ρ H wr K t = bnd (evRF H ρ (.un u1 x1)) fun v => wo call c r (upd ρ d v) H wr K ⟨⟩ := wo_R rfl
@[go_sem] theorem aDKZ {cv1 : AConv} {x1 : AOpd} {t : Tg (call, c,⟨some d, .conv cv1 x1, none, p⟩ :: r, K)} : wo call c (⟨some d, .conv cv1 x1, none, p⟩ :: r) ρ H wr K t = bnd (evRF H ρ (.conv cv1 x1)) fun v => wo call c r (upd ρ d v) H wr K ⟨⟩ := wo_R rfl
@[go_sem] theorem aEQZ {f1 : Nat} {xs1 : List AOpd} {ys1 : List AOpd} {t : Tg (call, c,⟨some d, .mkf f1 xs1 ys1, none, p⟩ :: r, K)} : wo call c (⟨some d, .mkf f1 xs1 ys1, none, p⟩ :: r) ρ H wr K t = bnd (evRF H ρ (.mkf f1 xs1 ys1)) fun v => wo call c r (upd ρ d v) H wr K ⟨⟩ := wo_R rfl
@[go_sem] theorem aAGZ {x1 : AOpd} {lo1 : Option AOpd} {hi1 : Option AOpd} {t : Tg (call, c,⟨some d, .sliceS x1 lo1 hi1, none, p⟩ :: r, K)} : wo call c (⟨some d, .sliceS x1 lo1 hi1, none, p⟩ :: r) ρ H wr K t = bnd (evRF H ρ (.sliceS x1 lo1 hi1)) fun v => wo call c r (upd ρ d v) H wr K ⟨⟩ := wo_R rfl
@[go_sem] theorem aAHZ {k1 : Nat} {x1 : AOpd} {lo1 : Option AOpd} {hi1 : Option AOpd} {mx1 : Option AOpd} {t : Tg (call, c,⟨some d, .sliceV k1 x1 lo1 hi1 mx1, none, p⟩ :: r, K)} : wo call c (⟨some d, .sliceV k1 x1 lo1 hi1 mx1, none, p⟩ :: r) ρ H wr K t = bnd (evRF H ρ (.sliceV k1 x1 lo1 hi1 mx1)) fun v => wo call c r (upd ρ d v) H wr K ⟨⟩ := wo_R rfl
@[go_sem] theorem aFmZ {o1 : Nat} {x1 : AOpd} {t : Tg (call, c,⟨some d, .fa o1 x1, none, p⟩ :: r, K)} : wo call c (⟨some d, .fa o1 x1, none, p⟩ :: r) ρ H wr K t = bnd (evRF H ρ (.fa o1 x1)) fun v => wo call c r (upd ρ d v) H wr K ⟨⟩ := wo_R rfl
@[go_sem] theorem aERZ {x1 : AOpd} {i1 : AOpd} {k1 : Nat} {t : Tg (call, c,⟨some d, .iaV x1 i1 k1, none, p⟩ :: r, K)} : wo call c (⟨some d, .iaV x1 i1 k1, none, p⟩ :: r) ρ H wr K t = bnd (evRF H ρ (.iaV x1 i1 k1)) fun v => wo call c r (upd ρ d v) H wr K ⟨⟩ := wo_R rfl
@[go_sem] theorem aESZ {x1 : AOpd} {i1 : AOpd} {t : Tg (call, c,⟨some d, .ixS x1 i1, none, p⟩ :: r, K)} : wo call c (⟨some d, .ixS x1 i1, none, p⟩ :: r) ρ H wr K t = bnd (evRF H ρ (.ixS x1 i1)) fun v => wo call c r (upd ρ d v) H wr K ⟨⟩ := wo_R rfl
@[go_sem] theorem aDLZ {x1 : AOpd} {t : Tg (call, c,⟨some d, .lenS x1, none, p⟩ :: r, K)} : wo call c (⟨some d, .lenS x1, none, p⟩ :: r) ρ H wr K t = bnd (evRF H ρ (.lenS x1)) fun v => wo call c r (upd ρ d v) H wr K ⟨⟩ := wo_R rfl
@[go_sem] theorem aDMZ {x1 : AOpd} {t : Tg (call, c,⟨some d, .lenV x1, none, p⟩ :: r, K)} : wo call c (⟨some d, .lenV x1, none, p⟩ :: r) ρ H wr K t = bnd (evRF H ρ (.lenV x1)) fun v => wo call c r (upd ρ d v) H wr K ⟨⟩ := wo_R rfl
@[go_sem] theorem aFnZ {m1 : Bool} {xs1 : List AOpd} {t : Tg (call, c,⟨some d, .mm m1 xs1, none, p⟩ :: r, K)} : wo call c (⟨some d, .mm m1 xs1, none, p⟩ :: r) ρ H wr K t = bnd (evRF H ρ (.mm m1 xs1)) fun v => wo call c r (upd ρ d v) H wr K ⟨⟩ := wo_R rfl
@[go_sem] theorem aETZ {i1 : Nat} {x1 : AOpd} {t : Tg (call, c,⟨some d, .ext i1 x1, none, p⟩ :: r, K)} : wo call c (⟨some d, .ext i1 x1, none, p⟩ :: r) ρ H wr K t = bnd (evRF H ρ (.ext i1 x1)) fun v => wo call c r (upd ρ d v) H wr K ⟨⟩ := wo_R rfl
theorem wo_S {op : AOp} {d : Option Nat} {t : Tg (call, c,⟨d, op, none, p⟩ :: r, K)} : wo call c (⟨d, op, none, p⟩ :: r) ρ H wr K t = bnd (adAZ call (c.site d) false ρ H op) fun t => wo call c r (updO ρ d t.1) t.2.1 (aaCZ c.base wr t.2.2) K ⟨⟩ := by
 unfold wo
 conv => lhs; unfold aiRZ
 simp only [adKZ]
 cases adAZ call (c.site d) false ρ H op <;> rfl
@[go_sem] theorem aCuZ {k : Nat} {x v : AOpd} {d : Option Nat} {t : Tg (call, c,⟨d, .store k x v, none, p⟩ :: r, K)} : wo call c (⟨d, .store k x v, none, p⟩ :: r) ρ H wr K t = bnd (evWF call H ρ (c.site d) (.store k x v)) fun t => wo call c r (updO ρ d t.1) t.2.1 (aaCZ c.base wr t.2.2) K ⟨⟩ := wo_S
@[go_sem] theorem aEUZ {k b : Nat} {x v : AOpd} {d : Option Nat} {t : Tg (call, c,⟨d, .app k b x v, none, p⟩ :: r, K)} : wo call c (⟨d, .app k b x v, none, p⟩ :: r) ρ H wr K t = bnd (ahEZ H (c.site d) k b (x.at ρ) (v.at ρ)) fun t => wo call c r (updO ρ d t.1) t.2.1 (aaCZ c.base wr t.2.2) K ⟨⟩ := wo_S
@[go_sem] theorem aCvZ {f : AOpd} {xs : List AOpd} {d : Option Nat} {t : Tg (call, c,⟨d, .callv f xs, none, p⟩ :: r, K)} : wo call c (⟨d, .callv f xs, none, p⟩ :: r) ρ H wr K t = bnd (abrZ call H (c.site d) (f.at ρ) (xs.map (AOpd.at ρ))) fun t => wo call c r (updO ρ d t.1) t.2.1 (aaCZ c.base wr t.2.2) K ⟨⟩ := wo_S
@[go_sem] theorem aCwZ {zs : List AV} {d : Option Nat} {t : Tg (call, c,⟨d, .alloc zs, none, p⟩ :: r, K)} : wo call c (⟨d, .alloc zs, none, p⟩ :: r) ρ H wr K t = bnd (adAZ call (c.site d) false ρ H (.alloc zs)) fun t => wo call c r (updO ρ d t.1) t.2.1 (aaCZ c.base wr t.2.2) K ⟨⟩ := wo_S
@[go_sem] theorem aEVZ {k : Nat} {x : AOpd} {d : Option Nat} {t : Tg (call, c,⟨d, .box k x, none, p⟩ :: r, K)} : wo call c (⟨d, .box k x, none, p⟩ :: r) ρ H wr K t = bnd (adAZ call (c.site d) false ρ H (.box k x)) fun t => wo call c r (updO ρ d t.1) t.2.1 (aaCZ c.base wr t.2.2) K ⟨⟩ := wo_S
@[go_sem] theorem aEWZ {k n : Nat} {zs : List AV} {ps : List (Nat × AOpd)} {d : Option Nat} {t : Tg (call, c,⟨d, .bsl k zs n ps, none, p⟩ :: r, K)} : wo call c (⟨d, .bsl k zs n ps, none, p⟩ :: r) ρ H wr K t = bnd (evWF call H ρ (c.site d) (.bsl k zs n ps)) fun t => wo call c r (updO ρ d t.1) t.2.1 (aaCZ c.base wr t.2.2) K ⟨⟩ := by
 rw [wo_S]
 have : adAZ call (c.site d) false ρ H (.bsl k zs n ps) = evWF call H ρ (c.site d) (.bsl k zs n ps) := by
  unfold adAZ
  rw [if_pos (by simp [isW])]
 rw [this]
@[go_sem] theorem aCxZ {op : AOp} {t1 : Nat} {b : Bool} {d : Option Nat} {t : Tg (call, c,⟨d, op, some (some t1, b), p⟩ :: r, K)} : wo call c (⟨d, op, some (some t1, b), p⟩ :: r) ρ H wr K t =
  bnd (aqgZ b (ρ t1)) fun w => ahAZ w (wo call c (⟨d, op, none, p⟩ :: r) ρ H wr K ⟨⟩) (wo call c r (updO ρ d (.tup [])) H wr K ⟨⟩) ⟨⟩ := by
 conv => lhs; unfold wo aiRZ
 simp only [adKZ]
 cases ht : ρ t1 <;> try rfl
 rotate_left
 ·rename_i vs; cases vs <;> rfl
 rename_i b'
 simp only [aqgZ, bnd, amDZ]
 cases hb : (b' == b) with
 | false => rfl
 | true => simp only [ahAZ]; rw [wo_S]; cases adAZ call (c.site d) false ρ H op <;> rfl
variable {keep : List Nat} {n0 : Nat} {L : SEnv -> List AObj -> List Nat -> Log -> Prop}
@[go_sem] theorem aEXZ {t : Tg (call, c, keep, [], L)} : wd call c keep n0 [] ρ H wr L t = L ρ H wr [] := (rfl)
def logK (i : Nat) (rd : List Nat) (w : Option (List Nat)) (L : SEnv -> List AObj -> List Nat -> Log -> Prop) (tg : Tg L) : SEnv -> List AObj -> List Nat -> Log -> Prop :=
 fun ρ H wr log => L ρ H wr ((i, rd, w) :: log)
@[go_sem] theorem aDNZ {i : Nat} {rd : List Nat} {w : Option (List Nat)} {t : Tg L} {log : Log} : logK i rd w L t ρ H wr log = L ρ H wr ((i, rd, w) :: log) := (rfl)
def kept (b : Bool) (x y : Prop) (tg : Tg (x, y)) : Prop := match b with
 | true => x
 | false => y
@[go_sem] theorem aAIZ {x y : Prop} {t : Tg (x, y)} : kept true x y t = x := (rfl)
@[go_sem] theorem azSZ {x y : Prop} {t : Tg (x, y)} : kept false x y t = y := (rfl)
theorem wd_S {op : AOp} {d : Option Nat} {t : Tg (call, c, keep,⟨d, op, none, p⟩ :: r, L)} : wd call c keep n0 (⟨d, op, none, p⟩ :: r) ρ H wr L t = bnd (aekZ call (c.site d) ρ H op) fun t =>
  kept (keep.contains n0) (wd call c keep (n0 + 1) r (updO ρ d t.1) t.2.1 (aaCZ c.base wr (t.2.2.2.getD [])) (logK n0 t.2.2.1 t.2.2.2 L ⟨⟩) ⟨⟩)
   (wd call c keep (n0 + 1) r (updO ρ d t.1) t.2.1 (aaCZ c.base wr (t.2.2.2.getD [])) L ⟨⟩) ⟨⟩ := by
 unfold wd
 conv => lhs; unfold wpD
 simp only [adKZ]
 cases aekZ call (c.site d) ρ H op with
 | none => rfl
 | some v => cases hk : keep.contains n0 <;> rfl
theorem wd_R {op : AOp} {t : Tg (call, c, keep,⟨some d, op, none, p⟩ :: r, L)} (h : isW (c.site (some d)) true op = false) (ha : ∀ zs, op ≠ .alloc zs) : wd call c keep n0 (⟨some d, op, none, p⟩ :: r) ρ H wr L t = bnd (evRF H ρ op) fun v =>
  kept (keep.contains n0) (bnd (some (afcZ ρ op)) fun rd => wd call c keep (n0 + 1) r (upd ρ d v) H wr (logK n0 rd none L ⟨⟩) ⟨⟩)
   (wd call c keep (n0 + 1) r (upd ρ d v) H wr L ⟨⟩) ⟨⟩ := by
 rw [wd_S]
 have : aekZ call (c.site (some d)) ρ H op = match evRF H ρ op with
   | some v => some (v, H, afcZ ρ op, none)
   | none => none := by
  cases op <;> first | exact absurd rfl (ha _) | (unfold aekZ; dsimp only; rw [if_neg (by rw [h]; exact Bool.false_ne_true)]; rfl)
 rw [this]
 cases evRF H ρ op <;> rfl
@[go_sem] theorem aEYZ {x1 : AOpd} {t : Tg (call, c, keep,⟨some d, .mov x1, none, p⟩ :: r, L)} : wd call c keep n0 (⟨some d, .mov x1, none, p⟩ :: r) ρ H wr L t = bnd (evRF H ρ (.mov x1)) fun v =>
  kept (keep.contains n0) (bnd (some (afcZ ρ (.mov x1))) fun rd => wd call c keep (n0 + 1) r (upd ρ d v) H wr (logK n0 rd none L ⟨⟩) ⟨⟩)
   (wd call c keep (n0 + 1) r (upd ρ d v) H wr L ⟨⟩) ⟨⟩ := wd_R rfl (fun _ h => by cases h)
@[go_sem] theorem aDOZ {x1 : AOpd} {y1 : AOpd} {z1 : AOpd} {t : Tg (call, c, keep,⟨some d, .pick x1 y1 z1, none, p⟩ :: r, L)} : wd call c keep n0 (⟨some d, .pick x1 y1 z1, none, p⟩ :: r) ρ H wr L t = bnd (evRF H ρ (.pick x1 y1 z1)) fun v =>
  kept (keep.contains n0) (bnd (some (afcZ ρ (.pick x1 y1 z1))) fun rd => wd call c keep (n0 + 1) r (upd ρ d v) H wr (logK n0 rd none L ⟨⟩) ⟨⟩)
   (wd call c keep (n0 + 1) r (upd ρ d v) H wr L ⟨⟩) ⟨⟩ := wd_R rfl (fun _ h => by cases h)
@[go_sem] theorem aCyZ {zs1 : List AV} {ps1 : List (Nat × Nat × AOpd)} {t : Tg (call, c, keep,⟨some d, .build zs1 ps1, none, p⟩ :: r, L)} : wd call c keep n0 (⟨some d, .build zs1 ps1, none, p⟩ :: r) ρ H wr L t = bnd (evRF H ρ (.build zs1 ps1)) fun v =>
  kept (keep.contains n0) (bnd (some (afcZ ρ (.build zs1 ps1))) fun rd => wd call c keep (n0 + 1) r (upd ρ d v) H wr (logK n0 rd none L ⟨⟩) ⟨⟩)
   (wd call c keep (n0 + 1) r (upd ρ d v) H wr L ⟨⟩) ⟨⟩ := wd_R rfl (fun _ h => by cases h)
@[go_sem] theorem aDPZ {k1 : Nat} {agg1 : Bool} {x1 : AOpd} {t : Tg (call, c, keep,⟨some d, .load k1 agg1 x1, none, p⟩ :: r, L)} : wd call c keep n0 (⟨some d, .load k1 agg1 x1, none, p⟩ :: r) ρ H wr L t = bnd (evRF H ρ (.load k1 agg1 x1)) fun v =>
  kept (keep.contains n0) (bnd (some (afcZ ρ (.load k1 agg1 x1))) fun rd => wd call c keep (n0 + 1) r (upd ρ d v) H wr (logK n0 rd none L ⟨⟩) ⟨⟩)
   (wd call c keep (n0 + 1) r (upd ρ d v) H wr L ⟨⟩) ⟨⟩ := wd_R rfl (fun _ h => by cases h)
@[go_sem] theorem aCzZ {x1 : AOpd} {t : Tg (call, c, keep,⟨some d, .nilck x1, none, p⟩ :: r, L)} : wd call c keep n0 (⟨some d, .nilck x1, none, p⟩ :: r) ρ H wr L t = bnd (evRF H ρ (.nilck x1)) fun v =>
  kept (keep.contains n0) (bnd (some (afcZ ρ (.nilck x1))) fun rd => wd call c keep (n0 + 1) r (upd ρ d v) H wr (logK n0 rd none L ⟨⟩) ⟨⟩)
   (wd call c keep (n0 + 1) r (upd ρ d v) H wr L ⟨⟩) ⟨⟩ := wd_R rfl (fun _ h => by cases h)
@[go_sem] theorem aEZZ {b1 : BinOp} {e1 : EqK} {x1 : AOpd} {y1 : AOpd} {t : Tg (call, c, keep,⟨some d, .bin b1 e1 x1 y1, none, p⟩ :: r, L)} : wd call c keep n0 (⟨some d, .bin b1 e1 x1 y1, none, p⟩ :: r) ρ H wr L t = bnd (evRF H ρ (.bin b1 e1 x1 y1)) fun v =>
  kept (keep.contains n0) (bnd (some (afcZ ρ (.bin b1 e1 x1 y1))) fun rd => wd call c keep (n0 + 1) r (upd ρ d v) H wr (logK n0 rd none L ⟨⟩) ⟨⟩)
   (wd call c keep (n0 + 1) r (upd ρ d v) H wr L ⟨⟩) ⟨⟩ := wd_R rfl (fun _ h => by cases h)
@[go_sem] theorem aDQZ {cv1 : AConv} {x1 : AOpd} {t : Tg (call, c, keep,⟨some d, .conv cv1 x1, none, p⟩ :: r, L)} : wd call c keep n0 (⟨some d, .conv cv1 x1, none, p⟩ :: r) ρ H wr L t = bnd (evRF H ρ (.conv cv1 x1)) fun v =>
  kept (keep.contains n0) (bnd (some (afcZ ρ (.conv cv1 x1))) fun rd => wd call c keep (n0 + 1) r (upd ρ d v) H wr (logK n0 rd none L ⟨⟩) ⟨⟩)
   (wd call c keep (n0 + 1) r (upd ρ d v) H wr L ⟨⟩) ⟨⟩ := wd_R rfl (fun _ h => by cases h)
@[go_sem] theorem aFoZ {o1 : Nat} {x1 : AOpd} {t : Tg (call, c, keep,⟨some d, .fa o1 x1, none, p⟩ :: r, L)} : wd call c keep n0 (⟨some d, .fa o1 x1, none, p⟩ :: r) ρ H wr L t = bnd (evRF H ρ (.fa o1 x1)) fun v =>
  kept (keep.contains n0) (bnd (some (afcZ ρ (.fa o1 x1))) fun rd => wd call c keep (n0 + 1) r (upd ρ d v) H wr (logK n0 rd none L ⟨⟩) ⟨⟩)
   (wd call c keep (n0 + 1) r (upd ρ d v) H wr L ⟨⟩) ⟨⟩ := wd_R rfl (fun _ h => by cases h)
@[go_sem] theorem aFaZ {x1 : AOpd} {i1 : AOpd} {k1 : Nat} {t : Tg (call, c, keep,⟨some d, .iaV x1 i1 k1, none, p⟩ :: r, L)} : wd call c keep n0 (⟨some d, .iaV x1 i1 k1, none, p⟩ :: r) ρ H wr L t = bnd (evRF H ρ (.iaV x1 i1 k1)) fun v =>
  kept (keep.contains n0) (bnd (some (afcZ ρ (.iaV x1 i1 k1))) fun rd => wd call c keep (n0 + 1) r (upd ρ d v) H wr (logK n0 rd none L ⟨⟩) ⟨⟩)
   (wd call c keep (n0 + 1) r (upd ρ d v) H wr L ⟨⟩) ⟨⟩ := wd_R rfl (fun _ h => by cases h)
@[go_sem] theorem aDRZ {x1 : AOpd} {t : Tg (call, c, keep,⟨some d, .lenV x1, none, p⟩ :: r, L)} : wd call c keep n0 (⟨some d, .lenV x1, none, p⟩ :: r) ρ H wr L t = bnd (evRF H ρ (.lenV x1)) fun v =>
  kept (keep.contains n0) (bnd (some (afcZ ρ (.lenV x1))) fun rd => wd call c keep (n0 + 1) r (upd ρ d v) H wr (logK n0 rd none L ⟨⟩) ⟨⟩)
   (wd call c keep (n0 + 1) r (upd ρ d v) H wr L ⟨⟩) ⟨⟩ := wd_R rfl (fun _ h => by cases h)
@[go_sem] theorem aCAZ {k : Nat} {x v : AOpd} {d : Option Nat} {t : Tg (call, c, keep,⟨d, .store k x v, none, p⟩ :: r, L)} : wd call c keep n0 (⟨d, .store k x v, none, p⟩ :: r) ρ H wr L t = bnd (aekZ call (c.site d) ρ H (.store k x v)) fun t =>
  kept (keep.contains n0) (wd call c keep (n0 + 1) r (updO ρ d t.1) t.2.1 (aaCZ c.base wr (t.2.2.2.getD [])) (logK n0 t.2.2.1 t.2.2.2 L ⟨⟩) ⟨⟩)
   (wd call c keep (n0 + 1) r (updO ρ d t.1) t.2.1 (aaCZ c.base wr (t.2.2.2.getD [])) L ⟨⟩) ⟨⟩ := wd_S
@[go_sem] theorem aFbZ {k b : Nat} {x v : AOpd} {d : Option Nat} {t : Tg (call, c, keep,⟨d, .app k b x v, none, p⟩ :: r, L)} : wd call c keep n0 (⟨d, .app k b x v, none, p⟩ :: r) ρ H wr L t = bnd (aekZ call (c.site d) ρ H (.app k b x v)) fun t =>
  kept (keep.contains n0) (wd call c keep (n0 + 1) r (updO ρ d t.1) t.2.1 (aaCZ c.base wr (t.2.2.2.getD [])) (logK n0 t.2.2.1 t.2.2.2 L ⟨⟩) ⟨⟩)
   (wd call c keep (n0 + 1) r (updO ρ d t.1) t.2.1 (aaCZ c.base wr (t.2.2.2.getD [])) L ⟨⟩) ⟨⟩ := wd_S
@[go_sem] theorem aCBZ {f : AOpd} {xs : List AOpd} {d : Option Nat} {t : Tg (call, c, keep,⟨d, .callv f xs, none, p⟩ :: r, L)} : wd call c keep n0 (⟨d, .callv f xs, none, p⟩ :: r) ρ H wr L t = bnd (aekZ call (c.site d) ρ H (.callv f xs)) fun t =>
  kept (keep.contains n0) (wd call c keep (n0 + 1) r (updO ρ d t.1) t.2.1 (aaCZ c.base wr (t.2.2.2.getD [])) (logK n0 t.2.2.1 t.2.2.2 L ⟨⟩) ⟨⟩)
   (wd call c keep (n0 + 1) r (updO ρ d t.1) t.2.1 (aaCZ c.base wr (t.2.2.2.getD [])) L ⟨⟩) ⟨⟩ := wd_S
@[go_sem] theorem aCCZ {zs : List AV} {d : Option Nat} {t : Tg (call, c, keep,⟨d, .alloc zs, none, p⟩ :: r, L)} : wd call c keep n0 (⟨d, .alloc zs, none, p⟩ :: r) ρ H wr L t = bnd (aekZ call (c.site d) ρ H (.alloc zs)) fun t =>
  kept (keep.contains n0) (wd call c keep (n0 + 1) r (updO ρ d t.1) t.2.1 (aaCZ c.base wr (t.2.2.2.getD [])) (logK n0 t.2.2.1 t.2.2.2 L ⟨⟩) ⟨⟩)
   (wd call c keep (n0 + 1) r (updO ρ d t.1) t.2.1 (aaCZ c.base wr (t.2.2.2.getD [])) L ⟨⟩) ⟨⟩ := wd_S
@[go_sem] theorem aFcZ {k n : Nat} {zs : List AV} {ps : List (Nat × AOpd)} {d : Option Nat} {t : Tg (call, c, keep,⟨d, .bsl k zs n ps, none, p⟩ :: r, L)} : wd call c keep n0 (⟨d, .bsl k zs n ps, none, p⟩ :: r) ρ H wr L t = bnd (aekZ call (c.site d) ρ H (.bsl k zs n ps)) fun t =>
  kept (keep.contains n0) (wd call c keep (n0 + 1) r (updO ρ d t.1) t.2.1 (aaCZ c.base wr (t.2.2.2.getD [])) (logK n0 t.2.2.1 t.2.2.2 L ⟨⟩) ⟨⟩)
   (wd call c keep (n0 + 1) r (updO ρ d t.1) t.2.1 (aaCZ c.base wr (t.2.2.2.getD [])) L ⟨⟩) ⟨⟩ := wd_S
@[go_sem] theorem aCDZ {op : AOp} {t1 : Nat} {b : Bool} {d : Option Nat} {t : Tg (call, c, keep,⟨d, op, some (some t1, b), p⟩ :: r, L)} : wd call c keep n0 (⟨d, op, some (some t1, b), p⟩ :: r) ρ H wr L t =
  bnd (aqgZ b (ρ t1)) fun w => ahAZ w (wd call c keep n0 (⟨d, op, none, p⟩ :: r) ρ H wr L ⟨⟩) (wd call c keep (n0 + 1) r (updO ρ d (.tup [])) H wr L ⟨⟩) ⟨⟩ := by
 conv => lhs; unfold wd wpD
 simp only [adKZ]
 cases ht : ρ t1 <;> try rfl
 rotate_left
 ·rename_i vs; cases vs <;> rfl
 rename_i b'
 simp only [aqgZ, bnd, amDZ]
 cases hb : (b' == b) with
 | false => rfl
 | true =>
  simp only [ahAZ]; rw [wd_S]
  cases aekZ call (c.site d) ρ H op with
  | none => rfl
  | some v => cases hk : keep.contains n0 <;> rfl
def ajnZ (H : List AObj) : Out -> Option (AV × List AObj × List Nat × Option (List Nat))
 | some (v, H', w) => if H'.length = H.length then some (v, H', [], some w) else none
 | none => none
@[go_sem] theorem axQZ {v : AV} {H' : List AObj} {w : List Nat} : ajnZ H (some (v, H', w)) = if H'.length = H.length then some (v, H', [], some w) else none := (rfl)
@[go_sem] theorem ayyZ {k : Nat} {x v : AOpd} {s : Option Nat} : aekZ call s ρ H (.store k x v) = ajnZ H (evWF call H ρ s (.store k x v)) := (rfl)
@[go_sem] theorem ayzZ {f : AOpd} {xs : List AOpd} {s : Option Nat} : aekZ call s ρ H (.callv f xs) = ajnZ H (abrZ call H s (f.at ρ) (xs.map (AOpd.at ρ))) := (rfl)
@[go_sem] theorem aAJZ {k b : Nat} {x v : AOpd} {s : Option Nat} : aekZ call s ρ H (.app k b x v) = ajnZ H (ahEZ H s k b (x.at ρ) (v.at ρ)) := (rfl)
@[go_sem] theorem ayAZ {zs : List AV} {id : Nat} : aekZ call (some id) ρ H (.alloc zs) = some (.ptr id ((H[id]?).elim 0 AObj.ver) 0, H, [id], none) := (rfl)
@[go_sem] theorem aAKZ {k n : Nat} {zs : List AV} {ps : List (Nat × AOpd)} {id : Nat} : aekZ call (some id) ρ H (.bsl k zs n ps) = ajnZ H (evWF call H ρ (some id) (.bsl k zs n ps)) := (rfl)
@[go_sem] theorem awpZ {k n : Nat} {zs : List AV} {ps : List (Nat × AOpd)} : aekZ call none ρ H (.bsl k zs n ps) = match evRF H ρ (.bsl k zs n ps) with
 | some v => some (v, H, [], none)
 | none => none := (rfl)
@[go_sem] theorem ayBZ {zs : List AV} {id : Nat} : adAZ call (some id) false ρ H (.alloc zs) = if id < H.length then some (.ptr id (aaDZ H id) 0, make H id (.box · zs), [id]) else none := (rfl)
@[go_sem] theorem aALZ {k : Nat} {x : AOpd} {id : Nat} : adAZ call (some id) false ρ H (.box k x) = if id < H.length /\ (x.at ρ).cells.length = k /\ (x.at ρ).cells.all AV.cellOk then some (.ptr id (aaDZ H id) 0, make H id (.box · (x.at ρ).cells), [id]) else none := (rfl)
end
section
variable {A : AProg} {N : Nat} {c : Ctx} {ρ : SEnv} {H : List AObj} {wr : List Nat} {Q : AExit -> SEnv -> List AObj -> List Nat -> Prop} {a b : ACode}
def atvZ (A : AProg) (N : Nat) (c : Ctx) (b : ACode) (Q : AExit -> SEnv -> List AObj -> List Nat -> Prop) (tg : Tg (A, N, c, b, Q)) : AExit -> SEnv -> List AObj -> List Nat -> Prop := fun e ρ H wr => match e with
 | .normal => wpc A N c b ρ H wr Q
 | e => Q e ρ H wr
def aqhZ (id : Nat) (Q : AExit -> SEnv -> List AObj -> List Nat -> Prop) (tg : Tg Q) : AExit -> SEnv -> List AObj -> List Nat -> Prop := fun e ρ H wr => match e with
 | .exit id' => if id' = id then Q .normal ρ H wr else Q (.exit id') ρ H wr
 | e => Q e ρ H wr
def aAMZ (A : AProg) (N : Nat) (c : Ctx) (b : ACode) (Q : AExit -> SEnv -> List AObj -> List Nat -> Prop) (tg : Tg (A, N, c, b, Q)) : AExit -> SEnv -> List AObj -> List Nat -> Prop := fun e ρ H wr => match e with
 | .normal => Wp A N c (.loop b) ρ H wr Q
 | e => Q e ρ H wr
def amEZ (ops : List AOper) (Q : SEnv -> List AObj -> List Nat -> Prop) (tg : Tg (ops, Q)) : SEnv -> List AObj -> List Nat -> Log -> Prop := fun ρ H wr log =>
 acUZ (fun j => ((ops[j]?).map AOper.pre).getD []) log = true /\ Q ρ H wr
@[go_sem] theorem aDSZ {t : Tg (A, N, c, ACode.skip, Q)} : wc A N c .skip ρ H wr Q t = Q .normal ρ H wr := (rfl)
@[go_sem] theorem aANZ {ops : List AOper} {t : Tg (A, N, c, ACode.region false ops, Q)} : wc A N c (.region false ops) ρ H wr Q t = wo (aapZ A) c ops ρ H wr (Q .normal) ⟨⟩ := (rfl)
@[go_sem] theorem aFdZ {t : Tg (A, N, c, ACode.seq a b, Q)} : wc A N c (.seq a b) ρ H wr Q t = wc A N c a ρ H wr (atvZ A N c b Q ⟨⟩) ⟨⟩ := (rfl)
@[go_sem] theorem aDTZ {x : AOpd} {t : Tg (A, N, c, ACode.cond x a b, Q)} : wc A N c (.cond x a b) ρ H wr Q t = bnd (axPZ (x.at ρ)) fun v => ahAZ v (wc A N c a ρ H wr Q ⟨⟩) (wc A N c b ρ H wr Q ⟨⟩) ⟨⟩ := by
 unfold wc
 rw [wpc]
 cases x.at ρ <;> try rfl
 rename_i v; cases v <;> rfl
@[go_sem] theorem aCEZ {id : Nat} {t : Tg (A, N, c, ACode.block id a, Q)} : wc A N c (.block id a) ρ H wr Q t = wc A N c a ρ H wr (aqhZ id Q ⟨⟩) ⟨⟩ := (rfl)
@[go_sem] theorem aDUZ {t : Tg (A, N, c, ACode.loop a, Q)} : wc A N c (.loop a) ρ H wr Q t = wl A N c a ρ H wr Q ⟨⟩ := (rfl)
@[go_sem] theorem aDVZ {id : Nat} {t : Tg (A, N, c, ACode.exit id, Q)} : wc A N c (.exit id) ρ H wr Q t = Q (.exit id) ρ H wr := (rfl)
@[go_sem] theorem aFeZ {t : Tg (A, N, c, ACode.ret, Q)} : wc A N c .ret ρ H wr Q t = Q .ret ρ H wr := (rfl)
@[go_sem] theorem aFfZ {ts : List (Nat × Nat)} {t : Tg (A, N, c, ACode.frz ts, Q)} : wc A N c (.frz ts) ρ H wr Q t = wfz c ts ρ H wr (Q .normal) ⟨⟩ := (rfl)
theorem ayCZ {ops : List AOper} {t : Tg (A, N, c, ACode.region true ops, Q)} {H0 : List AObj} {keep : List Nat} (h : abfZ c H ops = some H0) (hk : agNZ c ops = keep) :
  wc A N c (.region true ops) ρ H wr Q t = wd (aapZ A) c keep 0 ops ρ H0 wr (amEZ ops (Q .normal) ⟨⟩) ⟨⟩ := by
 subst hk
 unfold wc wd
 rw [wpc, h]; rfl
theorem aaPZ {ops : List AOper} {t : Tg (A, N, c, ACode.region true ops, Q)} {H0 : List AObj} {keep : List Nat} (h : abfZ c H ops = some H0) (hk : agNZ c ops = keep)
  (hw : wd (aapZ A) c keep 0 ops ρ H0 wr (amEZ ops (Q .normal) ⟨⟩) ⟨⟩) : wc A N c (.region true ops) ρ H wr Q t := by
 rw [ayCZ h hk]; exact hw
@[go_sem] theorem axRZ {t : Tg (A, N, c, b, Q)} : atvZ A N c b Q t .normal ρ H wr = wc A N c b ρ H wr Q ⟨⟩ := (rfl)
@[go_sem] theorem aAOZ {t : Tg (A, N, c, b, Q)} : atvZ A N c b Q t .ret ρ H wr = Q .ret ρ H wr := (rfl)
@[go_sem] theorem azTZ {t : Tg (A, N, c, b, Q)} {id : Nat} : atvZ A N c b Q t (.exit id) ρ H wr = Q (.exit id) ρ H wr := (rfl)
@[go_sem] theorem awFZ {t : Tg Q} {id : Nat} : aqhZ id Q t .normal ρ H wr = Q .normal ρ H wr := (rfl)
@[go_sem] theorem azUZ {t : Tg Q} {id : Nat} : aqhZ id Q t .ret ρ H wr = Q .ret ρ H wr := (rfl)
@[go_sem] theorem ayDZ {t : Tg Q} {id : Nat} : aqhZ id Q t (.exit id) ρ H wr = Q .normal ρ H wr := by unfold aqhZ; dsimp only; rw [if_pos rfl]
@[go_sem] theorem azVZ {t : Tg (A, N, c, b, Q)} {id : Nat} : aAMZ A N c b Q t (.exit id) ρ H wr = Q (.exit id) ρ H wr := (rfl)
theorem ayEZ {t : Tg (A, N, c, a, Q)} (hok : aaSZ N c a = true) (h : wc A N c a ρ H wr (aAMZ A N c a Q ⟨⟩) ⟨⟩) : wl A N c a ρ H wr Q t := Wp.loop hok h
theorem aavZ {ops : List AOper} {K : SEnv -> List AObj -> List Nat -> Prop} {t : Tg (ops, K)} {log : Log} (h : acUZ (fun j => ((ops[j]?).map AOper.pre).getD []) log = true) : amEZ ops K t ρ H wr log = K ρ H wr := by
 unfold amEZ; simp only [h, true_and]
@[go_sem] theorem ayFZ {ops : List AOper} {K : SEnv -> List AObj -> List Nat -> Prop} {t : Tg (ops, K)} : amEZ ops K t ρ H wr [] = K ρ H wr := aavZ rfl
@[go_sem] theorem aDWZ {K : SEnv -> List AObj -> List Nat -> Prop} {t : Tg (c, [], K)} : wfz c [] ρ H wr K t = K ρ H wr := (rfl)
@[go_sem] theorem aCFZ {K : SEnv -> List AObj -> List Nat -> Prop} {s : Nat} {r : List (Nat × Nat)} {t : Tg (c, (0, s) :: r, K)} : wfz c ((0, s) :: r) ρ H wr K t = bnd (fix H (ρ s)) fun x => wfz c r (upd ρ s x.1) x.2.1 (aaCZ c.base wr x.2.2) K ⟨⟩ := by
 unfold wfz
 conv => lhs; unfold ajSZ
 cases fix H (ρ s) <;> rfl
def aoZZ (H : List AObj) (k : Nat) (v : AV) : Option (List AObj × List Nat) := match aamZ H k v with
 | some cs => match fix H (.agg cs) with
  | some (.agg cs', H', l) => match storeCells H' cs' v with
   | some (H'', l') => some (H'', l ++ l')
   | none => none
  | _ => none
 | none => none
@[go_sem] theorem aAPZ {K : SEnv -> List AObj -> List Nat -> Prop} {k s : Nat} {r : List (Nat × Nat)} {t : Tg (c, (k + 1, s) :: r, K)} : wfz c ((k + 1, s) :: r) ρ H wr K t =
  bnd (some (ρ s).isUndef) fun b => ahAZ b (wfz c r ρ H wr K ⟨⟩) (bnd (aoZZ H (k + 1) (ρ s)) fun x => wfz c r ρ x.1 (aaCZ c.base wr x.2) K ⟨⟩) ⟨⟩ := by
 unfold wfz
 conv => lhs; unfold ajSZ
 cases hu : (ρ s).isUndef with
 | true => simp [bnd, ahAZ, amDZ]
 | false =>
  simp only [bnd, ahAZ, amDZ, Bool.false_eq_true, if_false]
  unfold aoZZ
  cases aamZ H (k + 1) (ρ s) with
  | none => rfl
  | some cs =>
   dsimp only
   cases fix H (.agg cs) with
   | none => rfl
   | some x =>
    obtain ⟨v, H', l⟩ := x
    cases v <;> try rfl
    rename_i cs'
    dsimp only
    cases storeCells H' cs' (ρ s) <;> rfl
end
@[go_sem] theorem aFgZ {ρ : SEnv} {t : Nat} : (AOpd.tmp t).at ρ = ρ t := (rfl)
@[go_sem] theorem aCGZ {ρ : SEnv} {v : AV} : (AOpd.const v).at ρ = v := (rfl)
@[go_sem] theorem aCHZ {ρ : SEnv} {d : Nat} {v : AV} : upd ρ d v d = v := by unfold upd; rw [if_pos rfl]
theorem amFZ {ρ : SEnv} {d t : Nat} {v : AV} (h : t ≠ d) : upd ρ d v t = ρ t := by unfold upd; rw [if_neg h]
@[go_sem] theorem azWZ {ρ : SEnv} {d t : Nat} {v : AV} (h : (t == d) = false) : upd ρ d v t = ρ t := amFZ (by simpa using h)
@[go_sem] theorem aAQZ {ρ : SEnv} {d : Nat} {v : AV} : updO ρ (some d) v = upd ρ d v := (rfl)
@[go_sem] theorem aARZ {ρ : SEnv} {v : AV} : updO ρ none v = ρ := (rfl)
end Go.AM
end
section
namespace Go.AM
open Go
@[go_sem] theorem aASZ {b : Bool} : AV.atom (.bool b) = true := (rfl)
@[go_sem] theorem ayGZ {b : Bool} : AV.atomic (.bool b) = AV.atom (.bool b) := (rfl)
@[go_sem] theorem aATZ {k : IntKind} {n : Int} : AV.still (.int k n) = true := (rfl)
@[go_sem] theorem azXZ {k : IntKind} {n : Int} : AV.cellOk (.int k n) = true := (rfl)
@[go_sem] theorem azYZ {k : IntKind} {n : Int} : AV.strip1 (.int k n) = (.int k n) := (rfl)
@[go_sem] theorem aAUZ {k : IntKind} {n : Int} : AV.strip (.int k n) = (.int k n) := (rfl)
@[go_sem] theorem aAVZ {k : IntKind} {n : Int} : AV.cells (.int k n) = [(.int k n)] := (rfl)
@[go_sem] theorem aAWZ {H : List AObj} {k : IntKind} {n : Int} : ajDZ H (.int k n) = some ((.int k n), []) := (rfl)
@[go_sem] theorem aCIZ {H : List AObj} {k : IntKind} {n : Int} : lend H (.int k n) = some ((.int k n), []) := (rfl)
@[go_sem] theorem aAXZ {l : List UInt8} : AV.still (.str l) = true := (rfl)
@[go_sem] theorem azZZ {l : List UInt8} : AV.cellOk (.str l) = true := (rfl)
@[go_sem] theorem aCJZ {l : List UInt8} : AV.atom (.str l) = true := (rfl)
@[go_sem] theorem aAaZ {l : List UInt8} : AV.atomic (.str l) = AV.atom (.str l) := (rfl)
@[go_sem] theorem aAbZ {l : List UInt8} : AV.strip1 (.str l) = (.str l) := (rfl)
@[go_sem] theorem aAYZ {l : List UInt8} : AV.strip (.str l) = (.str l) := (rfl)
@[go_sem] theorem aAZZ {l : List UInt8} : AV.cells (.str l) = [(.str l)] := (rfl)
@[go_sem] theorem aBaZ {H : List AObj} {l : List UInt8} : ajDZ H (.str l) = some ((.str l), []) := (rfl)
@[go_sem] theorem aCKZ {H : List AObj} {l : List UInt8} : lend H (.str l) = some ((.str l), []) := (rfl)
@[go_sem] theorem aCLZ {f : Nat} {a c : List AV} : AV.strip (.fn f a c) = (.fn f a c) := (rfl)
@[go_sem] theorem aDXZ {H : List AObj} {f : Nat} {a c : List AV} : lend H (.fn f a c) = some ((.fn f a c), []) := (rfl)
@[go_sem] theorem aBbZ {o v off : Nat} : AV.still (.ptr o v off) = true := (rfl)
@[go_sem] theorem aAcZ {o v off : Nat} : AV.strip1 (.ptr o v off) = (.ptr o v off) := (rfl)
@[go_sem] theorem aBcZ {o v off : Nat} : AV.strip (.ptr o v off) = (.ptr o v off) := (rfl)
@[go_sem] theorem aCMZ {H : List AObj} {o v off : Nat} : lend H (.ptr o v off) = some ((.ptr o v off), []) := (rfl)
@[go_sem] theorem aAdZ {o v n k i off : Nat} : AV.isUndef (.vp o v n k i off) = false := (rfl)
@[go_sem] theorem aCNZ {f : Bool} {rows : List (List AV)} : AV.still (.sl f rows) = true := (rfl)
@[go_sem] theorem aBdZ {f : Bool} {rows : List (List AV)} : AV.cellOk (.sl f rows) = true := (rfl)
@[go_sem] theorem aBeZ {f : Bool} {rows : List (List AV)} : AV.strip1 (.sl f rows) = (.sl false rows) := (rfl)
@[go_sem] theorem aCOZ {f : Bool} {rows : List (List AV)} : AV.strip (.sl f rows) = (.sl false rows) := (rfl)
@[go_sem] theorem aCPZ {f : Bool} {rows : List (List AV)} : AV.cells (.sl f rows) = [(.sl f rows)] := (rfl)
@[go_sem] theorem aCQZ {H : List AObj} {f : Bool} {rows : List (List AV)} : ajDZ H (.sl f rows) = some ((.sl f rows), []) := (rfl)
@[go_sem] theorem aDYZ {H : List AObj} {f : Bool} {rows : List (List AV)} : lend H (.sl f rows) = some ((.sl f rows), []) := (rfl)
@[go_sem] theorem aBfZ {o v n : Nat} : AV.cellOk (.sr o v n) = true := (rfl)
@[go_sem] theorem aBgZ {o v n : Nat} : AV.strip1 (.sr o v n) = (.sr o v n) := (rfl)
@[go_sem] theorem aCRZ {o v n : Nat} : AV.cells (.sr o v n) = [(.sr o v n)] := (rfl)
@[go_sem] theorem artZ {H : List AObj} {o v n : Nat} : lend H (.sr o v n) = ajDZ H (.sr o v n) := (rfl)
@[go_sem] theorem aBhZ {cs : List AV} : AV.cells (.agg cs) = cs := (rfl)
@[go_sem] theorem awGZ  : AV.isUndef .undef = true := (rfl)
@[go_sem] theorem amGZ {cs : List AV} : AV.strip (.agg cs) = .agg (cs.map AV.strip1) := (rfl)
@[go_sem] theorem apaZ {H : List AObj} {o v n : Nat} : ajDZ H (.sr o v n) = match H[o]? with
  | some (.vec v' _ rows) => if v' = v /\ rows.length = n /\ rows.all (fun r => r.all AV.still) then some (.sl false rows, [o]) else none
  | _ => none := (rfl)
@[go_sem] theorem asoZ {H : List AObj} {cs : List AV} : lend H (.agg cs) = match alLZ H cs with
  | some (cs', l) => some (.agg cs', l)
  | none => none := (rfl)
attribute [go_sem] alLZ aeYZ aaOZ fix
@[go_sem] theorem ayHZ {cs : List AV} : abnZ true cs = some (.agg cs) := (rfl)
@[go_sem] theorem ayIZ {v : AV} : abnZ false [v] = some v := (rfl)
section
variable {k : IntKind} {a b : Int} {ek : EqK}
@[go_sem] theorem aDZZ : binV .add ek (.int k a) (.int k b) = some (.int k (k.wrap (a + b))) := by simp [binV]
@[go_sem] theorem aEaZ : binV .sub ek (.int k a) (.int k b) = some (.int k (k.wrap (a - b))) := by simp [binV]
@[go_sem] theorem aEbZ : binV .mul ek (.int k a) (.int k b) = some (.int k (k.wrap (a * b))) := by simp [binV]
theorem ayJZ (h : b ≠ 0) : binV .quo ek (.int k a) (.int k b) = some (.int k (k.wrap (a.tdiv b))) := by simp [binV, h]
theorem aeFZ (h : b ≠ 0) : binV .rem ek (.int k a) (.int k b) = some (.int k (a.tmod b)) := by simp [binV, h]
@[go_sem] theorem aEcZ : binV .eql ek (.int k a) (.int k b) = some (.bool (a == b)) := by simp [binV]
@[go_sem] theorem aEdZ : binV .neq ek (.int k a) (.int k b) = some (.bool (a != b)) := by simp [binV]
@[go_sem] theorem aEeZ : binV .lss ek (.int k a) (.int k b) = some (.bool (decide (a < b))) := by simp [binV]
@[go_sem] theorem aEfZ : binV .leq ek (.int k a) (.int k b) = some (.bool (decide (a <= b))) := by simp [binV]
@[go_sem] theorem aEgZ : binV .gtr ek (.int k a) (.int k b) = some (.bool (decide (a > b))) := by simp [binV]
@[go_sem] theorem aEhZ : binV .geq ek (.int k a) (.int k b) = some (.bool (decide (a ≥ b))) := by simp [binV]
end
section
variable {a b : List UInt8} {ek : EqK}
theorem awHZ (h : a.length + b.length <= 4611686018427387904) : binV .add ek (.str a) (.str b) = some (.str (a ++ b)) := by simp [binV, h]
@[go_sem] theorem aCSZ : binV .eql ek (.str a) (.str b) = some (.bool (a == b)) := by simp [binV]
@[go_sem] theorem aCTZ : binV .neq ek (.str a) (.str b) = some (.bool (a != b)) := by simp [binV]
@[go_sem] theorem aFhZ {b : Bool} : unV .not (.bool b) = some (.bool !b) := (rfl)
@[go_sem] theorem aFiZ {k : IntKind} {n : Int} : unV .neg (.int k n) = some (.int k (k.wrap (0 - n))) := (rfl)
end
theorem wrap_i64 {n : Int} (h1 : -9223372036854775808 <= n) (h2 : n <= 9223372036854775807) : IntKind.wrap .i64 n = n := by
 rw [Go.IntKind.wrap_i64]; omega
section
variable {H : List AObj} {L : List AObj} {i o : Nat} {x : AObj}
@[go_sem] theorem auQZ : (H ++ L)[H.length + i]? = L[i]? := by
 rw [List.getElem?_append_right (by omega)]; congr 1; omega
@[go_sem] theorem aCUZ : (H ++ L)[H.length]? = L[0]? := auQZ (i := 0)
@[go_sem] theorem auRZ : (H ++ L).set (H.length + i) x = H ++ L.set i x := by
 rw [List.set_append_right _ _ (by omega)]; congr 2; omega
@[go_sem] theorem aCVZ : (H ++ L).set H.length x = H ++ L.set 0 x := auRZ (i := 0)
theorem acmZ (h : o < H.length) : (H ++ L)[o]? = H[o]? := List.getElem?_append_left h
theorem aciZ (h : o < H.length) : (H ++ L).set o x = H.set o x ++ L := List.set_append_left _ _ h
@[go_sem] theorem awIZ : (H ++ L).take H.length = H := List.take_left ..
theorem aahZ {y : AObj} (h : o < H.length) : (H.set o x ++ L).set o y = H.set o y ++ L := by
 rw [List.set_append_left _ _ (by rw [List.length_set]; exact h), List.set_set]
theorem aagZ (h : o < H.length) : (H.set o x ++ L)[o]? = some x := by
 rw [List.getElem?_append_left (by rw [List.length_set]; exact h), List.getElem?_set_self h]
@[go_sem] theorem auSZ : (H.set o x ++ L)[H.length + i]? = L[i]? := by
 have := auQZ (H := H.set o x) (L := L) (i := i); rwa [List.length_set] at this
@[go_sem] theorem aAeZ : (H.set o x ++ L)[H.length]? = L[0]? := auSZ (i := 0)
@[go_sem] theorem auTZ {y : AObj} : (H.set o x ++ L).set (H.length + i) y = H.set o x ++ L.set i y := by
 have := auRZ (H := H.set o x) (L := L) (i := i) (x := y); rwa [List.length_set] at this
@[go_sem] theorem aAfZ {y : AObj} : (H.set o x ++ L).set H.length y = H.set o x ++ L.set 0 y := auTZ (i := 0)
@[go_sem] theorem aAgZ : (H.set o x ++ L).take H.length = H.set o x := by
 have := awIZ (H := H.set o x) (L := L); rwa [List.length_set] at this
@[go_sem] theorem aCWZ : (H.set o x).take H.length = H.set o x := by
 have := List.take_length (l := H.set o x); rwa [List.length_set] at this
attribute [go_sem] make aaDZ
@[go_sem] theorem aCXZ {v : Nat} : AObj.ver (.gone v) = v := (rfl)
@[go_sem] theorem aEiZ {v : Nat} {cs : List AV} : AObj.ver (.box v cs) = v := (rfl)
@[go_sem] theorem aEjZ {v k : Nat} {rows : List (List AV)} : AObj.ver (.vec v k rows) = v := (rfl)
@[go_sem] theorem aBiZ {b : Nat} {wr : List Nat} : aaCZ b wr [] = wr := (rfl)
@[go_sem] theorem auUZ {b i : Nat} {wr r : List Nat} : aaCZ b wr ((b + i) :: r) = aaCZ b wr r := by
 conv => lhs; unfold aaCZ
 rw [if_neg (by omega)]
@[go_sem] theorem aBjZ {b o : Nat} {r : List Nat} (h1 : o < b) : aaCZ b [] (o :: r) = aaCZ b [o] r := by
 conv => lhs; unfold aaCZ
 rw [if_pos ⟨h1, by simp⟩]
@[go_sem] theorem aBkZ {b o : Nat} {r : List Nat} : aaCZ b [o] (o :: r) = aaCZ b [o] r := by
 conv => lhs; unfold aaCZ
 rw [if_neg (by simp)]
@[go_sem] theorem aAhZ {b : Nat} {wr r : List Nat} : aaCZ b wr (b :: r) = aaCZ b wr r := auUZ (i := 0)
end
def vLen : AV -> Option AV
 | .sl _ rows => some (.int .i64 rows.length)
 | .sr _ _ n => some (.int .i64 n)
 | .nilSl => some (.int .i64 0)
 | _ => none
@[go_sem] theorem aEkZ {f : Bool} {rows : List (List AV)} : vLen (.sl f rows) = some (.int .i64 rows.length) := (rfl)
@[go_sem] theorem aElZ {o v n : Nat} : vLen (.sr o v n) = some (.int .i64 n) := (rfl)
section
variable {H : List AObj} {ρ : SEnv} {call : Nat -> List AV -> List AObj -> Out} {site : Option Nat}
@[go_sem] theorem aCYZ {x : AOpd} : evRF H ρ (.mov x) = (some (x.at ρ)) := (rfl)
@[go_sem] theorem aBlZ {c : AOpd} {a : AOpd} {b : AOpd} : evRF H ρ (.pick c a b) = (match c.at ρ with
  | .bool t => some (if t then a.at ρ else b.at ρ)
  | _ => none) := (rfl)
@[go_sem] theorem aAiZ {zs : List AV} {parts : List (Nat × Nat × AOpd)} : evRF H ρ (.build zs parts) = ((acAZ ρ zs parts).map .agg) := (rfl)
@[go_sem] theorem aCZZ {k : Nat} {zs : List AV} {n : Nat} {parts : List (Nat × AOpd)} : evRF H ρ (.bsl k zs n parts) = ((acSZ ρ k (List.replicate n zs) parts).map (.sl true)) := (rfl)
@[go_sem] theorem aDaZ {u0 : Nat} {bytes : Nat} {zs : List AV} {len : AOpd} {cap : AOpd} : evRF H ρ (.mks u0 bytes zs len cap) = (match len.at ρ, cap.at ρ with
  | .int _ n, .int _ c => if 0 <= n /\ n = c /\ abNZ n.toNat bytes then some (.sl true (List.replicate n.toNat (zs.map AV.strip1))) else none
  | _, _ => none) := (rfl)
@[go_sem] theorem aBmZ {k : Nat} {agg : Bool} {x : AOpd} : evRF H ρ (.load k agg x) = (match aamZ H k (x.at ρ) with
  | some cs => abnZ agg cs
  | none => none) := (rfl)
@[go_sem] theorem aAjZ {x : AOpd} : evRF H ρ (.nilck x) = (match x.at ρ with
  | .ptr o v off => some (.ptr o v off)
  | .vp o v n k i off => some (.vp o v n k i off)
  | .ep row off => some (.ep row off)
  | .fn f a b => some (.fn f a b)
  | _ => none) := (rfl)
@[go_sem] theorem aDbZ {op : BinOp} {ek : EqK} {x : AOpd} {y : AOpd} : evRF H ρ (.bin op ek x y) = (binV op ek (x.at ρ) (y.at ρ)) := (rfl)
@[go_sem] theorem aEmZ {op : UnOp} {x : AOpd} : evRF H ρ (.un op x) = (unV op (x.at ρ)) := (rfl)
@[go_sem] theorem aBnZ {c : AConv} {x : AOpd} : evRF H ρ (.conv c x) = (agRZ H c (x.at ρ)) := (rfl)
@[go_sem] theorem aDcZ {f : Nat} {first : List AOpd} {caps : List AOpd} : evRF H ρ (.mkf f first caps) = (if (first.map (AOpd.at ρ)).all AV.still && (caps.map (AOpd.at ρ)).all AV.still then some (.fn f (first.map fun x => (x.at ρ).strip1) (caps.map fun x => (x.at ρ).strip1)) else none) := (rfl)
@[go_sem] theorem ayKZ {x : AOpd} {lo : Option AOpd} {hi : Option AOpd} : evRF H ρ (.sliceS x lo hi) = (match x.at ρ with
  | .str s => match acdZ s.length (lo.map (AOpd.at ρ)) (hi.map (AOpd.at ρ)) none with
   | some (l, h, _) => some (.str ((s.take h).drop l))
   | none => none
  | _ => none) := (rfl)
@[go_sem] theorem ayLZ {k : Nat} {x : AOpd} {lo : Option AOpd} {hi : Option AOpd} {mx : Option AOpd} : evRF H ρ (.sliceV k x lo hi mx) = (match x.at ρ with
  | .sl full rows => match acdZ rows.length (lo.map (AOpd.at ρ)) (hi.map (AOpd.at ρ)) (mx.map (AOpd.at ρ)) with
   | some (l, h, m) => if abkZ k rows && (!mx.isSome || hi.isSome) then some (.sl (decide (m = h) && (mx.isSome || full)) ((rows.take h).drop l)) else none
   | none => none
  | _ => none) := (rfl)
@[go_sem] theorem aEnZ {off : Nat} {x : AOpd} : evRF H ρ (.fa off x) = (match x.at ρ with
  | .ptr o v off0 => some (.ptr o v (off0 + off))
  | .vp o v n k i off0 => some (.vp o v n k i (off0 + off))
  | .ep row off0 => some (.ep row (off0 + off))
  | _ => none) := (rfl)
@[go_sem] theorem aDdZ {x : AOpd} {i : AOpd} {k : Nat} : evRF H ρ (.iaV x i k) = (match x.at ρ, i.at ρ with
  | .sl _ rows, .int _ n => if 0 <= n then match rows[n.toNat]? with
    | some row => if row.length = k then some (.ep row 0) else none
    | none => none
   else none
  | .sr o v len, .int _ n => if 0 <= n /\ n < len then some (.vp o v len k n.toNat 0) else none
  | _, _ => none) := (rfl)
@[go_sem] theorem aDeZ {x : AOpd} {i : AOpd} : evRF H ρ (.ixS x i) = (match x.at ρ, i.at ρ with
  | .str s, .int _ n => if 0 <= n then match s[n.toNat]? with
    | some b => some (.int .u8 b.toNat)
    | none => none
   else none
  | _, _ => none) := (rfl)
@[go_sem] theorem aBoZ {x : AOpd} : evRF H ρ (.lenS x) = (match x.at ρ with
  | .str s => some (.int .i64 s.length)
  | _ => none) := (rfl)
@[go_sem] theorem aBpZ {x : AOpd} : evRF H ρ (.lenV x) = vLen (x.at ρ) := by cases hx : x.at ρ <;> simp only [evRF, vLen, hx]
@[go_sem] theorem aEoZ {mx : Bool} {xs : List AOpd} : evRF H ρ (.mm mx xs) = (mmV mx (xs.map (AOpd.at ρ))) := (rfl)
@[go_sem] theorem aDfZ {i : Nat} {x : AOpd} : evRF H ρ (.ext i x) = (match x.at ρ with
  | .tup vs => vs[i]?
  | _ => none) := (rfl)
@[go_sem] theorem aAkZ {zs : List AV} : evWF call H ρ site (.alloc zs) = (match site with
  | some id => if id < H.length then some (.ptr id (aaDZ H id) 0, make H id (.box · zs), [id]) else none
  | none => none) := (rfl)
@[go_sem] theorem aAlZ {k : Nat} {x : AOpd} {v : AOpd} : evWF call H ρ site (.store k x v) = (if (v.at ρ).cells.length = k /\ (v.at ρ).cells.all AV.cellOk then
   match storeCells H (v.at ρ).cells (x.at ρ) with
   | some (H', wr) => some (.undef, H', wr)
   | none => none
  else none) := (rfl)
@[go_sem] theorem aDgZ {k : Nat} {zs : List AV} {n : Nat} {parts : List (Nat × AOpd)} : evWF call H ρ site (.bsl k zs n parts) = (match site with
  | some id => match achZ ρ k (List.replicate n zs) parts with
   | some rows => if id < H.length then some (.sr id (aaDZ H id) n, make H id (.vec · k rows), [id]) else none
   | none => none
  | none => match aefZ ρ k H (List.replicate n zs) parts with
   | some (rows, H', wr) => some (.sl true rows, H', wr)
   | none => none) := (rfl)
@[go_sem] theorem aAmZ {u0 : Nat} {u1 : Bool} {x : AOpd} : afcZ ρ (.load u0 u1 x) = (match x.at ρ with
  | .ptr o _ _ => [o]
  | .vp o _ _ _ _ _ => [o]
  | _ => []) := (rfl)
@[go_sem] theorem auqZ {k : IntKind} {x : AOpd} : afcZ ρ (.conv (.toInt k) x) = [] := (rfl)
@[go_sem] theorem awqZ {x : AOpd} : afcZ ρ (.conv .b2s x) = (match x.at ρ with
  | .sr o _ _ => [o]
  | _ => []) := (rfl)
end
def aojZ : List Nat -> Nat -> Nat -> Option Nat | [], _, _ => none | t :: ts, i, d => if t = d then some i else aojZ ts (i + 1) d
theorem idxOf?_siteIn (d : Nat) : ∀ (l : List Nat) (i : Nat), (l.idxOf? d).map (i + ·) = aojZ l i d
 | [], i => by simp [aojZ]
 | t :: ts, i => by
  rw [List.idxOf?_cons]
  unfold aojZ
  by_cases h : t = d
  ·simp [h]
  ·have hb : (t == d) = false := by simpa using h
   rw [if_neg h, <- idxOf?_siteIn d ts (i + 1), hb]
   cases ts.idxOf? d <;> simp <;> omega
@[go_sem] theorem aBqZ {b d : Nat} {l : List Nat} : Ctx.site ⟨b, l⟩ (some d) = (aojZ l 0 d).map (b + ·) := by
 rw [<- idxOf?_siteIn]
 show (l.idxOf? d).map (b + ·) = _
 cases l.idxOf? d <;> simp
@[go_sem] theorem aBrZ {c : Ctx} : c.site none = none := (rfl)
attribute [go_sem] aojZ
@[go_sem] theorem ayMZ {α β : Type} {f : α -> β} {a : α} : (some a).map f = some (f a) := (rfl)
@[go_sem] theorem ayNZ {α β : Type} {f : α -> β} : (none : Option α).map f = none := (rfl)
@[go_sem] theorem axSZ {α β : Type} {b : β} {f : α -> β} {a : α} : (some a).elim b f = f a := (rfl)
attribute [go_sem] List.length_append Nat.add_lt_add_iff_left Nat.lt_add_right_iff_pos
theorem apbZ (a b : Nat) : (a == b) = decide (a = b) := rfl
@[go_sem] theorem aEpZ {x a b : Nat} : (x + a == x + b) = (a == b) := by rw [apbZ, apbZ]; exact decide_eq_decide.2 (by omega)
@[go_sem] theorem aDhZ {x a : Nat} : (x + a == x) = (a == 0) := by rw [apbZ, apbZ]; exact decide_eq_decide.2 (by omega)
@[go_sem] theorem aFjZ : (false == true) = false := (rfl)
@[go_sem] theorem aFkZ : (true == false) = false := (rfl)
attribute [go_sem] Bool.false_eq_true
attribute [go_sem] Int.cast_ofNat_Int Int.lt_irrefl
attribute [go_sem] Int.natCast_nonneg Int.ofNat_lt Int.ofNat_le Int.toNat_natCast
@[go_sem] theorem aspZ {H : List AObj} {site : Option Nat} {k bytes : Nat} {full : Bool} {rows : List (List AV)} {x : AV} : ahEZ H site k bytes (.sl full rows) x = (match adkZ H x with
 | none => none
 | some new =>
  if !abkZ k new then none else
   if new.isEmpty then some (.sl full rows, H, [])
   else if full && abkZ k rows && abNZ (rows.length + new.length) bytes then
    match site with
    | some id => if id < H.length then some (.sr id (aaDZ H id) (rows.length + new.length), make H id (.vec · k (rows ++ new)), [id]) else none
    | none => none
   else none) := (rfl)
@[go_sem] theorem asqZ {H : List AObj} {site : Option Nat} {k bytes o v n : Nat} {x : AV} : ahEZ H site k bytes (.sr o v n) x = (match adkZ H x with
 | none => none
 | some new =>
  if !abkZ k new then none else
   match H[o]? with
   | some (.vec v' k' rows) =>
    if v' = v /\ rows.length = n /\ k' = k /\ abNZ (n + new.length) bytes then
     if new.isEmpty then some (.sr o v n, H, []) else
     some (.sr o v (n + new.length), H.set o (.vec v k (rows ++ new)), [o])
    else none
   | _ => none) := (rfl)
@[go_sem] theorem aAnZ {k : Nat} : abkZ k [] = true := (rfl)
@[go_sem] theorem amHZ {k : Nat} {r : List AV} {rows : List (List AV)} : abkZ k (r :: rows) = (r.length == k) := (rfl)
attribute [go_sem] arlZ aeuZ aamZ storeCells adkZ aeOZ adjZ aoZZ acAZ acSZ achZ aefZ mmV akZZ mm2
attribute [go_sem] List.drop_zero List.drop_succ_cons List.drop_nil List.take_zero List.take_succ_cons List.take_nil List.getElem?_cons_zero List.getElem?_cons_succ List.getElem?_nil List.set_cons_zero List.set_cons_succ List.set_nil List.nil_append List.cons_append List.append_nil List.all_cons List.all_nil List.map_cons List.map_nil List.length_cons List.length_nil List.replicate_succ List.replicate_zero List.length_set List.length_map List.getElem?_set_self List.set_set List.take_length List.isEmpty_nil List.isEmpty_cons List.contains_cons List.contains_nil Bool.or_false Bool.false_or Bool.or_true Bool.true_or Option.getD_some Option.getD_none Nat.add_zero Nat.zero_add and_true true_and and_false false_and if_true if_false ite_true ite_false Bool.and_true Bool.true_and Bool.and_false Bool.false_and BT BF decide_true decide_false beq_self_eq_true NA NL ND
end Go.AM
end
