/- Part 11 of the proof that stands in the last text of this folder (lemmas; no statement of its own). -/
import Derived.Test.YtjomjnkapjgheaaDoorK10
section
set_option linter.unusedVariables false
namespace Go.Proofs.AM
open Go
structure Tg {α : Type} (a : α) : Type where
def bindP {α : Type} (x : Option α) (k : α → Prop) (tg : Tg k) : Prop := match x with
  | some a => k a
  | none => False
@[go_sem] theorem bindP_some {α : Type} {a : α} {k : α → Prop} {t : Tg k} : bindP (some a) k t = k a := (rfl)
@[go_sem] theorem bindP_none {α : Type} {k : α → Prop} {t : Tg k} : bindP none k t = False := (rfl)
def bnd {α : Type} (x : Option α) (k : α → Prop) : Prop := bindP x k ⟨⟩
@[go_sem] theorem bnd_some {α : Type} {a : α} {k : α → Prop} : bnd (some a) k = k a := (rfl)
@[go_sem] theorem bnd_none {α : Type} {k : α → Prop} : bnd none k = False := (rfl)
@[congr] theorem bnd_congr {α : Type} {x y : Option α} {k : α → Prop} (h : x = y) : bnd x k = bnd y k := by rw [h]
theorem bnd_eq {α : Type} {x : Option α} {k : α → Prop} : bnd x k = bindP x k ⟨⟩ := (rfl)
def branch (b : Bool) (x y : Prop) (tg : Tg (x, y)) : Prop := match b with
  | true => x
  | false => y
@[go_sem] theorem branch_true {x y : Prop} {t : Tg (x, y)} : branch true x y t = x := (rfl)
@[go_sem] theorem branch_false {x y : Prop} {t : Tg (x, y)} : branch false x y t = y := (rfl)
theorem branch_intro {b : Bool} {x y : Prop} {t : Tg (x, y)} (h1 : b = true → x) (h2 : b = false → y) : branch b x y t := by
  cases b
  · exact h2 rfl
  · exact h1 rfl
def boolOf : AV → Option Bool
  | .bool b => some b
  | _ => none
@[go_sem] theorem boolOf_bool {b : Bool} : boolOf (.bool b) = some b := (rfl)
def wo (call : Nat → List AV → List AObj → Out) (c : Ctx) (ops : List AOper) (ρ : SEnv) (H : List AObj) (wr : List Nat) (K : SEnv → List AObj → List Nat → Prop) (tg : Tg (call, c, ops, K)) : Prop := wpOps call c ops ρ H wr K
def wd (call : Nat → List AV → List AObj → Out) (c : Ctx) (keep : List Nat) (i : Nat) (ops : List AOper) (ρ : SEnv) (H : List AObj) (wr : List Nat) (L : SEnv → List AObj → List Nat → Log → Prop) (tg : Tg (call, c, keep, ops, L)) : Prop :=
  wpD call c keep i ops ρ H wr L
def wc (A : AProg) (N : Nat) (c : Ctx) (x : ACode) (ρ : SEnv) (H : List AObj) (wr : List Nat) (Q : AExit → SEnv → List AObj → List Nat → Prop) (tg : Tg (A, N, c, x, Q)) : Prop := wpc A N c x ρ H wr Q
def wl (A : AProg) (N : Nat) (c : Ctx) (x : ACode) (ρ : SEnv) (H : List AObj) (wr : List Nat) (Q : AExit → SEnv → List AObj → List Nat → Prop) (tg : Tg (A, N, c, x, Q)) : Prop := Wp A N c (.loop x) ρ H wr Q
def wfz (c : Ctx) (ts : List (Nat × Nat)) (ρ : SEnv) (H : List AObj) (wr : List Nat) (K : SEnv → List AObj → List Nat → Prop) (tg : Tg (c, ts, K)) : Prop := wpFrz c ts ρ H wr K
section
variable {call : Nat → List AV → List AObj → Out} {c : Ctx} {ρ : SEnv} {H : List AObj} {wr : List Nat} {r : List AOper} {p : List Nat} {d : Nat}
  {K : SEnv → List AObj → List Nat → Prop} {t : Tg (call, c, r, K)}
@[go_sem] theorem wo_nil {t : Tg (call, c, [], K)} : wo call c [] ρ H wr K t = K ρ H wr := (rfl)
theorem wo_R {op : AOp} {t : Tg (call, c,⟨some d, op, none, p⟩ :: r, K)} (h : isW (c.site (some d)) false op = false) : wo call c (⟨some d, op, none, p⟩ :: r) ρ H wr K t = bnd (evRF H ρ op) fun v => wo call c r (upd ρ d v) H wr K ⟨⟩ := by
  unfold wo
  conv => lhs; unfold wpOps
  simp only [guardF]
  unfold stepF
  rw [if_neg (by simp [h])]
  cases evRF H ρ op <;> rfl
@[go_sem] theorem wo_mov {x1 : AOpd} {t : Tg (call, c,⟨some d, .mov x1, none, p⟩ :: r, K)} : wo call c (⟨some d, .mov x1, none, p⟩ :: r) ρ H wr K t = bnd (evRF H ρ (.mov x1)) fun v => wo call c r (upd ρ d v) H wr K ⟨⟩ := wo_R rfl
@[go_sem] theorem wo_pick {x1 : AOpd} {y1 : AOpd} {z1 : AOpd} {t : Tg (call, c,⟨some d, .pick x1 y1 z1, none, p⟩ :: r, K)} : wo call c (⟨some d, .pick x1 y1 z1, none, p⟩ :: r) ρ H wr K t = bnd (evRF H ρ (.pick x1 y1 z1)) fun v => wo call c r (upd ρ d v) H wr K ⟨⟩ := wo_R rfl
@[go_sem] theorem wo_build {zs1 : List AV} {ps1 : List (Nat × Nat × AOpd)} {t : Tg (call, c,⟨some d, .build zs1 ps1, none, p⟩ :: r, K)} : wo call c (⟨some d, .build zs1 ps1, none, p⟩ :: r) ρ H wr K t = bnd (evRF H ρ (.build zs1 ps1)) fun v => wo call c r (upd ρ d v) H wr K ⟨⟩ := wo_R rfl
@[go_sem] theorem wo_load {k1 : Nat} {agg1 : Bool} {x1 : AOpd} {t : Tg (call, c,⟨some d, .load k1 agg1 x1, none, p⟩ :: r, K)} : wo call c (⟨some d, .load k1 agg1 x1, none, p⟩ :: r) ρ H wr K t = bnd (evRF H ρ (.load k1 agg1 x1)) fun v => wo call c r (upd ρ d v) H wr K ⟨⟩ := wo_R rfl
@[go_sem] theorem wo_nilck {x1 : AOpd} {t : Tg (call, c,⟨some d, .nilck x1, none, p⟩ :: r, K)} : wo call c (⟨some d, .nilck x1, none, p⟩ :: r) ρ H wr K t = bnd (evRF H ρ (.nilck x1)) fun v => wo call c r (upd ρ d v) H wr K ⟨⟩ := wo_R rfl
@[go_sem] theorem wo_isnil {n1 : Bool} {x1 : AOpd} {t : Tg (call, c,⟨some d, .isnil n1 x1, none, p⟩ :: r, K)} : wo call c (⟨some d, .isnil n1 x1, none, p⟩ :: r) ρ H wr K t = bnd (evRF H ρ (.isnil n1 x1)) fun v => wo call c r (upd ρ d v) H wr K ⟨⟩ := wo_R rfl
@[go_sem] theorem wo_bin {b1 : BinOp} {e1 : EqK} {x1 : AOpd} {y1 : AOpd} {t : Tg (call, c,⟨some d, .bin b1 e1 x1 y1, none, p⟩ :: r, K)} : wo call c (⟨some d, .bin b1 e1 x1 y1, none, p⟩ :: r) ρ H wr K t = bnd (evRF H ρ (.bin b1 e1 x1 y1)) fun v => wo call c r (upd ρ d v) H wr K ⟨⟩ := wo_R rfl
@[go_sem] theorem wo_un {u1 : UnOp} {x1 : AOpd} {t : Tg (call, c,⟨some d, .un u1 x1, none, p⟩ :: r, K)} : wo call c (⟨some d, .un u1 x1, none, p⟩ :: r) ρ H wr K t = bnd (evRF H ρ (.un u1 x1)) fun v => wo call c r (upd ρ d v) H wr K ⟨⟩ := wo_R rfl
@[go_sem] theorem wo_conv {cv1 : AConv} {x1 : AOpd} {t : Tg (call, c,⟨some d, .conv cv1 x1, none, p⟩ :: r, K)} : wo call c (⟨some d, .conv cv1 x1, none, p⟩ :: r) ρ H wr K t = bnd (evRF H ρ (.conv cv1 x1)) fun v => wo call c r (upd ρ d v) H wr K ⟨⟩ := wo_R rfl
@[go_sem] theorem wo_mkf {f1 : Nat} {xs1 : List AOpd} {ys1 : List AOpd} {t : Tg (call, c,⟨some d, .mkf f1 xs1 ys1, none, p⟩ :: r, K)} : wo call c (⟨some d, .mkf f1 xs1 ys1, none, p⟩ :: r) ρ H wr K t = bnd (evRF H ρ (.mkf f1 xs1 ys1)) fun v => wo call c r (upd ρ d v) H wr K ⟨⟩ := wo_R rfl
@[go_sem] theorem wo_sliceS {x1 : AOpd} {lo1 : Option AOpd} {hi1 : Option AOpd} {t : Tg (call, c,⟨some d, .sliceS x1 lo1 hi1, none, p⟩ :: r, K)} : wo call c (⟨some d, .sliceS x1 lo1 hi1, none, p⟩ :: r) ρ H wr K t = bnd (evRF H ρ (.sliceS x1 lo1 hi1)) fun v => wo call c r (upd ρ d v) H wr K ⟨⟩ := wo_R rfl
@[go_sem] theorem wo_sliceV {k1 : Nat} {x1 : AOpd} {lo1 : Option AOpd} {hi1 : Option AOpd} {mx1 : Option AOpd} {t : Tg (call, c,⟨some d, .sliceV k1 x1 lo1 hi1 mx1, none, p⟩ :: r, K)} : wo call c (⟨some d, .sliceV k1 x1 lo1 hi1 mx1, none, p⟩ :: r) ρ H wr K t = bnd (evRF H ρ (.sliceV k1 x1 lo1 hi1 mx1)) fun v => wo call c r (upd ρ d v) H wr K ⟨⟩ := wo_R rfl
@[go_sem] theorem wo_sliceA {n1 : Nat} {k1 : Nat} {x1 : AOpd} {lo1 : Option AOpd} {hi1 : Option AOpd} {mx1 : Option AOpd} {t : Tg (call, c,⟨some d, .sliceA n1 k1 x1 lo1 hi1 mx1, none, p⟩ :: r, K)} : wo call c (⟨some d, .sliceA n1 k1 x1 lo1 hi1 mx1, none, p⟩ :: r) ρ H wr K t = bnd (evRF H ρ (.sliceA n1 k1 x1 lo1 hi1 mx1)) fun v => wo call c r (upd ρ d v) H wr K ⟨⟩ := wo_R rfl
@[go_sem] theorem wo_fa {o1 : Nat} {x1 : AOpd} {t : Tg (call, c,⟨some d, .fa o1 x1, none, p⟩ :: r, K)} : wo call c (⟨some d, .fa o1 x1, none, p⟩ :: r) ρ H wr K t = bnd (evRF H ρ (.fa o1 x1)) fun v => wo call c r (upd ρ d v) H wr K ⟨⟩ := wo_R rfl
@[go_sem] theorem wo_fld {o1 : Nat} {k1 : Nat} {agg1 : Bool} {x1 : AOpd} {t : Tg (call, c,⟨some d, .fld o1 k1 agg1 x1, none, p⟩ :: r, K)} : wo call c (⟨some d, .fld o1 k1 agg1 x1, none, p⟩ :: r) ρ H wr K t = bnd (evRF H ρ (.fld o1 k1 agg1 x1)) fun v => wo call c r (upd ρ d v) H wr K ⟨⟩ := wo_R rfl
@[go_sem] theorem wo_iaV {x1 : AOpd} {i1 : AOpd} {k1 : Nat} {t : Tg (call, c,⟨some d, .iaV x1 i1 k1, none, p⟩ :: r, K)} : wo call c (⟨some d, .iaV x1 i1 k1, none, p⟩ :: r) ρ H wr K t = bnd (evRF H ρ (.iaV x1 i1 k1)) fun v => wo call c r (upd ρ d v) H wr K ⟨⟩ := wo_R rfl
@[go_sem] theorem wo_iaA {n1 : Nat} {k1 : Nat} {x1 : AOpd} {i1 : AOpd} {t : Tg (call, c,⟨some d, .iaA n1 k1 x1 i1, none, p⟩ :: r, K)} : wo call c (⟨some d, .iaA n1 k1 x1 i1, none, p⟩ :: r) ρ H wr K t = bnd (evRF H ρ (.iaA n1 k1 x1 i1)) fun v => wo call c r (upd ρ d v) H wr K ⟨⟩ := wo_R rfl
@[go_sem] theorem wo_ixS {x1 : AOpd} {i1 : AOpd} {t : Tg (call, c,⟨some d, .ixS x1 i1, none, p⟩ :: r, K)} : wo call c (⟨some d, .ixS x1 i1, none, p⟩ :: r) ρ H wr K t = bnd (evRF H ρ (.ixS x1 i1)) fun v => wo call c r (upd ρ d v) H wr K ⟨⟩ := wo_R rfl
@[go_sem] theorem wo_ixA {n1 : Nat} {k1 : Nat} {agg1 : Bool} {x1 : AOpd} {i1 : AOpd} {t : Tg (call, c,⟨some d, .ixA n1 k1 agg1 x1 i1, none, p⟩ :: r, K)} : wo call c (⟨some d, .ixA n1 k1 agg1 x1 i1, none, p⟩ :: r) ρ H wr K t = bnd (evRF H ρ (.ixA n1 k1 agg1 x1 i1)) fun v => wo call c r (upd ρ d v) H wr K ⟨⟩ := wo_R rfl
@[go_sem] theorem wo_lenS {x1 : AOpd} {t : Tg (call, c,⟨some d, .lenS x1, none, p⟩ :: r, K)} : wo call c (⟨some d, .lenS x1, none, p⟩ :: r) ρ H wr K t = bnd (evRF H ρ (.lenS x1)) fun v => wo call c r (upd ρ d v) H wr K ⟨⟩ := wo_R rfl
@[go_sem] theorem wo_lenV {x1 : AOpd} {t : Tg (call, c,⟨some d, .lenV x1, none, p⟩ :: r, K)} : wo call c (⟨some d, .lenV x1, none, p⟩ :: r) ρ H wr K t = bnd (evRF H ρ (.lenV x1)) fun v => wo call c r (upd ρ d v) H wr K ⟨⟩ := wo_R rfl
@[go_sem] theorem wo_lenC {n1 : Nat} {t : Tg (call, c,⟨some d, .lenC n1, none, p⟩ :: r, K)} : wo call c (⟨some d, .lenC n1, none, p⟩ :: r) ρ H wr K t = bnd (evRF H ρ (.lenC n1)) fun v => wo call c r (upd ρ d v) H wr K ⟨⟩ := wo_R rfl
@[go_sem] theorem wo_mm {m1 : Bool} {xs1 : List AOpd} {t : Tg (call, c,⟨some d, .mm m1 xs1, none, p⟩ :: r, K)} : wo call c (⟨some d, .mm m1 xs1, none, p⟩ :: r) ρ H wr K t = bnd (evRF H ρ (.mm m1 xs1)) fun v => wo call c r (upd ρ d v) H wr K ⟨⟩ := wo_R rfl
@[go_sem] theorem wo_ext {i1 : Nat} {x1 : AOpd} {t : Tg (call, c,⟨some d, .ext i1 x1, none, p⟩ :: r, K)} : wo call c (⟨some d, .ext i1 x1, none, p⟩ :: r) ρ H wr K t = bnd (evRF H ρ (.ext i1 x1)) fun v => wo call c r (upd ρ d v) H wr K ⟨⟩ := wo_R rfl
@[go_sem] theorem wo_look {z1 : AV} {m1 : AOpd} {k1 : AOpd} {ok1 : Bool} {t : Tg (call, c,⟨some d, .look z1 m1 k1 ok1, none, p⟩ :: r, K)} : wo call c (⟨some d, .look z1 m1 k1 ok1, none, p⟩ :: r) ρ H wr K t = bnd (evRF H ρ (.look z1 m1 k1 ok1)) fun v => wo call c r (upd ρ d v) H wr K ⟨⟩ := wo_R rfl
theorem wo_S {op : AOp} {d : Option Nat} {t : Tg (call, c,⟨d, op, none, p⟩ :: r, K)} : wo call c (⟨d, op, none, p⟩ :: r) ρ H wr K t = bnd (stepF call (c.site d) false ρ H op) fun t => wo call c r (updO ρ d t.1) t.2.1 (addWr c.base wr t.2.2) K ⟨⟩ := by
  unfold wo
  conv => lhs; unfold wpOps
  simp only [guardF]
  cases stepF call (c.site d) false ρ H op <;> rfl
@[go_sem] theorem wo_store {k : Nat} {x v : AOpd} {d : Option Nat} {t : Tg (call, c,⟨d, .store k x v, none, p⟩ :: r, K)} : wo call c (⟨d, .store k x v, none, p⟩ :: r) ρ H wr K t = bnd (evWF call H ρ (c.site d) (.store k x v)) fun t => wo call c r (updO ρ d t.1) t.2.1 (addWr c.base wr t.2.2) K ⟨⟩ := wo_S
@[go_sem] theorem wo_app {k b : Nat} {x v : AOpd} {d : Option Nat} {t : Tg (call, c,⟨d, .app k b x v, none, p⟩ :: r, K)} : wo call c (⟨d, .app k b x v, none, p⟩ :: r) ρ H wr K t = bnd (evApp H (c.site d) k b (x.at ρ) (v.at ρ)) fun t => wo call c r (updO ρ d t.1) t.2.1 (addWr c.base wr t.2.2) K ⟨⟩ := wo_S
@[go_sem] theorem wo_callv {f : AOpd} {xs : List AOpd} {d : Option Nat} {t : Tg (call, c,⟨d, .callv f xs, none, p⟩ :: r, K)} : wo call c (⟨d, .callv f xs, none, p⟩ :: r) ρ H wr K t = bnd (evCallv call H (c.site d) (f.at ρ) (xs.map (AOpd.at ρ))) fun t => wo call c r (updO ρ d t.1) t.2.1 (addWr c.base wr t.2.2) K ⟨⟩ := wo_S
@[go_sem] theorem wo_mkmap  {d : Option Nat} {t : Tg (call, c,⟨d, .mkmap, none, p⟩ :: r, K)} : wo call c (⟨d, .mkmap, none, p⟩ :: r) ρ H wr K t = bnd (evWF call H ρ (c.site d) .mkmap) fun t => wo call c r (updO ρ d t.1) t.2.1 (addWr c.base wr t.2.2) K ⟨⟩ := wo_S
@[go_sem] theorem wo_ins {m k v : AOpd} {d : Option Nat} {t : Tg (call, c,⟨d, .ins m k v, none, p⟩ :: r, K)} : wo call c (⟨d, .ins m k v, none, p⟩ :: r) ρ H wr K t = bnd (evWF call H ρ (c.site d) (.ins m k v)) fun t => wo call c r (updO ρ d t.1) t.2.1 (addWr c.base wr t.2.2) K ⟨⟩ := wo_S
@[go_sem] theorem wo_alloc {zs : List AV} {d : Option Nat} {t : Tg (call, c,⟨d, .alloc zs, none, p⟩ :: r, K)} : wo call c (⟨d, .alloc zs, none, p⟩ :: r) ρ H wr K t = bnd (stepF call (c.site d) false ρ H (.alloc zs)) fun t => wo call c r (updO ρ d t.1) t.2.1 (addWr c.base wr t.2.2) K ⟨⟩ := wo_S
@[go_sem] theorem wo_box {k : Nat} {x : AOpd} {d : Option Nat} {t : Tg (call, c,⟨d, .box k x, none, p⟩ :: r, K)} : wo call c (⟨d, .box k x, none, p⟩ :: r) ρ H wr K t = bnd (stepF call (c.site d) false ρ H (.box k x)) fun t => wo call c r (updO ρ d t.1) t.2.1 (addWr c.base wr t.2.2) K ⟨⟩ := wo_S
@[go_sem] theorem wo_bsl {k n : Nat} {zs : List AV} {ps : List (Nat × AOpd)} {d : Option Nat} {t : Tg (call, c,⟨d, .bsl k zs n ps, none, p⟩ :: r, K)} : wo call c (⟨d, .bsl k zs n ps, none, p⟩ :: r) ρ H wr K t = bnd (evWF call H ρ (c.site d) (.bsl k zs n ps)) fun t => wo call c r (updO ρ d t.1) t.2.1 (addWr c.base wr t.2.2) K ⟨⟩ := by
  rw [wo_S]
  have : stepF call (c.site d) false ρ H (.bsl k zs n ps) = evWF call H ρ (c.site d) (.bsl k zs n ps) := by
    unfold stepF
    rw [if_pos (by simp [isW])]
  rw [this]
@[go_sem] theorem wo_mks {k n : Nat} {zs : List AV} {x y : AOpd} {d : Option Nat} {t : Tg (call, c,⟨d, .mks k n zs x y, none, p⟩ :: r, K)} : wo call c (⟨d, .mks k n zs x y, none, p⟩ :: r) ρ H wr K t = bnd (evWF call H ρ (c.site d) (.mks k n zs x y)) fun t => wo call c r (updO ρ d t.1) t.2.1 (addWr c.base wr t.2.2) K ⟨⟩ := by
  rw [wo_S]
  have : stepF call (c.site d) false ρ H (.mks k n zs x y) = evWF call H ρ (c.site d) (.mks k n zs x y) := by
    unfold stepF
    rw [if_pos (by simp [isW])]
  rw [this]
@[go_sem] theorem wo_guard {op : AOp} {t1 : Nat} {b : Bool} {d : Option Nat} {t : Tg (call, c,⟨d, op, some (some t1, b), p⟩ :: r, K)} : wo call c (⟨d, op, some (some t1, b), p⟩ :: r) ρ H wr K t =
    bnd (boolOf (ρ t1)) fun b' => branch (b' == b) (wo call c (⟨d, op, none, p⟩ :: r) ρ H wr K ⟨⟩) (wo call c r (updO ρ d .undef) H wr K ⟨⟩) ⟨⟩ := by
  conv => lhs; unfold wo wpOps
  simp only [guardF]
  cases ht : ρ t1 <;> try rfl
  rename_i b'
  simp only [boolOf, bnd, bindP]
  cases hb : (b' == b) with
  | false => rfl
  | true => simp only [branch]; rw [wo_S]; cases stepF call (c.site d) false ρ H op <;> rfl
variable {keep : List Nat} {n0 : Nat} {L : SEnv → List AObj → List Nat → Log → Prop}
@[go_sem] theorem wd_nil {t : Tg (call, c, keep, [], L)} : wd call c keep n0 [] ρ H wr L t = L ρ H wr [] := (rfl)
def logK (i : Nat) (rd : List Nat) (w : Option (List Nat)) (L : SEnv → List AObj → List Nat → Log → Prop) (tg : Tg L) : SEnv → List AObj → List Nat → Log → Prop :=
  fun ρ H wr log => L ρ H wr ((i, rd, w) :: log)
@[go_sem] theorem logK_ev {i : Nat} {rd : List Nat} {w : Option (List Nat)} {t : Tg L} {log : Log} : logK i rd w L t ρ H wr log = L ρ H wr ((i, rd, w) :: log) := (rfl)
def kept (b : Bool) (x y : Prop) (tg : Tg (x, y)) : Prop := match b with
  | true => x
  | false => y
@[go_sem] theorem kept_true {x y : Prop} {t : Tg (x, y)} : kept true x y t = x := (rfl)
@[go_sem] theorem kept_false {x y : Prop} {t : Tg (x, y)} : kept false x y t = y := (rfl)
theorem wd_S {op : AOp} {d : Option Nat} {t : Tg (call, c, keep,⟨d, op, none, p⟩ :: r, L)} : wd call c keep n0 (⟨d, op, none, p⟩ :: r) ρ H wr L t = bnd (stepD call (c.site d) ρ H op) fun t =>
    kept (keep.contains n0) (wd call c keep (n0 + 1) r (updO ρ d t.1) t.2.1 (addWr c.base wr (t.2.2.2.getD [])) (logK n0 t.2.2.1 t.2.2.2 L ⟨⟩) ⟨⟩)
      (wd call c keep (n0 + 1) r (updO ρ d t.1) t.2.1 (addWr c.base wr (t.2.2.2.getD [])) L ⟨⟩) ⟨⟩ := by
  unfold wd
  conv => lhs; unfold wpD
  simp only [guardF]
  cases stepD call (c.site d) ρ H op with
  | none => rfl
  | some v => cases hk : keep.contains n0 <;> rfl
theorem wd_R {op : AOp} {t : Tg (call, c, keep,⟨some d, op, none, p⟩ :: r, L)} (h : isW (c.site (some d)) true op = false) (ha : ∀ zs, op ≠ .alloc zs) : wd call c keep n0 (⟨some d, op, none, p⟩ :: r) ρ H wr L t = bnd (evRF H ρ op) fun v =>
    kept (keep.contains n0) (bnd (some (rdOfF ρ op)) fun rd => wd call c keep (n0 + 1) r (upd ρ d v) H wr (logK n0 rd none L ⟨⟩) ⟨⟩)
      (wd call c keep (n0 + 1) r (upd ρ d v) H wr L ⟨⟩) ⟨⟩ := by
  rw [wd_S]
  have : stepD call (c.site (some d)) ρ H op = match evRF H ρ op with
      | some v => some (v, H, rdOfF ρ op, none)
      | none => none := by
    cases op <;> first | exact absurd rfl (ha _) | (unfold stepD; dsimp only; rw [if_neg (by rw [h]; exact Bool.false_ne_true)]; rfl)
  rw [this]
  cases evRF H ρ op <;> rfl
@[go_sem] theorem wd_mov {x1 : AOpd} {t : Tg (call, c, keep,⟨some d, .mov x1, none, p⟩ :: r, L)} : wd call c keep n0 (⟨some d, .mov x1, none, p⟩ :: r) ρ H wr L t = bnd (evRF H ρ (.mov x1)) fun v =>
    kept (keep.contains n0) (bnd (some (rdOfF ρ (.mov x1))) fun rd => wd call c keep (n0 + 1) r (upd ρ d v) H wr (logK n0 rd none L ⟨⟩) ⟨⟩)
      (wd call c keep (n0 + 1) r (upd ρ d v) H wr L ⟨⟩) ⟨⟩ := wd_R rfl (fun _ h => by cases h)
@[go_sem] theorem wd_pick {x1 : AOpd} {y1 : AOpd} {z1 : AOpd} {t : Tg (call, c, keep,⟨some d, .pick x1 y1 z1, none, p⟩ :: r, L)} : wd call c keep n0 (⟨some d, .pick x1 y1 z1, none, p⟩ :: r) ρ H wr L t = bnd (evRF H ρ (.pick x1 y1 z1)) fun v =>
    kept (keep.contains n0) (bnd (some (rdOfF ρ (.pick x1 y1 z1))) fun rd => wd call c keep (n0 + 1) r (upd ρ d v) H wr (logK n0 rd none L ⟨⟩) ⟨⟩)
      (wd call c keep (n0 + 1) r (upd ρ d v) H wr L ⟨⟩) ⟨⟩ := wd_R rfl (fun _ h => by cases h)
@[go_sem] theorem wd_build {zs1 : List AV} {ps1 : List (Nat × Nat × AOpd)} {t : Tg (call, c, keep,⟨some d, .build zs1 ps1, none, p⟩ :: r, L)} : wd call c keep n0 (⟨some d, .build zs1 ps1, none, p⟩ :: r) ρ H wr L t = bnd (evRF H ρ (.build zs1 ps1)) fun v =>
    kept (keep.contains n0) (bnd (some (rdOfF ρ (.build zs1 ps1))) fun rd => wd call c keep (n0 + 1) r (upd ρ d v) H wr (logK n0 rd none L ⟨⟩) ⟨⟩)
      (wd call c keep (n0 + 1) r (upd ρ d v) H wr L ⟨⟩) ⟨⟩ := wd_R rfl (fun _ h => by cases h)
@[go_sem] theorem wd_load {k1 : Nat} {agg1 : Bool} {x1 : AOpd} {t : Tg (call, c, keep,⟨some d, .load k1 agg1 x1, none, p⟩ :: r, L)} : wd call c keep n0 (⟨some d, .load k1 agg1 x1, none, p⟩ :: r) ρ H wr L t = bnd (evRF H ρ (.load k1 agg1 x1)) fun v =>
    kept (keep.contains n0) (bnd (some (rdOfF ρ (.load k1 agg1 x1))) fun rd => wd call c keep (n0 + 1) r (upd ρ d v) H wr (logK n0 rd none L ⟨⟩) ⟨⟩)
      (wd call c keep (n0 + 1) r (upd ρ d v) H wr L ⟨⟩) ⟨⟩ := wd_R rfl (fun _ h => by cases h)
@[go_sem] theorem wd_nilck {x1 : AOpd} {t : Tg (call, c, keep,⟨some d, .nilck x1, none, p⟩ :: r, L)} : wd call c keep n0 (⟨some d, .nilck x1, none, p⟩ :: r) ρ H wr L t = bnd (evRF H ρ (.nilck x1)) fun v =>
    kept (keep.contains n0) (bnd (some (rdOfF ρ (.nilck x1))) fun rd => wd call c keep (n0 + 1) r (upd ρ d v) H wr (logK n0 rd none L ⟨⟩) ⟨⟩)
      (wd call c keep (n0 + 1) r (upd ρ d v) H wr L ⟨⟩) ⟨⟩ := wd_R rfl (fun _ h => by cases h)
@[go_sem] theorem wd_isnil {n1 : Bool} {x1 : AOpd} {t : Tg (call, c, keep,⟨some d, .isnil n1 x1, none, p⟩ :: r, L)} : wd call c keep n0 (⟨some d, .isnil n1 x1, none, p⟩ :: r) ρ H wr L t = bnd (evRF H ρ (.isnil n1 x1)) fun v =>
    kept (keep.contains n0) (bnd (some (rdOfF ρ (.isnil n1 x1))) fun rd => wd call c keep (n0 + 1) r (upd ρ d v) H wr (logK n0 rd none L ⟨⟩) ⟨⟩)
      (wd call c keep (n0 + 1) r (upd ρ d v) H wr L ⟨⟩) ⟨⟩ := wd_R rfl (fun _ h => by cases h)
@[go_sem] theorem wd_bin {b1 : BinOp} {e1 : EqK} {x1 : AOpd} {y1 : AOpd} {t : Tg (call, c, keep,⟨some d, .bin b1 e1 x1 y1, none, p⟩ :: r, L)} : wd call c keep n0 (⟨some d, .bin b1 e1 x1 y1, none, p⟩ :: r) ρ H wr L t = bnd (evRF H ρ (.bin b1 e1 x1 y1)) fun v =>
    kept (keep.contains n0) (bnd (some (rdOfF ρ (.bin b1 e1 x1 y1))) fun rd => wd call c keep (n0 + 1) r (upd ρ d v) H wr (logK n0 rd none L ⟨⟩) ⟨⟩)
      (wd call c keep (n0 + 1) r (upd ρ d v) H wr L ⟨⟩) ⟨⟩ := wd_R rfl (fun _ h => by cases h)
@[go_sem] theorem wd_un {u1 : UnOp} {x1 : AOpd} {t : Tg (call, c, keep,⟨some d, .un u1 x1, none, p⟩ :: r, L)} : wd call c keep n0 (⟨some d, .un u1 x1, none, p⟩ :: r) ρ H wr L t = bnd (evRF H ρ (.un u1 x1)) fun v =>
    kept (keep.contains n0) (bnd (some (rdOfF ρ (.un u1 x1))) fun rd => wd call c keep (n0 + 1) r (upd ρ d v) H wr (logK n0 rd none L ⟨⟩) ⟨⟩)
      (wd call c keep (n0 + 1) r (upd ρ d v) H wr L ⟨⟩) ⟨⟩ := wd_R rfl (fun _ h => by cases h)
@[go_sem] theorem wd_conv {cv1 : AConv} {x1 : AOpd} {t : Tg (call, c, keep,⟨some d, .conv cv1 x1, none, p⟩ :: r, L)} : wd call c keep n0 (⟨some d, .conv cv1 x1, none, p⟩ :: r) ρ H wr L t = bnd (evRF H ρ (.conv cv1 x1)) fun v =>
    kept (keep.contains n0) (bnd (some (rdOfF ρ (.conv cv1 x1))) fun rd => wd call c keep (n0 + 1) r (upd ρ d v) H wr (logK n0 rd none L ⟨⟩) ⟨⟩)
      (wd call c keep (n0 + 1) r (upd ρ d v) H wr L ⟨⟩) ⟨⟩ := wd_R rfl (fun _ h => by cases h)
@[go_sem] theorem wd_mkf {f1 : Nat} {xs1 : List AOpd} {ys1 : List AOpd} {t : Tg (call, c, keep,⟨some d, .mkf f1 xs1 ys1, none, p⟩ :: r, L)} : wd call c keep n0 (⟨some d, .mkf f1 xs1 ys1, none, p⟩ :: r) ρ H wr L t = bnd (evRF H ρ (.mkf f1 xs1 ys1)) fun v =>
    kept (keep.contains n0) (bnd (some (rdOfF ρ (.mkf f1 xs1 ys1))) fun rd => wd call c keep (n0 + 1) r (upd ρ d v) H wr (logK n0 rd none L ⟨⟩) ⟨⟩)
      (wd call c keep (n0 + 1) r (upd ρ d v) H wr L ⟨⟩) ⟨⟩ := wd_R rfl (fun _ h => by cases h)
@[go_sem] theorem wd_sliceS {x1 : AOpd} {lo1 : Option AOpd} {hi1 : Option AOpd} {t : Tg (call, c, keep,⟨some d, .sliceS x1 lo1 hi1, none, p⟩ :: r, L)} : wd call c keep n0 (⟨some d, .sliceS x1 lo1 hi1, none, p⟩ :: r) ρ H wr L t = bnd (evRF H ρ (.sliceS x1 lo1 hi1)) fun v =>
    kept (keep.contains n0) (bnd (some (rdOfF ρ (.sliceS x1 lo1 hi1))) fun rd => wd call c keep (n0 + 1) r (upd ρ d v) H wr (logK n0 rd none L ⟨⟩) ⟨⟩)
      (wd call c keep (n0 + 1) r (upd ρ d v) H wr L ⟨⟩) ⟨⟩ := wd_R rfl (fun _ h => by cases h)
@[go_sem] theorem wd_sliceV {k1 : Nat} {x1 : AOpd} {lo1 : Option AOpd} {hi1 : Option AOpd} {mx1 : Option AOpd} {t : Tg (call, c, keep,⟨some d, .sliceV k1 x1 lo1 hi1 mx1, none, p⟩ :: r, L)} : wd call c keep n0 (⟨some d, .sliceV k1 x1 lo1 hi1 mx1, none, p⟩ :: r) ρ H wr L t = bnd (evRF H ρ (.sliceV k1 x1 lo1 hi1 mx1)) fun v =>
    kept (keep.contains n0) (bnd (some (rdOfF ρ (.sliceV k1 x1 lo1 hi1 mx1))) fun rd => wd call c keep (n0 + 1) r (upd ρ d v) H wr (logK n0 rd none L ⟨⟩) ⟨⟩)
      (wd call c keep (n0 + 1) r (upd ρ d v) H wr L ⟨⟩) ⟨⟩ := wd_R rfl (fun _ h => by cases h)
@[go_sem] theorem wd_sliceA {n1 : Nat} {k1 : Nat} {x1 : AOpd} {lo1 : Option AOpd} {hi1 : Option AOpd} {mx1 : Option AOpd} {t : Tg (call, c, keep,⟨some d, .sliceA n1 k1 x1 lo1 hi1 mx1, none, p⟩ :: r, L)} : wd call c keep n0 (⟨some d, .sliceA n1 k1 x1 lo1 hi1 mx1, none, p⟩ :: r) ρ H wr L t = bnd (evRF H ρ (.sliceA n1 k1 x1 lo1 hi1 mx1)) fun v =>
    kept (keep.contains n0) (bnd (some (rdOfF ρ (.sliceA n1 k1 x1 lo1 hi1 mx1))) fun rd => wd call c keep (n0 + 1) r (upd ρ d v) H wr (logK n0 rd none L ⟨⟩) ⟨⟩)
      (wd call c keep (n0 + 1) r (upd ρ d v) H wr L ⟨⟩) ⟨⟩ := wd_R rfl (fun _ h => by cases h)
@[go_sem] theorem wd_fa {o1 : Nat} {x1 : AOpd} {t : Tg (call, c, keep,⟨some d, .fa o1 x1, none, p⟩ :: r, L)} : wd call c keep n0 (⟨some d, .fa o1 x1, none, p⟩ :: r) ρ H wr L t = bnd (evRF H ρ (.fa o1 x1)) fun v =>
    kept (keep.contains n0) (bnd (some (rdOfF ρ (.fa o1 x1))) fun rd => wd call c keep (n0 + 1) r (upd ρ d v) H wr (logK n0 rd none L ⟨⟩) ⟨⟩)
      (wd call c keep (n0 + 1) r (upd ρ d v) H wr L ⟨⟩) ⟨⟩ := wd_R rfl (fun _ h => by cases h)
@[go_sem] theorem wd_fld {o1 : Nat} {k1 : Nat} {agg1 : Bool} {x1 : AOpd} {t : Tg (call, c, keep,⟨some d, .fld o1 k1 agg1 x1, none, p⟩ :: r, L)} : wd call c keep n0 (⟨some d, .fld o1 k1 agg1 x1, none, p⟩ :: r) ρ H wr L t = bnd (evRF H ρ (.fld o1 k1 agg1 x1)) fun v =>
    kept (keep.contains n0) (bnd (some (rdOfF ρ (.fld o1 k1 agg1 x1))) fun rd => wd call c keep (n0 + 1) r (upd ρ d v) H wr (logK n0 rd none L ⟨⟩) ⟨⟩)
      (wd call c keep (n0 + 1) r (upd ρ d v) H wr L ⟨⟩) ⟨⟩ := wd_R rfl (fun _ h => by cases h)
@[go_sem] theorem wd_iaV {x1 : AOpd} {i1 : AOpd} {k1 : Nat} {t : Tg (call, c, keep,⟨some d, .iaV x1 i1 k1, none, p⟩ :: r, L)} : wd call c keep n0 (⟨some d, .iaV x1 i1 k1, none, p⟩ :: r) ρ H wr L t = bnd (evRF H ρ (.iaV x1 i1 k1)) fun v =>
    kept (keep.contains n0) (bnd (some (rdOfF ρ (.iaV x1 i1 k1))) fun rd => wd call c keep (n0 + 1) r (upd ρ d v) H wr (logK n0 rd none L ⟨⟩) ⟨⟩)
      (wd call c keep (n0 + 1) r (upd ρ d v) H wr L ⟨⟩) ⟨⟩ := wd_R rfl (fun _ h => by cases h)
@[go_sem] theorem wd_iaA {n1 : Nat} {k1 : Nat} {x1 : AOpd} {i1 : AOpd} {t : Tg (call, c, keep,⟨some d, .iaA n1 k1 x1 i1, none, p⟩ :: r, L)} : wd call c keep n0 (⟨some d, .iaA n1 k1 x1 i1, none, p⟩ :: r) ρ H wr L t = bnd (evRF H ρ (.iaA n1 k1 x1 i1)) fun v =>
    kept (keep.contains n0) (bnd (some (rdOfF ρ (.iaA n1 k1 x1 i1))) fun rd => wd call c keep (n0 + 1) r (upd ρ d v) H wr (logK n0 rd none L ⟨⟩) ⟨⟩)
      (wd call c keep (n0 + 1) r (upd ρ d v) H wr L ⟨⟩) ⟨⟩ := wd_R rfl (fun _ h => by cases h)
@[go_sem] theorem wd_ixS {x1 : AOpd} {i1 : AOpd} {t : Tg (call, c, keep,⟨some d, .ixS x1 i1, none, p⟩ :: r, L)} : wd call c keep n0 (⟨some d, .ixS x1 i1, none, p⟩ :: r) ρ H wr L t = bnd (evRF H ρ (.ixS x1 i1)) fun v =>
    kept (keep.contains n0) (bnd (some (rdOfF ρ (.ixS x1 i1))) fun rd => wd call c keep (n0 + 1) r (upd ρ d v) H wr (logK n0 rd none L ⟨⟩) ⟨⟩)
      (wd call c keep (n0 + 1) r (upd ρ d v) H wr L ⟨⟩) ⟨⟩ := wd_R rfl (fun _ h => by cases h)
@[go_sem] theorem wd_ixA {n1 : Nat} {k1 : Nat} {agg1 : Bool} {x1 : AOpd} {i1 : AOpd} {t : Tg (call, c, keep,⟨some d, .ixA n1 k1 agg1 x1 i1, none, p⟩ :: r, L)} : wd call c keep n0 (⟨some d, .ixA n1 k1 agg1 x1 i1, none, p⟩ :: r) ρ H wr L t = bnd (evRF H ρ (.ixA n1 k1 agg1 x1 i1)) fun v =>
    kept (keep.contains n0) (bnd (some (rdOfF ρ (.ixA n1 k1 agg1 x1 i1))) fun rd => wd call c keep (n0 + 1) r (upd ρ d v) H wr (logK n0 rd none L ⟨⟩) ⟨⟩)
      (wd call c keep (n0 + 1) r (upd ρ d v) H wr L ⟨⟩) ⟨⟩ := wd_R rfl (fun _ h => by cases h)
@[go_sem] theorem wd_lenS {x1 : AOpd} {t : Tg (call, c, keep,⟨some d, .lenS x1, none, p⟩ :: r, L)} : wd call c keep n0 (⟨some d, .lenS x1, none, p⟩ :: r) ρ H wr L t = bnd (evRF H ρ (.lenS x1)) fun v =>
    kept (keep.contains n0) (bnd (some (rdOfF ρ (.lenS x1))) fun rd => wd call c keep (n0 + 1) r (upd ρ d v) H wr (logK n0 rd none L ⟨⟩) ⟨⟩)
      (wd call c keep (n0 + 1) r (upd ρ d v) H wr L ⟨⟩) ⟨⟩ := wd_R rfl (fun _ h => by cases h)
@[go_sem] theorem wd_lenV {x1 : AOpd} {t : Tg (call, c, keep,⟨some d, .lenV x1, none, p⟩ :: r, L)} : wd call c keep n0 (⟨some d, .lenV x1, none, p⟩ :: r) ρ H wr L t = bnd (evRF H ρ (.lenV x1)) fun v =>
    kept (keep.contains n0) (bnd (some (rdOfF ρ (.lenV x1))) fun rd => wd call c keep (n0 + 1) r (upd ρ d v) H wr (logK n0 rd none L ⟨⟩) ⟨⟩)
      (wd call c keep (n0 + 1) r (upd ρ d v) H wr L ⟨⟩) ⟨⟩ := wd_R rfl (fun _ h => by cases h)
@[go_sem] theorem wd_lenC {n1 : Nat} {t : Tg (call, c, keep,⟨some d, .lenC n1, none, p⟩ :: r, L)} : wd call c keep n0 (⟨some d, .lenC n1, none, p⟩ :: r) ρ H wr L t = bnd (evRF H ρ (.lenC n1)) fun v =>
    kept (keep.contains n0) (bnd (some (rdOfF ρ (.lenC n1))) fun rd => wd call c keep (n0 + 1) r (upd ρ d v) H wr (logK n0 rd none L ⟨⟩) ⟨⟩)
      (wd call c keep (n0 + 1) r (upd ρ d v) H wr L ⟨⟩) ⟨⟩ := wd_R rfl (fun _ h => by cases h)
@[go_sem] theorem wd_mm {m1 : Bool} {xs1 : List AOpd} {t : Tg (call, c, keep,⟨some d, .mm m1 xs1, none, p⟩ :: r, L)} : wd call c keep n0 (⟨some d, .mm m1 xs1, none, p⟩ :: r) ρ H wr L t = bnd (evRF H ρ (.mm m1 xs1)) fun v =>
    kept (keep.contains n0) (bnd (some (rdOfF ρ (.mm m1 xs1))) fun rd => wd call c keep (n0 + 1) r (upd ρ d v) H wr (logK n0 rd none L ⟨⟩) ⟨⟩)
      (wd call c keep (n0 + 1) r (upd ρ d v) H wr L ⟨⟩) ⟨⟩ := wd_R rfl (fun _ h => by cases h)
@[go_sem] theorem wd_ext {i1 : Nat} {x1 : AOpd} {t : Tg (call, c, keep,⟨some d, .ext i1 x1, none, p⟩ :: r, L)} : wd call c keep n0 (⟨some d, .ext i1 x1, none, p⟩ :: r) ρ H wr L t = bnd (evRF H ρ (.ext i1 x1)) fun v =>
    kept (keep.contains n0) (bnd (some (rdOfF ρ (.ext i1 x1))) fun rd => wd call c keep (n0 + 1) r (upd ρ d v) H wr (logK n0 rd none L ⟨⟩) ⟨⟩)
      (wd call c keep (n0 + 1) r (upd ρ d v) H wr L ⟨⟩) ⟨⟩ := wd_R rfl (fun _ h => by cases h)
@[go_sem] theorem wd_look {z1 : AV} {m1 : AOpd} {k1 : AOpd} {ok1 : Bool} {t : Tg (call, c, keep,⟨some d, .look z1 m1 k1 ok1, none, p⟩ :: r, L)} : wd call c keep n0 (⟨some d, .look z1 m1 k1 ok1, none, p⟩ :: r) ρ H wr L t = bnd (evRF H ρ (.look z1 m1 k1 ok1)) fun v =>
    kept (keep.contains n0) (bnd (some (rdOfF ρ (.look z1 m1 k1 ok1))) fun rd => wd call c keep (n0 + 1) r (upd ρ d v) H wr (logK n0 rd none L ⟨⟩) ⟨⟩)
      (wd call c keep (n0 + 1) r (upd ρ d v) H wr L ⟨⟩) ⟨⟩ := wd_R rfl (fun _ h => by cases h)
@[go_sem] theorem wd_store {k : Nat} {x v : AOpd} {d : Option Nat} {t : Tg (call, c, keep,⟨d, .store k x v, none, p⟩ :: r, L)} : wd call c keep n0 (⟨d, .store k x v, none, p⟩ :: r) ρ H wr L t = bnd (stepD call (c.site d) ρ H (.store k x v)) fun t =>
    kept (keep.contains n0) (wd call c keep (n0 + 1) r (updO ρ d t.1) t.2.1 (addWr c.base wr (t.2.2.2.getD [])) (logK n0 t.2.2.1 t.2.2.2 L ⟨⟩) ⟨⟩)
      (wd call c keep (n0 + 1) r (updO ρ d t.1) t.2.1 (addWr c.base wr (t.2.2.2.getD [])) L ⟨⟩) ⟨⟩ := wd_S
@[go_sem] theorem wd_app {k b : Nat} {x v : AOpd} {d : Option Nat} {t : Tg (call, c, keep,⟨d, .app k b x v, none, p⟩ :: r, L)} : wd call c keep n0 (⟨d, .app k b x v, none, p⟩ :: r) ρ H wr L t = bnd (stepD call (c.site d) ρ H (.app k b x v)) fun t =>
    kept (keep.contains n0) (wd call c keep (n0 + 1) r (updO ρ d t.1) t.2.1 (addWr c.base wr (t.2.2.2.getD [])) (logK n0 t.2.2.1 t.2.2.2 L ⟨⟩) ⟨⟩)
      (wd call c keep (n0 + 1) r (updO ρ d t.1) t.2.1 (addWr c.base wr (t.2.2.2.getD [])) L ⟨⟩) ⟨⟩ := wd_S
@[go_sem] theorem wd_callv {f : AOpd} {xs : List AOpd} {d : Option Nat} {t : Tg (call, c, keep,⟨d, .callv f xs, none, p⟩ :: r, L)} : wd call c keep n0 (⟨d, .callv f xs, none, p⟩ :: r) ρ H wr L t = bnd (stepD call (c.site d) ρ H (.callv f xs)) fun t =>
    kept (keep.contains n0) (wd call c keep (n0 + 1) r (updO ρ d t.1) t.2.1 (addWr c.base wr (t.2.2.2.getD [])) (logK n0 t.2.2.1 t.2.2.2 L ⟨⟩) ⟨⟩)
      (wd call c keep (n0 + 1) r (updO ρ d t.1) t.2.1 (addWr c.base wr (t.2.2.2.getD [])) L ⟨⟩) ⟨⟩ := wd_S
@[go_sem] theorem wd_mkmap  {d : Option Nat} {t : Tg (call, c, keep,⟨d, .mkmap, none, p⟩ :: r, L)} : wd call c keep n0 (⟨d, .mkmap, none, p⟩ :: r) ρ H wr L t = bnd (stepD call (c.site d) ρ H (.mkmap)) fun t =>
    kept (keep.contains n0) (wd call c keep (n0 + 1) r (updO ρ d t.1) t.2.1 (addWr c.base wr (t.2.2.2.getD [])) (logK n0 t.2.2.1 t.2.2.2 L ⟨⟩) ⟨⟩)
      (wd call c keep (n0 + 1) r (updO ρ d t.1) t.2.1 (addWr c.base wr (t.2.2.2.getD [])) L ⟨⟩) ⟨⟩ := wd_S
@[go_sem] theorem wd_ins {m k v : AOpd} {d : Option Nat} {t : Tg (call, c, keep,⟨d, .ins m k v, none, p⟩ :: r, L)} : wd call c keep n0 (⟨d, .ins m k v, none, p⟩ :: r) ρ H wr L t = bnd (stepD call (c.site d) ρ H (.ins m k v)) fun t =>
    kept (keep.contains n0) (wd call c keep (n0 + 1) r (updO ρ d t.1) t.2.1 (addWr c.base wr (t.2.2.2.getD [])) (logK n0 t.2.2.1 t.2.2.2 L ⟨⟩) ⟨⟩)
      (wd call c keep (n0 + 1) r (updO ρ d t.1) t.2.1 (addWr c.base wr (t.2.2.2.getD [])) L ⟨⟩) ⟨⟩ := wd_S
@[go_sem] theorem wd_alloc {zs : List AV} {d : Option Nat} {t : Tg (call, c, keep,⟨d, .alloc zs, none, p⟩ :: r, L)} : wd call c keep n0 (⟨d, .alloc zs, none, p⟩ :: r) ρ H wr L t = bnd (stepD call (c.site d) ρ H (.alloc zs)) fun t =>
    kept (keep.contains n0) (wd call c keep (n0 + 1) r (updO ρ d t.1) t.2.1 (addWr c.base wr (t.2.2.2.getD [])) (logK n0 t.2.2.1 t.2.2.2 L ⟨⟩) ⟨⟩)
      (wd call c keep (n0 + 1) r (updO ρ d t.1) t.2.1 (addWr c.base wr (t.2.2.2.getD [])) L ⟨⟩) ⟨⟩ := wd_S
@[go_sem] theorem wd_box {k : Nat} {x : AOpd} {d : Option Nat} {t : Tg (call, c, keep,⟨d, .box k x, none, p⟩ :: r, L)} : wd call c keep n0 (⟨d, .box k x, none, p⟩ :: r) ρ H wr L t = bnd (stepD call (c.site d) ρ H (.box k x)) fun t =>
    kept (keep.contains n0) (wd call c keep (n0 + 1) r (updO ρ d t.1) t.2.1 (addWr c.base wr (t.2.2.2.getD [])) (logK n0 t.2.2.1 t.2.2.2 L ⟨⟩) ⟨⟩)
      (wd call c keep (n0 + 1) r (updO ρ d t.1) t.2.1 (addWr c.base wr (t.2.2.2.getD [])) L ⟨⟩) ⟨⟩ := wd_S
@[go_sem] theorem wd_bsl {k n : Nat} {zs : List AV} {ps : List (Nat × AOpd)} {d : Option Nat} {t : Tg (call, c, keep,⟨d, .bsl k zs n ps, none, p⟩ :: r, L)} : wd call c keep n0 (⟨d, .bsl k zs n ps, none, p⟩ :: r) ρ H wr L t = bnd (stepD call (c.site d) ρ H (.bsl k zs n ps)) fun t =>
    kept (keep.contains n0) (wd call c keep (n0 + 1) r (updO ρ d t.1) t.2.1 (addWr c.base wr (t.2.2.2.getD [])) (logK n0 t.2.2.1 t.2.2.2 L ⟨⟩) ⟨⟩)
      (wd call c keep (n0 + 1) r (updO ρ d t.1) t.2.1 (addWr c.base wr (t.2.2.2.getD [])) L ⟨⟩) ⟨⟩ := wd_S
@[go_sem] theorem wd_mks {k n : Nat} {zs : List AV} {x y : AOpd} {d : Option Nat} {t : Tg (call, c, keep,⟨d, .mks k n zs x y, none, p⟩ :: r, L)} : wd call c keep n0 (⟨d, .mks k n zs x y, none, p⟩ :: r) ρ H wr L t = bnd (stepD call (c.site d) ρ H (.mks k n zs x y)) fun t =>
    kept (keep.contains n0) (wd call c keep (n0 + 1) r (updO ρ d t.1) t.2.1 (addWr c.base wr (t.2.2.2.getD [])) (logK n0 t.2.2.1 t.2.2.2 L ⟨⟩) ⟨⟩)
      (wd call c keep (n0 + 1) r (updO ρ d t.1) t.2.1 (addWr c.base wr (t.2.2.2.getD [])) L ⟨⟩) ⟨⟩ := wd_S
@[go_sem] theorem wd_guard {op : AOp} {t1 : Nat} {b : Bool} {d : Option Nat} {t : Tg (call, c, keep,⟨d, op, some (some t1, b), p⟩ :: r, L)} : wd call c keep n0 (⟨d, op, some (some t1, b), p⟩ :: r) ρ H wr L t =
    bnd (boolOf (ρ t1)) fun b' => branch (b' == b) (wd call c keep n0 (⟨d, op, none, p⟩ :: r) ρ H wr L ⟨⟩) (wd call c keep (n0 + 1) r (updO ρ d .undef) H wr L ⟨⟩) ⟨⟩ := by
  conv => lhs; unfold wd wpD
  simp only [guardF]
  cases ht : ρ t1 <;> try rfl
  rename_i b'
  simp only [boolOf, bnd, bindP]
  cases hb : (b' == b) with
  | false => rfl
  | true =>
    simp only [branch]; rw [wd_S]
    cases stepD call (c.site d) ρ H op with
    | none => rfl
    | some v => cases hk : keep.contains n0 <;> rfl
def drawOut (H : List AObj) : Out → Option (AV × List AObj × List Nat × Option (List Nat))
  | some (v, H', w) => if H'.length = H.length then some (v, H', [], some w) else none
  | none => none
@[go_sem] theorem drawOut_some {v : AV} {H' : List AObj} {w : List Nat} : drawOut H (some (v, H', w)) = if H'.length = H.length then some (v, H', [], some w) else none := (rfl)
@[go_sem] theorem drawOut_none : drawOut H none = none := (rfl)
@[go_sem] theorem stepD_store {k : Nat} {x v : AOpd} {s : Option Nat} : stepD call s ρ H (.store k x v) = drawOut H (evWF call H ρ s (.store k x v)) := (rfl)
@[go_sem] theorem stepD_callv {f : AOpd} {xs : List AOpd} {s : Option Nat} : stepD call s ρ H (.callv f xs) = drawOut H (evCallv call H s (f.at ρ) (xs.map (AOpd.at ρ))) := (rfl)
@[go_sem] theorem stepD_app {k b : Nat} {x v : AOpd} {s : Option Nat} : stepD call s ρ H (.app k b x v) = drawOut H (evApp H s k b (x.at ρ) (v.at ρ)) := (rfl)
@[go_sem] theorem stepD_alloc {zs : List AV} {id : Nat} : stepD call (some id) ρ H (.alloc zs) = some (.ptr id ((H[id]?).elim 0 AObj.ver) 0, H, [id], none) := (rfl)
@[go_sem] theorem stepD_alloc_none {zs : List AV} : stepD call none ρ H (.alloc zs) = match evRF H ρ (.alloc zs) with
  | some v => some (v, H, [], none)
  | none => none := (rfl)
@[go_sem] theorem stepD_box {k : Nat} {x : AOpd} {id : Nat} : stepD call (some id) ρ H (.box k x) = drawOut H (evWF call H ρ (some id) (.box k x)) := (rfl)
@[go_sem] theorem stepD_box_none {k : Nat} {x : AOpd} : stepD call none ρ H (.box k x) = match evRF H ρ (.box k x) with
  | some v => some (v, H, [], none)
  | none => none := (rfl)
@[go_sem] theorem stepD_bsl {k n : Nat} {zs : List AV} {ps : List (Nat × AOpd)} {id : Nat} : stepD call (some id) ρ H (.bsl k zs n ps) = drawOut H (evWF call H ρ (some id) (.bsl k zs n ps)) := (rfl)
@[go_sem] theorem stepD_bsl_none {k n : Nat} {zs : List AV} {ps : List (Nat × AOpd)} : stepD call none ρ H (.bsl k zs n ps) = match evRF H ρ (.bsl k zs n ps) with
  | some v => some (v, H, [], none)
  | none => none := (rfl)
@[go_sem] theorem stepD_mks {k n : Nat} {zs : List AV} {x y : AOpd} {id : Nat} : stepD call (some id) ρ H (.mks k n zs x y) = drawOut H (evWF call H ρ (some id) (.mks k n zs x y)) := (rfl)
@[go_sem] theorem stepD_mks_none {k n : Nat} {zs : List AV} {x y : AOpd} : stepD call none ρ H (.mks k n zs x y) = match evRF H ρ (.mks k n zs x y) with
  | some v => some (v, H, [], none)
  | none => none := (rfl)
@[go_sem] theorem stepF_alloc {zs : List AV} {id : Nat} : stepF call (some id) false ρ H (.alloc zs) = if id < H.length then some (.ptr id (verAt H id) 0, make H id (.box · zs), [id]) else none := (rfl)
@[go_sem] theorem stepF_alloc_none {zs : List AV} : stepF call none false ρ H (.alloc zs) = if zs.all AV.still then some (.ep (zs.map AV.strip1) 0, H, []) else none := by
  unfold stepF
  rw [if_neg (by simp [isW])]
  unfold evRF
  dsimp only
  cases zs.all AV.still <;> rfl
@[go_sem] theorem stepF_box {k : Nat} {x : AOpd} {id : Nat} : stepF call (some id) false ρ H (.box k x) = if id < H.length ∧ (x.at ρ).cells.length = k ∧ (x.at ρ).cells.all AV.cellOk then some (.ptr id (verAt H id) 0, make H id (.box · (x.at ρ).cells), [id]) else none := (rfl)
@[go_sem] theorem stepF_box_none {k : Nat} {x : AOpd} : stepF call none false ρ H (.box k x) = if (x.at ρ).strip.cells.length = k ∧ (x.at ρ).strip.cells.all AV.still then some (.ep (x.at ρ).strip.cells 0, H, []) else none := by
  unfold stepF
  rw [if_neg (by simp [isW])]
  unfold evRF
  dsimp only
  by_cases h : (x.at ρ).strip.cells.length = k ∧ (x.at ρ).strip.cells.all AV.still
  · rw [if_pos h, if_pos h]
  · rw [if_neg h, if_neg h]
end
section
variable {A : AProg} {N : Nat} {c : Ctx} {ρ : SEnv} {H : List AObj} {wr : List Nat} {Q : AExit → SEnv → List AObj → List Nat → Prop} {a b : ACode}
def thenQ (A : AProg) (N : Nat) (c : Ctx) (b : ACode) (Q : AExit → SEnv → List AObj → List Nat → Prop) (tg : Tg (A, N, c, b, Q)) : AExit → SEnv → List AObj → List Nat → Prop := fun e ρ H wr => match e with
  | .normal => wpc A N c b ρ H wr Q
  | e => Q e ρ H wr
def blockQ (id : Nat) (Q : AExit → SEnv → List AObj → List Nat → Prop) (tg : Tg Q) : AExit → SEnv → List AObj → List Nat → Prop := fun e ρ H wr => match e with
  | .exit id' => if id' = id then Q .normal ρ H wr else Q (.exit id') ρ H wr
  | e => Q e ρ H wr
def loopQ (A : AProg) (N : Nat) (c : Ctx) (b : ACode) (Q : AExit → SEnv → List AObj → List Nat → Prop) (tg : Tg (A, N, c, b, Q)) : AExit → SEnv → List AObj → List Nat → Prop := fun e ρ H wr => match e with
  | .normal => Wp A N c (.loop b) ρ H wr Q
  | e => Q e ρ H wr
def orderOk (ops : List AOper) (Q : SEnv → List AObj → List Nat → Prop) (tg : Tg (ops, Q)) : SEnv → List AObj → List Nat → Log → Prop := fun ρ H wr log =>
  logOk (fun j => ((ops[j]?).map AOper.pre).getD []) log = true ∧ Q ρ H wr
@[go_sem] theorem wc_skip {t : Tg (A, N, c, ACode.skip, Q)} : wc A N c .skip ρ H wr Q t = Q .normal ρ H wr := (rfl)
@[go_sem] theorem wc_region {ops : List AOper} {t : Tg (A, N, c, ACode.region false ops, Q)} : wc A N c (.region false ops) ρ H wr Q t = wo (callI A) c ops ρ H wr (Q .normal) ⟨⟩ := (rfl)
@[go_sem] theorem wc_seq {t : Tg (A, N, c, ACode.seq a b, Q)} : wc A N c (.seq a b) ρ H wr Q t = wc A N c a ρ H wr (thenQ A N c b Q ⟨⟩) ⟨⟩ := (rfl)
@[go_sem] theorem wc_cond {x : AOpd} {t : Tg (A, N, c, ACode.cond x a b, Q)} : wc A N c (.cond x a b) ρ H wr Q t = bnd (boolOf (x.at ρ)) fun v => branch v (wc A N c a ρ H wr Q ⟨⟩) (wc A N c b ρ H wr Q ⟨⟩) ⟨⟩ := by
  unfold wc
  rw [wpc]
  cases x.at ρ <;> try rfl
  rename_i v; cases v <;> rfl
@[go_sem] theorem wc_block {id : Nat} {t : Tg (A, N, c, ACode.block id a, Q)} : wc A N c (.block id a) ρ H wr Q t = wc A N c a ρ H wr (blockQ id Q ⟨⟩) ⟨⟩ := (rfl)
@[go_sem] theorem wc_loop {t : Tg (A, N, c, ACode.loop a, Q)} : wc A N c (.loop a) ρ H wr Q t = wl A N c a ρ H wr Q ⟨⟩ := (rfl)
@[go_sem] theorem wc_exit {id : Nat} {t : Tg (A, N, c, ACode.exit id, Q)} : wc A N c (.exit id) ρ H wr Q t = Q (.exit id) ρ H wr := (rfl)
@[go_sem] theorem wc_ret {t : Tg (A, N, c, ACode.ret, Q)} : wc A N c .ret ρ H wr Q t = Q .ret ρ H wr := (rfl)
@[go_sem] theorem wc_frz {ts : List (Nat × Nat)} {t : Tg (A, N, c, ACode.frz ts, Q)} : wc A N c (.frz ts) ρ H wr Q t = wfz c ts ρ H wr (Q .normal) ⟨⟩ := (rfl)
theorem wc_draw {ops : List AOper} {t : Tg (A, N, c, ACode.region true ops, Q)} {H0 : List AObj} {keep : List Nat} (h : preAlloc c H ops = some H0) (hk : keepOf c ops = keep) :
    wc A N c (.region true ops) ρ H wr Q t = wd (callI A) c keep 0 ops ρ H0 wr (orderOk ops (Q .normal) ⟨⟩) ⟨⟩ := by
  subst hk
  unfold wc wd
  rw [wpc, h]; rfl
theorem wc_draw' {ops : List AOper} {t : Tg (A, N, c, ACode.region true ops, Q)} {H0 : List AObj} {keep : List Nat} (h : preAlloc c H ops = some H0) (hk : keepOf c ops = keep)
    (hw : wd (callI A) c keep 0 ops ρ H0 wr (orderOk ops (Q .normal) ⟨⟩) ⟨⟩) : wc A N c (.region true ops) ρ H wr Q t := by
  rw [wc_draw h hk]; exact hw
@[go_sem] theorem thenQ_normal {t : Tg (A, N, c, b, Q)} : thenQ A N c b Q t .normal ρ H wr = wc A N c b ρ H wr Q ⟨⟩ := (rfl)
@[go_sem] theorem thenQ_ret {t : Tg (A, N, c, b, Q)} : thenQ A N c b Q t .ret ρ H wr = Q .ret ρ H wr := (rfl)
@[go_sem] theorem thenQ_exit {t : Tg (A, N, c, b, Q)} {id : Nat} : thenQ A N c b Q t (.exit id) ρ H wr = Q (.exit id) ρ H wr := (rfl)
@[go_sem] theorem blockQ_normal {t : Tg Q} {id : Nat} : blockQ id Q t .normal ρ H wr = Q .normal ρ H wr := (rfl)
@[go_sem] theorem blockQ_ret {t : Tg Q} {id : Nat} : blockQ id Q t .ret ρ H wr = Q .ret ρ H wr := (rfl)
@[go_sem] theorem blockQ_exit {t : Tg Q} {id : Nat} : blockQ id Q t (.exit id) ρ H wr = Q .normal ρ H wr := by unfold blockQ; dsimp only; rw [if_pos rfl]
@[go_sem] theorem blockQ_other {t : Tg Q} {id id' : Nat} (h : (id' == id) = false) : blockQ id Q t (.exit id') ρ H wr = Q (.exit id') ρ H wr := by unfold blockQ; dsimp only; rw [if_neg (by simpa using h)]
@[go_sem] theorem loopQ_normal {t : Tg (A, N, c, b, Q)} : loopQ A N c b Q t .normal ρ H wr = wl A N c b ρ H wr Q ⟨⟩ := (rfl)
@[go_sem] theorem loopQ_ret {t : Tg (A, N, c, b, Q)} : loopQ A N c b Q t .ret ρ H wr = Q .ret ρ H wr := (rfl)
@[go_sem] theorem loopQ_exit {t : Tg (A, N, c, b, Q)} {id : Nat} : loopQ A N c b Q t (.exit id) ρ H wr = Q (.exit id) ρ H wr := (rfl)
theorem wl_step {t : Tg (A, N, c, a, Q)} (hok : codeOk N c a = true) (h : wc A N c a ρ H wr (loopQ A N c a Q ⟨⟩) ⟨⟩) : wl A N c a ρ H wr Q t := Wp.loop hok h
theorem orderOk_intro {ops : List AOper} {K : SEnv → List AObj → List Nat → Prop} {t : Tg (ops, K)} {log : Log} (h : logOk (fun j => ((ops[j]?).map AOper.pre).getD []) log = true) : orderOk ops K t ρ H wr log = K ρ H wr := by
  unfold orderOk; simp only [h, true_and]
@[go_sem] theorem orderOk_nil {ops : List AOper} {K : SEnv → List AObj → List Nat → Prop} {t : Tg (ops, K)} : orderOk ops K t ρ H wr [] = K ρ H wr := orderOk_intro rfl
@[go_sem] theorem wfz_nil {K : SEnv → List AObj → List Nat → Prop} {t : Tg (c, [], K)} : wfz c [] ρ H wr K t = K ρ H wr := (rfl)
@[go_sem] theorem wfz_slot {K : SEnv → List AObj → List Nat → Prop} {s : Nat} {r : List (Nat × Nat)} {t : Tg (c, (0, s) :: r, K)} : wfz c ((0, s) :: r) ρ H wr K t = bnd (fix H (ρ s)) fun x => wfz c r (upd ρ s x.1) x.2.1 (addWr c.base wr x.2.2) K ⟨⟩ := by
  unfold wfz
  conv => lhs; unfold wpFrz
  cases fix H (ρ s) <;> rfl
def frzCells (H : List AObj) (k : Nat) (v : AV) : Option (List AObj × List Nat) := match readCells H k v with
  | some cs => match fix H (.agg cs) with
    | some (.agg cs', H', l) => match storeCells H' cs' v with
      | some (H'', l') => some (H'', l ++ l')
      | none => none
    | _ => none
  | none => none
@[go_sem] theorem wfz_cells {K : SEnv → List AObj → List Nat → Prop} {k s : Nat} {r : List (Nat × Nat)} {t : Tg (c, (k + 1, s) :: r, K)} : wfz c ((k + 1, s) :: r) ρ H wr K t =
    bnd (some (ρ s).isUndef) fun b => branch b (wfz c r ρ H wr K ⟨⟩) (bnd (frzCells H (k + 1) (ρ s)) fun x => wfz c r ρ x.1 (addWr c.base wr x.2) K ⟨⟩) ⟨⟩ := by
  unfold wfz
  conv => lhs; unfold wpFrz
  cases hu : (ρ s).isUndef with
  | true => simp [bnd, branch, bindP]
  | false =>
    simp only [bnd, branch, bindP, Bool.false_eq_true, if_false]
    unfold frzCells
    cases readCells H (k + 1) (ρ s) with
    | none => rfl
    | some cs =>
      dsimp only
      cases fix H (.agg cs) with
      | none => rfl
      | some x =>
        obtain ⟨v, H', l⟩ := x
        cases v <;> try rfl
        rename_i cs'
        dsimp only
        cases storeCells H' cs' (ρ s) <;> rfl
end
@[go_sem] theorem at_tmp {ρ : SEnv} {t : Nat} : (AOpd.tmp t).at ρ = ρ t := (rfl)
@[go_sem] theorem at_const {ρ : SEnv} {v : AV} : (AOpd.const v).at ρ = v := (rfl)
@[go_sem] theorem upd_same {ρ : SEnv} {d : Nat} {v : AV} : upd ρ d v d = v := by unfold upd; rw [if_pos rfl]
theorem upd_other {ρ : SEnv} {d t : Nat} {v : AV} (h : t ≠ d) : upd ρ d v t = ρ t := by unfold upd; rw [if_neg h]
@[go_sem] theorem upd_other' {ρ : SEnv} {d t : Nat} {v : AV} (h : (t == d) = false) : upd ρ d v t = ρ t := upd_other (by simpa using h)
@[go_sem] theorem updO_some {ρ : SEnv} {d : Nat} {v : AV} : updO ρ (some d) v = upd ρ d v := (rfl)
@[go_sem] theorem updO_none {ρ : SEnv} {v : AV} : updO ρ none v = ρ := (rfl)
end Go.Proofs.AM
end
