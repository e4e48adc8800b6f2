/- Part 11 of the proof that stands in the last text of this folder (lemmas; no statement of its own). -/
import Derived.Test.YtglokbbcckpaaaaGreatDoorK10
set_option linter.unusedVariables false
set_option linter.unusedSimpArgs false
open Bool renaming not_true -> BT
section
namespace Go.AM
open Go
section
variable {A : AProg} {n : Nat} {c : Ctx} {s : ASt}
theorem acgZ {x : ACode} : aaNZ A 0 c x s = none := rfl
theorem ahcZ : aaNZ A (n + 1) c .skip s = some (.normal, s) := rfl
theorem agLZ : aaNZ A (n + 1) c .bad s = none := rfl
theorem acyZ {d : Bool} {ops : List AOper} : aaNZ A (n + 1) c (.region d ops) s = match actZ (aaXZ A n) c d ops s with | some s' => some (.normal, s') | none => none := rfl
theorem aclZ {x y : ACode} : aaNZ A (n + 1) c (.seq x y) s = match aaNZ A n c x s with | some (.normal, s') => aaNZ A n c y s' | r => r := rfl
theorem aczZ {t : AOpd} {x y : ACode} : aaNZ A (n + 1) c (.cond t x y) s = match t.ev s.ρ with | .bool true => aaNZ A n c x s | .bool false => aaNZ A n c y s | _ => none := rfl
theorem ablZ {id : Nat} {x : ACode} : aaNZ A (n + 1) c (.block id x) s = match aaNZ A n c x s with
  | some (.exit id', s') => if id' = id then some (.normal, s') else some (.exit id', s')
  | r => r := rfl
theorem abDZ {x : ACode} : aaNZ A (n + 1) c (.loop x) s = match aaNZ A n c x s with | some (.normal, s') => aaNZ A n c (.loop x) s' | r => r := rfl
theorem ajkZ {id : Nat} : aaNZ A (n + 1) c (.exit id) s = some (.exit id, s) := rfl
theorem akCZ : aaNZ A (n + 1) c .ret s = some (.ret, s) := rfl
theorem agMZ {ts : List (Nat × Nat)} : aaNZ A (n + 1) c (.frz ts) s = match afhZ c s ts with | some s' => some (.normal, s') | none => none := rfl
theorem ahTZ {f : Nat} {args : List AV} {H : List AObj} {r : AV × List AObj × List Nat} (h : aaXZ A n f args H = some r) :
  (∃ p v, A.prim f = some p /\ p args H = some v /\ r = abxZ H v) ∨
  (∃ fn s' e r', A.fn f = some fn /\ aaNZ A n ⟨H.length, fn.sites⟩ fn.body (aejZ fn args H) = some (e, s') /\ (e = .normal ∨ e = .ret) /\ ahvZ H.length fn s' = some r' /\ r = aaVZ H.length r' /\ args.length <= fn.ntmps) := by
 unfold aaXZ at h
 split at h
 ·rename_i v hv
  cases h
  cases hp : A.prim f with
  | none => rw [hp] at hv; cases hv
  | some p => rw [hp] at hv; exact .inl ⟨p, v, rfl, hv, rfl⟩
 ·split at h
  ·cases h
  ·rename_i fn hf
   split at h
   rotate_left
   ·cases h
   rename_i hN
   split at h
   ·rename_i s' he
    split at h
    ·rename_i r' hr
     cases h
     exact .inr ⟨fn, s', _, r', hf, he, .inl rfl, hr, rfl, hN⟩
    ·cases h
   ·rename_i s' he
    split at h
    ·rename_i r' hr
     cases h
     exact .inr ⟨fn, s', _, r', hf, he, .inr rfl, hr, rfl, hN⟩
    ·cases h
   ·cases h
theorem aytZ {base : Nat} {H H' : List AObj} {v v' : AV} {l : List Nat} (h : finV base H v = some (v', H', l)) : Fr H H' l := by
 unfold finV at h
 split at h
 ·split at h
  ·split at h
   ·cases h; exact akAZ _ _
   ·cases h
  ·cases h
 ·split at h
  ·split at h
   ·cases h; exact Fr.set _ _ _
   ·cases h; exact .refl _ _
  ·cases h; exact .refl _ _
 ·exact amtZ h
theorem asmZ : ∀ {vs vs' : List AV} {H H' : List AObj} {l : List Nat}, aktZ H vs = some (vs', H', l) -> Fr H H' l
 | [], vs', H, H', l, h => by simp only [aktZ, Option.some.injEq, Prod.mk.injEq] at h; obtain ⟨_, rfl, rfl⟩ := h; exact .refl _ _
 | v :: vs, vs', H, H', l, h => by
  unfold aktZ at h
  split at h
  ·cases h
  ·rename_i hf
   split at h
   ·cases h
   ·rename_i hr
    cases h
    exact (amtZ hf).trans (asmZ hr)
theorem alfZ {base : Nat} {fn : AFn} {s : ASt} {r : AV × List AObj × List Nat} (h : ahvZ base fn s = some r) :
  ∃ vs, aoMZ s.H s.ρ fn.results = some vs /\
   ((∃ v v' H' l, vs = [v] /\ finV base s.H v = some (v', H', l) /\ r = (v', H', aaCZ base s.wr l)) ∨
    (∃ vs' H' l, vs.length ≠ 1 /\ aktZ s.H vs = some (vs', H', l) /\ r = (.tup vs', H', aaCZ base s.wr l))) := by
 unfold ahvZ at h
 split at h
 ·cases h
 ·rename_i v hv
  split at h
  ·rename_i v' H' l hf
   cases h
   exact ⟨[v], hv, .inl ⟨v, v', H', l, rfl, hf, rfl⟩⟩
  ·cases h
 ·rename_i vs hne hv
  split at h
  ·rename_i vs' H' l hf
   cases h
   refine ⟨vs, hv, .inr ⟨vs', H', l, fun e => ?_, hf, rfl⟩⟩
   obtain ⟨x, rfl⟩ := List.length_eq_one_iff.1 e
   exact hne x rfl
  ·cases h
theorem auJZ {base : Nat} {fn : AFn} {s : ASt} {r : AV × List AObj × List Nat} (h : ahvZ base fn s = some r) : FrB base s ⟨s.ρ, r.2.1, r.2.2⟩ := by
 obtain ⟨vs, _,⟨v, v', H', l, rfl, hf, rfl⟩ | ⟨vs', H', l, _, hf, rfl⟩⟩ := alfZ h
 ·exact FrB.of (aytZ hf)
 ·exact FrB.of (asmZ hf)
theorem aqcZ : ∀ (l : List (Nat × AObj)) (H : List AObj), Fr H (adSZ H l) (l.map Prod.fst)
 | [], H => .refl _ _
 | (o, x) :: r, H => (Fr.set H o x).trans (aqcZ r (H.set o x))
theorem Fr.more {H H' : List AObj} {wr : List Nat} (h : Fr H H' wr) (l : List AObj) : Fr H (H' ++ l) wr := ⟨by have := h.1; simp; omega, fun o ho hn => by rw [List.getElem?_append_left (by have := h.1; omega)]; exact h.2 o ho hn⟩
theorem algZ (hcode : ∀ (c : Ctx) (x : ACode) (s : ASt) e s', aaNZ A n c x s = some (e, s') -> FrB c.base s s') : agJZ (aaXZ A n) := by
 intro f args H v H' wr h
 rcases ahTZ h with ⟨p, v1, _, _, hr⟩ | ⟨fn, s', e, r', _, he, _, hf, hr, _⟩
 ·cases hr; exact (aqcZ _ _).more _
 ·have h1 := hcode _ _ _ _ _ he
  have h2 := h1.trans (auJZ hf)
  obtain ⟨v1, H1, wr1⟩ := r'
  have h3 : Fr H H1 wr1 := by
   refine ⟨?_, fun o ho hn => ?_⟩
   ·have := h2.1
    simp only [aejZ, List.length_append] at this
    omega
   ·have := h2.2.2 o (by simp only [aejZ, List.length_append]; omega) ho hn
    rw [this]
    simp only [aejZ]
    rw [List.getElem?_append_left ho]
  simp only [aaVZ] at hr
  split at hr
  ·cases hr
   refine ⟨by have := h3.1; simp; omega, fun o ho hn => ?_⟩
   rw [<- h3.2 o ho hn]
   simp [ho]
  ·cases hr; exact h3
theorem abTZ : ∀ (n : Nat) (c : Ctx) (x : ACode) (s : ASt) e s', aaNZ A n c x s = some (e, s') -> FrB c.base s s'
 | 0, c, x, s, e, s', h => by rw [acgZ] at h; cases h
 | n + 1, c, x, s, e, s', h => by
  have hcall : agJZ (aaXZ A n) := algZ (abTZ n)
  cases x with
  | skip => rw [ahcZ] at h; cases h; exact .refl _ _
  | bad => rw [agLZ] at h; cases h
  | region d ops =>
   rw [acyZ] at h
   split at h
   ·rename_i s1 hr; cases h; exact arqZ hcall hr
   ·cases h
  | seq a b =>
   rw [aclZ] at h
   split at h
   ·rename_i s1 hr; exact (abTZ n _ _ _ _ _ hr).trans (abTZ n _ _ _ _ _ h)
   ·exact abTZ n _ _ _ _ _ h
  | cond t a b =>
   rw [aczZ] at h
   split at h
   ·exact abTZ n _ _ _ _ _ h
   ·exact abTZ n _ _ _ _ _ h
   ·cases h
  | block id b =>
   rw [ablZ] at h
   split at h
   ·rename_i hr
    split at h <;> (cases h; exact abTZ n _ _ _ _ _ hr)
   ·exact abTZ n _ _ _ _ _ h
  | loop b =>
   rw [abDZ] at h
   split at h
   ·rename_i s1 hr; exact (abTZ n _ _ _ _ _ hr).trans (abTZ n _ _ _ _ _ h)
   ·exact abTZ n _ _ _ _ _ h
  | exit id => rw [ajkZ] at h; cases h; exact .refl _ _
  | ret => rw [akCZ] at h; cases h; exact .refl _ _
  | frz ts =>
   rw [agMZ] at h
   split at h
   ·rename_i s1 hr; cases h; exact aiDZ _ _ _ hr
   ·cases h
theorem aqdZ (n : Nat) : agJZ (aaXZ A n) := algZ (abTZ n)
end
end Go.AM
end
section
namespace Go.AM
open Go
abbrev SEnv := Nat -> AV
def upd (ρ : SEnv) (d : Nat) (v : AV) : SEnv := fun t => if t = d then v else ρ t
def updO (ρ : SEnv) : Option Nat -> AV -> SEnv
 | some d, v => upd ρ d v
 | none, _ => ρ
def fenv (l : List AV) : SEnv := fun t => (l[t]?).getD .undef
def AOpd.at (ρ : SEnv) : AOpd -> AV
 | .tmp t => ρ t
 | .const v => v
theorem AOpd.ev_eq (l : List AV) (x : AOpd) : x.ev l = x.at (fenv l) := by cases x <;> rfl
theorem AOpd.ev_fun (l : List AV) : AOpd.ev l = AOpd.at (fenv l) := funext fun x => x.ev_eq l
def acAZ (ρ : SEnv) (cells : List AV) : List (Nat × Nat × AOpd) -> Option (List AV)
 | [] => some cells
 | (off, size, x) :: r =>
  let vs := (x.at ρ).cells
  if vs.length = size /\ off + size <= cells.length /\ vs.all AV.cellOk then acAZ ρ (adjZ cells off vs) r else none
def acSZ (ρ : SEnv) (k : Nat) (rows : List (List AV)) : List (Nat × AOpd) -> Option (List (List AV))
 | [] => some rows
 | (i, x) :: r =>
  let vs := (x.at ρ).strip.cells
  if vs.length = k /\ i < rows.length /\ vs.all AV.still then acSZ ρ k (rows.set i vs) r else none
def achZ (ρ : SEnv) (k : Nat) (rows : List (List AV)) : List (Nat × AOpd) -> Option (List (List AV))
 | [] => some rows
 | (i, x) :: r =>
  let vs := (x.at ρ).strip.cells
  if vs.length = k /\ i < rows.length /\ vs.all AV.cellOk then achZ ρ k (rows.set i vs) r else none
def evRF (H : List AObj) (ρ : SEnv) : AOp -> Option AV
 | .mov x => some (x.at ρ)
 | .pick c a b => match c.at ρ with
  | .bool t => some (if t then a.at ρ else b.at ρ)
  | _ => none
 | .alloc zs => if zs.all AV.still then some (.ep (zs.map AV.strip1) 0) else none
 | .box k x =>
  let vs := (x.at ρ).strip.cells
  if vs.length = k /\ vs.all AV.still then some (.ep vs 0) else none
 | .build zs parts => (acAZ ρ zs parts).map .agg
 | .bsl k zs n parts => (acSZ ρ k (List.replicate n zs) parts).map (.sl true)
 | .mks _ bytes zs len cap => match len.at ρ, cap.at ρ with
  | .int _ n, .int _ c => if 0 <= n /\ n = c /\ abNZ n.toNat bytes then some (.sl true (List.replicate n.toNat (zs.map AV.strip1))) else none
  | _, _ => none
 | .load k agg x => match aamZ H k (x.at ρ) with
  | some cs => abnZ agg cs
  | none => none
 | .nilck x => match x.at ρ with
  | .ptr o v off => some (.ptr o v off)
  | .vp o v n k i off => some (.vp o v n k i off)
  | .ep row off => some (.ep row off)
  | .fn f a b => some (.fn f a b)
  | _ => none
 | .isnil neg x => match x.at ρ with
  | .sl _ (_ :: _) | .sr .. => some (.bool neg)
  | .nilSl => some (.bool !neg)
  | _ => none
 | .bin op ek x y => binV op ek (x.at ρ) (y.at ρ)
 | .un op x => unV op (x.at ρ)
 | .conv c x => agRZ H c (x.at ρ)
 | .mkf f first caps => if (first.map (AOpd.at ρ)).all AV.still && (caps.map (AOpd.at ρ)).all AV.still then some (.fn f (first.map fun x => (x.at ρ).strip1) (caps.map fun x => (x.at ρ).strip1)) else none
 | .sliceS x lo hi => match x.at ρ with
  | .str s => match acdZ s.length (lo.map (AOpd.at ρ)) (hi.map (AOpd.at ρ)) none with
   | some (l, h, _) => some (.str ((s.take h).drop l))
   | none => none
  | _ => none
 | .sliceV k x lo hi mx => match x.at ρ with
  | .sl full rows => match acdZ rows.length (lo.map (AOpd.at ρ)) (hi.map (AOpd.at ρ)) (mx.map (AOpd.at ρ)) with
   | some (l, h, m) => if abkZ k rows && (!mx.isSome || hi.isSome) then some (.sl (decide (m = h) && (mx.isSome || full)) ((rows.take h).drop l)) else none
   | none => none
  | _ => none
 | .view k x lo => match x.at ρ with
  | .sl full rows => match acdZ rows.length (lo.map (AOpd.at ρ)) none none with
   | some (l, h, m) => if abkZ k rows then some (.sl (decide (m = h) && full) ((rows.take h).drop l)) else none
   | none => none
  | .sr o v n => match H[o]? with
   | some (.vec v' _ rows) => if v' = v /\ rows.length = n then match adPZ 0 n (lo.map (AOpd.at ρ)) with
     | some l => some (.srv o v n k l)
     | none => none
    else none
   | _ => none
  | _ => none
 | .sliceA n k x lo hi mx => match x.at ρ with
  | .ep row off => if off + n * k <= row.length then
    let rows := amdZ k n (row.drop off)
    match acdZ n (lo.map (AOpd.at ρ)) (hi.map (AOpd.at ρ)) (mx.map (AOpd.at ρ)) with
    | some (l, h, m) => if !mx.isSome || hi.isSome then some (.sl (decide (m = h)) ((rows.take h).drop l)) else none
    | none => none
   else none
  | _ => none
 | .fa off x => match x.at ρ with
  | .ptr o v off0 => some (.ptr o v (off0 + off))
  | .vp o v n k i off0 => some (.vp o v n k i (off0 + off))
  | .ep row off0 => some (.ep row (off0 + off))
  | _ => none
 | .fld off k agg x => match x.at ρ with
  | .agg cs => if off + k <= cs.length then abnZ agg ((cs.drop off).take k) else none
  | _ => none
 | .iaV x i k => match x.at ρ, i.at ρ with
  | .sl _ rows, .int _ n => if 0 <= n then match rows[n.toNat]? with
    | some row => if row.length = k then some (.ep row 0) else none
    | none => none
   else none
  | .sr o v len, .int _ n => if 0 <= n /\ n < len then some (.vp o v len k n.toNat 0) else none
  | _, _ => none
 | .iaA len k x i => match x.at ρ, i.at ρ with
  | .ptr o v off, .int _ n => if 0 <= n /\ n < len then some (.ptr o v (off + n.toNat * k)) else none
  | .ep row off, .int _ n => if 0 <= n /\ n < len then some (.ep row (off + n.toNat * k)) else none
  | _, _ => none
 | .ixS x i => match x.at ρ, i.at ρ with
  | .str s, .int _ n => if 0 <= n then match s[n.toNat]? with
    | some b => some (.int .u8 b.toNat)
    | none => none
   else none
  | _, _ => none
 | .ixA len k agg x i => match x.at ρ, i.at ρ with
  | .agg cs, .int _ n => if 0 <= n /\ n < len /\ n.toNat * k + k <= cs.length then abnZ agg ((cs.drop (n.toNat * k)).take k) else none
  | _, _ => none
 | .lenS x => match x.at ρ with
  | .str s => some (.int .i64 s.length)
  | _ => none
 | .lenV x => match x.at ρ with
  | .sl _ rows => some (.int .i64 rows.length)
  | .sr _ _ n => some (.int .i64 n)
  | .nilSl => some (.int .i64 0)
  | _ => none
 | .lenC n => some (.int .i64 n)
 | .mm mx xs => mmV mx (xs.map (AOpd.at ρ))
 | .ext i x => match x.at ρ with
  | .tup vs => vs[i]?
  | _ => none
 | .mkifc t x => if (x.at ρ).inIfc then some (.ifc t (x.at ρ)) else none
 | .look zero m k ok => match m.at ρ with
  | .mp o v => match H[o]? with
   | some (.map v' es) => if v' = v then
     match aeuZ (k.at ρ) es 0 with
     | some (some (_, x)) => if ok then some (.tup [x, .bool true]) else some x
     | some none => if ok then some (.tup [zero, .bool false]) else some zero
     | none => none
    else none
   | _ => none
  | .fmp ks vs => match aeuZ (k.at ρ) (ks.zip vs) 0 with
   | some (some (_, x)) => if ok then some (.tup [x, .bool true]) else some x
   | some none => if ok then some (.tup [zero, .bool false]) else some zero
   | none => none
  | _ => none
 | _ => none
def afcZ (ρ : SEnv) : AOp -> List Nat
 | .load _ _ x => match x.at ρ with
  | .ptr o _ _ => [o]
  | .vp o _ _ _ _ _ => [o]
  | _ => []
 | .conv .b2s x => match x.at ρ with
  | .sr o _ _ => [o]
  | _ => []
 | .look _ m _ _ => match m.at ρ with
  | .mp o _ => [o]
  | _ => []
 | .view _ x _ => match x.at ρ with
  | .sr o _ _ => [o]
  | _ => []
 | _ => []
def aefZ (ρ : SEnv) (k : Nat) (H : List AObj) (rows : List (List AV)) : List (Nat × AOpd) -> Option (List (List AV) × List AObj × List Nat)
 | [] => some (rows, H, [])
 | (i, x) :: r =>
  match fix H (x.at ρ) with
  | some (v, H', l) =>
   if v.cells.length = k /\ i < rows.length /\ v.cells.all AV.still then
    match aefZ ρ k H' (rows.set i v.cells) r with
    | some (rows', H'', l') => some (rows', H'', l ++ l')
    | none => none
   else none
  | none => none
def evWF (call : Nat -> List AV -> List AObj -> Out) (H : List AObj) (ρ : SEnv) (site : Option Nat) : AOp -> Out
 | .alloc zs => match site with
  | some id => if id < H.length then some (.ptr id (aaDZ H id) 0, make H id (.box · zs), [id]) else none
  | none => none
 | .talloc ty zs => match site with
  | some id => if id < H.length then some (.ptr id (aaDZ H id) 0, make H id (.tbox · ty zs), [id]) else none
  | none => none
 | .box k x => match site with
  | some id => if id < H.length /\ (x.at ρ).cells.length = k /\ (x.at ρ).cells.all AV.cellOk then some (.ptr id (aaDZ H id) 0, make H id (.box · (x.at ρ).cells), [id]) else none
  | none => none
 | .tbx ty k x => match site with
  | some id => if id < H.length /\ (x.at ρ).cells.length = k /\ (x.at ρ).cells.all AV.cellOk then some (.ptr id (aaDZ H id) 0, make H id (.tbox · ty (x.at ρ).cells), [id]) else none
  | none => none
 | .store k x v => if (v.at ρ).cells.length = k /\ (v.at ρ).cells.all AV.cellOk then
   match storeCells H (v.at ρ).cells (x.at ρ) with
   | some (H', wr) => some (.undef, H', wr)
   | none => none
  else none
 | .bsl k zs n parts => match site with
  | some id => match achZ ρ k (List.replicate n zs) parts with
   | some rows => if id < H.length then some (.sr id (aaDZ H id) n, make H id (.vec · k rows), [id]) else none
   | none => none
  | none => match aefZ ρ k H (List.replicate n zs) parts with
   | some (rows, H', wr) => some (.sl true rows, H', wr)
   | none => none
 | .mks k bytes zs len cap => match len.at ρ, cap.at ρ with
  | .int _ n, .int _ c =>
   if 0 <= n /\ n = c /\ abNZ n.toNat bytes then
    match site with
    | some id => if id < H.length then some (.sr id (aaDZ H id) n.toNat, make H id (.vec · k (List.replicate n.toNat (zs.map AV.strip1))), [id]) else none
    | none => some (.sl true (List.replicate n.toNat (zs.map AV.strip1)), H, [])
   else match site with
    | some id => if n = 0 /\ 0 < c /\ abNZ c.toNat bytes /\ id < H.length then some (.sr id (aaDZ H id) 0, make H id (.vec · k []), [id]) else none
    | none => none
  | _, _ => none
 | .app k bytes s x => ahEZ H site k bytes (s.at ρ) (x.at ρ)
 | .tapp ty k bytes s x => anRZ H site ty k bytes (s.at ρ) (x.at ρ)
 | .callv f args => abrZ call H site (f.at ρ) (args.map (AOpd.at ρ))
 | .invk tab x args => match x.at ρ with
  | .ifc t v => match tab.lookup t with
   | some f => abrZ call H site (.fn f [v] []) (args.map (AOpd.at ρ))
   | none => none
  | _ => none
 | .cpy k x y => match x.at ρ with
  | .srv o v n k' lo => match H[o]? with
   | some (.vec v' k2 rows) => match adkZ H (y.at ρ) with
    | some new => if new.isEmpty then some (.int .i64 0, H, []) else if v' = v /\ rows.length = n /\ k2 = k /\ k' = k /\ abkZ k new /\ lo + new.length <= n then
      some (.int .i64 (new.length : Nat), H.set o (.vec v k (rows.take lo ++ new ++ rows.drop (lo + new.length))), [o])
     else none
    | none => none
   | _ => none
  | _ => none
 | .mkmap => match site with
  | some id => if id < H.length then some (.mp id (aaDZ H id), make H id (.map · []), [id]) else none
  | none => none
 | .ins m k v => match m.at ρ, k.at ρ with
  | .mp o ver, key => match H[o]? with
   | some (.map v' es) =>
    if v' = ver /\ (arlZ key key).isSome /\ (v.at ρ).strip.cells.all AV.still then
     match aeuZ key es 0 with
     | some (some (i, _)) => some (.undef, H.set o (.map ver (es.set i (key, (v.at ρ).strip))), [o])
     | some none => some (.undef, H.set o (.map ver (es ++ [(key, (v.at ρ).strip)])), [o])
     | none => none
    else none
   | _ => none
  | _, _ => none
 | _ => none
theorem ajPZ (l : List AV) : ∀ (ps : List (Nat × Nat × AOpd)) (cells : List AV), ackZ l cells ps = acAZ (fenv l) cells ps
 | [], _ => rfl
 | (off, size, x) :: r, cells => by
  unfold ackZ acAZ
  simp only [AOpd.ev_eq, ajPZ l r]
theorem alhZ (l : List AV) (k : Nat) : ∀ (ps : List (Nat × AOpd)) (rows : List (List AV)), adQZ l k rows ps = acSZ (fenv l) k rows ps
 | [], _ => rfl
 | (i, x) :: r, rows => by
  unfold adQZ acSZ
  simp only [AOpd.ev_eq, alhZ l k r]
theorem ajQZ (l : List AV) (k : Nat) : ∀ (ps : List (Nat × AOpd)) (rows : List (List AV)), acRZ l k rows ps = achZ (fenv l) k rows ps
 | [], _ => rfl
 | (i, x) :: r, rows => by
  unfold acRZ achZ
  simp only [AOpd.ev_eq, ajQZ l k r]
theorem aofZ (l : List AV) (k : Nat) : ∀ (ps : List (Nat × AOpd)) (H : List AObj) (rows : List (List AV)), aeCZ l k H rows ps = aefZ (fenv l) k H rows ps
 | [], _, _ => rfl
 | (i, x) :: r, H, rows => by
  unfold aeCZ aefZ
  simp only [AOpd.ev_eq, aofZ l k r]
  rfl
theorem axMZ (H : List AObj) (l : List AV) (o : AOp) : evR H l o = evRF H (fenv l) o := by
 cases o <;> simp only [evR, evRF, AOpd.ev_eq, AOpd.ev_fun, ajPZ, alhZ] <;> rfl
theorem ayuZ (l : List AV) (o : AOp) : rdOf l o = afcZ (fenv l) o := by
 cases o with
 | conv c x => cases c <;> simp only [rdOf, afcZ, AOpd.ev_eq] <;> rfl
 | _ => first | rfl | (simp only [rdOf, afcZ, AOpd.ev_eq]; done) | (simp only [rdOf, afcZ, AOpd.ev_eq]; rfl)
theorem axNZ (call : Nat -> List AV -> List AObj -> Out) (H : List AObj) (l : List AV) (site : Option Nat) (o : AOp) : evW call H l site o = evWF call H (fenv l) site o := by
 cases o <;> simp only [evW, evWF, AOpd.ev_eq, AOpd.ev_fun, ajQZ, aofZ] <;> rfl
end Go.AM
end
section
namespace Go.AM
open Go
def auKZ (c1 c2 : Nat -> List AV -> List AObj -> Out) : Prop := ∀ f args H r, c1 f args H = some r -> c2 f args H = some r
section
variable {c1 c2 : Nat -> List AV -> List AObj -> Out} (hle : auKZ c1 c2)
include hle
theorem aliZ {H : List AObj} {site : Option Nat} {f : AV} {args : List AV} {r} (h : abrZ c1 H site f args = some r) : abrZ c2 H site f args = some r := by
 unfold abrZ at h ⊢
 split at h
 ·split at h
  ·cases h
  ·split at h
   ·cases h
   ·rename_i hc
    rw [hle _ _ _ _ hc]
    exact h
 ·cases h
theorem asnZ {H : List AObj} {ρ : List AV} {site : Option Nat} {o : AOp} {r} (h : evW c1 H ρ site o = some r) : evW c2 H ρ site o = some r := by
 cases o <;> first | exact h | skip
 ·exact aliZ hle h
 ·rename_i tab x args
  simp only [evW] at h ⊢
  generalize AOpd.ev ρ x = y at h ⊢
  cases y with
  | ifc t v =>
   dsimp only at h ⊢
   generalize tab.lookup t = z at h ⊢
   cases z with
   | none => cases h
   | some f => exact aliZ hle h
  | _ => cases h
theorem aqeZ {c : Ctx} {d : Bool} {H : List AObj} {ρ : List AV} {o : AOper} {r} (h : evOp c1 c d H ρ o = some r) : evOp c2 c d H ρ o = some r := by
 unfold evOp at h ⊢
 split at h
 ·rename_i hw; rw [if_pos hw]; exact asnZ hle h
 ·rename_i hw; rw [if_neg hw]; exact h
theorem aiEZ {c : Ctx} : ∀ {ops : List AOper} {s s' : ASt}, adRZ c1 c ops s = some s' -> adRZ c2 c ops s = some s'
 | [], _, _, h => h
 | o :: r, s, s', h => by
  unfold adRZ at h ⊢
  split at h
  ·rename_i hg
   rw [if_pos hg]
   split at h
   ·rename_i hw
    rw [if_pos hw]
    split at h
    ·rename_i he
     rw [aqeZ hle he]
     exact aiEZ h
    ·cases h
   ·rename_i hw
    rw [if_neg hw]
    exact aiEZ h
  ·cases h
theorem aogZ {c : Ctx} {H : List AObj} {ρ : List AV} {o : AOper} {r} (h : amfZ c1 c H ρ o = some r) : amfZ c2 c H ρ o = some r := by
 unfold amfZ at h ⊢
 split at h
 ·exact h
 ·split at h
  ·rename_i hw
   rw [if_pos hw]
   split at h
   ·rename_i he
    rw [asnZ hle he]
    exact h
   ·cases h
  ·rename_i hw
   rw [if_neg hw]
   exact h
theorem ahdZ {c : Ctx} : ∀ {i : Nat} {ops : List AOper} {s : ASt} {r}, aeAZ c1 c i ops s = some r -> aeAZ c2 c i ops s = some r
 | _, [], _, _, h => h
 | i, o :: r, s, s', h => by
  unfold aeAZ at h ⊢
  split at h
  ·rename_i hg
   rw [if_pos hg]
   split at h
   ·rename_i hw
    rw [if_pos hw]
    split at h
    ·rename_i he
     rw [aogZ hle he]
     dsimp only
     split at h
     ·rename_i hr
      rw [ahdZ hr]
      exact h
     ·cases h
    ·cases h
   ·rename_i hw
    rw [if_neg hw]
    exact ahdZ h
  ·cases h
theorem aoVZ {c : Ctx} {d : Bool} {ops : List AOper} {s s' : ASt} (h : actZ c1 c d ops s = some s') : actZ c2 c d ops s = some s' := by
 unfold actZ at h ⊢
 split at h
 ·rename_i hd
  rw [if_pos hd]
  split at h
  ·rename_i hp
   split at h
   ·rename_i hr
    rw [ahdZ hle hr]
    exact h
   ·cases h
  ·cases h
 ·rename_i hd
  rw [if_neg hd]
  split at h
  ·cases h
  ·rename_i hd2
   rw [if_neg hd2]
   exact aiEZ hle h
end
section
variable {A : AProg}
theorem aeQZ {n f : Nat} {args : List AV} {H : List AObj} {fn : AFn} {s' : ASt} {e : AExit} {r} (hp : (A.prim f).bind (· args H) = none) (hf : A.fn f = some fn)
  (hc : aaNZ A n ⟨H.length, fn.sites⟩ fn.body (aejZ fn args H) = some (e, s')) (he : e = .normal ∨ e = .ret) (hr : ahvZ H.length fn s' = some r) (hN : args.length <= fn.ntmps) :
  aaXZ A n f args H = some (aaVZ H.length r) := by
 unfold aaXZ
 rw [hp, hf]
 dsimp only
 rw [if_pos hN, hc]
 rcases he with rfl | rfl <;> (dsimp only; rw [hr])
theorem aiXZ {n m : Nat} (hcode : ∀ c x s r, aaNZ A n c x s = some r -> aaNZ A m c x s = some r) : auKZ (aaXZ A n) (aaXZ A m) := by
 intro f args H r h
 unfold aaXZ at h
 split at h
 ·rename_i v hv
  cases h
  unfold aaXZ
  rw [hv]
 ·rename_i hv
  split at h
  ·cases h
  ·rename_i fn hf
   split at h
   rotate_left
   ·cases h
   rename_i hN
   split at h
   ·rename_i s' he
    split at h
    ·rename_i r' hr
     cases h
     exact aeQZ hv hf (hcode _ _ _ _ he) (.inl rfl) hr hN
    ·cases h
   ·rename_i s' he
    split at h
    ·rename_i r' hr
     cases h
     exact aeQZ hv hf (hcode _ _ _ _ he) (.inr rfl) hr hN
    ·cases h
   ·cases h
theorem abEZ : ∀ {n m : Nat}, n <= m -> ∀ (c : Ctx) (x : ACode) (s : ASt) r, aaNZ A n c x s = some r -> aaNZ A m c x s = some r
 | 0, _, _, c, x, s, r, h => by rw [acgZ] at h; cases h
 | n + 1, 0, hn, _, _, _, _, _ => by omega
 | n + 1, m + 1, hn, c, x, s, r, h => by
  have ih := abEZ (n := n) (m := m) (by omega)
  cases x with
  | skip => exact h
  | bad => exact h
  | region d ops =>
   rw [acyZ] at h ⊢
   split at h
   ·rename_i hr
    rw [aoVZ (aiXZ ih) hr]
    exact h
   ·cases h
  | seq a b =>
   rw [aclZ] at h ⊢
   split at h
   ·rename_i hr; rw [ih _ _ _ _ hr]; exact ih _ _ _ _ h
   ·rename_i hne
    rw [ih _ _ _ _ h]
    split
    ·rename_i heq
     exact (hne _ (h.trans heq)).elim
    ·rfl
  | cond t a b =>
   rw [aczZ] at h ⊢
   split at h
   ·exact ih _ _ _ _ h
   ·exact ih _ _ _ _ h
   ·cases h
  | block id b =>
   rw [ablZ] at h ⊢
   split at h
   ·rename_i hr; rw [ih _ _ _ _ hr]; exact h
   ·rename_i hne
    rw [ih _ _ _ _ h]
    split
    ·rename_i heq
     exact (hne _ _ (h.trans heq)).elim
    ·rfl
  | loop b =>
   rw [abDZ] at h ⊢
   split at h
   ·rename_i hr; rw [ih _ _ _ _ hr]; exact ih _ _ _ _ h
   ·rename_i hne
    rw [ih _ _ _ _ h]
    split
    ·rename_i heq
     exact (hne _ (h.trans heq)).elim
    ·rfl
  | exit id => exact h
  | ret => exact h
  | frz ts => exact h
theorem aeEZ {n m : Nat} (h : n <= m) : auKZ (aaXZ A n) (aaXZ A m) := aiXZ (abEZ h)
noncomputable def aapZ (A : AProg) (f : Nat) (args : List AV) (H : List AObj) : Out :=
 open Classical in if h : ∃ n r, aaXZ A n f args H = some r then some h.choose_spec.choose else none
theorem ajRZ {n f : Nat} {args : List AV} {H : List AObj} {r} (h : aaXZ A n f args H = some r) : aapZ A f args H = some r := by
 have hex : ∃ n r, aaXZ A n f args H = some r := ⟨n, r, h⟩
 unfold aapZ
 rw [dif_pos hex]
 have h2 := hex.choose_spec.choose_spec
 rcases Nat.le_total n hex.choose with hn | hn
 ·exact h2.symm.trans (aeEZ hn _ _ _ _ h)
 ·have h3 := aeEZ hn _ _ _ _ h2
  exact h3.symm.trans h
theorem aoWZ {f : Nat} {args : List AV} {H : List AObj} {r} (h : aapZ A f args H = some r) : ∃ n, aaXZ A n f args H = some r := by
 unfold aapZ at h
 split at h
 ·rename_i hex
  cases h
  exact ⟨_, hex.choose_spec.choose_spec⟩
 ·cases h
end
end Go.AM
end
section
namespace Go.AM
open Go
theorem aoXZ {l : List AV} {d : Nat} {v : AV} (h : d < l.length) : fenv (l.set d v) = upd (fenv l) d v := by
 funext t
 unfold fenv upd
 by_cases e : t = d
 ·subst e; simp [h]
 ·rw [if_neg e, List.getElem?_set_ne (Ne.symm e)]
def adKZ (ρ : SEnv) : Option (Option Nat × Bool) -> Option Bool
 | none => some true
 | some (none, _) => none
 | some (some t, want) => match ρ t with
  | .bool b => some (b == want)
  | .tup [] => some false
  | _ => none
theorem aqfZ (l : List AV) (o : AOper) : adKZ (fenv l) o.guard = if afaZ l o then some (wanted l o) else none := by
 unfold adKZ afaZ wanted fenv
 cases hg : o.guard with
 | none => simp
 | some p =>
  obtain ⟨t, want⟩ := p
  cases t with
  | none => simp
  | some t =>
   simp only
   cases ht : l[t]? with
   | none => simp
   | some v => cases v with
    | tup vs => cases vs <;> simp
    | _ => simp
def adAZ (call : Nat -> List AV -> List AObj -> Out) (site : Option Nat) (inDraw : Bool) (ρ : SEnv) (H : List AObj) (op : AOp) : Out :=
 if isW site inDraw op then evWF call H ρ site op
 else match evRF H ρ op with
  | some v => some (v, H, [])
  | none => none
theorem awBZ (call : Nat -> List AV -> List AObj -> Out) (c : Ctx) (d : Bool) (H : List AObj) (l : List AV) (o : AOper) :
  evOp call c d H l o = adAZ call (c.site o.dst) d (fenv l) H o.op := by
 unfold evOp adAZ
 rw [axNZ, axMZ]
 rfl
def auLZ (N : Nat) (o : AOper) : Bool := match o.dst with
 | some d => decide (d < N)
 | none => true
theorem agbZ {l : List AV} {o : AOper} {v : AV} (h : auLZ l.length o = true) : fenv (putSlot l o.dst v) = updO (fenv l) o.dst v := by
 unfold auLZ at h
 unfold putSlot updO
 cases hd : o.dst with
 | none => rfl
 | some d => rw [hd] at h; simp only [decide_eq_true_eq] at h; exact aoXZ h
section
variable (call : Nat -> List AV -> List AObj -> Out) (c : Ctx)
def aiRZ : List AOper -> SEnv -> List AObj -> List Nat -> (SEnv -> List AObj -> List Nat -> Prop) -> Prop | [], ρ, H, wr, K => K ρ H wr | o :: r, ρ, H, wr, K => match adKZ ρ o.guard with | none => False | some false => aiRZ r (updO ρ o.dst (.tup [])) H wr K | some true => match adAZ call (c.site o.dst) false ρ H o.op with | none => False | some (v, H', w) => aiRZ r (updO ρ o.dst v) H' (aaCZ c.base wr w) K
def aekZ (site : Option Nat) (ρ : SEnv) (H : List AObj) (op : AOp) : Option (AV × List AObj × List Nat × Option (List Nat)) :=
 match op, site with
 | .alloc _, some id => some (.ptr id ((H[id]?).elim 0 AObj.ver) 0, H, [id], none)
 | op, site =>
  if isW site true op then
   match evWF call H ρ site op with
   | some (v, H', wr) => if H'.length = H.length then some (v, H', [], some wr) else none
   | none => none
  else match evRF H ρ op with
   | some v => some (v, H, afcZ ρ op, none)
   | none => none
theorem awCZ (H : List AObj) (l : List AV) (o : AOper) : amfZ call c H l o = aekZ call (c.site o.dst) (fenv l) H o.op := by
 unfold amfZ aekZ
 simp only [ayuZ, axMZ, axNZ]
 rfl
def wpD (keep : List Nat) : Nat -> List AOper -> SEnv -> List AObj -> List Nat -> (SEnv -> List AObj -> List Nat -> Log -> Prop) -> Prop
 | _, [], ρ, H, wr, K => K ρ H wr []
 | i, o :: r, ρ, H, wr, K => match adKZ ρ o.guard with
  | none => False
  | some false => wpD keep (i + 1) r (updO ρ o.dst (.tup [])) H wr K
  | some true => match aekZ call (c.site o.dst) ρ H o.op with
   | none => False
   | some (v, H', rd, w) => wpD keep (i + 1) r (updO ρ o.dst v) H' (aaCZ c.base wr (w.getD []))
    (if keep.contains i then fun ρ H wr log => K ρ H wr ((i, rd, w) :: log) else K)
end
def looks (site : Option Nat) : AOp -> Bool
 | .load .. | .look .. | .conv .. | .view .. => true
 | .alloc _ => site.isSome
 | _ => false
def aiYZ (c : Ctx) (o : AOper) : Bool := match o.op, c.site o.dst with
 | .alloc _, some _ => true
 | _, site => !isW site true o.op
def amAZ (c : Ctx) (keep : List Nat) (o : AOper) (i : Nat) (p : AOper) (j : Nat) : Bool :=
 p.pre.contains i || (keep.contains i && keep.contains j) ||
 (aiYZ c o && aiYZ c p) ||
 (aiYZ c o && !looks (c.site o.dst) o.op) || (aiYZ c p && !looks (c.site p.dst) p.op)
def ajlZ (c : Ctx) (keep : List Nat) : Nat -> List AOper -> Bool
 | _, [] => true
 | i, o :: r => ((r.zipIdx (i + 1)).all fun (p, j) => amAZ c keep o i p j) && ajlZ c keep (i + 1) r
theorem arsZ {ρ : SEnv} {op : AOp} {site : Option Nat} (h : looks site op = false) : afcZ ρ op = [] := by
 cases op <;> first | rfl | (simp [looks] at h)
def Ent (c : Ctx) (e : Nat × List Nat × Option (List Nat)) (o : AOper) : Prop :=
 (aiYZ c o = true -> e.2.2 = none) /\ (aiYZ c o = true -> looks (c.site o.dst) o.op = false -> e.2.1 = [])
theorem auMZ {call : Nat -> List AV -> List AObj -> Out} {c : Ctx} {ρ : SEnv} {H : List AObj} {o : AOper} {v H' rd w} (i : Nat) (h : aekZ call (c.site o.dst) ρ H o.op = some (v, H', rd, w)) :
  Ent c (i, rd, w) o := by
 unfold aekZ at h
 unfold Ent aiYZ
 split at h
 ·rename_i h1 h2
  cases h
  refine ⟨fun _ => rfl, fun _ hl => ?_⟩
  rw [h2] at hl
  simp [h1, looks] at hl
 ·split at h
  ·rename_i hw
   constructor
   ·intro hh; simp [hw] at hh
   ·intro hh; simp [hw] at hh
  ·split at h
   ·cases h
    refine ⟨fun _ => rfl, fun _ hl => arsZ hl⟩
   ·cases h
def agmZ (c : Ctx) : Nat -> List AOper -> Log -> Prop
 | _, [], log => log = []
 | i, o :: r, log => agmZ c (i + 1) r log ∨ ∃ rd w log', log = (i, rd, w) :: log' /\ Ent c (i, rd, w) o /\ agmZ c (i + 1) r log'
theorem agmZ.mem {c : Ctx} : ∀ {i : Nat} {ops : List AOper} {log : Log}, agmZ c i ops log -> ∀ e ∈ log, ∃ o, (o, e.1) ∈ ops.zipIdx i /\ Ent c e o
 | _, [], _, h, e, he => by rw [agmZ] at h; subst h; cases he
 | i, o :: r, log, h, e, he => by
  unfold agmZ at h
  rw [List.zipIdx_cons]
  rcases h with h | ⟨rd, w, log', rfl, h1, h2⟩
  ·obtain ⟨p, hp, hq⟩ := h.mem e he
   exact ⟨p, List.mem_cons_of_mem _ hp, hq⟩
  ·rcases List.mem_cons.1 he with rfl | he
   ·exact ⟨o, List.mem_cons_self, h1⟩
   ·obtain ⟨p, hp, hq⟩ := h2.mem e he
    exact ⟨p, List.mem_cons_of_mem _ hp, hq⟩
theorem atuZ {ops : List AOper} {p : AOper} {j : Nat} (h : (p, j) ∈ ops.zipIdx) : ((ops[j]?).map AOper.pre).getD [] = p.pre := by
 have := List.mem_zipIdx h
 simp only [Nat.zero_le, Nat.sub_zero, Nat.zero_add, true_and] at this
 obtain ⟨h1, h2⟩ := this
 rw [List.getElem?_eq_getElem h1, <- h2]
 rfl
theorem aheZ {c : Ctx} {keep : List Nat} {all : List AOper} : ∀ {i : Nat} {ops : List AOper} {log : Log}, agmZ c i ops log -> ajlZ c keep i ops = true ->
  (∀ p ∈ ops.zipIdx i, p ∈ all.zipIdx) ->
  acUZ (fun j => ((all[j]?).map AOper.pre).getD []) (log.filter fun e => keep.contains e.1) = true ->
  acUZ (fun j => ((all[j]?).map AOper.pre).getD []) log = true
 | _, [], log, h, _, _, _ => by rw [agmZ] at h; subst h; rfl
 | i, o :: r, log, h, hp, hin, hk => by
  unfold ajlZ at hp
  rw [Bool.and_eq_true] at hp
  unfold agmZ at h
  rw [List.zipIdx_cons] at hin
  rcases h with h | ⟨rd, w, log', rfl, h1, h2⟩
  ·exact aheZ h hp.2 (fun p hp => hin p (List.mem_cons_of_mem _ hp)) hk
  ·unfold acUZ
   rw [Bool.and_eq_true]
   constructor
   ·rw [List.all_eq_true]
    rintro ⟨j, rd', w'⟩ he
    obtain ⟨p, hpm, hpe⟩ := h2.mem _ he
    have hpp := atuZ (hin _ (List.mem_cons_of_mem _ hpm))
    have hpo := (List.all_eq_true.1 hp.1) _ hpm
    dsimp only at hpp hpo ⊢
    rw [hpp]
    unfold amAZ at hpo
    simp only [Bool.or_eq_true, Bool.and_eq_true, Bool.not_eq_true'] at hpo
    rcases hpo with (((h | ⟨hi, hj⟩) | ⟨ho, hq⟩) | ⟨ho, hl⟩) | ⟨hq, hl⟩
    ·simp only [h, Bool.true_or]
    ·have hk2 : acUZ (fun j => ((all[j]?).map AOper.pre).getD []) ((i, rd, w) :: log'.filter fun e => keep.contains e.1) = true := by
      rw [List.filter_cons] at hk
      simp only [hi, if_true] at hk
      exact hk
     unfold acUZ at hk2
     rw [Bool.and_eq_true] at hk2
     have := (List.all_eq_true.1 hk2.1) (j, rd', w') (by rw [List.mem_filter]; exact ⟨he, hj⟩)
     dsimp only at this
     rw [hpp] at this
     exact this
    ·have e1 : w = none := h1.1 ho
     have e2 : w' = none := hpe.1 hq
     subst e1; subst e2
     simp
    ·have e1 : w = none := h1.1 ho
     have e2 : rd = [] := h1.2 ho hl
     subst e1; subst e2
     cases w' <;> simp [acEZ]
    ·have e1 : w' = none := hpe.1 hq
     have e2 : rd' = [] := hpe.2 hq hl
     subst e1; subst e2
     cases w <;> simp [acEZ]
   ·refine aheZ h2 hp.2 (fun p hp => hin p (List.mem_cons_of_mem _ hp)) ?_
    rw [List.filter_cons] at hk
    split at hk
    ·unfold acUZ at hk
     rw [Bool.and_eq_true] at hk
     exact hk.2
    ·exact hk
end Go.AM
end
section
namespace Go.AM
open Go
section
variable {A : AProg}
theorem aohZ {H : List AObj} {site : Option Nat} {f : AV} {args : List AV} {r} (h : abrZ (aapZ A) H site f args = some r) : ∃ n, abrZ (aaXZ A n) H site f args = some r := by
 unfold abrZ at h
 split at h
 ·rename_i fid first caps
  split at h
  ·cases h
  ·rename_i args' lent hl
   split at h
   ·cases h
   ·rename_i v H' wr hc
    obtain ⟨n, hn⟩ := aoWZ hc
    refine ⟨n, ?_⟩
    unfold abrZ
    dsimp only
    rw [hl]
    dsimp only
    rw [hn]
    exact h
 ·cases h
theorem auNZ {H : List AObj} {ρ : SEnv} {site : Option Nat} {o : AOp} {r} (h : evWF (aapZ A) H ρ site o = some r) : ∃ n, evWF (aaXZ A n) H ρ site o = some r := by
 cases o <;> first | exact ⟨0, h⟩ | skip
 ·exact aohZ h
 ·rename_i tab x args
  simp only [evWF] at h ⊢
  generalize AOpd.at ρ x = y at h ⊢
  cases y with
  | ifc t v =>
   dsimp only at h ⊢
   generalize tab.lookup t = z at h ⊢
   cases z with
   | none => cases h
   | some f => exact aohZ h
  | _ => cases h
theorem awDZ {site : Option Nat} {d : Bool} {H : List AObj} {ρ : SEnv} {o : AOp} {r} (h : adAZ (aapZ A) site d ρ H o = some r) : ∃ n, adAZ (aaXZ A n) site d ρ H o = some r := by
 unfold adAZ at h
 split at h
 ·rename_i hw
  obtain ⟨n, hn⟩ := auNZ h
  exact ⟨n, by unfold adAZ; rw [if_pos hw]; exact hn⟩
 ·rename_i hw
  exact ⟨0, by unfold adAZ; rw [if_neg hw]; exact h⟩
theorem awEZ {site : Option Nat} {H : List AObj} {ρ : SEnv} {o : AOp} {r} (h : aekZ (aapZ A) site ρ H o = some r) : ∃ n, aekZ (aaXZ A n) site ρ H o = some r := by
 unfold aekZ at h
 split at h
 ·exact ⟨0, h⟩
 ·rename_i hne
  split at h
  ·rename_i hw
   split at h
   ·rename_i he
    obtain ⟨n, hn⟩ := auNZ he
    refine ⟨n, ?_⟩
    unfold aekZ
    split
    ·exact (hne _ _ rfl rfl).elim
    ·rw [if_pos hw, hn]; exact h
   ·cases h
  ·rename_i hw
   refine ⟨0, ?_⟩
   unfold aekZ
   split
   ·exact (hne _ _ rfl rfl).elim
   ·rw [if_neg hw]; exact h
theorem ajmZ {c : Ctx} : ∀ {ops : List AOper} {l : List AV} {H : List AObj} {wr : List Nat} {K}, aiRZ (aapZ A) c ops (fenv l) H wr K -> (ops.all (auLZ l.length)) = true ->
  ∃ n s', adRZ (aaXZ A n) c ops ⟨l, H, wr⟩ = some s' /\ s'.ρ.length = l.length /\ K (fenv s'.ρ) s'.H s'.wr
 | [], l, H, wr, K, h, _ => ⟨0,⟨l, H, wr⟩, rfl, rfl, h⟩
 | o :: r, l, H, wr, K, h, hd => by
  rw [List.all_cons, Bool.and_eq_true] at hd
  unfold aiRZ at h
  rw [aqfZ] at h
  split at h
  ·cases h
  ·rename_i hg
   split at hg
   ·rename_i hok
    rw [Option.some.injEq] at hg
    rw [<- agbZ hd.1] at h
    obtain ⟨n, s', h1, h2, h3⟩ := ajmZ h (by rw [abCZ]; exact hd.2)
    refine ⟨n, s', ?_, by rw [h2, abCZ], h3⟩
    unfold adRZ
    rw [if_pos hok, if_neg (by rw [hg]; exact Bool.false_ne_true)]
    exact h1
   ·cases hg
  ·rename_i hg
   split at hg
   ·rename_i hok
    rw [Option.some.injEq] at hg
    split at h
    ·cases h
    ·rename_i v H' w hs
     obtain ⟨n1, hn1⟩ := awDZ hs
     rw [<- agbZ hd.1] at h
     obtain ⟨n2, s', h1, h2, h3⟩ := ajmZ h (by rw [abCZ]; exact hd.2)
     refine ⟨max n1 n2, s', ?_, by rw [h2, abCZ], h3⟩
     unfold adRZ
     rw [if_pos hok, if_pos hg]
     have e1 := aqeZ (aeEZ (Nat.le_max_left n1 n2)) ((awBZ (aaXZ A n1) c false H l o).trans hn1)
     dsimp only
     rw [e1]
     exact aiEZ (aeEZ (Nat.le_max_right n1 n2)) h1
   ·cases hg
theorem amBZ {c : Ctx} {keep : List Nat} : ∀ {ops : List AOper} {i : Nat} {l : List AV} {H : List AObj} {wr : List Nat} {K}, wpD (aapZ A) c keep i ops (fenv l) H wr K -> (ops.all (auLZ l.length)) = true ->
  ∃ n s' log, aeAZ (aaXZ A n) c i ops ⟨l, H, wr⟩ = some (s', log) /\ s'.ρ.length = l.length /\ agmZ c i ops log /\ K (fenv s'.ρ) s'.H s'.wr (log.filter fun e => keep.contains e.1)
 | [], i, l, H, wr, K, h, _ => ⟨0,⟨l, H, wr⟩, [], rfl, rfl, rfl, h⟩
 | o :: r, i, l, H, wr, K, h, hd => by
  rw [List.all_cons, Bool.and_eq_true] at hd
  unfold wpD at h
  rw [aqfZ] at h
  split at h
  ·cases h
  ·rename_i hg
   split at hg
   ·rename_i hok
    rw [Option.some.injEq] at hg
    rw [<- agbZ hd.1] at h
    obtain ⟨n, s', log, h1, h2, h3, h4⟩ := amBZ h (by rw [abCZ]; exact hd.2)
    refine ⟨n, s', log, ?_, by rw [h2, abCZ], .inl h3, h4⟩
    unfold aeAZ
    rw [if_pos hok, if_neg (by rw [hg]; exact Bool.false_ne_true)]
    exact h1
   ·cases hg
  ·rename_i hg
   split at hg
   ·rename_i hok
    rw [Option.some.injEq] at hg
    split at h
    ·cases h
    ·rename_i v H' rd w hs
     obtain ⟨n1, hn1⟩ := awEZ hs
     rw [<- agbZ hd.1] at h
     obtain ⟨n2, s', log, h1, h2, h3, h4⟩ := amBZ h (by rw [abCZ]; exact hd.2)
     refine ⟨max n1 n2, s', (i, rd, w) :: log, ?_, by rw [h2, abCZ], .inr ⟨rd, w, log, rfl, auMZ i hs, h3⟩, ?_⟩
     ·unfold aeAZ
      rw [if_pos hok, if_pos hg]
      have e1 := aogZ (aeEZ (Nat.le_max_left n1 n2)) ((awCZ (aaXZ A n1) c H l o).trans hn1)
      dsimp only
      rw [e1]
      dsimp only
      rw [ahdZ (aeEZ (Nat.le_max_right n1 n2)) h1]
     ·rw [List.filter_cons]
      dsimp only
      split at h4
      ·rename_i hk; rw [if_pos hk]; exact h4
      ·rename_i hk; rw [if_neg hk]; exact h4
   ·cases hg
def Wp (A : AProg) (N : Nat) (c : Ctx) (x : ACode) (ρ : SEnv) (H : List AObj) (wr : List Nat) (Q : AExit -> SEnv -> List AObj -> List Nat -> Prop) : Prop :=
 ∀ l : List AV, l.length = N -> fenv l = ρ -> ∃ n e s', aaNZ A n c x ⟨l, H, wr⟩ = some (e, s') /\ s'.ρ.length = N /\ Q e (fenv s'.ρ) s'.H s'.wr
def ajSZ (c : Ctx) : List (Nat × Nat) -> SEnv -> List AObj -> List Nat -> (SEnv -> List AObj -> List Nat -> Prop) -> Prop
 | [], ρ, H, wr, K => K ρ H wr
 | (k + 1, t) :: r, ρ, H, wr, K =>
  if (ρ t).isUndef then ajSZ c r ρ H wr K else
  match aamZ H (k + 1) (ρ t) with
  | some cs =>
   match fix H (.agg cs) with
   | some (.agg cs', H', l) =>
    match storeCells H' cs' (ρ t) with
    | some (H'', l') => ajSZ c r ρ H'' (aaCZ c.base wr (l ++ l')) K
    | none => False
   | _ => False
  | none => False
 | (0, t) :: r, ρ, H, wr, K =>
  match fix H (ρ t) with
  | some (v, H', l) => ajSZ c r (upd ρ t v) H' (aaCZ c.base wr l) K
  | none => False
theorem auOZ {H : List AObj} {v : AV} {r} (h : fix H v = some r) : fixD H v = some r := by unfold fixD; rw [h]
theorem ahfZ {c : Ctx} : ∀ {ts : List (Nat × Nat)} {l : List AV} {H : List AObj} {wr : List Nat} {K}, ajSZ c ts (fenv l) H wr K -> (ts.all fun p => decide (p.2 < l.length)) = true ->
  ∃ s', afhZ c ⟨l, H, wr⟩ ts = some s' /\ s'.ρ.length = l.length /\ K (fenv s'.ρ) s'.H s'.wr
 | [], l, H, wr, K, h, _ => ⟨⟨l, H, wr⟩, rfl, rfl, h⟩
 | (k + 1, t) :: r, l, H, wr, K, h, hd => by
  rw [List.all_cons, Bool.and_eq_true] at hd
  unfold ajSZ at h
  have e : fenv l t = (l[t]?).getD .undef := rfl
  rw [e] at h
  split at h
  ·rename_i hc
   obtain ⟨s', h1, h2, h3⟩ := ahfZ h hd.2
   refine ⟨s', ?_, h2, h3⟩
   unfold afhZ
   rw [if_pos hc]
   exact h1
  ·rename_i hc
   split at h
   ·rename_i cs hr
    split at h
    ·rename_i cs' H' l1 hf
     split at h
     ·rename_i H2 l2 hs
      obtain ⟨s', h1, h2, h3⟩ := ahfZ h hd.2
      refine ⟨s', ?_, h2, h3⟩
      unfold afhZ
      rw [if_neg hc]
      dsimp only
      rw [hr]
      dsimp only
      rw [auOZ hf]
      dsimp only
      rw [hs]
      exact h1
     ·exact h.elim
    ·exact h.elim
   ·exact h.elim
 | (0, t) :: r, l, H, wr, K, h, hd => by
  rw [List.all_cons, Bool.and_eq_true] at hd
  unfold ajSZ at h
  have e : fenv l t = (l[t]?).getD .undef := rfl
  rw [e] at h
  split at h
  ·rename_i v H' l1 hf
   have ht : t < l.length := by simpa using hd.1
   rw [<- aoXZ ht] at h
   obtain ⟨s', h1, h2, h3⟩ := ahfZ h (by simpa using hd.2)
   refine ⟨s', ?_, by rw [h2]; simp, h3⟩
   unfold afhZ
   dsimp only
   rw [auOZ hf]
   exact h1
  ·exact h.elim
def agNZ (c : Ctx) (ops : List AOper) : List Nat :=
 let z := ops.zipIdx
 z.filterMap fun (o, i) => if z.all fun (p, j) => if i < j then amAZ c [] o i p j else if j < i then amAZ c [] p j o i else true then none else some i
def wpc (A : AProg) (N : Nat) (c : Ctx) : ACode -> SEnv -> List AObj -> List Nat -> (AExit -> SEnv -> List AObj -> List Nat -> Prop) -> Prop
 | .skip, ρ, H, wr, Q => Q .normal ρ H wr
 | .bad, _, _, _, _ => False
 | .region false ops, ρ, H, wr, Q => aiRZ (aapZ A) c ops ρ H wr (Q .normal)
 | .region true ops, ρ, H, wr, Q => match abfZ c H ops with
  | some H0 => wpD (aapZ A) c (agNZ c ops) 0 ops ρ H0 wr fun ρ H wr log => acUZ (fun j => ((ops[j]?).map AOper.pre).getD []) log = true /\ Q .normal ρ H wr
  | none => False
 | .seq a b, ρ, H, wr, Q => wpc A N c a ρ H wr fun e ρ H wr => match e with
  | .normal => wpc A N c b ρ H wr Q
  | e => Q e ρ H wr
 | .cond t a b, ρ, H, wr, Q => match t.at ρ with
  | .bool true => wpc A N c a ρ H wr Q
  | .bool false => wpc A N c b ρ H wr Q
  | _ => False
 | .block id b, ρ, H, wr, Q => wpc A N c b ρ H wr fun e ρ H wr => match e with
  | .exit id' => if id' = id then Q .normal ρ H wr else Q (.exit id') ρ H wr
  | e => Q e ρ H wr
 | .loop b, ρ, H, wr, Q => Wp A N c (.loop b) ρ H wr Q
 | .exit id, ρ, H, wr, Q => Q (.exit id) ρ H wr
 | .ret, ρ, H, wr, Q => Q .ret ρ H wr
 | .frz ts, ρ, H, wr, Q => ajSZ c ts ρ H wr (Q .normal)
def aaSZ (N : Nat) (c : Ctx) : ACode -> Bool
 | .region d ops => ops.all (auLZ N) && (!d || (aurZ ops && ajlZ c (agNZ c ops) 0 ops))
 | .seq a b => aaSZ N c a && aaSZ N c b
 | .cond _ a b => aaSZ N c a && aaSZ N c b
 | .block _ b => aaSZ N c b
 | .loop b => aaSZ N c b
 | .frz ts => ts.all fun p => decide (p.2 < N)
 | _ => true
theorem adTZ {N : Nat} {c : Ctx} : ∀ {x : ACode} {ρ : SEnv} {H : List AObj} {wr : List Nat} {Q}, wpc A N c x ρ H wr Q -> aaSZ N c x = true -> Wp A N c x ρ H wr Q
 | .skip, ρ, H, wr, Q, h, _ => fun l hl he => ⟨1, .normal,⟨l, H, wr⟩, rfl, hl, by rw [wpc] at h; subst he; exact h⟩
 | .bad, _, _, _, _, h, _ => by rw [wpc] at h; exact h.elim
 | .region false ops, ρ, H, wr, Q, h, hok => fun l hl he => by
  subst he
  rw [wpc] at h
  simp only [aaSZ, Bool.and_eq_true] at hok
  obtain ⟨n, s', h1, h2, h3⟩ := ajmZ h (by rw [hl]; exact hok.1)
  refine ⟨n + 1, .normal, s', ?_, by rw [h2, hl], h3⟩
  rw [acyZ]
  have : actZ (aaXZ A n) c false ops ⟨l, H, wr⟩ = some s' := h1
  rw [this]
 | .region true ops, ρ, H, wr, Q, h, hok => fun l hl he => by
  subst he
  rw [wpc] at h
  simp only [aaSZ, Bool.and_eq_true, BT, Bool.false_or] at hok
  split at h
  ·rename_i H0 hp
   obtain ⟨n, s', log, h1, h2, h3, h4, h5⟩ := amBZ h (by rw [hl]; exact hok.1)
   refine ⟨n + 1, .normal, s', ?_, by rw [h2, hl], h5⟩
   rw [acyZ]
   have hlog := aheZ h3 hok.2.2 (fun p hp => hp) h4
   have : actZ (aaXZ A n) c true ops ⟨l, H, wr⟩ = some s' := by
    unfold actZ
    simp only [Bool.true_and, hok.2.1, if_true]
    rw [hp]
    dsimp only
    rw [h1]
    dsimp only
    rw [if_pos hlog]
   rw [this]
  ·exact h.elim
 | .seq a b, ρ, H, wr, Q, h, hok => fun l hl he => by
  rw [wpc] at h
  simp only [aaSZ, Bool.and_eq_true] at hok
  obtain ⟨n, e, s', h1, h2, h3⟩ := adTZ h hok.1 l hl he
  by_cases hn : e = .normal
  ·subst hn
   obtain ⟨m, e', s'', g1, g2, g3⟩ := adTZ h3 hok.2 s'.ρ h2 rfl
   refine ⟨max n m + 1, e', s'', ?_, g2, g3⟩
   rw [aclZ, abEZ (Nat.le_max_left n m) _ _ _ _ h1]
   exact abEZ (Nat.le_max_right n m) _ _ _ _ g1
  ·refine ⟨n + 1, e, s', ?_, h2, ?_⟩
   ·rw [aclZ, h1]
    cases e <;> first | rfl | exact absurd rfl hn
   ·cases e <;> first | exact h3 | exact absurd rfl hn
 | .cond t a b, ρ, H, wr, Q, h, hok => fun l hl he => by
  rw [wpc] at h
  simp only [aaSZ, Bool.and_eq_true] at hok
  have ht : t.ev l = t.at ρ := by rw [<- he]; exact t.ev_eq l
  split at h
  ·rename_i hb
   obtain ⟨n, e, s', h1, h2⟩ := adTZ h hok.1 l hl he
   exact ⟨n + 1, e, s', by rw [aczZ]; dsimp only; rw [ht, hb]; exact h1, h2⟩
  ·rename_i hb
   obtain ⟨n, e, s', h1, h2⟩ := adTZ h hok.2 l hl he
   exact ⟨n + 1, e, s', by rw [aczZ]; dsimp only; rw [ht, hb]; exact h1, h2⟩
  ·exact h.elim
 | .block id b, ρ, H, wr, Q, h, hok => fun l hl he => by
  rw [wpc] at h
  simp only [aaSZ] at hok
  obtain ⟨n, e, s', h1, h2, h3⟩ := adTZ h hok l hl he
  cases e with
  | normal => exact ⟨n + 1, .normal, s', by rw [ablZ, h1], h2, h3⟩
  | ret => exact ⟨n + 1, .ret, s', by rw [ablZ, h1], h2, h3⟩
  | exit id' =>
   dsimp only at h3
   split at h3
   ·rename_i hid
    exact ⟨n + 1, .normal, s', by rw [ablZ, h1]; dsimp only; rw [if_pos hid], h2, h3⟩
   ·rename_i hid
    exact ⟨n + 1, .exit id', s', by rw [ablZ, h1]; dsimp only; rw [if_neg hid], h2, h3⟩
 | .loop b, ρ, H, wr, Q, h, _ => by rw [wpc] at h; exact h
 | .exit id, ρ, H, wr, Q, h, _ => fun l hl he => ⟨1, .exit id,⟨l, H, wr⟩, rfl, hl, by rw [wpc] at h; subst he; exact h⟩
 | .ret, ρ, H, wr, Q, h, _ => fun l hl he => ⟨1, .ret,⟨l, H, wr⟩, rfl, hl, by rw [wpc] at h; subst he; exact h⟩
 | .frz ts, ρ, H, wr, Q, h, hok => fun l hl he => by
  rw [wpc] at h
  subst he
  obtain ⟨s', h1, h2, h3⟩ := ahfZ h (by rw [hl]; exact hok)
  exact ⟨1, .normal, s', by rw [agMZ, h1], by rw [h2, hl], h3⟩
theorem Wp.loop {N : Nat} {c : Ctx} {b : ACode} {ρ : SEnv} {H : List AObj} {wr : List Nat} {Q} (hok : aaSZ N c b = true)
  (h : wpc A N c b ρ H wr fun e ρ H wr => match e with
   | .normal => Wp A N c (.loop b) ρ H wr Q
   | e => Q e ρ H wr) : Wp A N c (.loop b) ρ H wr Q := fun l hl he => by
 obtain ⟨n, e, s', h1, h2, h3⟩ := adTZ h hok l hl he
 by_cases hn : e = .normal
 ·subst hn
  obtain ⟨m, e', s'', g1, g2, g3⟩ := h3 s'.ρ h2 rfl
  refine ⟨max n m + 1, e', s'', ?_, g2, g3⟩
  rw [abDZ, abEZ (Nat.le_max_left n m) _ _ _ _ h1]
  exact abEZ (Nat.le_max_right n m) _ _ _ _ g1
 ·refine ⟨n + 1, e, s', ?_, h2, ?_⟩
  ·rw [abDZ, h1]
   cases e <;> first | rfl | exact absurd rfl hn
  ·cases e <;> first | exact h3 | exact absurd rfl hn
theorem Wp.mono {N : Nat} {c : Ctx} {x : ACode} {ρ : SEnv} {H : List AObj} {wr : List Nat} {Q Q'} (hk : ∀ e ρ H wr, Q e ρ H wr -> Q' e ρ H wr) (h : Wp A N c x ρ H wr Q) : Wp A N c x ρ H wr Q' := fun l hl he => by
 obtain ⟨n, e, s', h1, h2, h3⟩ := h l hl he
 exact ⟨n, e, s', h1, h2, hk _ _ _ _ h3⟩
def auPZ (H : List AObj) (ρ : SEnv) : ARes -> Option AV
 | .tmp t => some (ρ t)
 | .cell t k agg => match aamZ H k (ρ t) with
  | some cs => abnZ agg cs
  | none => none
def amCZ (H : List AObj) (ρ : SEnv) : List ARes -> Option (List AV)
 | [] => some []
 | r :: rs => match auPZ H ρ r with
  | none => none
  | some v => match amCZ H ρ rs with
   | none => none
   | some vs => some (v :: vs)
theorem aoYZ (H : List AObj) (l : List AV) : ∀ rs, aoMZ H l rs = amCZ H (fenv l) rs
 | [] => rfl
 | r :: rs => by
  unfold aoMZ amCZ
  have : resV H l r = auPZ H (fenv l) r := by cases r <;> rfl
  rw [this, aoYZ H l rs]
  rfl
def adnZ (base : Nat) (rs : List ARes) (ρ : SEnv) (H : List AObj) (wr : List Nat) : Out :=
 match amCZ H ρ rs with
 | none => none
 | some [v] => match finV base H v with
  | some (v', H', l) => some (v', H', aaCZ base wr l)
  | none => none
 | some vs => match aktZ H vs with
  | some (vs', H', l) => some (.tup vs', H', aaCZ base wr l)
  | none => none
def Ends (base : Nat) (rs : List ARes) (K : AV -> List AObj -> List Nat -> Prop) : AExit -> SEnv -> List AObj -> List Nat -> Prop
 | .exit _, _, _, _ => False
 | _, ρ, H, wr => match adnZ base rs ρ H wr with
  | some r => K (aaVZ base r).1 (aaVZ base r).2.1 (aaVZ base r).2.2
  | none => False
def agcZ (args : List AV) : SEnv := fun t => (args[t]?).getD .undef
theorem aoiZ (args : List AV) (k : Nat) : fenv (args ++ List.replicate k .undef) = agcZ args := by
 funext t
 unfold fenv agcZ
 by_cases h : t < args.length
 ·rw [List.getElem?_append_left h]
 ·rw [List.getElem?_append_right (by omega), List.getElem?_eq_none (by omega : args.length <= t), List.getElem?_replicate]
  split <;> rfl
theorem akDZ {f : Nat} {args : List AV} {H : List AObj} {fn : AFn} {K : AV -> List AObj -> List Nat -> Prop} (hf : A.fn f = some fn) (hp : (A.prim f).bind (· args H) = none)
  (hN : args.length <= fn.ntmps) (hok : aaSZ fn.ntmps ⟨H.length, fn.sites⟩ fn.body = true)
  (h : wpc A fn.ntmps ⟨H.length, fn.sites⟩ fn.body (agcZ args) (H ++ List.replicate fn.sites.length (.gone 0)) [] (Ends H.length fn.results K)) :
  ∃ v H' wr, aapZ A f args H = some (v, H', wr) /\ K v H' wr := by
 obtain ⟨n, e, s', h1, h2, h3⟩ := adTZ h hok (args ++ List.replicate (fn.ntmps - args.length) .undef) (by simp; omega) (aoiZ _ _)
 have key : ∀ r, adnZ H.length fn.results (fenv s'.ρ) s'.H s'.wr = some r -> ahvZ H.length fn s' = some r := by
  intro r hr
  unfold adnZ at hr
  unfold ahvZ
  rw [aoYZ]
  exact hr
 cases e with
 | exit id => exact h3.elim
 | normal =>
  unfold Ends at h3
  dsimp only at h3
  split at h3
  ·rename_i r hr
   exact ⟨_, _, _, ajRZ (aeQZ hp hf h1 (.inl rfl) (key _ hr) hN), h3⟩
  ·exact h3.elim
 | ret =>
  unfold Ends at h3
  dsimp only at h3
  split at h3
  ·rename_i r hr
   exact ⟨_, _, _, ajRZ (aeQZ hp hf h1 (.inr rfl) (key _ hr) hN), h3⟩
  ·exact h3.elim
end
end Go.AM
end
