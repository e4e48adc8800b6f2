/- Part 13 of the proof that stands in the last text of this folder (lemmas; no statement of its own). -/
import Derived.Test.YtglokbbcckpaaaaGreatDoorK12
set_option linter.unusedVariables false
set_option linter.unusedSimpArgs false
open Bool renaming not_true -> BT
section
set_option maxRecDepth 8000
namespace Go.AM
open Go
@[go_sem] theorem aAoZ {a : AV} {r : List AV} : agcZ (a :: r) 0 = a := (rfl)
@[go_sem] theorem aApZ {a : AV} {r : List AV} {n : Nat} : agcZ (a :: r) (n + 1) = agcZ r n := (rfl)
@[go_sem] theorem aBsZ {n : Nat} : agcZ [] n = .undef := (rfl)
attribute [go_sem] Option.isSome_some Option.isSome_none
mutual
def AV.data : AV -> Bool
 | .bool _ | .int _ _ | .str _ | .nilFn | .nilPtr => true
 | .sl f rows => !f && abHZ rows
 | .agg cs => acnZ cs
 | _ => false
def acnZ : List AV -> Bool
 | [] => true
 | v :: r => v.cellOk && v.data && acnZ r
def abHZ : List (List AV) -> Bool
 | [] => true
 | l :: r => acnZ l && abHZ r
end
mutual
theorem ahgZ : ∀ {v : AV} {n : Nat}, v.data = true -> v.under n = true
 | .bool _, _, _ | .int _ _, _, _ | .str _, _, _ | .nilFn, _, _ | .nilPtr, _, _ => rfl
 | .sl f rows, n, h => by
  simp only [AV.data, Bool.and_eq_true] at h
  simp only [AV.under]
  exact aaaZ h.2
 | .agg cs, n, h => by
  simp only [AV.data] at h
  simp only [AV.under]
  exact adUZ h
 | .undef, _, h | .fn .., _, h | .ptr .., _, h | .vp .., _, h | .ep .., _, h | .sr .., _, h | .mp .., _, h | .own .., _, h | .tup .., _, h => by simp [AV.data] at h
theorem adUZ : ∀ {l : List AV} {n : Nat}, acnZ l = true -> abLZ n l = true
 | [], _, _ => rfl
 | v :: r, n, h => by
  simp only [acnZ, Bool.and_eq_true] at h
  simp only [abLZ, Bool.and_eq_true]
  exact ⟨ahgZ h.1.2, adUZ h.2⟩
theorem aaaZ : ∀ {l : List (List AV)} {n : Nat}, abHZ l = true -> acTZ n l = true
 | [], _, _ => rfl
 | v :: r, n, h => by
  simp only [abHZ, Bool.and_eq_true] at h
  simp only [acTZ, Bool.and_eq_true]
  exact ⟨adUZ h.1, aaaZ h.2⟩
end
theorem anNZ {v : AV} (h : v.data = true) : v.strip1 = v := by
 cases v <;> try rfl
 rename_i f rows
 simp only [AV.data, Bool.and_eq_true, Bool.not_eq_true'] at h
 rw [h.1]; rfl
theorem ahUZ : ∀ {l : List AV}, acnZ l = true -> ∀ v ∈ l, v.data = true /\ v.cellOk = true
 | [], _, v, hv => by cases hv
 | a :: r, h, v, hv => by
  simp only [acnZ, Bool.and_eq_true] at h
  rcases List.mem_cons.1 hv with rfl | hv
  ·exact ⟨h.1.2, h.1.1⟩
  ·exact ahUZ h.2 v hv
theorem aaoZ {l : List AV} (h : acnZ l = true) : l.map AV.strip1 = l := by
 conv => rhs; rw [<- List.map_id l]
 exact List.map_congr_left fun v hv => anNZ (ahUZ h v hv).1
theorem apcZ {v : AV} (h : v.data = true) (h2 : v.cellOk = true) : v.still = true := by
 cases v <;> first | rfl | exact absurd (show false = true from h2) Bool.false_ne_true | exact absurd (show false = true from h) Bool.false_ne_true
theorem abFZ {l : List AV} (h : acnZ l = true) : l.all AV.still = true := by
 rw [List.all_eq_true]
 intro v hv
 exact apcZ (ahUZ h v hv).1 (ahUZ h v hv).2
theorem abOZ {l : List AV} (h : acnZ l = true) : l.all AV.cellOk = true := by
 rw [List.all_eq_true]
 intro v hv
 exact (ahUZ h v hv).2
theorem akEZ : ∀ {l : List (List AV)}, abHZ l = true -> ∀ v ∈ l, acnZ v = true
 | [], _, v, hv => by cases hv
 | a :: r, h, v, hv => by
  simp only [abHZ, Bool.and_eq_true] at h
  rcases List.mem_cons.1 hv with rfl | hv
  ·exact h.1
  ·exact akEZ h.2 v hv
theorem ajTZ : ∀ {l : List (List AV)}, (∀ v ∈ l, acnZ v = true) -> abHZ l = true
 | [], _ => rfl
 | a :: r, h => by
  simp only [abHZ, Bool.and_eq_true]
  exact ⟨h a List.mem_cons_self, ajTZ fun v hv => h v (List.mem_cons_of_mem _ hv)⟩
theorem aatZ {rows : List (List AV)} (h : abHZ rows = true) : (rows.all fun r => r.all AV.still) = true := by
 rw [List.all_eq_true]
 intro r hr
 exact abFZ (akEZ h r hr)
theorem apdZ {H : List AObj} {v : AV} (h : v.data = true) (h2 : v.cellOk = true) : ajDZ H v = some (v, []) := by
 cases v <;> first | rfl | exact absurd (show false = true from h2) Bool.false_ne_true | exact absurd (show false = true from h) Bool.false_ne_true
theorem aaFZ {H : List AObj} : ∀ {l : List AV}, acnZ l = true -> alLZ H l = some (l, [])
 | [], _ => rfl
 | v :: r, h => by
  simp only [acnZ, Bool.and_eq_true] at h
  unfold alLZ
  rw [apdZ h.1.2 h.1.1, aaFZ h.2]
  rfl
theorem atwZ {base : Nat} {v : AV} {H : List AObj} {wr : List Nat} (h : v.under base = true) (h2 : (wr.all fun o => match H[o]? with | some x => x.under base | none => true) = true) : aaVZ base (v, H, wr) = (v, H.take base, wr) := by
 unfold aaVZ
 dsimp only
 rw [if_pos (by rw [h, Bool.true_and]; exact h2)]
@[go_sem] theorem aAqZ {n v : Nat} {cs : List AV} : AObj.under n (.box v cs) = abLZ n cs := (rfl)
@[go_sem] theorem aArZ {n : Nat} {b : Bool} : AV.under n (.bool b) = true := (rfl)
@[go_sem] theorem aBtZ {n : Nat} {k : IntKind} {i : Int} : AV.under n (.int k i) = true := (rfl)
@[go_sem] theorem aBuZ {n : Nat} {l : List UInt8} : AV.under n (.str l) = true := (rfl)
@[go_sem] theorem aDiZ {n : Nat} {f : Bool} {rows : List (List AV)} : AV.under n (.sl f rows) = acTZ n rows := (rfl)
@[go_sem] theorem aBvZ {n : Nat} {cs : List AV} : AV.under n (.agg cs) = abLZ n cs := (rfl)
@[go_sem] theorem aBwZ {n k : Nat} {rows : List (List AV)} : AV.under n (.own k rows) = acTZ n rows := (rfl)
@[go_sem] theorem aAsZ {n : Nat} : abLZ n [] = true := (rfl)
@[go_sem] theorem ayOZ {n : Nat} {v : AV} {r : List AV} : abLZ n (v :: r) = (v.under n && abLZ n r) := (rfl)
@[go_sem] theorem ayPZ {n : Nat} : acTZ n [] = true := (rfl)
@[go_sem] theorem axTZ {n : Nat} {v : List AV} {r : List (List AV)} : acTZ n (v :: r) = (abLZ n v && acTZ n r) := (rfl)
@[go_sem] theorem aruZ {base : Nat} {v : AV} {H : List AObj} (h : v.under base = true) : aaVZ base (v, H, []) = (v, H.take base, []) := by
 unfold aaVZ
 simp only [h, List.all_nil, Bool.and_true, if_true]
def ends (base : Nat) (rs : List ARes) (K : AV -> List AObj -> List Nat -> Prop) (tg : Tg K) : AExit -> SEnv -> List AObj -> List Nat -> Prop := Ends base rs K
section
variable {base : Nat} {ρ : SEnv} {H : List AObj} {wr : List Nat} {K : AV -> List AObj -> List Nat -> Prop} {rs : List ARes}
@[go_sem] theorem aDjZ {t : Tg K} : ends base rs K t .ret ρ H wr = bnd (adnZ base rs ρ H wr) fun r => bnd (some (aaVZ base r)) fun r => K r.1 r.2.1 r.2.2 := by
 unfold ends Ends
 dsimp only
 cases adnZ base rs ρ H wr <;> rfl
@[go_sem] theorem ayQZ {t : Nat} : adnZ base [.tmp t] ρ H wr = match finV base H (ρ t) with
  | some (v', H', l) => some (v', H', aaCZ base wr l)
  | none => none := (rfl)
@[go_sem] theorem axUZ {t k : Nat} {agg : Bool} : adnZ base [.cell t k agg] ρ H wr = match aamZ H k (ρ t) with
  | some cs => match abnZ agg cs with
   | some v => match finV base H v with
    | some (v', H', l) => some (v', H', aaCZ base wr l)
    | none => none
   | none => none
  | none => none := by
 simp only [adnZ, amCZ, auPZ]
 cases aamZ H k (ρ t) with
 | none => rfl
 | some cs => dsimp only; cases abnZ agg cs <;> rfl
@[go_sem] theorem aDkZ {k : IntKind} {n : Int} : finV base H (.int k n) = some (.int k n, H, []) := (rfl)
@[go_sem] theorem aBxZ {b : Bool} : finV base H (.bool b) = some (.bool b, H, []) := (rfl)
@[go_sem] theorem aDlZ {l : List UInt8} : finV base H (.str l) = some (.str l, H, []) := (rfl)
@[go_sem] theorem aEqZ {f : Bool} {rows : List (List AV)} : finV base H (.sl f rows) = some (.sl false rows, H, []) := (rfl)
@[go_sem] theorem aDmZ {cs : List AV} : finV base H (.agg cs) = fix H (.agg cs) := (rfl)
@[go_sem] theorem aErZ {o v n : Nat} : finV base H (.sr o v n) = match H[o]? with
  | some (.vec v' k rows) => if v' = v /\ rows.length = n /\ base <= o /\ rows.all (fun r => r.all AV.still) then some (.own k rows, aaOZ H [o], [o]) else none
  | _ => none := (rfl)
attribute [go_sem] Nat.le_refl Nat.le_add_right
end
structure Has (A : AProg) (g : String -> Nat) (name : String) (fn : AFn) : Prop where
 fn : A.fn (g name) = some fn
 prim : A.prim (g name) = none
theorem Has.call {A : AProg} {g : String -> Nat} {name : String} {fn : AFn} (h : Has A g name fn) {args : List AV} {H : List AObj} {v : AV} {H' : List AObj} {wr : List Nat}
  (hN : args.length <= fn.ntmps) (hok : aaSZ fn.ntmps ⟨H.length, fn.sites⟩ fn.body = true)
  (hw : wc A fn.ntmps ⟨H.length, fn.sites⟩ fn.body (agcZ args) (H ++ List.replicate fn.sites.length (.gone 0)) [] (ends H.length fn.results (fun v' H'' wr' => v' = v /\ H'' = H' /\ wr' = wr) ⟨⟩) ⟨⟩) :
  aapZ A (g name) args H = some (v, H', wr) := by
 obtain ⟨v1, H1, wr1, h1, rfl, rfl, rfl⟩ := akDZ (K := fun v' H'' wr' => v' = v /\ H'' = H' /\ wr' = wr) h.fn (by rw [h.prim]; rfl) hN hok hw
 exact h1
theorem Has.callEx {A : AProg} {g : String -> Nat} {name : String} {fn : AFn} (h : Has A g name fn) {args : List AV} {H : List AObj} {K : AV -> List AObj -> List Nat -> Prop}
  (hN : args.length <= fn.ntmps) (hok : aaSZ fn.ntmps ⟨H.length, fn.sites⟩ fn.body = true)
  (hw : wc A fn.ntmps ⟨H.length, fn.sites⟩ fn.body (agcZ args) (H ++ List.replicate fn.sites.length (.gone 0)) [] (ends H.length fn.results K ⟨⟩) ⟨⟩) :
  ∃ v H' wr, aapZ A (g name) args H = some (v, H', wr) /\ K v H' wr := akDZ h.fn (by rw [h.prim]; rfl) hN hok hw
def aaYZ (site : Option Nat) (quiet : Bool) (H : List AObj) : Out -> Out
 | none => none
 | some (v, H', wr) =>
  if quiet then
   match v with
   | .own k rows =>
    match site with
    | some id => if id < H'.length then some (.sr id (aaDZ H' id) rows.length, make H' id (.vec · k rows), if wr.contains id then wr else id :: wr) else none
    | none => some (.sl false rows, H', wr)
   | v => some (v, H', wr)
  else if wr.isEmpty && decide (H'.length = H.length) && v.atomic then some (v, H, []) else none
@[go_sem] theorem awrZ {site : Option Nat} {q : Bool} {H : List AObj} {v : AV} {H' : List AObj} {wr : List Nat} : aaYZ site q H (some (v, H', wr)) = (if q then
   match v with
   | .own k rows =>
    match site with
    | some id => if id < H'.length then some (.sr id (aaDZ H' id) rows.length, make H' id (.vec · k rows), if wr.contains id then wr else id :: wr) else none
    | none => some (.sl false rows, H', wr)
   | v => some (v, H', wr)
  else if wr.isEmpty && decide (H'.length = H.length) && v.atomic then some (v, H, []) else none) := (rfl)
@[go_sem] theorem aokZ {call : Nat -> List AV -> List AObj -> Out} {H : List AObj} {site : Option Nat} {f : Nat} {first caps args : List AV} : abrZ call H site (.fn f first caps) args =
  match aeYZ H (first ++ args ++ caps) with
  | none => none
  | some (args', lent) => aaYZ site lent.isEmpty H (call f (args'.map AV.strip) (aaOZ H lent)) := by
 show (match aeYZ H (first ++ args ++ caps) with
  | none => none
  | some (args', lent) => _) = _
 cases aeYZ H (first ++ args ++ caps) with
 | none => rfl
 | some p =>
  dsimp only
  cases call f (p.1.map AV.strip) (aaOZ H p.2) with
  | none => rfl
  | some r => obtain ⟨v, H', wr⟩ := r; cases v <;> rfl
theorem auVZ {A : AProg} {f : Nat} {args : List AV} {H H2 : List AObj} {site : Option Nat} {q : Bool} {k : AV × List AObj × List Nat -> Prop} {tg} {R : AV -> List AObj -> List Nat -> Prop}
  (h : ∃ v H' wr, aapZ A f args H = some (v, H', wr) /\ R v H' wr) (hk : ∀ v H' wr, R v H' wr -> bnd (aaYZ site q H2 (some (v, H', wr))) k) : amDZ (aaYZ site q H2 (aapZ A f args H)) k tg := by
 obtain ⟨v, H', wr, h1, h2⟩ := h
 rw [h1]
 exact hk v H' wr h2
end Go.AM
end
section
set_option maxRecDepth 8000
namespace Go.AM
open Go
def acrZ (ops : List AOper) : List Nat := ops.filterMap AOper.dst
def dsts : ACode -> List Nat | .region _ ops => acrZ ops | .seq a b => dsts a ++ dsts b | .cond _ a b => dsts a ++ dsts b | .block _ b => dsts b | .loop b => dsts b | .frz ts => ts.map Prod.snd | _ => []
def aaZZ (W : List Nat) (l l' : List AV) : Prop := ∀ t, W.contains t = false -> l'[t]? = l[t]?
theorem aaZZ.refl {W : List Nat} {l : List AV} : aaZZ W l l := fun _ _ => rfl
theorem aaZZ.trans {W : List Nat} {l l' l'' : List AV} (h1 : aaZZ W l l') (h2 : aaZZ W l' l'') : aaZZ W l l'' := fun t ht => (h2 t ht).trans (h1 t ht)
theorem aaZZ.sub {W W' : List Nat} {l l' : List AV} (h : aaZZ W l l') (hs : ∀ t ∈ W, t ∈ W') : aaZZ W' l l' := fun t ht => h t (by
 rw [Bool.eq_false_iff] at ht ⊢
 intro hc
 exact ht (List.contains_iff_mem.2 (hs t (List.contains_iff_mem.1 hc))))
theorem afjZ {o : AOper} {l : List AV} {v : AV} : aaZZ (acrZ [o]) l (putSlot l o.dst v) := by
 intro t ht
 unfold putSlot
 cases hd : o.dst with
 | none => rfl
 | some d =>
  have : d ≠ t := by
   intro e
   subst e
   simp [acrZ, hd] at ht
  exact List.getElem?_set_ne this
theorem ahhZ {o : AOper} {r : List AOper} : acrZ (o :: r) = acrZ [o] ++ acrZ r := by
 unfold acrZ
 simp only [List.filterMap_cons, List.filterMap_nil]
 cases o.dst <;> rfl
theorem ajoZ {call : Nat -> List AV -> List AObj -> Out} {c : Ctx} : ∀ {ops : List AOper} {s s' : ASt}, adRZ call c ops s = some s' -> aaZZ (acrZ ops) s.ρ s'.ρ
 | [], _, _, h => by cases h; exact .refl
 | o :: r, s, s', h => by
  rw [ahhZ]
  unfold adRZ at h
  split at h
  ·split at h
   ·split at h
    ·rename_i v H' wr he
     exact (afjZ.sub (l' := putSlot s.ρ o.dst v) fun t ht => List.mem_append_left _ ht).trans ((ajoZ h).sub fun t ht => List.mem_append_right _ ht)
    ·cases h
   ·exact (afjZ.sub (l' := putSlot s.ρ o.dst (.tup [])) fun t ht => List.mem_append_left _ ht).trans ((ajoZ h).sub fun t ht => List.mem_append_right _ ht)
  ·cases h
theorem ahVZ {call : Nat -> List AV -> List AObj -> Out} {c : Ctx} : ∀ {ops : List AOper} {i : Nat} {s s' : ASt} {log : Log}, aeAZ call c i ops s = some (s', log) -> aaZZ (acrZ ops) s.ρ s'.ρ
 | [], _, _, _, _, h => by cases h; exact .refl
 | o :: r, i, s, s', log, h => by
  rw [ahhZ]
  unfold aeAZ at h
  split at h
  ·split at h
   ·split at h
    ·rename_i v H' rd wr he
     split at h
     ·rename_i s1 log1 hr
      cases h
      exact (afjZ.sub (l' := putSlot s.ρ o.dst v) fun t ht => List.mem_append_left _ ht).trans ((ahVZ hr).sub fun t ht => List.mem_append_right _ ht)
     ·cases h
    ·cases h
   ·exact (afjZ.sub (l' := putSlot s.ρ o.dst (.tup [])) fun t ht => List.mem_append_left _ ht).trans ((ahVZ h).sub fun t ht => List.mem_append_right _ ht)
  ·cases h
theorem ahiZ {c : Ctx} : ∀ {ts : List (Nat × Nat)} {s s' : ASt}, afhZ c s ts = some s' -> aaZZ (ts.map Prod.snd) s.ρ s'.ρ
 | [], _, _, h => by cases h; exact .refl
 | (k + 1, t) :: r, s, s', h => by
  have hs : ∀ u ∈ r.map Prod.snd, u ∈ ((k + 1, t) :: r).map Prod.snd := fun u hu => List.mem_cons_of_mem _ hu
  unfold afhZ at h
  split at h
  ·exact (ahiZ h).sub hs
  ·split at h
   ·split at h
    ·split at h
     ·exact (ahiZ h).sub hs
     ·cases h
    ·cases h
   ·cases h
 | (0, t) :: r, s, s', h => by
  unfold afhZ at h
  split at h
  ·rename_i v H' l hf
   have h1 := (ahiZ h).sub (W' := ((0, t) :: r).map Prod.snd) fun u hu => List.mem_cons_of_mem _ hu
   refine aaZZ.trans (fun u hu => ?_) h1
   refine List.getElem?_set_ne fun e => ?_
   subst e
   simp at hu
  ·cases h
theorem abmZ {A : AProg} : ∀ (n : Nat) (c : Ctx) (x : ACode) (s : ASt) e s', aaNZ A n c x s = some (e, s') -> aaZZ (dsts x) s.ρ s'.ρ
 | 0, c, x, s, e, s', h => by rw [acgZ] at h; cases h
 | n + 1, c, x, s, e, s', h => by
  cases x with
  | skip => rw [ahcZ] at h; cases h; exact .refl
  | bad => rw [agLZ] at h; cases h
  | region d ops =>
   rw [acyZ] at h
   split at h
   ·rename_i s1 hr
    cases h
    unfold actZ at hr
    split at hr
    ·split at hr
     ·split at hr
      ·rename_i hd
       split at hr
       ·cases hr
        have h9 := ahVZ hd
        exact h9
       ·cases hr
      ·cases hr
     ·cases hr
    ·split at hr
     ·cases hr
     ·exact ajoZ hr
   ·cases h
  | seq a b =>
   have ha : ∀ t ∈ dsts a, t ∈ dsts (.seq a b) := fun t ht => List.mem_append_left _ ht
   have hb : ∀ t ∈ dsts b, t ∈ dsts (.seq a b) := fun t ht => List.mem_append_right _ ht
   rw [aclZ] at h
   split at h
   ·rename_i s1 hr; exact ((abmZ n _ _ _ _ _ hr).sub ha).trans ((abmZ n _ _ _ _ _ h).sub hb)
   ·exact (abmZ n _ _ _ _ _ h).sub ha
  | cond t a b =>
   have ha : ∀ u ∈ dsts a, u ∈ dsts (.cond t a b) := fun t ht => List.mem_append_left _ ht
   have hb : ∀ u ∈ dsts b, u ∈ dsts (.cond t a b) := fun t ht => List.mem_append_right _ ht
   rw [aczZ] at h
   split at h
   ·exact (abmZ n _ _ _ _ _ h).sub ha
   ·exact (abmZ n _ _ _ _ _ h).sub hb
   ·cases h
  | block id b =>
   rw [ablZ] at h
   show aaZZ (dsts b) _ _
   split at h
   ·rename_i hr
    split at h <;> (cases h; exact abmZ n _ _ _ _ _ hr)
   ·exact abmZ n _ _ _ _ _ h
  | loop b =>
   rw [abDZ] at h
   show aaZZ (dsts b) _ _
   split at h
   ·rename_i s1 hr
    have h9 := abmZ n _ _ _ _ _ h
    exact aaZZ.trans (abmZ n _ _ _ _ _ hr) h9
   ·exact abmZ n _ _ _ _ _ h
  | exit id => rw [ajkZ] at h; cases h; exact .refl
  | ret => rw [akCZ] at h; cases h; exact .refl
  | frz ts =>
   rw [agMZ] at h
   split at h
   ·rename_i s1 hr; cases h; exact ahiZ hr
   ·cases h
theorem aaZZ.fenv {W : List Nat} {l l' : List AV} (h : aaZZ W l l') : ∀ t, W.contains t = false -> fenv l' t = fenv l t := fun t ht => by
 unfold Go.AM.fenv; rw [h t ht]
theorem Wp.slots {A : AProg} {N : Nat} {c : Ctx} {x : ACode} {ρ : SEnv} {H : List AObj} {wr : List Nat} {Q} (h : Wp A N c x ρ H wr Q) :
  Wp A N c x ρ H wr fun e ρ' H' wr' => Q e ρ' H' wr' /\ ∀ t, (dsts x).contains t = false -> ρ' t = ρ t := fun l hl he => by
 obtain ⟨n, e, s', h1, h2, h3⟩ := h l hl he
 refine ⟨n, e, s', h1, h2, h3, fun t ht => ?_⟩
 rw [<- he]
 exact (abmZ n _ _ _ _ _ h1).fenv t ht
abbrev SlFr (W : List Nat) (ρ ρ' : SEnv) : Prop := ∀ t, W.contains t = false -> ρ' t = ρ t
theorem SlFr.mono {W W' : List Nat} {ρ ρ' : SEnv} (h : SlFr W ρ ρ') (hs : ∀ t ∈ W, t ∈ W') : SlFr W' ρ ρ' := fun t ht => h t (by
 rw [Bool.eq_false_iff] at ht ⊢
 intro hc
 exact ht (List.contains_iff_mem.2 (hs t (List.contains_iff_mem.1 hc))))
theorem SlFr.trans {W : List Nat} {ρ ρ' ρ'' : SEnv} (h1 : SlFr W ρ ρ') (h2 : SlFr W ρ' ρ'') : SlFr W ρ ρ'' := fun t ht => (h2 t ht).trans (h1 t ht)
theorem auWZ {o : AOper} {ρ : SEnv} {v : AV} : SlFr (acrZ [o]) ρ (updO ρ o.dst v) := by
 intro t ht
 unfold updO
 cases hd : o.dst with
 | none => rfl
 | some d =>
  refine amFZ fun e => ?_
  subst e
  simp [acrZ, hd] at ht
theorem ahjZ {call : Nat -> List AV -> List AObj -> Out} {c : Ctx} : ∀ {ops : List AOper} {ρ : SEnv} {H : List AObj} {wr : List Nat} {K K' : SEnv -> List AObj -> List Nat -> Prop},
  (∀ ρ' H' wr', K ρ' H' wr' -> SlFr (acrZ ops) ρ ρ' -> K' ρ' H' wr') -> aiRZ call c ops ρ H wr K -> aiRZ call c ops ρ H wr K'
 | [], _, _, _, _, _, hk, h => hk _ _ _ h fun _ _ => rfl
 | o :: r, ρ, H, wr, K, K', hk, h => by
  rw [ahhZ] at hk
  have go : ∀ v, SlFr (acrZ [o] ++ acrZ r) ρ (updO ρ o.dst v) := fun v => auWZ.mono fun t ht => List.mem_append_left _ ht
  have up : ∀ t ∈ acrZ r, t ∈ acrZ [o] ++ acrZ r := fun t ht => List.mem_append_right _ ht
  unfold aiRZ at h ⊢
  split at h
  ·cases h
  ·exact ahjZ (fun ρ' H' wr' hh hf => hk _ _ _ hh ((go _).trans (hf.mono up))) h
  ·split at h
   ·cases h
   ·exact ahjZ (fun ρ' H' wr' hh hf => hk _ _ _ hh ((go _).trans (hf.mono up))) h
theorem ajUZ {call : Nat -> List AV -> List AObj -> Out} {c : Ctx} {keep : List Nat} : ∀ {ops : List AOper} {i : Nat} {ρ : SEnv} {H : List AObj} {wr : List Nat} {K K' : SEnv -> List AObj -> List Nat -> Log -> Prop},
  (∀ ρ' H' wr' log, K ρ' H' wr' log -> SlFr (acrZ ops) ρ ρ' -> K' ρ' H' wr' log) -> wpD call c keep i ops ρ H wr K -> wpD call c keep i ops ρ H wr K'
 | [], _, _, _, _, _, _, hk, h => hk _ _ _ _ h fun _ _ => rfl
 | o :: r, i, ρ, H, wr, K, K', hk, h => by
  rw [ahhZ] at hk
  have go : ∀ v, SlFr (acrZ [o] ++ acrZ r) ρ (updO ρ o.dst v) := fun v => auWZ.mono fun t ht => List.mem_append_left _ ht
  have up : ∀ t ∈ acrZ r, t ∈ acrZ [o] ++ acrZ r := fun t ht => List.mem_append_right _ ht
  unfold wpD at h ⊢
  split at h
  ·cases h
  ·exact ajUZ (fun ρ' H' wr' log hh hf => hk _ _ _ _ hh ((go _).trans (hf.mono up))) h
  ·split at h
   ·cases h
   ·refine ajUZ (fun ρ' H' wr' log hh hf => ?_) h
    split at hh
    ·rename_i hc; rw [if_pos hc]; exact hk _ _ _ _ hh ((go _).trans (hf.mono up))
    ·rename_i hc; rw [if_neg hc]; exact hk _ _ _ _ hh ((go _).trans (hf.mono up))
theorem ahkZ {c : Ctx} : ∀ {ts : List (Nat × Nat)} {ρ : SEnv} {H : List AObj} {wr : List Nat} {K K' : SEnv -> List AObj -> List Nat -> Prop},
  (∀ ρ' H' wr', K ρ' H' wr' -> SlFr (ts.map Prod.snd) ρ ρ' -> K' ρ' H' wr') -> ajSZ c ts ρ H wr K -> ajSZ c ts ρ H wr K'
 | [], _, _, _, _, _, hk, h => hk _ _ _ h fun _ _ => rfl
 | (k + 1, t) :: r, ρ, H, wr, K, K', hk, h => by
  have up : ∀ u ∈ r.map Prod.snd, u ∈ ((k + 1, t) :: r).map Prod.snd := fun u hu => List.mem_cons_of_mem _ hu
  unfold ajSZ at h ⊢
  split at h
  ·rename_i hc
   rw [if_pos hc]
   exact ahkZ (fun ρ' H' wr' hh hf => hk _ _ _ hh (hf.mono up)) h
  ·rename_i hc
   rw [if_neg hc]
   split at h
   ·split at h
    ·split at h
     ·exact ahkZ (fun ρ' H' wr' hh hf => hk _ _ _ hh (hf.mono up)) h
     ·cases h
    ·cases h
   ·cases h
 | (0, t) :: r, ρ, H, wr, K, K', hk, h => by
  have up : ∀ u ∈ r.map Prod.snd, u ∈ ((0, t) :: r).map Prod.snd := fun u hu => List.mem_cons_of_mem _ hu
  have go : ∀ v, SlFr (((0, t) :: r).map Prod.snd) ρ (upd ρ t v) := fun v u hu => amFZ fun e => by subst e; simp at hu
  unfold ajSZ at h ⊢
  split at h
  ·exact ahkZ (fun ρ' H' wr' hh hf => hk _ _ _ hh ((go _).trans (hf.mono up))) h
  ·cases h
theorem abUZ {A : AProg} {N : Nat} {c : Ctx} : ∀ {x : ACode} {ρ : SEnv} {H : List AObj} {wr : List Nat} {Q Q' : AExit -> SEnv -> List AObj -> List Nat -> Prop},
  (∀ e ρ' H' wr', Q e ρ' H' wr' -> SlFr (dsts x) ρ ρ' -> Q' e ρ' H' wr') -> wpc A N c x ρ H wr Q -> wpc A N c x ρ H wr Q'
 | .skip, ρ, H, wr, Q, Q', hq, h => hq _ _ _ _ h fun _ _ => rfl
 | .bad, _, _, _, _, _, _, h => h.elim
 | .region false ops, ρ, H, wr, Q, Q', hq, h => by
  rw [wpc] at h ⊢
  exact ahjZ (fun ρ' H' wr' hh hf => hq _ _ _ _ hh hf) h
 | .region true ops, ρ, H, wr, Q, Q', hq, h => by
  rw [wpc] at h ⊢
  split at h
  ·exact ajUZ (fun ρ' H' wr' log hh hf => ⟨hh.1, hq _ _ _ _ hh.2 hf⟩) h
  ·exact h.elim
 | .seq a b, ρ, H, wr, Q, Q', hq, h => by
  have ha : ∀ t ∈ dsts a, t ∈ dsts (.seq a b) := fun t ht => List.mem_append_left _ ht
  have hb : ∀ t ∈ dsts b, t ∈ dsts (.seq a b) := fun t ht => List.mem_append_right _ ht
  rw [wpc] at h ⊢
  refine abUZ (fun e ρ' H' wr' hh hf => ?_) h
  cases e with
  | normal => exact abUZ (fun e ρ2 H2 wr2 h2 hf2 => hq _ _ _ _ h2 ((hf.mono ha).trans (hf2.mono hb))) hh
  | ret => exact hq _ _ _ _ hh (hf.mono ha)
  | exit id => exact hq _ _ _ _ hh (hf.mono ha)
 | .cond t a b, ρ, H, wr, Q, Q', hq, h => by
  have ha : ∀ u ∈ dsts a, u ∈ dsts (.cond t a b) := fun t ht => List.mem_append_left _ ht
  have hb : ∀ u ∈ dsts b, u ∈ dsts (.cond t a b) := fun t ht => List.mem_append_right _ ht
  rw [wpc] at h ⊢
  split at h
  ·exact abUZ (fun e ρ' H' wr' hh hf => hq _ _ _ _ hh (hf.mono ha)) h
  ·exact abUZ (fun e ρ' H' wr' hh hf => hq _ _ _ _ hh (hf.mono hb)) h
  ·exact h.elim
 | .block id b, ρ, H, wr, Q, Q', hq, h => by
  rw [wpc] at h ⊢
  refine abUZ (x := b) (fun e ρ' H' wr' hh hf => ?_) h
  cases e with
  | normal => exact hq _ _ _ _ hh hf
  | ret => exact hq _ _ _ _ hh hf
  | exit id' =>
   dsimp only at hh ⊢
   split at hh
   ·rename_i hc; rw [if_pos hc]; exact hq _ _ _ _ hh hf
   ·rename_i hc; rw [if_neg hc]; exact hq _ _ _ _ hh hf
 | .loop b, ρ, H, wr, Q, Q', hq, h => by
  rw [wpc] at h ⊢
  exact h.slots.mono fun e ρ' H' wr' hh => hq _ _ _ _ hh.1 hh.2
 | .exit id, ρ, H, wr, Q, Q', hq, h => hq _ _ _ _ h fun _ _ => rfl
 | .ret, ρ, H, wr, Q, Q', hq, h => hq _ _ _ _ h fun _ _ => rfl
 | .frz ts, ρ, H, wr, Q, Q', hq, h => by
  rw [wpc] at h ⊢
  exact ahkZ (fun ρ' H' wr' hh hf => hq _ _ _ _ hh hf) h
def cutQ (P : SEnv -> List AObj -> List Nat -> Prop) (tg : Tg P) : AExit -> SEnv -> List AObj -> List Nat -> Prop := fun e ρ H wr => match e with
 | .normal => P ρ H wr
 | _ => False
@[go_sem] theorem ayRZ {P : SEnv -> List AObj -> List Nat -> Prop} {t : Tg P} {ρ : SEnv} {H : List AObj} {wr : List Nat} : cutQ P t .normal ρ H wr = P ρ H wr := (rfl)
theorem axVZ {A : AProg} {N : Nat} {c : Ctx} {x : ACode} {ρ : SEnv} {H : List AObj} {wr : List Nat} {Q : AExit -> SEnv -> List AObj -> List Nat -> Prop} {tg} {W : List Nat} (P : SEnv -> List AObj -> List Nat -> Prop)
  (hW : dsts x = W) (h1 : wc A N c x ρ H wr (cutQ P ⟨⟩) ⟨⟩) (h2 : ∀ ρ' H' wr', P ρ' H' wr' -> (∀ t, W.contains t = false -> ρ' t = ρ t) -> Q .normal ρ' H' wr') : wc A N c x ρ H wr Q tg := by
 subst hW
 refine abUZ (fun e ρ' H' wr' hh hf => ?_) h1
 cases e with
 | normal => exact h2 _ _ _ hh hf
 | ret => exact hh.elim
 | exit id => exact hh.elim
def forQ (I : Nat -> SEnv -> List AObj -> List Nat -> Prop) (M i : Nat) (Q : AExit -> SEnv -> List AObj -> List Nat -> Prop) (tg : Tg (I, Q)) : AExit -> SEnv -> List AObj -> List Nat -> Prop := fun e ρ H wr => match e with
 | .normal => i < M /\ I (i + 1) ρ H wr
 | e => Q e ρ H wr
section
variable {A : AProg} {N : Nat} {c : Ctx} {ρ ρ' : SEnv} {H H' : List AObj} {wr wr' : List Nat} {Q : AExit -> SEnv -> List AObj -> List Nat -> Prop} {I : Nat -> SEnv -> List AObj -> List Nat -> Prop} {M i : Nat}
@[go_sem] theorem aySZ {t : Tg (I, Q)} : forQ I M i Q t .normal ρ H wr = (i < M /\ I (i + 1) ρ H wr) := (rfl)
@[go_sem] theorem aDnZ {t : Tg (I, Q)} : forQ I M i Q t .ret ρ H wr = Q .ret ρ H wr := (rfl)
@[go_sem] theorem aByZ {t : Tg (I, Q)} {id : Nat} : forQ I M i Q t (.exit id) ρ H wr = Q (.exit id) ρ H wr := (rfl)
theorem asrZ {b : ACode} {tg : Tg (A, N, c, b, Q)} {W : List Nat} (I : Nat -> SEnv -> List AObj -> List Nat -> Prop) (M : Nat) (hok : aaSZ N c b = true) (hW : dsts b = W) (h0 : I 0 ρ H wr)
  (hs : ∀ i ρ1 H1 wr1, i <= M -> I i ρ1 H1 wr1 -> (∀ t, W.contains t = false -> ρ1 t = ρ t) -> wc A N c b ρ1 H1 wr1 (forQ I M i Q ⟨⟩) ⟨⟩) :
  wl A N c b ρ H wr Q tg := by
 have key : ∀ k i ρ1 H1 wr1, i + k = M -> I i ρ1 H1 wr1 -> (∀ t, W.contains t = false -> ρ1 t = ρ t) -> Wp A N c (.loop b) ρ1 H1 wr1 Q := by
  intro k
  induction k with
  | zero =>
   intro i ρ1 H1 wr1 hk hI hf l hl he
   obtain ⟨n, e, s', h1, h2, h3⟩ := adTZ (hs i ρ1 H1 wr1 (by omega) hI hf) hok l hl he
   by_cases hn : e = .normal
   ·subst hn
    exact absurd h3.1 (by omega)
   ·refine ⟨n + 1, e, s', ?_, h2, ?_⟩
    ·rw [abDZ, h1]
     cases e <;> first | rfl | exact absurd rfl hn
    ·cases e <;> first | exact h3 | exact absurd rfl hn
  | succ k ih =>
   intro i ρ1 H1 wr1 hk hI hf l hl he
   obtain ⟨n, e, s', h1, h2, h3⟩ := adTZ (hs i ρ1 H1 wr1 (by omega) hI hf) hok l hl he
   by_cases hn : e = .normal
   ·subst hn
    have hf2 : ∀ t, W.contains t = false -> fenv s'.ρ t = ρ t := fun t ht => by
     have := (abmZ n _ _ _ _ _ h1).fenv t (by rw [hW]; exact ht)
     rw [this, he]
     exact hf t ht
    obtain ⟨m, e', s'', g1, g2, g3⟩ := ih (i + 1) _ _ _ (by omega) h3.2 hf2 s'.ρ h2 rfl
    refine ⟨max n m + 1, e', s'', ?_, g2, g3⟩
    rw [abDZ, abEZ (Nat.le_max_left n m) _ _ _ _ h1]
    exact abEZ (Nat.le_max_right n m) _ _ _ _ g1
   ·refine ⟨n + 1, e, s', ?_, h2, ?_⟩
    ·rw [abDZ, h1]
     cases e <;> first | rfl | exact absurd rfl hn
    ·cases e <;> first | exact h3 | exact absurd rfl hn
 exact key M 0 ρ H wr (by omega) h0 fun _ _ => rfl
def atxZ (id : Nat) (J : SEnv -> List AObj -> List Nat -> Prop) (Q : AExit -> SEnv -> List AObj -> List Nat -> Prop) (tg : Tg (J, Q)) : AExit -> SEnv -> List AObj -> List Nat -> Prop := fun e ρ H wr => match e with
 | .exit id' => if id' = id then J ρ H wr else Q (.exit id') ρ H wr
 | e => Q e ρ H wr
@[go_sem] theorem aAtZ {id : Nat} {J : SEnv -> List AObj -> List Nat -> Prop} {t : Tg (J, Q)} : atxZ id J Q t (.exit id) ρ H wr = J ρ H wr := by unfold atxZ; dsimp only; rw [if_pos rfl]
@[go_sem] theorem aBzZ {id : Nat} {J : SEnv -> List AObj -> List Nat -> Prop} {t : Tg (J, Q)} : atxZ id J Q t .ret ρ H wr = Q .ret ρ H wr := (rfl)
theorem aaWZ {b : ACode} {tg : Tg (A, N, c, b, Q)} {W : List Nat} {id : Nat} (I : Nat -> SEnv -> List AObj -> List Nat -> Prop) (M : Nat) (J : SEnv -> List AObj -> List Nat -> Prop) (hok : aaSZ N c b = true) (hW : dsts b = W) (h0 : I 0 ρ H wr)
  (hs : ∀ i ρ1 H1 wr1, i <= M -> I i ρ1 H1 wr1 -> (∀ t, W.contains t = false -> ρ1 t = ρ t) -> wc A N c b ρ1 H1 wr1 (forQ I M i (atxZ id J Q ⟨⟩) ⟨⟩) ⟨⟩)
  (hQ : ∀ ρ' H' wr', J ρ' H' wr' -> (∀ t, W.contains t = false -> ρ' t = ρ t) -> Q (.exit id) ρ' H' wr') : wl A N c b ρ H wr Q tg := by
 refine asrZ I M hok hW h0 fun i ρ1 H1 wr1 hi hI hf => ?_
 refine abUZ (fun e ρ' H' wr' hh hf' => ?_) (hs i ρ1 H1 wr1 hi hI hf)
 cases e with
 | normal => exact hh
 | ret => exact hh
 | exit id' =>
  by_cases he : id' = id
  ·subst he
   simp only [forQ, atxZ, if_true] at hh
   exact hQ _ _ _ hh fun t ht => (hf' t (by rw [hW]; exact ht)).trans (hf t ht)
  ·simp only [forQ, atxZ, if_neg he] at hh
   exact hh
end
end Go.AM
end
section
set_option maxRecDepth 8000
namespace Go.AM
open Go
abbrev Str := List UInt8
structure Run where
 lang : Int
 text : Str
 deriving DecidableEq
inductive Expr where
 | mk (op n : Int) (kids : List Expr)
structure Shape where
 kind : Int
 points : List (Int × Int)
 deriving DecidableEq
structure Note where
 step : Int
 length : Int
 alter : Int
 deriving DecidableEq
structure Block where
 kind : Int
 runs : List Run
 expr : Expr
 sumOp : Int
 sumA : List Int
 grid : List (List Str)
 w : Int
 h : Int
 shapes : List Shape
 hands : List (List (List Note))
 lines : List Str
structure Fact where
 kind : Int
 block : Int
 a : Int
 b : Int
 deriving DecidableEq
structure Question where
 kind : Int
 stem : List Run
 options : List Str
 needs : List Int
 key : Str
 points : Int
 reasons : List Str
 deriving DecidableEq
structure Item where
 name : Str
 blocks : List Block
 facts : List Fact
 ask : List Question
structure Exam where
 title : Str
 items : List Item
@[reducible] def vi (n : Int) : AV := .int .i64 n
def aadZ (s : Str) : List AV := [.str s]
def aaqZ (n : Int) : List AV := [vi n]
def afzZ (r : Run) : List AV := [vi r.lang, .str r.text]
mutual
def aaGZ : Expr -> List AV
 | .mk op n kids => [vi op, vi n, .sl false (aegZ kids)]
def aegZ : List Expr -> List (List AV)
 | [] => []
 | e :: r => aaGZ e :: aegZ r
end
def aeKZ (p : Int × Int) : List AV := [vi p.1, vi p.2]
def adBZ (s : Shape) : List AV := [vi s.kind, .sl false (s.points.map aeKZ)]
def aelZ (n : Note) : List AV := [vi n.step, vi n.length, vi n.alter]
def ahWZ (l : List Note) : List AV := [.sl false (l.map aelZ)]
def agnZ (l : List (List Note)) : List AV := [.sl false (l.map ahWZ)]
def ahXZ (l : List Str) : List AV := [.sl false (l.map aadZ)]
def aawZ (b : Block) : List AV := [vi b.kind, .sl false (b.runs.map afzZ)] ++ aaGZ b.expr ++ [vi b.sumOp, .sl false (b.sumA.map aaqZ), .sl false (b.grid.map ahXZ), vi b.w, vi b.h, .sl false (b.shapes.map adBZ),
 .sl false (b.hands.map agnZ), .sl false (b.lines.map aadZ)]
def aaAZ (f : Fact) : List AV := [vi f.kind, vi f.block, vi f.a, vi f.b]
def encQ (q : Question) : List AV := [vi q.kind, .sl false (q.stem.map afzZ), .sl false (q.options.map aadZ), .sl false (q.needs.map aaqZ), .str q.key, vi q.points, .sl false (q.reasons.map aadZ)]
def acjZ (x : Item) : List AV := [.str x.name, .sl false (x.blocks.map aawZ), .sl false (x.facts.map aaAZ), .sl false (x.ask.map encQ)]
def auXZ (x : Exam) : AV := .agg [.str x.title, .sl false (x.items.map acjZ)]
theorem aabZ {α : Type} {f : α -> List AV} (h : ∀ a, acnZ (f a) = true) : ∀ l : List α, abHZ (l.map f) = true
 | [] => rfl
 | a :: r => by simp only [List.map_cons, abHZ, h a, aabZ h r, Bool.and_self]
section
attribute [local simp] acnZ AV.data AV.cellOk vi
theorem abuZ (s : Str) : acnZ (aadZ s) = true := by simp [aadZ]
theorem aasZ (s : Int) : acnZ (aaqZ s) = true := by simp [aaqZ]
theorem aeLZ (s : Run) : acnZ (afzZ s) = true := by simp [afzZ]
mutual
theorem abpZ : ∀ e : Expr, acnZ (aaGZ e) = true
 | .mk op n kids => by
  unfold aaGZ
  simp [aolZ kids]
theorem aolZ : ∀ l : List Expr, abHZ (aegZ l) = true
 | [] => rfl
 | e :: r => by
  unfold aegZ abHZ
  rw [abpZ e, aolZ r]; rfl
end
theorem aomZ (s : Int × Int) : acnZ (aeKZ s) = true := by simp [aeKZ]
theorem aeGZ (s : Shape) : acnZ (adBZ s) = true := by simp [adBZ, aabZ aomZ]
theorem amIZ (s : Note) : acnZ (aelZ s) = true := by simp [aelZ]
theorem apeZ (s : List Note) : acnZ (ahWZ s) = true := by simp [ahWZ, aabZ amIZ]
theorem ahYZ (s : List (List Note)) : acnZ (agnZ s) = true := by simp [agnZ, aabZ apeZ]
theorem ajVZ (s : List Str) : acnZ (ahXZ s) = true := by simp [ahXZ, aabZ abuZ]
theorem aljZ : ∀ {a b : List AV}, acnZ (a ++ b) = (acnZ a && acnZ b)
 | [], b => by simp
 | x :: a, b => by simp [aljZ (a := a) (b := b), Bool.and_assoc]
theorem adCZ (s : Block) : acnZ (aawZ s) = true := by
 simp only [aawZ, aljZ, abpZ]
 simp [aabZ aeLZ, aabZ aasZ, aabZ ajVZ, aabZ aeGZ, aabZ ahYZ, aabZ abuZ]
theorem acHZ (s : Fact) : acnZ (aaAZ s) = true := by simp [aaAZ]
theorem adLZ (s : Question) : acnZ (encQ s) = true := by simp [encQ, aabZ aeLZ, aabZ abuZ, aabZ aasZ]
theorem ajWZ (s : Item) : acnZ (acjZ s) = true := by simp [acjZ, aabZ adCZ, aabZ acHZ, aabZ adLZ]
end
abbrev accZ (n : Int) : Prop := -9223372036854775808 <= n /\ n <= 9223372036854775807
abbrev ahZZ (s : Str) : Prop := s.length <= 1000
structure Run.Ok (r : Run) : Prop where
 lang : accZ r.lang
 text : ahZZ r.text
mutual
def aqiZ : Expr -> Nat
 | .mk _ _ kids => amJZ kids + 1
def amJZ : List Expr -> Nat
 | [] => 0
 | e :: r => aqiZ e + amJZ r
end
inductive Expr.Ok : Expr -> Prop where
 | mk (op n : Int) (kids : List Expr) : accZ op -> accZ n -> kids.length <= 16 -> (∀ e ∈ kids, Expr.Ok e) -> Expr.Ok (.mk op n kids)
structure Shape.Ok (s : Shape) : Prop where
 kind : accZ s.kind
 len : s.points.length <= 16
 points : ∀ p ∈ s.points, accZ p.1 /\ accZ p.2
structure Note.Ok (n : Note) : Prop where
 step : accZ n.step
 length : accZ n.length
 alter : accZ n.alter
structure Block.Ok (b : Block) : Prop where
 kind : accZ b.kind
 lenR : b.runs.length <= 16
 runs : ∀ r ∈ b.runs, r.Ok
 expr : b.expr.Ok
 size : aqiZ b.expr <= 1000
 sumOp : accZ b.sumOp
 lenA : b.sumA.length <= 16
 sumA : ∀ n ∈ b.sumA, accZ n
 lenG : b.grid.length <= 16
 grid : ∀ r ∈ b.grid, r.length <= 16 /\ ∀ s ∈ r, ahZZ s
 w : accZ b.w
 h : accZ b.h
 lenS : b.shapes.length <= 16
 shapes : ∀ s ∈ b.shapes, s.Ok
 lenH : b.hands.length <= 16
 hands : ∀ h ∈ b.hands, h.length <= 16 /\ ∀ l ∈ h, l.length <= 16 /\ ∀ n ∈ l, n.Ok
 lenL : b.lines.length <= 16
 lines : ∀ s ∈ b.lines, ahZZ s
structure Fact.Ok (f : Fact) : Prop where
 kind : accZ f.kind
 block : accZ f.block
 a : accZ f.a
 b : accZ f.b
structure Question.Ok (q : Question) : Prop where
 kind : accZ q.kind
 lenS : q.stem.length <= 16
 stem : ∀ r ∈ q.stem, r.Ok
 lenO : q.options.length <= 16
 options : ∀ s ∈ q.options, ahZZ s
 lenN : q.needs.length <= 16
 needs : ∀ n ∈ q.needs, accZ n
 key : ahZZ q.key
 points : accZ q.points
 lenR : q.reasons.length <= 16
 reasons : ∀ s ∈ q.reasons, ahZZ s
structure Item.Ok (x : Item) : Prop where
 name : ahZZ x.name
 lenB : x.blocks.length <= 16
 blocks : ∀ b ∈ x.blocks, b.Ok
 lenF : x.facts.length <= 16
 facts : ∀ f ∈ x.facts, f.Ok
 lenA : x.ask.length <= 16
 ask : ∀ q ∈ x.ask, q.Ok
structure Exam.Ok (x : Exam) : Prop where
 title : ahZZ x.title
 lenI : x.items.length <= 16
 items : ∀ i ∈ x.items, i.Ok
section
variable {α : Type} {f : Nat -> α -> α} {l : List α} {i : Nat}
end
theorem getElem?_map_of {α β : Type} {f : α -> β} {l : List α} {i : Nat} (h : i < l.length) : (l.map f)[i]? = some (f l[i]) := by
 rw [List.getElem?_map, List.getElem?_eq_getElem h]; rfl
theorem abhZ {i : Nat} (h : i < 4611686018427387904) : IntKind.wrap .i64 ((i : Int) + 1) = ((i + 1 : Nat) : Int) := by
 rw [wrap_i64 (by omega) (by omega)]; rfl
def dec (n : Nat) : Str := if n < 10 then [UInt8.ofNat (48 + n)] else dec (n / 10) ++ [UInt8.ofNat (48 + n % 10)]
decreasing_by omega
theorem apfZ : ∀ (k n : Nat), n < 10 ^ (k + 1) -> (dec n).length <= k + 1
 | 0, n, h => by
  unfold dec
  rw [if_pos (by omega)]
  exact Nat.le_refl _
 | k + 1, n, h => by
  unfold dec
  split
  ·simp
  ·have := apfZ k (n / 10) (by rw [Nat.pow_succ] at h; omega)
   simp only [List.length_append, List.length_cons, List.length_nil]
   omega
abbrev apgZ (A : AProg) (g : String -> Nat) : Prop := ∀ (n : Nat) (H : List AObj), n < 1000000 -> aapZ A (g "strconv.Itoa") [vi n] H = some (.str (dec n), H, [])
end Go.AM
end
section
set_option maxRecDepth 8000
namespace Go.AM
open Go
theorem akFZ {A : AProg} {f : Nat} {args : List AV} {H : List AObj} {v : AV} (h : (A.prim f).bind (· args H) = some (v, [], [])) : aapZ A f args H = some (v, H, []) :=
 ajRZ (n := 0) (by unfold aaXZ; rw [h]; simp [abxZ, adSZ])
end Go.AM
end
section

end
section
set_option maxRecDepth 8000
namespace Go.AM
open Go
inductive GSl (id k : Nat) : List (List AV) -> AV -> AObj -> Prop
 | nil (o : AObj) : GSl id k [] (.sl true []) o
 | obj (ver : Nat) (rows : List (List AV)) : GSl id k rows (.sr id ver rows.length) (.vec ver k rows)
section
variable {id k : Nat} {rows : List (List AV)} {v : AV} {o : AObj}
theorem GSl.cellOk (h : GSl id k rows v o) : v.cellOk = true := by cases h <;> rfl
theorem GSl.strip1 (h : GSl id k rows v o) : v.cells = [v] := by cases h <;> rfl
theorem getElem?_lt {α : Type} {l : List α} {i : Nat} {a : α} (h : l[i]? = some a) : i < l.length := by
 rcases Nat.lt_or_ge i l.length with h1 | h1
 ·exact h1
 ·rw [List.getElem?_eq_none h1] at h; cases h
theorem assZ {α : Type} {l : List α} {i : Nat} {a : α} (h : l[i]? = some a) : l.set i a = l := by
 apply List.ext_getElem?
 intro j
 by_cases e : i = j
 ·subst e; rw [List.getElem?_set_self (getElem?_lt h), h]
 ·rw [List.getElem?_set_ne e]
theorem GSl.app (h : GSl id k rows v o) {new : List (List AV)} {bytes : Nat} (hn : new ≠ []) (hk : abkZ k new = true) (hr : (rows.length + new.length) * (bytes + 1) <= 1099511627776) :
  ∃ v' o', GSl id k (rows ++ new) v' o' /\ ∀ H f, H[id]? = some o -> ahEZ H (some id) k bytes v (.sl f new) = some (v', H.set id o', [id]) := by
 obtain ⟨a, l, rfl⟩ := List.exists_cons_of_ne_nil hn
 have hroom : abNZ (rows.length + (a :: l).length) bytes = true := by unfold abNZ; simpa using hr
 cases h with
 | nil =>
  refine ⟨.sr id (o.ver + 1) (a :: l).length, .vec (o.ver + 1) k (a :: l), GSl.obj _ _, fun H f ho => ?_⟩
  unfold ahEZ
  simp only [adkZ, aeOZ, hk]
  simp only [List.isEmpty_cons, abkZ, BT, Bool.false_eq_true, if_false, Bool.true_and, List.length_nil, Nat.zero_add]
  simp only [List.length_nil, Nat.zero_add] at hroom
  rw [if_pos (by rw [hroom]), if_pos (getElem?_lt ho)]
  simp only [aaDZ, make, ho, Option.elim_some, List.nil_append]
 | obj ver =>
  refine ⟨.sr id ver (rows ++ a :: l).length, .vec ver k (rows ++ a :: l), GSl.obj _ _, fun H f ho => ?_⟩
  unfold ahEZ
  simp only [adkZ, aeOZ, hk]
  simp only [BT, Bool.false_eq_true, if_false, ho, hroom, and_self, if_true, List.isEmpty_cons, List.length_append]
theorem GSl.lend (h : GSl id k rows v o) (hd : abHZ rows = true) : ∃ f l o', (∀ H, H[id]? = some o -> ajDZ H v = some (.sl f rows, l)) /\ (∀ H, H[id]? = some o -> aaOZ H l = H.set id o') /\ (∀ b wr, b <= id -> aaCZ b wr l = wr) := by
 cases h with
 | nil => exact ⟨true, [], o, fun H _ => rfl, fun H ho => by rw [assZ ho]; rfl, fun _ _ _ => rfl⟩
 | obj ver =>
  refine ⟨false, [id], .gone ver, fun H ho => ?_, fun H ho => ?_, fun b wr hb => ?_⟩
  ·show (match H[id]? with
    | some (.vec v' _ rows') => if v' = ver /\ rows'.length = rows.length /\ rows'.all (fun r => r.all AV.still) then some (AV.sl false rows', [id]) else none
    | _ => none) = _
   rw [ho]
   simp only [aatZ hd, and_self, if_true]
  ·simp only [aaOZ, ho]
   rfl
  ·unfold aaCZ
   rw [if_neg (by omega)]
   rfl
end
section
variable {α β : Type} {f : Nat -> α -> β} {l : List α} {i : Nat}
end
end Go.AM
end
section
set_option maxRecDepth 8000
namespace Go.AM
open Go
abbrev ajpZ (A : AProg) (g : String -> Nat) : Prop := ∀ (n : Nat) (H : List AObj), n < 1000000 -> aapZ A (g "dactyl/dactylref23.Decimal") [vi n] H = some (.str (dec n), H, [])
end Go.AM
end
section
set_option maxRecDepth 8000
namespace Go.AM
open Go
theorem alkZ {a b : Int} (h : a ≠ b) : (a == b) = false := by simpa using h
end Go.AM
end
section

end
section
set_option maxRecDepth 8000
namespace Go.AM
open Go
noncomputable def eqv {α : Type} (a b : α) : Bool := @decide (a = b) (Classical.propDecidable _)
theorem aphZ {α : Type} {a b : α} : eqv a b = true ↔ a = b := by unfold eqv; simp
theorem ayTZ {α : Type} [BEq α] [LawfulBEq α] {a b : α} : (a == b) = eqv a b := by
 rw [Bool.eq_iff_iff, aphZ]; simp
theorem beqI {a b : Int} : (a == b) = eqv a b := ayTZ
theorem aDoZ {a b : Note} : eqv a b = (eqv a.step b.step && (eqv a.length b.length && eqv a.alter b.alter)) := by
 rw [Bool.eq_iff_iff]; simp only [Bool.and_eq_true, aphZ]; cases a; cases b; simp
theorem awJZ {a b : Fact} : eqv a b = (eqv a.kind b.kind && (eqv a.block b.block && (eqv a.a b.a && eqv a.b b.b))) := by
 rw [Bool.eq_iff_iff]; simp only [Bool.and_eq_true, aphZ]; cases a; cases b; simp
theorem ajXZ (b : Block) : (aawZ b).length = 13 := by
 obtain ⟨_, _,⟨_, _, _⟩, _, _, _, _, _, _, _, _⟩ := b
 rfl
section
end
end Go.AM
end
section
set_option maxRecDepth 8000
namespace Go.AM
open Go
def ajYZ (b : Nat) (H : List AObj) (o : Nat) : Bool := match H[o]? with
 | some x => x.under b
 | none => true
@[go_sem] theorem ayUZ {base o : Nat} {v : AV} {H : List AObj} (h : v.under base = true) (h2 : ajYZ base H o = true) : aaVZ base (v, H, [o]) = (v, H.take base, [o]) :=
 atwZ h (by rw [List.all_cons, List.all_nil, Bool.and_true]; exact h2)
theorem allZ {b o : Nat} {H : List AObj} {x : AObj} (h : o < H.length) : ajYZ b (H.set o x) o = x.under b := by
 unfold ajYZ; rw [List.getElem?_set_self h]
theorem aajZ {b o : Nat} {H L : List AObj} {x : AObj} (h : o < H.length) : ajYZ b (H.set o x ++ L) o = x.under b := by
 unfold ajYZ; rw [aagZ h]
theorem GSl.len {id k : Nat} {rows : List (List AV)} {v : AV} {o : AObj} (h : GSl id k rows v o) : vLen v = some (.int .i64 rows.length) := by cases h <;> rfl
theorem GSl.inv {id k : Nat} {rows : List (List AV)} {v : AV} {o : AObj} (h : GSl id k rows v o) (hne : rows ≠ []) : ∃ ver, v = .sr id ver rows.length /\ o = .vec ver k rows := by
 cases h with
 | nil => exact absurd rfl hne
 | obj ver => exact ⟨ver, rfl, rfl⟩
end Go.AM
end
