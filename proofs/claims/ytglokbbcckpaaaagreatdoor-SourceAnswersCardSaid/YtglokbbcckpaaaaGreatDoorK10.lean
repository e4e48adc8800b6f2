/- Part 10 of the proof that stands in the last text of this folder (lemmas; no statement of its own). -/
import Derived.Test.YtglokbbcckpaaaaGreatDoorK09
set_option linter.unusedVariables false
set_option linter.unusedSimpArgs false
section
namespace Go.AM
open Go
section
variable {P : Program} {glob : Glob} {ops : Array Oper} {call : Nat -> List AV -> List AObj -> Out} {c : Ctx} {tr : List (AOper × Rec)} {ρ0 : List AV} {H0 : List AObj} {wr' : List Nat}
variable {g0 : G} {w0 : World} {d : List Deferred} {L : Nat -> Bool} {g : G} {a : Act} {w : World}
theorem Does.mono {o : Oper} {R R' : Value -> World -> Prop} (h : Does P o a w R) (hr : ∀ v w', R v w' -> R' v w') : Does P o a w R' := by
 rcases h with ⟨v, w', h1, h2⟩ | ⟨w', h1, h2⟩ | ⟨f, args, w1, h1, h2⟩
 ·exact .inl ⟨v, w', h1, hr _ _ h2⟩
 ·exact .inr (.inl ⟨w', h1, hr _ _ h2⟩)
 ·exact .inr (.inr ⟨f, args, w1, h1, h2.mono fun e w' he => by cases e <;> first | exact hr _ _ he | exact he⟩)
theorem aslZ {c : Ctx} {d1 d2 : Option Nat} {id : Nat} (h1 : c.site d1 = some id) (h2 : c.site d2 = some id) : d1 = d2 /\ ∃ t, d1 = some t := by
 unfold Ctx.site at h1 h2
 cases d1 with
 | none => simp at h1
 | some t1 =>
  cases d2 with
  | none => simp at h2
  | some t2 =>
   simp only at h1 h2
   obtain ⟨i1, e1, f1⟩ := map_some h1
   obtain ⟨i2, e2, f2⟩ := map_some h2
   have : i1 = i2 := by omega
   subst this
   obtain ⟨x1, y1, _⟩ := List.findIdx?_eq_some_iff_getElem.1 e1
   obtain ⟨x2, y2, _⟩ := List.findIdx?_eq_some_iff_getElem.1 e2
   have z1 : c.sites[i1] = t1 := by simpa using y1
   have z2 : c.sites[i1] = t2 := by simpa using y2
   exact ⟨by rw [<- z1, <- z2], t1, rfl⟩
theorem Env.alloc_rec (E : Env P glob ops call c tr ρ0 H0 wr') {k : Nat} {o : AOper} {r : Rec} {zs : List AV} {id : Nat} (hk : tr[k]? = some (o, r)) (ho : o.op = .alloc zs) (hs : c.site o.dst = some id) :
  r.want = true /\ r.rd = [id] /\ r.wr = none /\ r.v = .ptr id (((aaIZ H0 tr k)[id]?).elim 0 AObj.ver) 0 := by
 obtain ⟨h1, h2, h3, h4⟩ := E.halloc k o r zs id hk ho hs
 have hr := E.ok k o r hk
 have hw : r.want = true := by rw [hr.want]; unfold wanted; rw [h1]
 have := hr.yes hw
 unfold amfZ at this
 rw [ho, hs] at this
 simp only [Option.some.injEq, Prod.mk.injEq] at this
 obtain ⟨e1, _, e3, e4⟩ := this
 exact ⟨hw, e3.symm, e4.symm, e1.symm⟩
theorem ajOZ {α : Type} {f : α -> AOp} {x : Option α} {y : AOp} (h : x.map f = some y) (hf : ∀ z, f z ≠ y) : False := by
 obtain ⟨z, _, hz⟩ := map_some h
 exact hf z hz
theorem auGZ {dst op type pos after guard zs} (hcop : cOp P glob ⟨dst, op, type, pos, after, guard⟩ = some (.alloc zs)) : ∃ t, op = .alloc t /\ zeroCells? P glob t = some zs := by
 unfold cOp at hcop
 dsimp only at hcop
 split at hcop
 case h_4 =>
  split at hcop
  ·exact (ajOZ hcop fun z hz => by cases hz).elim
  ·obtain ⟨x, hx, hxx⟩ := map_some hcop
   cases hxx
   exact ⟨_, rfl, hx⟩
 all_goals exfalso
 all_goals repeat' split at hcop
 all_goals first
  | (exact ajOZ hcop (fun z hz => by cases hz))
  | (simp at hcop; done)
  | skip
theorem Inv.apart (E : Env P glob ops call c tr ρ0 H0 wr') (I : Inv glob c tr ρ0 H0 wr' g0 w0 d L g a w) {k : Nat} {o : AOper} {r : Rec} {zs : List AV} {id : Nat} (hk : tr[k]? = some (o, r)) (ho : o.op = .alloc zs) (hs : c.site o.dst = some id) (hL : L k = false)
  {i : Nat} {oi : AOper} {ri : Rec} (hi : tr[i]? = some (oi, ri)) (hLi : L i = true ∨ ∀ x ∈ oi.pre, L x = true) (hw : ri.wr ≠ none) : id ∉ ri.wr.getD [] := by
 obtain ⟨h1, h2, h3, h4⟩ := E.alloc_rec hk ho hs
 obtain ⟨ws, hws⟩ := Option.ne_none_iff_exists'.1 hw
 have hpre : ∀ x ∈ oi.pre, L x = true := by
  rcases hLi with h | h
  ·exact I.closed i oi ri hi h
  ·exact h
 rcases Nat.lt_trichotomy k i with h | h | h
 ·have := E.pair k i o r oi ri h hk hi h1 (E.wants hi hw)
  rcases this with this | this
  ·rw [hpre k this] at hL; cases hL
  ·rw [h3, hws] at this; rw [hws]; exact this id (by rw [h2]; simp)
 ·subst h; rw [hk] at hi; cases hi; exact absurd h3 hw
 ·have := E.pair i k oi ri o r h hi hk (E.wants hi hw) h1
  rcases this with this | this
  ·rw [(E.halloc k o r zs id hk ho hs).2.1] at this; simp at this
  ·rw [h3, hws] at this; rw [hws]; exact this id (by rw [h2]; simp)
theorem Inv.go (E : Env P glob ops call c tr ρ0 H0 wr') (I : Inv glob c tr ρ0 H0 wr' g0 w0 d L g a w) {i : Nat} {o : AOper} {r : Rec} (hi : tr[i]? = some (o, r)) (hL : L i = false) (hp : ∀ x ∈ o.pre, L x = true)
  {oo : Oper} {x : Value} {g' : G} {w' : World} (hoo : o.dst = oo.dst) (hle : g.le g') (hv : VRel g' r.v x)
  (hpos : ∃ m, m <= tr.length /\ (∀ (k : Nat) ok rk, tr[k]? = some (ok, rk) -> rk.wr ≠ none -> ((L k || k == i) = true ↔ k < m)) /\ ∃ W, Step g0 H0 w0 g' (aaIZ H0 tr m) w' W /\ ∀ o ∈ W, o < c.base -> o ∈ wr')
  (hunb : ∀ (k : Nat) ok rk zs id, tr[k]? = some (ok, rk) -> ok.op = .alloc zs -> c.site ok.dst = some id -> k ≠ i -> L k = false -> g'.obj id = g.obj id) :
  Inv glob c tr ρ0 H0 wr' g0 w0 d (fun j => L j || j == i) g' (a.put oo.dst x) w' := by
 refine ⟨fun k ok rk hk hLk y hy => ?_, hpos, ?_, by rw [akyZ, I.defers], I.glob.mono hle, fun k ok rk zs id hk ho hs hLk l hl => ?_⟩
 ·simp only [Bool.or_eq_true, beq_iff_eq] at hLk ⊢
  rcases hLk with h | h
  ·exact .inl (I.closed k ok rk hk h y hy)
  ·subst h; rw [hi] at hk; cases hk; exact .inl (hp y hy)
 ·rw [<- hoo]; exact I.put E hi hL hle hv
 ·simp only [Bool.or_eq_false_iff, beq_eq_false_iff_ne] at hLk
  rw [hunb k ok rk zs id hk ho hs hLk.2 hLk.1] at hl
  exact I.unb k ok rk zs id hk ho hs hLk.1 l hl
theorem Inv.no (E : Env P glob ops call c tr ρ0 H0 wr') (I : Inv glob c tr ρ0 H0 wr' g0 w0 d L g a w) {i : Nat} {o : AOper} {r : Rec} (hi : tr[i]? = some (o, r)) (hL : L i = false) (hp : ∀ x ∈ o.pre, L x = true)
  {oo : Oper} (hoo : o.dst = oo.dst) (hw : r.want = false) : Inv glob c tr ρ0 H0 wr' g0 w0 d (fun j => L j || j == i) g (a.put oo.dst Go.undef) w := by
 obtain ⟨h1, h2, h3, h4⟩ := (E.ok i o r hi).no hw
 refine I.go E hi hL hp hoo (G.le.refl g) (by rw [h1]; exact .skip _) ?_ fun _ _ _ _ _ _ _ _ _ _ => rfl
 obtain ⟨m, hm, hpos, W, hs, hb⟩ := I.pos
 refine ⟨m, hm, fun k ok rk hk hwk => ?_, W, hs, hb⟩
 have : k ≠ i := fun e => by subst e; rw [hi] at hk; cases hk; exact hwk h4
 simp only [Bool.or_eq_true, beq_iff_eq, this, or_false]
 exact hpos k ok rk hk hwk
theorem Inv.yes (E : Env P glob ops call c tr ρ0 H0 wr') (I : Inv glob c tr ρ0 H0 wr' g0 w0 d L g a w) {i : Nat} {o : AOper} {r : Rec} (hi : tr[i]? = some (o, r)) (hL : L i = false) (hp : ∀ x ∈ o.pre, L x = true)
  {oo : Oper} (hops : ops[i]? = some oo) (hw : r.want = true) : Does P oo a w fun x w' => ∃ g', Inv glob c tr ρ0 H0 wr' g0 w0 d (fun j => L j || j == i) g' (a.put oo.dst x) w' := by
 have hcomp := E.comp i oo o r hops hi
 have hrec := E.ok i o r hi
 have hev := hrec.yes hw
 have hnames := I.names E hi hL hp
 have hlt : i < tr.length := (List.getElem?_eq_some_iff.1 hi).1
 obtain ⟨m, hm, hpos, W, hs, hb⟩ := I.pos
 have hslots : ∀ t ∈ o.op.slots, (rhoP L 0 tr ρ0)[t]? = (rhoP (fun j => decide (j < i)) 0 tr ρ0)[t]? := fun t ht => hnames t (by simp [AOper.names, ht])
 have hop : ∀ op, o.op = op -> op ≠ .bad -> cOp P glob oo = some op := fun op e hbad => by
  rw [hcomp.op] at e
  cases hq : cOp P glob oo with
  | none => rw [hq] at e; exact absurd e.symm hbad
  | some op' => rw [hq] at e; simp at e; rw [e]
 unfold amfZ at hev
 split at hev
 ·
  rename_i zs id hzs hsite
  simp only [Option.some.injEq, Prod.mk.injEq] at hev
  obtain ⟨hrv, hH2, hrd, hwr⟩ := hev
  obtain ⟨_, hpre0, hid, v, hbox⟩ := E.halloc i o r zs id hi hzs hsite
  have hHm : (aaIZ H0 tr m)[id]? = some (.box v zs) := by
   have h0 : aaIZ H0 tr 0 = H0 := by cases tr <;> rfl
   have hrd : (aaIZ H0 tr m)[id]? = (aaIZ H0 tr 0)[id]? := ?_
   ·rw [hrd, h0, hbox]
   refine E.read hm (Nat.zero_le _) fun k ok rk hk hwk => ?_
   cases hq : L k with
   | false => left; have := hpos k ok rk hk hwk; rw [hq] at this; simp at this; omega
   | true => right; exact I.apart E hi hzs hsite hL hk (.inl hq) hwk
  have hHi : (aaIZ H0 tr i)[id]? = some (.box v zs) := by
   rw [<- I.reads E hi hL hp hwr.symm hw hm hpos id (by rw [<- hrd]; simp)]; exact hHm
  have hidm : id < (aaIZ H0 tr m).length := by rw [E.len m hm]; exact hid
  have hcop := hop _ hzs (by simp)
  obtain ⟨dst, op, type, pos, after, guard⟩ := oo
  have hunb := I.unb i o r zs id hi hzs hsite hL
  rw [hbox] at hunb
  have hset : (aaIZ H0 tr m).set id (.box v zs) = aaIZ H0 tr m := by
   apply List.ext_getElem?
   intro j
   by_cases e : j = id
   ·subst e; simp [hidm]
    have := hHm
    simp [hidm] at this
    exact this.symm
   ·rw [getElem?_set_ne' _ _ (Ne.symm e)]
  have hal := auGZ hcop
  obtain ⟨t, rfl, hz⟩ := hal
  obtain ⟨it, z, hinfo, hzz, hzr⟩ := zeroCells?_spec hz
  have hstep : Step g (aaIZ H0 tr m) w (g.setObj id ⟨w.heap.size, v, 0, 0, 0⟩) ((aaIZ H0 tr m).set id (.box v zs)) (w.alloc (.cells z.cells t)) [id] := by
   refine Step.update hs.wf id (.box v zs) ⟨w.heap.size, v, 0, 0, 0⟩ hidm (by simp) (fun b hb' _ => abtZ (o := .cells z.cells t) rfl hb') (by simp) (.inl (Nat.le_refl _)) rfl rfl (fun l hl => ?_) fun hle => ⟨rfl, aiCZ (t := t) rfl, fun j c hj => ?_⟩
   ·have := hunb l hl
    simp only [Option.elim_some, AObj.ver] at this
    exact ⟨Nat.le_of_lt this, fun e => by have e' : v = l.st := e; omega⟩
   ·have hl := hzr g
    have hj' : j < zs.length := (List.getElem?_eq_some_iff.1 hj).1
    have hlen := hl.1
    simp at hlen
    rw [aeeZ (t := t) rfl]
    exact ⟨z.cells[j]'(by omega), by simp, (hl.2 j c _ hj (by simp)).mono hle⟩
  rw [hset] at hstep
  refine .inl ⟨.pointer (some ⟨w.heap.size, 0, none⟩), w.alloc (.cells z.cells t), by simp [execOp, Instr.alloc, zeroValue, typeInfo, hinfo, hzz, newVar, newRow], _, I.go E hi hL hp hcomp.dst hstep.le ?_ ?_ ?_⟩
  ·rw [<- hrv, hHi]
   exact .ptr id v 0 _ _ (by simp [G.setObj]; rfl) (Nat.le_refl _) fun _ _ => rfl
  ·refine ⟨m, hm, fun k ok rk hk hwk => ?_, W ++ [id], hs.trans hstep, fun o' ho hb' => ?_⟩
   ·have : k ≠ i := fun e => by subst e; rw [hi] at hk; cases hk; exact hwk hwr.symm
    simp only [Bool.or_eq_true, beq_iff_eq, this, or_false]
    exact hpos k ok rk hk hwk
   ·rcases List.mem_append.1 ho with ho | ho
    ·exact hb o' ho hb'
    ·simp only [List.mem_singleton] at ho
     subst ho
     have := arpZ hsite
     omega
  ·intro k ok rk zs' id' hk ho' hs' hne hLk
   have : id' ≠ id := fun e => by
    subst e
    obtain ⟨e1, t1, e2⟩ := aslZ hs' hsite
    have := E.pre.ord i k o ok (Ne.symm hne) (ahzZ hi) (ahzZ hk) t1 e2 (by simp [AOper.names, show o.dst = some t1 from e1 ▸ e2])
    split at this
    ·rw [(E.halloc k ok rk zs' id' hk ho' hs').2.1] at this; simp at this
    ·rw [hpre0] at this; simp at this
   simp [G.setObj, this]
 ·rename_i op site hnot
  have hne : o.op ≠ .bad := fun e => by
   rw [e] at hev
   simp [isW, evR] at hev
  have hcop := hop _ rfl hne
  split at hev
  ·
   split at hev
   ·rename_i v H' wr hevw
    split at hev
    ·simp only [Option.some.injEq, Prod.mk.injEq] at hev
     obtain ⟨rfl, rfl, hrd, hwr⟩ := hev
     have hwn : r.wr ≠ none := by rw [<- hwr]; simp
     have hwrs := I.writers E hi hL hp hwn
     have hHeq : aaIZ H0 tr m = aaIZ H0 tr i := apZZ tr H0 m i hm (by omega) (fun k ok rk hk hn => E.quiet hk hn) fun k ok rk hk hwk => by rw [<- hpos k ok rk hk hwk]; exact hwrs k ok rk hk hwk
     rw [<- hHeq, <- auBZ hslots] at hevw
     have hdo := apTZ hcop E.hcall hevw hs.wf I.glob I.slots
     have hnext : aaIZ H0 tr (i + 1) = r.H2 := E.next i o r hi
     refine Does.mono hdo fun x w' ⟨g', hst, hv⟩ => ⟨g', I.go E hi hL hp hcomp.dst hst.le hv ⟨i + 1, by omega, fun k ok rk hk hwk => ?_, W ++ wr, by rw [hnext]; exact hs.trans hst, fun o' ho hb' => ?_⟩ fun k ok rk zs id hk ho' hs' hne hLk => ?_⟩
     ·by_cases e : k = i
      ·subst e; simp
      ·simp only [Bool.or_eq_true, beq_iff_eq, e, or_false]
       rw [hwrs k ok rk hk hwk]; omega
     ·rcases List.mem_append.1 ho with ho | ho
      ·exact hb o' ho hb'
      ·exact E.wrs i o r hi o' (by rw [<- hwr]; exact ho) hb'
     ·have := I.apart E hk ho' hs' hLk hi (.inr hp) hwn
      rw [<- hwr] at this
      exact hst.keep id (by rw [E.len m hm]; exact (E.halloc k ok rk zs id hk ho' hs').2.2.1) this
    ·cases hev
   ·cases hev
  ·
   split at hev
   ·rename_i v hevr
    simp only [Option.some.injEq, Prod.mk.injEq] at hev
    obtain ⟨rfl, hH2, hrd, hwr⟩ := hev
    have hreads := I.reads E hi hL hp hwr.symm hw hm hpos
    rw [<- hrd, <- atrZ hslots] at hreads
    rw [<- auAZ hslots, <- awwZ hreads] at hevr
    have hdo := (apSZ hcop hevr hs.wf I.glob I.slots).does
    refine Does.mono hdo fun x w' ⟨g', hst, hv⟩ => ⟨g', I.go E hi hL hp hcomp.dst hst.le hv ⟨m, hm, fun k ok rk hk hwk => ?_, W ++ [], hs.trans hst, fun o' ho hb' => hb o' (by simpa using ho) hb'⟩ fun k ok rk zs id hk ho' hs' hne hLk => ?_⟩
    ·have : k ≠ i := fun e => by subst e; rw [hi] at hk; cases hk; exact hwk hwr.symm
     simp only [Bool.or_eq_true, beq_iff_eq, this, or_false]
     exact hpos k ok rk hk hwk
    ·exact hst.keep id (by rw [E.len m hm]; exact (E.halloc k ok rk zs id hk ho' hs').2.2.1) (by simp)
   ·cases hev
end
end Go.AM
end
section
namespace Go.AM
open Go
section
variable {P : Program} {glob : Glob} {g : G} {H : List AObj} {w : World} {a : Act}
theorem Step.laid (hw : WF g H w) {id : Nat} (f : Nat -> AObj) (hf : ∀ n, (f n).ver = n) (hid : id < H.length) : Step g H w g (make H id f) w [id] := by
 have hnot : ∀ l x, Backed g (make H id f) id l x -> False := fun l x hb => by
  have h1 := hb.at_
  simp only [make, List.getElem?_set, if_true, hid] at h1
  injection h1 with h1
  have h2 := hw.st id _ l (List.getElem?_eq_getElem hid) hb.loc
  have h3 := hb.st
  rw [<- h1, hf] at h3
  simp only [List.getElem?_eq_getElem hid, Option.elim_some] at h3
  omega
 have hold : ∀ o l x, Backed g (make H id f) o l x -> o ≠ id /\ Backed g H o l x := fun o l x hb => by
  have hne : o ≠ id := fun e => by subst e; exact hnot l x hb
  exact ⟨hne,⟨by have := hb.at_; rwa [make, getElem?_set_ne' _ _ (Ne.symm hne)] at this, hb.alive, hb.loc, hb.st⟩⟩
 refine ⟨G.le.refl g,⟨hw.perm, fun o l hl => by simpa [make] using hw.lt o l hl, hw.blk, fun o x l hx hl => ?_, fun o l x hb => hw.obj o l x (hold o l x hb).2, fun o l x hb => hw.priv o l x (hold o l x hb).2,
  fun o o' l l' x x' h1 h2 => hw.inj o o' l l' x x' (hold _ _ _ h1).2 (hold _ _ _ h2).2, hw.whole.keep rfl rfl ⟨rfl, rfl⟩ (fun _ _ _ => rfl) fun o l y hl => .inr ⟨o, l, y, (hold _ _ _ hl).2, rfl⟩⟩, alNZ.refl g _ w, fun o _ ho => ?_, by simp [make], fun _ l' hl => .inr ⟨l', hl, rfl⟩, fun _ _ _ => rfl⟩
 ·by_cases e : o = id
  ·subst e
   simp only [make, List.getElem?_set, if_true, hid] at hx
   injection hx with hx
   rw [<- hx, hf]
   have := hw.st o _ l (List.getElem?_eq_getElem hid) hl
   simp only [List.getElem?_eq_getElem hid, Option.elim_some]
   omega
  ·rw [make, getElem?_set_ne' _ _ (Ne.symm e)] at hx
   exact hw.st o x l hx hl
 ·rw [make, getElem?_set_ne' _ _ (fun e => ho (by simp [e]))]
theorem agZZ {c : Ctx} : ∀ (l : List AOper) (H H' : List AObj), WF g H w -> abfZ c H l = some H' -> ∃ W, Step g H w g H' w W /\ ∀ o ∈ W, c.base <= o
 | [], H, H', hw, h => by simp only [abfZ, Option.some.injEq] at h; subst h; exact ⟨[], .refl hw, fun _ h => by simp at h⟩
 | o :: l, H, H', hw, h => by
  unfold abfZ at h
  split at h
  ·rename_i zs id hzs hid
   split at h
   ·rename_i hc
    have h1 := Step.laid hw (AObj.box · zs) (fun _ => rfl) hc.1
    obtain ⟨W, h2, h3⟩ := agZZ l _ H' h1.wf h
    refine ⟨_, h1.trans h2, fun o' ho => ?_⟩
    rcases List.mem_append.1 ho with ho | ho
    ·simp only [List.mem_singleton] at ho; subst ho; exact arpZ hid
    ·exact h3 o' ho
   ·cases h
  ·exact agZZ l H H' hw h
theorem ahQZ {c : Ctx} {id : Nat} : ∀ (l : List AOper) (H H' : List AObj), abfZ c H l = some H' -> (∀ (k : Nat) o zs, l[k]? = some o -> o.op = .alloc zs -> c.site o.dst ≠ some id) -> H'[id]? = H[id]?
 | [], H, H', h, _ => by simp only [abfZ, Option.some.injEq] at h; subst h; rfl
 | o :: l, H, H', h, hn => by
  unfold abfZ at h
  have hn' : ∀ (k : Nat) o zs, l[k]? = some o -> o.op = .alloc zs -> c.site o.dst ≠ some id := fun k o' zs h1 => hn (k + 1) o' zs (by simpa using h1)
  split at h
  ·rename_i zs id' hzs hid
   split at h
   ·rw [ahQZ l _ H' h hn', make, getElem?_set_ne' _ _ (fun e => by subst e; exact hn 0 o zs rfl hzs hid)]
   ·cases h
  ·exact ahQZ l H H' h hn'
theorem ahRZ {c : Ctx} : ∀ (l : List AOper) (H H' : List AObj), abfZ c H l = some H' -> ∀ (k : Nat) o zs id, l[k]? = some o -> o.op = .alloc zs -> c.site o.dst = some id -> o.pre = []
 | [], H, H', h => fun k o zs id hk => by simp at hk
 | o :: l, H, H', h => fun k o' zs id hk ho hs => by
  unfold abfZ at h
  split at h
  ·split at h
   ·rename_i hc
    cases k with
    | zero => simp only [List.getElem?_cons_zero, Option.some.injEq] at hk; subst hk; simpa using hc.2.2
    | succ k => exact ahRZ l _ H' h k o' zs id (by simpa using hk) ho hs
   ·cases h
  ·rename_i hnot
   cases k with
   | zero => simp only [List.getElem?_cons_zero, Option.some.injEq] at hk; subst hk; exact absurd hs (fun hs => hnot _ _ ho hs)
   | succ k => exact ahRZ l H H' h k o' zs id (by simpa using hk) ho hs
theorem ahaZ {c : Ctx} : ∀ (l : List AOper) (H H' : List AObj), WF g H w -> abfZ c H l = some H' ->
  (∀ (i j : Nat) o p zs zs' id, i < j -> l[i]? = some o -> l[j]? = some p -> o.op = .alloc zs -> p.op = .alloc zs' -> c.site o.dst = some id -> c.site p.dst ≠ some id) ->
  ∀ (k : Nat) o zs id, l[k]? = some o -> o.op = .alloc zs -> c.site o.dst = some id -> o.guard = none /\ o.pre = [] /\ id < H'.length /\ ∃ v, H'[id]? = some (.box v zs) /\ ∀ lc, g.obj id = some lc -> lc.st < v
 | [], H, H', hw, h, _ => fun k o zs id hk => by simp at hk
 | o :: l, H, H', hw, h, hd => fun k o' zs id hk ho hs => by
  unfold abfZ at h
  have hd' : ∀ (i j : Nat) o p zs zs' id, i < j -> l[i]? = some o -> l[j]? = some p -> o.op = .alloc zs -> p.op = .alloc zs' -> c.site o.dst = some id -> c.site p.dst ≠ some id :=
   fun i j o p zs zs' id h1 h2 h3 => hd (i + 1) (j + 1) o p zs zs' id (by omega) (by simpa using h2) (by simpa using h3)
  split at h
  ·rename_i zs1 id1 hzs1 hid1
   split at h
   ·rename_i hc
    have h1 := Step.laid hw (AObj.box · zs1) (fun _ => rfl) hc.1
    cases k with
    | zero =>
     simp only [List.getElem?_cons_zero, Option.some.injEq] at hk
     subst hk
     rw [hzs1] at ho
     cases ho
     rw [hid1] at hs
     injection hs with hs
     subst hs
     have hg := ahQZ (id := id1) l _ H' h fun k p zs' hk' hp => hd 0 (k + 1) o p zs zs' id1 (by omega) rfl (by simpa using hk') hzs1 hp hid1
     have hl := (agYZ _ _ _ h).1
     refine ⟨by simpa using hc.2.1, by simpa using hc.2.2, by rw [<- hl]; simp [make]; exact hc.1, aaDZ H id1, by rw [hg]; simp [make, hc.1, aaDZ], fun lc hlc => ?_⟩
     have := hw.st id1 _ lc (List.getElem?_eq_getElem hc.1) hlc
     simp only [aaDZ, List.getElem?_eq_getElem hc.1, Option.elim_some]
     omega
    | succ k => exact ahaZ l _ H' h1.wf h hd' k o' zs id (by simpa using hk) ho hs
   ·cases h
  ·rename_i hnot
   cases k with
   | zero =>
    simp only [List.getElem?_cons_zero, Option.some.injEq] at hk
    subst hk
    exact absurd hs (fun hs => hnot _ _ ho hs)
   | succ k => exact ahaZ l _ H' hw h hd' k o' zs id (by simpa using hk) ho hs
def ahSZ (listed : Array Bool) (i : Nat) : Bool := listed.getD i false
theorem amxZ {listed : Array Bool} {i : Nat} (hi : i < listed.size) : (fun j => ahSZ listed j || j == i) = ahSZ (listed.setIfInBounds i true) := by
 funext j
 unfold ahSZ
 simp only [Array.getD_eq_getD_getElem?, Array.getElem?_setIfInBounds]
 by_cases e : i = j
 ·subst e; simp [hi]
 ·have : ¬ (j = i) := fun h => e h.symm
  simp [e, this]
section
variable {ops : Array Oper} {call : Nat -> List AV -> List AObj -> Out} {c : Ctx} {tr : List (AOper × Rec)} {ρ0 : List AV} {H0 : List AObj} {wr' : List Nat} {g0 : G} {w0 : World} {d : List Deferred}
theorem amyZ {listed : Array Bool} (hs : listed.size = ops.size) {i : Nat} : i ∈ Region.ready .any ops listed ↔ i < ops.size /\ ahSZ listed i = false /\ ∀ o, ops[i]? = some o -> ∀ e ∈ o.after, Region.binds .any e = true -> ahSZ listed e.on = true := by
 unfold Region.ready ahSZ
 simp only [List.mem_filter, List.mem_range, Bool.and_eq_true, Bool.not_eq_true']
 constructor
 ·rintro ⟨h1, h2, h3⟩
  refine ⟨h1, ?_, fun o ho e he hb => ?_⟩
  ·rw [Array.getD_eq_getD_getElem?, Array.getElem?_eq_getElem (by omega)] at h2 ⊢
   simpa using h2
  ·rw [ho] at h3
   simp only [Option.map_some, Option.getD_some, Array.all_eq_true_iff_forall_mem] at h3
   have := h3 e he
   simpa [hb] using this
 ·rintro ⟨h1, h2, h3⟩
  refine ⟨h1, ?_, ?_⟩
  ·rw [Array.getD_eq_getD_getElem?, Array.getElem?_eq_getElem (by omega)] at h2 ⊢
   simpa using h2
  ·rw [Array.getElem?_eq_getElem h1]
   simp only [Option.map_some, Option.getD_some, Array.all_eq_true_iff_forall_mem]
   intro e he
   cases hb : Region.binds .any e with
   | false => simp
   | true => simpa using h3 _ (Array.getElem?_eq_getElem h1) e he hb
theorem auHZ (E : Env P glob ops call c tr ρ0 H0 wr') {listed : Array Bool} (hs : listed.size = ops.size) (h : Region.ready .any ops listed = []) : ∀ i, i < ops.size -> ahSZ listed i = true := by
 intro i
 induction i using Nat.strongRecOn with
 | _ i ih =>
  intro hi
  cases hq : ahSZ listed i with
  | true => rfl
  | false =>
   have : i ∈ Region.ready .any ops listed := by
    rw [amyZ hs]
    refine ⟨hi, hq, fun o ho e he hb => ?_⟩
    have hlen := E.pre.len
    have hk : (tr.map (·.1))[i]? = some ((tr.map (·.1))[i]'(by omega)) := List.getElem?_eq_getElem (by omega)
    have h1 := E.pre.of i o _ ho hk e he hb
    have h2 := E.pre.back i _ hk _ h1
    exact ih _ h2 (by omega)
   rw [h] at this
   simp at this
theorem aqbZ (E : Env P glob ops call c tr ρ0 H0 wr') {Q : Exit -> Act -> World -> Prop}
  (hQ : ∀ g a w L, Inv glob c tr ρ0 H0 wr' g0 w0 d L g a w -> (∀ i, i < ops.size -> L i = true) -> Q .normal a w) :
  ∀ (fuel : Nat) (listed : Array Bool) (g : G) (a : Act) (w : World), listed.size = ops.size -> cnt ops.size (ahSZ listed) <= fuel -> Inv glob c tr ρ0 H0 wr' g0 w0 d (ahSZ listed) g a w ->
   wpAny P .any ops Q fuel listed a w
 | 0, listed, g, a, w, hs, hc, I => by
  have hall := askZ ops.size (Nat.le_zero.1 hc)
  refine ⟨?_, hQ g a w _ I hall⟩
  cases hr : Region.ready .any ops listed with
  | nil => rfl
  | cons i l =>
   have : i ∈ Region.ready .any ops listed := by rw [hr]; simp
   rw [amyZ hs] at this
   rw [hall i this.1] at this
   simp at this
 | fuel + 1, listed, g, a, w, hs, hc, I => by
  refine ⟨fun h => hQ g a w _ I (auHZ E hs h), fun i hi => ?_⟩
  rw [amyZ hs] at hi
  obtain ⟨hlt, hL, hafter⟩ := hi
  have hlen : tr.length = ops.size := by have := E.pre.len; simpa using this
  have ho : ops[i]? = some ops[i] := Array.getElem?_eq_getElem hlt
  have hi : tr[i]? = some (tr[i].1, tr[i].2) := List.getElem?_eq_getElem (by omega)
  have hp : ∀ x ∈ tr[i].1.pre, ahSZ listed x = true := fun x hx => by
   obtain ⟨e, he, hb, h⟩ := E.pre.to i _ _ ho (ahzZ hi) x hx
   have h1 := hafter _ ho e he hb
   rcases h with rfl | ⟨ao', h2, h3⟩
   ·exact h1
   ·have hlt' : e.on < tr.length := by have := (List.getElem?_eq_some_iff.1 h2).1; simpa using this
    have h4 : tr[e.on]? = some (tr[e.on].1, tr[e.on].2) := List.getElem?_eq_getElem hlt'
    have h5 := ahzZ h4
    rw [h2] at h5
    injection h5 with h5
    exact I.closed e.on _ _ h4 h1 x (h5 ▸ h3)
  have hcomp := E.comp i _ _ _ ho hi
  have hrec := E.ok i _ _ hi
  have hnames := I.names E hi hL hp
  have next : ∀ g' a' w', Inv glob c tr ρ0 H0 wr' g0 w0 d (fun j => ahSZ listed j || j == i) g' a' w' -> wpAny P .any ops Q fuel (listed.setIfInBounds i true) a' w' := fun g' a' w' I' => by
   rw [amxZ (by omega)] at I'
   refine aqbZ E hQ fuel _ g' a' w' (by simpa using hs) ?_ I'
   have := auFZ (p := ahSZ listed) (q := ahSZ (listed.setIfInBounds i true)) ops.size hlt hL (by rw [<- amxZ (by omega)]; simp) fun k hk => by rw [<- amxZ (by omega)]; simp [hk]
   omega
  have hwd : Region.wanted ops[i] (yielded ops a.tmps) = tr[i].2.want := by
   have hcg := apWZ (o := tr[i].1) (ρ := rhoP (ahSZ listed) 0 tr ρ0) (ρ' := rhoP (fun j => decide (j < i)) 0 tr ρ0) fun t ht => hnames t ht
   rw [hrec.want, <- hcg.1]
   exact apUZ hcomp.guard I.slots (by rw [hcg.2]; exact hrec.guard)
  unfold wpOp
  rw [ho]
  simp only
  rw [hwd]
  cases hw : tr[i].2.want with
  | false =>
   simp only [Bool.false_eq_true, if_false]
   exact next g _ w (I.no E hi hL hp hcomp.dst hw)
  | true =>
   simp only [if_true]
   refine .inl ((I.yes E hi hL hp ho hw).wp fun v w' hR => ?_)
   obtain ⟨g', I'⟩ := hR
   exact next g' _ w' I'
end
theorem atsZ {id : Nat} {ops : Array Oper} (hm : P.follows .mixedOrders = true) {call : Nat -> List AV -> List AObj -> Out} (hcall : abSZ P glob call) (hfr : agJZ call) {c : Ctx} {s s' : ASt}
  (h : actZ call c true (cOps P glob ops.toList ops.toList []) s = some s') {Q : Exit -> Act -> World -> Prop} (hw : WF g s.H w) (hg : aauZ glob g) (hs : aanZ g s.ρ a.tmps)
  (hQ : ∀ a' w', akzZ glob c.base g s.H w a.defers s' a' w' -> Q .normal a' w') : (Code.region id ops true).wp P Q a w := by
 unfold actZ at h
 split at h
 ·rename_i hd
  simp only [Bool.true_and] at hd
  split at h
  ·rename_i H0 hpre
   split at h
   ·rename_i s1 log hev
    split at h
    ·rename_i hlog
     simp only [Option.some.injEq] at h
     subst h
     have PO := awzZ (P := P) (glob := glob) hd
     obtain ⟨tr, h1, h2, h3, h4, h5, h6⟩ := aleZ _ _ _ _ _ hev
     have hsite : ∀ (i j : Nat) o p zs zs' id, i < j -> (cOps P glob ops.toList ops.toList [])[i]? = some o -> (cOps P glob ops.toList ops.toList [])[j]? = some p -> o.op = .alloc zs -> p.op = .alloc zs' -> c.site o.dst = some id -> c.site p.dst ≠ some id := by
      intro i j o p zs zs' id hij hi hj ho hp hso hsp
      obtain ⟨e1, t, e2⟩ := aslZ hso hsp
      have := PO.ord i j o p (by omega) hi hj t (e1 ▸ e2) (by simp [AOper.names, e2])
      rw [if_pos hij, ahRZ _ _ _ hpre j p zs' id hj hp hsp] at this
      simp at this
     obtain ⟨W, hstep, hW⟩ := agZZ _ _ _ hw hpre
     have hspec := ahaZ _ _ _ hw hpre hsite
     have E : Env P glob ops call c tr s.ρ H0 s1.wr := by
      refine ⟨hcall, hfr, h1 ▸ PO, fun i o ao r ho hi => ?_, fun k o r hk => (h5 k o r hk).1, fun k o r hk => (h5 k o r hk).2.1, fun k o r hk => (h5 k o r hk).2.2, fun i j o r o' r' hij hi hj hwi hwj => ?_, fun k o r zs id hk ho hs => ?_⟩
      ·exact (ajJZ ops ops.toList []).2 i o ao (by simpa using ho) (by rw [<- h1]; exact ahzZ hi)
      ·rw [h2] at hlog
       have := aoeZ _ tr 0 hlog i j o r o' r' hij hi hj hwi hwj
       simp only [Nat.zero_add] at this
       have e : (cOps P glob ops.toList ops.toList [])[j]? = some o' := by rw [<- h1]; exact ahzZ hj
       rw [e] at this
       exact this
      ·obtain ⟨a1, a2, a3, v, a4, a5⟩ := hspec k o zs id (by rw [<- h1]; exact ahzZ hk) ho hs
       exact ⟨a1, a2, a3, v, a4⟩
     have hL0 : ahSZ (Array.replicate ops.size false) = fun _ => false := by
      funext i
      simp [ahSZ, Array.getD_eq_getD_getElem?, Array.getElem?_replicate]
      split <;> rfl
     have hnone : ∀ (l : List (AOper × Rec)) (n : Nat) (ρ : List AV), rhoP (fun _ => false) n l ρ = ρ := by
      intro l
      induction l with
      | nil => intro n ρ; rfl
      | cons x l ih => intro n ρ; obtain ⟨a, b⟩ := x; simp only [rhoP, Bool.false_eq_true, if_false]; exact ih _ _
     have h00 : aaIZ H0 tr 0 = H0 := by cases tr <;> rfl
     have hlen : tr.length = ops.size := by have := E.pre.len; simpa using this
     refine wp_region_any hm (aqbZ (g0 := g) (w0 := w) (d := a.defers) E (fun g' a' w' L I hall => hQ a' w' ?_) ops.size _ g a _ (by simp) (axLZ _) ?_)
     ·obtain ⟨m, hm', hpos, W', hst, hb⟩ := I.pos
      have e1 : aaIZ H0 tr m = s1.H := by
       rw [h4]
       refine apZZ tr H0 m _ hm' (Nat.le_refl _) (fun k o r hk hn => E.quiet hk hn) fun k o r hk hn => ?_
       have hk' := (List.getElem?_eq_some_iff.1 hk).1
       have := hpos k o r hk hn
       rw [hall k (by omega)] at this
       simp at this
       omega
      have e2 : rhoP L 0 tr s.ρ = s1.ρ := by
       rw [h3]
       exact asiZ _ _ _ _ _ fun k _ hk => hall k (by omega)
      rw [e1] at hst
      refine ⟨g', W ++ W', hstep.trans hst, fun o ho hb' => ?_, e2 ▸ I.slots, I.defers, I.glob⟩
      rcases List.mem_append.1 ho with ho | ho
      ·have := hW o ho; omega
      ·exact hb o ho hb'
     ·rw [hL0]
      refine ⟨fun k o r _ h => (by cases h),⟨0, Nat.zero_le _, fun k o r _ _ => by simp, [], by rw [h00]; exact Step.of_heap hstep.wf rfl, fun o ho => by simp at ho⟩, by rw [hnone]; exact hs, rfl, hg, fun k o r zs id hk ho hs' _ l hl => ?_⟩
      obtain ⟨a1, a2, a3, v, a4, a5⟩ := hspec k o zs id (by rw [<- h1]; exact ahzZ hk) ho hs'
      rw [a4]
      exact a5 l hl
    ·cases h
   ·cases h
  ·cases h
 ·simp at h
end
end Go.AM
end
section
namespace Go.AM
open Go
theorem abjZ (n : Nat) : ∀ (l : List AV), abLZ n l = true ↔ ∀ a ∈ l, a.under n = true
 | [] => by simp [abLZ]
 | v :: r => by simp [abLZ, abjZ n r]
theorem admZ (n : Nat) : ∀ (l : List (List AV)), acTZ n l = true ↔ ∀ row ∈ l, ∀ a ∈ row, a.under n = true
 | [] => by simp [acTZ]
 | v :: r => by simp [acTZ, admZ n r, abjZ]
def G.cut (g : G) (n : Nat) : G := { g with obj := fun o => if o < n then g.obj o else none }
theorem adOZ {α : Type} {l : List α} {a : α} (h : a ∈ l) : ∃ i, i < l.length /\ l[i]? = some a := by
 obtain ⟨i, hi, he⟩ := List.getElem_of_mem h
 exact ⟨i, hi, by rw [List.getElem?_eq_getElem hi, he]⟩
theorem VRel.under {g : G} {n : Nat} (hg : ∀ o l, g.obj o = some l -> o < n) {a : AV} {x : Value} (h : VRel g a x) : a.under n = true := by
 induction h with
 | undef x => rfl
 | bool b => rfl
 | int k n => rfl
 | str s => rfl
 | fn f first caps vf vc hf hc h1 h2 ih1 ih2 =>
  simp only [AV.under, Bool.and_eq_true, abjZ]
  refine ⟨fun a ha => ?_, fun a ha => ?_⟩
  ·obtain ⟨i, hi, he⟩ := adOZ ha
   exact ih1 i a _ he (Array.getElem?_eq_getElem (by omega))
  ·obtain ⟨i, hi, he⟩ := adOZ ha
   exact ih2 i a _ he (Array.getElem?_eq_getElem (by omega))
 | nilFn => rfl
 | ptr o v off l a hl hv h => simp [AV.under, hg o l hl]
 | vp o v n k i off l a hl hv hn h => simp [AV.under, hg o l hl]
 | nilPtr => rfl
 | nilIfc => rfl
 | ifc t v x hv h ih => simpa [AV.under] using ih
 | ep row off b base hst hp h ih =>
  simp only [AV.under, abjZ]
  intro a ha
  obtain ⟨j, hj, he⟩ := adOZ ha
  have := hp j hj
  cases hq : g.perm b (base + j) with
  | none => rw [hq] at this; cases this
  | some y => exact ih j a y he hq
 | slNil full => rfl
 | sl full rows b off cap k hcap hfull hk hst hp h ih =>
  simp only [AV.under, admZ]
  intro row hr a ha
  obtain ⟨i, hi, he⟩ := adOZ hr
  obtain ⟨j, hj, he'⟩ := adOZ ha
  have := hp i j hi (by rw [<- hk row hr]; exact hj)
  cases hq : g.perm b (off + i * k + j) with
  | none => rw [hq] at this; cases this
  | some y => exact ih i j row a y he he' hq
 | sr o v n l a cap hl hv hn h => simp [AV.under, hg o l hl]
 | srv o v n k lo l a cap hl hv hn hlo h => simp [AV.under, hg o l hl]
 | nilSl => rfl
 | mp o v l r hl hv h => simp [AV.under, hg o l hl]
 | fmp ks vs r entries clock hw hk hv h1 h2 ih1 ih2 =>
  simp only [AV.under, Bool.and_eq_true, abjZ]
  refine ⟨fun a ha => ?_, fun a ha => ?_⟩
  ·obtain ⟨i, hi, he⟩ := adOZ ha
   exact ih1 i a _ he (Array.getElem?_eq_getElem (by omega))
  ·obtain ⟨i, hi, he⟩ := adOZ ha
   exact ih2 i a _ he (Array.getElem?_eq_getElem (by omega))
 | agg cs vs hs h ih =>
  simp only [AV.under, abjZ]
  intro a ha
  obtain ⟨i, hi, he⟩ := adOZ ha
  exact ih i a _ he (Array.getElem?_eq_getElem (by omega))
 | tup cs vs hs h ih =>
  simp only [AV.under, abjZ]
  intro a ha
  obtain ⟨i, hi, he⟩ := adOZ ha
  exact ih i a _ he (Array.getElem?_eq_getElem (by omega))
theorem VRel.cut {g : G} {n : Nat} {a : AV} {x : Value} (h : VRel g a x) : a.under n = true -> VRel (g.cut n) a x := by
 have hobj : ∀ o l, g.obj o = some l -> o < n -> (g.cut n).obj o = some l := fun o l h1 h2 => by simp [G.cut, h1, h2]
 induction h with
 | undef x => exact fun _ => .undef x
 | bool b => exact fun _ => .bool b
 | int k n => exact fun _ => .int k n
 | str s => exact fun _ => .str s
 | fn f first caps vf vc hf hc h1 h2 ih1 ih2 =>
  intro hu
  simp only [AV.under, Bool.and_eq_true, abjZ] at hu
  exact .fn f first caps vf vc hf hc (fun i a x e1 e2 => ih1 i a x e1 e2 (hu.1 a (List.mem_of_getElem? e1))) (fun i a x e1 e2 => ih2 i a x e1 e2 (hu.2 a (List.mem_of_getElem? e1)))
 | nilFn => exact fun _ => .nilFn
 | ptr o v off l a hl hv h => intro hu; exact .ptr o v off l a (hobj o l hl (by simpa [AV.under] using hu)) hv h
 | vp o v n k i off l a hl hv hn h => intro hu; exact .vp o v n k i off l a (hobj o l hl (by simpa [AV.under] using hu)) hv hn h
 | nilPtr => exact fun _ => .nilPtr
 | nilIfc => exact fun _ => .nilIfc
 | ifc t v x hv h ih => exact fun hu => .ifc t v x hv (ih (by simpa [AV.under] using hu))
 | ep row off b base hst hp h ih =>
  intro hu
  simp only [AV.under, abjZ] at hu
  exact .ep row off b base hst hp fun j a x e1 e2 => ih j a x e1 e2 (hu a (List.mem_of_getElem? e1))
 | slNil full => exact fun _ => .slNil full
 | sl full rows b off cap k hcap hfull hk hst hp h ih =>
  intro hu
  simp only [AV.under, admZ] at hu
  exact .sl full rows b off cap k hcap hfull hk hst hp fun i j row a x e1 e2 e3 => ih i j row a x e1 e2 e3 (hu row (List.mem_of_getElem? e1) a (List.mem_of_getElem? e2))
 | sr o v n l a cap hl hv hn h => intro hu; exact .sr o v n l a cap (hobj o l hl (by simpa [AV.under] using hu)) hv hn h
 | srv o v n k lo l a cap hl hv hn hlo h => intro hu; exact .srv o v n k lo l a cap (hobj o l hl (by simpa [AV.under] using hu)) hv hn hlo h
 | nilSl => exact fun _ => .nilSl
 | mp o v l r hl hv h => intro hu; exact .mp o v l r (hobj o l hl (by simpa [AV.under] using hu)) hv h
 | fmp ks vs r entries clock hw hk hv h1 h2 ih1 ih2 =>
  intro hu
  simp only [AV.under, Bool.and_eq_true, abjZ] at hu
  exact .fmp ks vs r entries clock hw hk hv (fun i a e e1 e2 => ih1 i a e e1 e2 (hu.1 a (List.mem_of_getElem? e1))) fun i a e e1 e2 => ih2 i a e e1 e2 (hu.2 a (List.mem_of_getElem? e1))
 | agg cs vs hs h ih =>
  intro hu
  simp only [AV.under, abjZ] at hu
  exact .agg cs vs hs fun i a x e1 e2 => ih i a x e1 e2 (hu a (List.mem_of_getElem? e1))
 | tup cs vs hs h ih =>
  intro hu
  simp only [AV.under, abjZ] at hu
  exact .tup cs vs hs fun i a x e1 e2 => ih i a x e1 e2 (hu a (List.mem_of_getElem? e1))
theorem alMZ.under {g : G} {n : Nat} (hg : ∀ o l, g.obj o = some l -> o < n) {w : World} {l : Loc} {x : AObj} (h : alMZ g w l x) : x.under n = true := by
 cases x with
 | gone v => rfl
 | box v cells =>
  obtain ⟨h1, h2, h3⟩ := h
  simp only [AObj.under, abjZ]
  intro a ha
  obtain ⟨j, hj, he⟩ := adOZ ha
  obtain ⟨y, hy, hr⟩ := h3 j a he
  exact hr.under hg
 | tbox v ty cells =>
  obtain ⟨h1, h2, h3⟩ := h
  simp only [AObj.under, abjZ]
  intro a ha
  obtain ⟨j, hj, he⟩ := adOZ ha
  obtain ⟨y, hy, hr⟩ := h3 j a he
  exact hr.under hg
 | vec v k rows =>
  obtain ⟨h1, h2, h3, h4, h5, h6, h7⟩ := h
  simp only [AObj.under, admZ]
  intro row hr a ha
  obtain ⟨i, hi, he⟩ := adOZ hr
  obtain ⟨j, hj, he'⟩ := adOZ ha
  obtain ⟨_, y, hy, hv⟩ := h7 i j row a he he'
  exact hv.under hg
 | tvec v ty k rows =>
  obtain ⟨⟨h1, h2, h3, h4, h5, h6, h7⟩, h8⟩ := h
  simp only [AObj.under, admZ]
  intro row hr a ha
  obtain ⟨i, hi, he⟩ := adOZ hr
  obtain ⟨j, hj, he'⟩ := adOZ ha
  obtain ⟨_, y, hy, hv⟩ := h7 i j row a he he'
  exact hv.under hg
 | map v es =>
  obtain ⟨h1, entries, clock, h2, h3, h4⟩ := h
  simp only [AObj.under, List.all_eq_true]
  rintro ⟨k, v⟩ hm
  obtain ⟨i, hi, he⟩ := adOZ hm
  have := h4 i k v _ he (Array.getElem?_eq_getElem (by omega))
  simp [this.1.under hg, this.2.under hg]
theorem alMZ.cut {g : G} {n : Nat} {w : World} {l : Loc} {x : AObj} (h : alMZ g w l x) (hu : x.under n = true) : alMZ (g.cut n) w l x := by
 cases x with
 | gone v => trivial
 | box v cells =>
  obtain ⟨h1, h2, h3⟩ := h
  simp only [AObj.under, abjZ] at hu
  refine ⟨h1, h2, fun j a ha => ?_⟩
  obtain ⟨y, hy, hr⟩ := h3 j a ha
  exact ⟨y, hy, hr.cut (hu a (List.mem_of_getElem? ha))⟩
 | tbox v ty cells =>
  obtain ⟨h1, h2, h3⟩ := h
  simp only [AObj.under, abjZ] at hu
  refine ⟨h1, h2, fun j a ha => ?_⟩
  obtain ⟨y, hy, hr⟩ := h3 j a ha
  exact ⟨y, hy, hr.cut (hu a (List.mem_of_getElem? ha))⟩
 | vec v k rows =>
  obtain ⟨h1, h2, h3, h4, h5, h6, h7⟩ := h
  simp only [AObj.under, admZ] at hu
  refine ⟨h1, h2, h3, h4, h5, h6, fun i j row a hr ha => ?_⟩
  obtain ⟨hs, y, hy, hv⟩ := h7 i j row a hr ha
  exact ⟨hs, y, hy, hv.cut (hu row (List.mem_of_getElem? hr) a (List.mem_of_getElem? ha))⟩
 | tvec v ty k rows =>
  obtain ⟨⟨h1, h2, h3, h4, h5, h6, h7⟩, h8⟩ := h
  simp only [AObj.under, admZ] at hu
  refine ⟨?_, h8⟩
  refine ⟨h1, h2, h3, h4, h5, h6, fun i j row a hr ha => ?_⟩
  obtain ⟨hs, y, hy, hv⟩ := h7 i j row a hr ha
  exact ⟨hs, y, hy, hv.cut (hu row (List.mem_of_getElem? hr) a (List.mem_of_getElem? ha))⟩
 | map v es =>
  obtain ⟨h1, entries, clock, h2, h3, h4⟩ := h
  simp only [AObj.under, List.all_eq_true] at hu
  refine ⟨h1, entries, clock, h2, h3, fun i k v e hk he => ?_⟩
  have := hu (k, v) (List.mem_of_getElem? hk)
  simp only [Bool.and_eq_true] at this
  exact ⟨(h4 i k v e hk he).1.cut this.1, (h4 i k v e hk he).2.cut this.2⟩
section
variable {g g' : G} {H H' : List AObj} {w w' : World} {wr W : List Nat}
theorem Step.narrow (hlt : ∀ o l, g.obj o = some l -> o < H.length) (h : Step g H w g' H' w' W) (hs : ∀ o ∈ W, o < H.length -> o ∈ wr) : Step g H w g' H' w' wr :=
 ⟨h.le, h.wf,⟨h.frame.1, fun b hb ho => h.frame.2 b hb fun o hm l hl => ho o (hs o hm (hlt o l hl)) l hl⟩, fun o hl ho => h.same o hl fun hm => ho (hs o hm hl), h.len, h.track, fun o hl ho => h.keep o hl fun hm => ho (hs o hm hl)⟩
theorem Step.cut (hw : WF g H w) (h : Step g H w g' H' w' wr) (hu : ∀ o ∈ wr, ∀ x, H'[o]? = some x -> x.under H.length = true) : Step g H w (g'.cut H.length) (H'.take H.length) w' wr := by
 have htake : ∀ o, o < H.length -> (H'.take H.length)[o]? = H'[o]? := fun o ho => by simp [ho]
 have hbk : ∀ o l x, Backed (g'.cut H.length) (H'.take H.length) o l x -> o < H.length /\ Backed g' H' o l x := fun o l x hb => by
  have hlt : o < H.length := by
   have := (List.getElem?_eq_some_iff.1 hb.at_).1
   simp at this
   omega
  refine ⟨hlt,⟨by rw [<- htake o hlt]; exact hb.at_, hb.alive, ?_, hb.st⟩⟩
  have := hb.loc
  simpa [G.cut, hlt] using this
 have hobj : ∀ o l, (g'.cut H.length).obj o = some l -> o < H.length /\ g'.obj o = some l := fun o l hl => by
  simp only [G.cut] at hl
  split at hl
  ·exact ⟨‹_›, hl⟩
  ·cases hl
 have hlen := h.len
 refine ⟨⟨fun b i x hx => h.le.perm b i x hx, fun o l hl => ?_, h.le.whole, h.le.io⟩,⟨h.wf.perm, fun o l hl => ?_, fun o l hl => h.wf.blk o l (hobj o l hl).2, fun o x l hx hl => ?_, fun o l x hb => ?_, fun o l x hb => h.wf.priv o l x (hbk o l x hb).2,
  fun o o' l l' x x' h1 h2 => h.wf.inj o o' l l' x x' (hbk _ _ _ h1).2 (hbk _ _ _ h2).2, h.wf.whole.keep rfl rfl ⟨rfl, rfl⟩ (fun _ _ _ => rfl) fun o l y hl => .inr ⟨o, l, y, (hbk _ _ _ hl).2, rfl⟩⟩, h.frame, fun o ho hn => ?_, by simp; omega, fun o l hl => h.track o l (hobj o l hl).2, fun o ho hn => ?_⟩
 ·obtain ⟨l', h1, h2⟩ := h.le.obj o l hl
  exact ⟨l', by simp [G.cut, hw.lt o l hl, h1], h2⟩
 ·have := (hobj o l hl).1
  simp; omega
 ·obtain ⟨h1, h2⟩ := hobj o l hl
  rw [htake o h1] at hx
  exact h.wf.st o x l hx h2
 ·obtain ⟨h1, h2⟩ := hbk o l x hb
  refine (h.wf.obj o l x h2).cut ?_
  by_cases hm : o ∈ wr
  ·exact hu o hm x h2.at_
  ·have hb0 : Backed g H o l x := ⟨by rw [<- h.same o h1 hm]; exact h2.at_, h2.alive, by rw [<- h.keep o h1 hm]; exact h2.loc, h2.st⟩
   exact (hw.obj o l x hb0).under hw.lt
 ·rw [htake o ho]; exact h.same o ho hn
 ·simp only [G.cut, ho, if_true]; exact h.keep o ho hn
theorem agIZ.cut {n n0 : Nat} {av : AV} {v : Value} (h : agIZ g' H' n0 w' av v) (hu : av.under n = true) : agIZ (g'.cut n) (H'.take n) n0 w' av v := by
 cases av with
 | own k rows =>
  obtain ⟨b, cap, e, ho⟩ := h
  simp only [AV.under, admZ] at hu
  refine ⟨b, cap, e,⟨ho.hnew, ho.hlt, ho.hcap, ho.hsoft, ho.hrow, ho.hstill, ho.hsome, fun i j row c hr hc => ?_, ho.hpriv, fun o l x hb => ?_, ho.hwhole⟩⟩
  ·obtain ⟨y, hy, hv⟩ := ho.hrel i j row c hr hc
   exact ⟨y, hy, hv.cut (hu row (List.mem_of_getElem? hr) c (List.mem_of_getElem? hc))⟩
  ·have hlt : o < n := by
    have := (List.getElem?_eq_some_iff.1 hb.at_).1
    simp at this
    omega
   refine ho.hapart o l x ⟨?_, hb.alive, ?_, hb.st⟩
   ·have := hb.at_; simpa [List.getElem?_take, hlt] using this
   ·have := hb.loc; simpa [G.cut, hlt] using this
 | _ => exact VRel.cut h hu
end
end Go.AM
end
section
namespace Go.AM
open Go
section
variable {P : Program} {glob : Glob} {g : G} {H : List AObj} {w w' : World} {ρ : List AV}
theorem Step.drop (h : WF g H w) {o : Nat} {l : Loc} {x : AObj} (hb : Backed g H o l x) :
  Step g H w g (H.set o (.gone x.ver)) w [o] /\ ∀ o' l' x', Backed g (H.set o (.gone x.ver)) o' l' x' -> l'.b ≠ l.b := by
 have ho : o < H.length := h.lt o l hb.loc
 have hbk : ∀ o' l' x', Backed g (H.set o (.gone x.ver)) o' l' x' -> o' ≠ o /\ Backed g H o' l' x' := fun o' l' x' hb' => by
  have hne : o' ≠ o := fun e => by
   subst e
   have h1 := hb'.at_
   simp [ho] at h1
   have h2 := hb'.alive
   subst h1
   simp [AObj.alive] at h2
  exact ⟨hne,⟨by rw [<- getElem?_set_ne' H (.gone x.ver) (Ne.symm hne)]; exact hb'.at_, hb'.alive, hb'.loc, hb'.st⟩⟩
 refine ⟨⟨G.le.refl g,⟨h.perm, fun o' l' hl => by simpa using h.lt o' l' hl, h.blk, fun o' x' l' hx hl => ?_, fun o' l' x' hb' => h.obj o' l' x' (hbk _ _ _ hb').2, fun o' l' x' hb' => h.priv o' l' x' (hbk _ _ _ hb').2,
  fun o1 o2 l1 l2 x1 x2 hb1 hb2 e => h.inj o1 o2 l1 l2 x1 x2 (hbk _ _ _ hb1).2 (hbk _ _ _ hb2).2 e, h.whole.keep rfl rfl ⟨rfl, rfl⟩ (fun _ _ _ => rfl) fun o l y hl => .inr ⟨o, l, y, (hbk _ _ _ hl).2, rfl⟩⟩,
  alNZ.refl _ _ _, fun o' hl hm => ?_, by simp, fun o' l' hl => .inr ⟨l', hl, rfl⟩, fun _ _ _ => rfl⟩, fun o' l' x' hb' e => ?_⟩
 ·by_cases e : o' = o
  ·subst e
   simp [ho] at hx
   subst hx
   exact h.st o' x l' hb.at_ hl
  ·rw [getElem?_set_ne' H (.gone x.ver) (Ne.symm e)] at hx
   exact h.st o' x' l' hx hl
 ·simp only [List.mem_singleton] at hm
  exact getElem?_set_ne' H (.gone x.ver) (Ne.symm hm)
 ·obtain ⟨hne, hb0⟩ := hbk _ _ _ hb'
  exact hne (h.inj o' o l' l x' x hb0 hb e)
theorem auIZ (hw : WF g H w) {o v n v' k : Nat} {rows : List (List AV)} (ho : H[o]? = some (.vec v' k rows)) (hv : v' = v) (hn : rows.length = n) {x : Value} (hx : VRel g (.sr o v n) x) :
  ∃ l, Backed g H o l (.vec v k rows) /\ x = .slice (some ⟨l.b, 0, none⟩) n l.cap := by
 subst hv
 cases hx with
 | sr _ _ _ l a cap hl hv hn' h =>
  have hst : l.st = v' := by have := hw.st o _ l ho hl; simp only [AObj.ver] at this; omega
  have hb : Backed g H o l (.vec v' k rows) := ⟨ho, rfl, hl, hst⟩
  obtain ⟨h0, _⟩ := hw.obj o l _ hb
  obtain ⟨e1, e2⟩ := h hst (by omega)
  exact ⟨l, hb, by rw [e1, e2]⟩
theorem attZ {base n0 : Nat} (hnew : ∀ o l, base <= o -> g.obj o = some l -> n0 <= l.b) (hw : WF g H w) {v v' : AV} {H' : List AObj} {l : List Nat} (h : finV base H v = some (v', H', l)) {x : Value} (hx : VRel g v x) :
  ∃ g', Step g H w g' H' w l /\ agIZ g' H' n0 w v' x := by
 unfold finV at h
 split at h
 ·rename_i o v n
  split at h
  ·rename_i v1 k rows ho
   split at h
   ·rename_i hc
    obtain ⟨hc1, hc2, hc3, hc4⟩ := hc
    simp only [Option.some.injEq, Prod.mk.injEq] at h
    obtain ⟨rfl, rfl, rfl⟩ := h
    obtain ⟨lc, hb, rfl⟩ := auIZ hw ho hc1 hc2 hx
    obtain ⟨h0, hlk, hcap, hsoft, hk, hsome, hcell⟩ := hw.obj o lc _ hb
    obtain ⟨h1, h2⟩ := Step.drop hw hb
    have he : aaOZ H [o] = H.set o (.gone (AObj.vec v k rows).ver) := by simp only [aaOZ, hb.at_]; rfl
    rw [he]
    refine ⟨g, h1, lc.b, lc.cap, by rw [hc2],⟨hnew o lc hc3 hb.loc, hw.blk o lc hb.loc, hcap, hsoft, hk, ?_, hsome, fun i j row c hr hj => ?_, hw.priv o lc _ hb, h2, ?_⟩⟩
    ·exact hc4
    ·obtain ⟨_, y, hy, hv⟩ := hcell i j row c hr hj
     exact ⟨y, hy, hv⟩
    ·cases hwh : g.whole lc.b with
     | none => rfl
     | some z => exact absurd rfl ((hw.whole.blocks lc.b z hwh).2 o lc _ hb)
   ·cases h
  ·cases h
 ·rename_i o v
  split at h
  ·rename_i v1 es ho
   split at h
   ·rename_i hc
    simp only [Option.some.injEq, Prod.mk.injEq] at h
    obtain ⟨rfl, rfl, rfl⟩ := h
    obtain ⟨lc, entries, clock, hb, rfl, hheap, hrel, _⟩ := ampZ hw ho hc.1 hx
    obtain ⟨h1, h2⟩ := Step.drop hw hb
    have hle : g.le { g with whole := fun b => if b = lc.b then some (.map entries clock) else g.whole b } := by
     refine ⟨fun _ _ _ hx => hx, fun o l hl => ⟨l, hl, Nat.le_refl _, fun _ => ⟨Nat.le_refl _, fun _ => rfl⟩⟩, fun b x hx => ?_, rfl⟩
     by_cases e : b = lc.b
     ·subst e; exact absurd rfl ((hw.whole.blocks lc.b x hx).2 o lc _ hb)
     ·simp only [e, if_false]; exact hx
    have hbk : ∀ o' l' x', Backed { g with whole := fun b => if b = lc.b then some (.map entries clock) else g.whole b } (H.set o (.gone v)) o' l' x' -> Backed g (H.set o (.gone v)) o' l' x' := fun o' l' x' hb' => ⟨hb'.at_, hb'.alive, hb'.loc, hb'.st⟩
    have h1w := h1.wf
    refine ⟨{ g with whole := fun b => if b = lc.b then some (.map entries clock) else g.whole b },⟨hle,⟨h1w.perm, h1w.lt, h1w.blk, h1w.st, fun o' l' x' hb' => (h1w.obj o' l' x' (hbk _ _ _ hb')).keep hle rfl, fun o' l' x' hb' => h1w.priv o' l' x' (hbk _ _ _ hb'), fun o1 o2 l1 l2 x1 x2 hb1 hb2 => h1w.inj o1 o2 l1 l2 x1 x2 (hbk _ _ _ hb1) (hbk _ _ _ hb2),
      ⟨fun b x hx => ?_, hw.whole.io⟩⟩, h1.frame, h1.same, h1.len, fun o' l' hl => .inr ⟨l', hl, rfl⟩, fun _ _ _ => rfl⟩, ?_⟩
    ·by_cases e : b = lc.b
     ·subst e
      simp only [if_true, Option.some.injEq] at hx
      subst hx
      exact ⟨hheap, fun o' l' y hb' => h2 o' l' y (hbk _ _ _ hb')⟩
     ·simp only [e, if_false] at hx
      exact ⟨(h1w.whole.blocks b x hx).1, fun o' l' y hb' => (h1w.whole.blocks b x hx).2 o' l' y (hbk _ _ _ hb')⟩
    ·refine VRel.fmp _ _ lc.b entries clock (by simp) (by simpa using hrel.1) (by simpa using hrel.1) (fun i a e h5 h6 => ?_) fun i a e h5 h6 => ?_
     ·rw [List.getElem?_map] at h5
      cases hq : es[i]? with
      | none => simp [hq] at h5
      | some kv => simp [hq] at h5; subst h5; exact (hrel.2 i kv.1 kv.2 e hq (by simpa using h6)).1.mono hle
     ·rw [List.getElem?_map] at h5
      cases hq : es[i]? with
      | none => simp [hq] at h5
      | some kv => simp [hq] at h5; subst h5; exact (hrel.2 i kv.1 kv.2 e hq (by simpa using h6)).2.mono hle
   ·cases h; exact ⟨g, .refl hw, hx⟩
  ·cases h; exact ⟨g, .refl hw, hx⟩
 ·obtain ⟨g', h1, h2⟩ := afyZ hw h hx
  refine ⟨g', h1, ?_⟩
  cases v' with
  | own k rows => cases h2
  | _ => exact h2
theorem amzZ : ∀ {vs vs' : List AV} {g : G} {H H' : List AObj} {l : List Nat}, WF g H w -> aktZ H vs = some (vs', H', l) -> ∀ {xs : List Value}, LRel g vs xs -> ∃ g', Step g H w g' H' w l /\ LRel g' vs' xs
 | [], vs', g, H, H', l, hw, h, xs, hx => by
  simp only [aktZ, Option.some.injEq, Prod.mk.injEq] at h
  obtain ⟨rfl, rfl, rfl⟩ := h
  exact ⟨g, .refl hw, hx⟩
 | v :: vs, vs', g, H, H', l, hw, h, xs, hx => by
  unfold aktZ at h
  split at h
  ·cases h
  ·rename_i v1 H1 l1 hf
   split at h
   ·cases h
   ·rename_i r1 H2 l2 hr
    simp only [Option.some.injEq, Prod.mk.injEq] at h
    obtain ⟨rfl, rfl, rfl⟩ := h
    cases xs with
    | nil => have := hx.1; simp at this
    | cons x xs =>
     obtain ⟨g1, h1, h2⟩ := afyZ hw hf (hx.2 0 v x rfl rfl)
     have hxs : LRel g1 vs xs := ⟨by simpa using hx.1, fun i a y ha hy => (hx.2 (i + 1) a y (by simpa using ha) (by simpa using hy)).mono h1.le⟩
     obtain ⟨g2, h3, h4⟩ := amzZ h1.wf hr hxs
     refine ⟨g2, h1.trans h3, by simp [h4.1], fun i a y ha hy => ?_⟩
     cases i with
     | zero => simp at ha hy; subst ha; subst hy; exact h2.mono h3.le
     | succ i => exact h4.2 i a y (by simpa using ha) (by simpa using hy)
def ahbZ (tmps : Array Value) (rs : List ResultVar) : Sem (List Value) :=
 rs.mapM fun
  | .tmp t => pure (tmps.getD t Go.undef)
  | .cell a t => do loadVar t (<- asAddr (tmps.getD a Go.undef))
theorem agKZ (hw : WF g H w) {tmps : Array Value} (hs : aanZ g ρ tmps) : ∀ (rs : List ResultVar) (as : List ARes) (vs : List AV), athZ P rs = some as -> aoMZ H ρ as = some vs ->
  ∃ xs, (ahbZ tmps rs).run P w = .ok xs w /\ LRel g vs xs
 | [], as, vs, h, hv => by
  simp only [athZ, Option.some.injEq] at h
  subst h
  simp only [aoMZ, Option.some.injEq] at hv
  subst hv
  exact ⟨[], by simp [ahbZ], rfl, fun i a x h => by simp at h⟩
 | r :: rs, as, vs, h, hv => by
  unfold athZ at h
  split at h
  ·rename_i a as' ha has
   simp only [Option.some.injEq] at h
   subst h
   unfold aoMZ at hv
   split at hv
   ·cases hv
   ·rename_i v hv1
    split at hv
    ·cases hv
    ·rename_i vs' hvs
     simp only [Option.some.injEq] at hv
     subst hv
     obtain ⟨xs, h1, h2⟩ := agKZ hw hs rs as' vs' has hvs
     have key : ∃ x, (match r with | .tmp t => pure (tmps.getD t Go.undef) | .cell a t => do loadVar t (<- asAddr (tmps.getD a Go.undef)) : Sem Value).run P w = .ok x w /\ VRel g v x := by
      cases r with
      | tmp t =>
       simp only [cRes, Option.some.injEq] at ha
       subst ha
       simp only [resV, Option.some.injEq] at hv1
       subst hv1
       exact ⟨_, by simp, hs.2 t⟩
      | cell t ty =>
       simp only [cRes] at ha
       obtain ⟨⟨n, agg⟩, hsh, rfl⟩ := map_some ha
       simp only [resV] at hv1
       split at hv1
       ·rename_i cs hr
        obtain ⟨b, off, ys, e, hlen, hl, hc⟩ := abgZ hw hr (hs.2 t)
        have hrun := alaZ (P := P) hsh w b off ys (by rw [<- hl.1]; exact hlen) hc
        exact ⟨_, by
         show (do loadVar ty (<- asAddr (tmps.getD t Go.undef)) : Sem Value).run P w = _
         rw [e, Sem.run_bind, show (asAddr (Value.pointer (some ⟨b, off, none⟩))).run P w = .ok ⟨b, off, none⟩ w from rfl]; exact hrun, agUZ hv1 hl⟩
       ·cases hv1
     obtain ⟨x, hx1, hx2⟩ := key
     refine ⟨x :: xs, ?_, by simp [h2.1], fun i a' y ha' hy => ?_⟩
     ·unfold ahbZ at h1 ⊢
      rw [List.mapM_cons]
      rw [Sem.run_bind, hx1]
      simp only [Result.andThen_ok]
      rw [Sem.run_bind, h1]
      simp
     ·cases i with
      | zero => simp at ha' hy; subst ha'; subst hy; exact hx2
      | succ i => exact h2.2 i a' y (by simpa using ha') (by simpa using hy)
  ·cases h
def awAZ : List Value -> Value
 | [x] => x
 | xs => .tuple xs.toArray
theorem arrZ {fn : Func} {tmps : Array Value} {xs : List Value} (h : (ahbZ tmps fn.results.toList).run P w = .ok xs w) :
  (results fn tmps).run P w = .ok (awAZ xs) w := by
 unfold results
 rw [Array.mapM_eq_mapM_toList]
 have h' : ((fn.results.toList.mapM fun | .tmp t => pure (tmps.getD t Go.undef) | .cell a t => do loadVar t (<- asAddr (tmps.getD a Go.undef)) : Sem (List Value))).run P w = .ok xs w := h
 rw [map_eq_pure_bind]
 simp only [bind_assoc, pure_bind]
 rw [Sem.run_bind]
 refine (congrArg (fun r => Result.andThen r _) h').trans ?_
 simp only [Result.andThen_ok, List.size_toArray]
 clear h h'
 cases xs with
 | nil => rfl
 | cons x r => cases r with
  | nil => rfl
  | cons y r => rfl
end
end Go.AM
end
