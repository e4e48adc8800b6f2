/- Part 23 of the proof that stands in the last text of this folder (lemmas; no statement of its own). -/
import Derived.Test.YtglokbbcckpaaaaGreatDoorK21
import Derived.Test.YtglokbbcckpaaaaGreatDoorK22
import Derived.Tactics
import Derived.Tactics2
import Derived.Defers
import Derived.Laws.Pointers
import Derived.Laws.LoneSync
import Derived.RegionTactic
import Derived.RegionCalls
import Derived.ChangeAlike
import Derived.ProofKit
set_option linter.unusedVariables false
set_option linter.unusedSimpArgs false
section
set_option maxRecDepth 100000
namespace Go.Proofs.Sa
open Go Go.AM Go.Proofs Go.RowKit Go.Lib
theorem disable (w : World) : (callFunc 376 #[]).run Tryz.prog w = .ok (.value (.tuple #[])) w := run_call_mark0 Tryz.func376 (by kernel_rfl) (by kernel_rfl) (by kernel_rfl) .disable (by kernel_rfl) w
theorem enable (w : World) : (callFunc 378 #[]).run Tryz.prog w = .ok (.value (.tuple #[])) w := run_call_mark0 Tryz.func378 (by kernel_rfl) (by kernel_rfl) (by kernel_rfl) .enable (by kernel_rfl) w
theorem acquire (a : Addr) (w : World) : (callFunc 379 #[.pointer (some a)]).run Tryz.prog w = .ok (.value (.tuple #[])) w := run_call_marked Tryz.func379 (by kernel_rfl) (by kernel_rfl) (by kernel_rfl) .acquire (by kernel_rfl) a w
theorem releaseMerge (a : Addr) (w : World) : (callFunc 381 #[.pointer (some a)]).run Tryz.prog w = .ok (.value (.tuple #[])) w := run_call_marked Tryz.func381 (by kernel_rfl) (by kernel_rfl) (by kernel_rfl) .releaseMerge (by kernel_rfl) a w
theorem anQZ (a : Addr) (x : Value) (u : FrameMode) (w : World) (hc : w.cell? a = some x) (hz : w.frozen? a = false) :
  CallsD Tryz.prog 347 #[.pointer (some a), .bool true] u w fun e u' w' => u' = u /\ (e = .returned (.tuple #[]) /\ w' = w.drew.setCell a (.int .u32 1)) := by
 have hc' : w.drew.cell? a = some x := by go_simp
 have hz' : w.drew.frozen? a = false := by go_simp
 have hst := run_call_store (P := Tryz.prog) Tryz.func368 (by kernel_rfl) (by kernel_rfl) (by kernel_rfl) (by kernel_rfl) (k := .u32) (y := 1) hc' hz'
 go_enter_d Tryz.func347, Tryz.ntmps347
 go_wp2
 go_region_calls
 all_goals (go_end0; exact ⟨rfl, rfl⟩)
theorem arJZ (a : Addr) (w : World) (hc : w.cell? a = some (.int .i32 1)) (hz : w.frozen? a = false) :
  Calls Tryz.prog 367 #[.pointer (some a)] w fun e w' => e = .returned (.tuple #[]) /\ w' = w.setCell a (.int .i32 0) := by
 have hd := disable
 have he := enable
 have hr := releaseMerge
 have hadd := run_call_add (P := Tryz.prog) Tryz.func382 (by kernel_rfl) (by kernel_rfl) (by kernel_rfl) .i32 (by kernel_rfl) (y := -1) (s := 0) hc hz (by simp [go_sem]; rfl)
 have hcv := run_convert_to_unsafe (P := Tryz.prog) (src := 407) (dst := 162) Tryz.underlying407 Tryz.underlying162 (by kernel_rfl) hc
 go_enter Tryz.func367, Tryz.ntmps367
 go_wp2
 go_end0
 go_wp2
theorem ancZ (a : Addr) (u : FrameMode) (w : World) (hc : w.cell? a = some (.int .i32 1)) (hz : w.frozen? a = false) :
  CallsD Tryz.prog 346 #[.pointer (some a)] u w fun e u' w' => u' = u /\ (e = .returned (.tuple #[]) /\ w' = w.setCell a (.int .i32 0)) := by
 have e367 : ∀ args w, (callFunc 367 args).run Tryz.prog w = .ok (.enter 367 args) w := enters_of Tryz.func367 (by kernel_rfl) rfl
 go_enter_d Tryz.func346, Tryz.ntmps346
 go_wp2_with (go_at_fn 367; refine (arJZ a _ hc hz).mono ?_; rintro e w' ⟨rfl, rfl⟩)
 all_goals (go_end0; exact ⟨rfl, rfl⟩)
theorem azoZ (a : Addr) (w : World) (hc : w.cell? a = some (.int .i32 0)) (hz : w.frozen? a = false) :
  Calls Tryz.prog 366 #[.pointer (some a)] w fun e w' => e = .returned (.tuple #[]) /\ w' = w.setCell a (.int .i32 1) := by
 have hd := disable
 have he := enable
 have ha := acquire
 have hcas := run_call_cas_hit (P := Tryz.prog) Tryz.func377 (by kernel_rfl) (by kernel_rfl) (by kernel_rfl) .i32 (by kernel_rfl) (y := 1) hc hz
 have hc' : (w.setCell a (.int .i32 1)).cell? a = some (.int .i32 1) := World.cell?_setCell_same w a _ hc
 have hcv := run_convert_to_unsafe (P := Tryz.prog) (src := 407) (dst := 162) Tryz.underlying407 Tryz.underlying162 (by kernel_rfl) hc'
 go_enter Tryz.func366, Tryz.ntmps366
 go_wp2
 first | go_end0 | (simp only [Exit.inBlock, Exit.then]; refine bodyPost_ret (results_none rfl _ _ _) rfl ?_) | refine bodyPost_ret (results_none rfl _ _ _) rfl ?_
 go_wp2
theorem avyZ (a : Addr) (w : World) (hc : w.cell? a = some (.int .i32 0)) (hz : w.frozen? a = false) :
  Calls Tryz.prog 345 #[.pointer (some a)] w fun e w' => e = .returned (.tuple #[]) /\ w' = w.setCell a (.int .i32 1) := by
 have e366 : ∀ args w, (callFunc 366 args).run Tryz.prog w = .ok (.enter 366 args) w := enters_of Tryz.func366 (by kernel_rfl) rfl
 go_enter Tryz.func345, Tryz.ntmps345
 go_wp2_with (go_at_fn 366; refine (azoZ a _ hc hz).mono ?_; rintro e w' ⟨rfl, rfl⟩)
 all_goals (go_end0; exact ⟨rfl, rfl⟩)
end Go.Proofs.Sa
end
section
set_option maxRecDepth 100000
namespace Go.Proofs.Sa
open Go Go.AM Go.Proofs Go.RowKit Go.Lib
set_option maxHeartbeats 1600000 in
theorem avzZ (b off fid : Nat) (vf vc xs : Array Value) (w : World) (R : World -> Prop)
  (hin : ∀ w, (callFunc fid xs).run Tryz.prog w = .ok (.enter fid xs) w) (hxs : vf ++ vc = xs)
  (h0 : w.cell? ⟨b, off, none⟩ = some (.int .u32 0)) (h1 : w.cell? ⟨b, off + 1, none⟩ = some (.int .i32 0)) (f1 : w.frozen? ⟨b, off + 1, none⟩ = false)
  (hf : Calls Tryz.prog fid xs (w.setCell ⟨b, off + 1, none⟩ (.int .i32 1)) fun e w' => (∃ x, e = .returned x) /\ R w')
  (hR : ∀ w', R w' -> (∃ x, w'.cell? ⟨b, off, none⟩ = some x) /\ w'.frozen? ⟨b, off, none⟩ = false /\ w'.cell? ⟨b, off + 1, none⟩ = some (.int .i32 1) /\ w'.frozen? ⟨b, off + 1, none⟩ = false) :
  Calls Tryz.prog 295 #[.pointer (some ⟨b, off, none⟩), .func (.func fid) vf vc] w fun e w' => e = .returned (.tuple #[]) /\
   ∃ w2, R w2 /\ w' = (w2.drew.setCell ⟨b, off, none⟩ (.int .u32 1)).setCell ⟨b, off + 1, none⟩ (.int .i32 0) := by
 have hl := run_call_load (P := Tryz.prog) Tryz.func344 (by kernel_rfl) (by kernel_rfl) (by kernel_rfl) .u32 (by kernel_rfl) (w := w.setCell ⟨b, off + 1, none⟩ (.int .i32 1)) (a := ⟨b, off, none⟩) (x := 0) ((World.cell?_setCell_other _ ⟨b, off + 1, none⟩ ⟨b, off, none⟩ _ (by simp)).trans h0)
 have hnot : ∀ (x : Bool) (w : World), (Op.unary .not (.bool x)).run Tryz.prog w = .ok (.bool (!x)) w := fun _ _ => rfl
 have e345 : ∀ args w, (callFunc 345 args).run Tryz.prog w = .ok (.enter 345 args) w := enters_of Tryz.func345 (by kernel_rfl) rfl
 subst hxs
 go_enter_defers Tryz.func295, Tryz.ntmps295
 go_wp2_with (go_at_fn 345; refine (avyZ ⟨b, off + 1, none⟩ _ (by go_simp) (by go_simp)).mono ?_; rintro e w' ⟨rfl, rfl⟩)
 go_wp2
 refine hf.mono ?_
 rintro e w' ⟨⟨x, rfl⟩, hw'⟩
 obtain ⟨⟨x0, hx0⟩, z0, hx1, z1⟩ := hR w' hw'
 go_wp2
 all_goals try go_end0
 all_goals try go_wp2
 refine leaves_cons (f := 347) (args := #[.pointer (some ⟨b, off, none⟩), .bool true]) (by simp) (by simp [go_sem]) ?_
 refine (anQZ ⟨b, off, none⟩ x0 .returning _ hx0 z0).mono ?_
 rintro e u' w'' ⟨rfl, rfl, rfl⟩
 refine leaves_cons (f := 346) (args := #[.pointer (some ⟨b, off + 1, none⟩)]) (by simp [settle]) (by simp [go_sem]) ?_
 refine (ancZ ⟨b, off + 1, none⟩ _ _ ?_ (by simp [z1])).mono ?_
 ·refine (World.cell?_setCell_other _ ⟨b, off, none⟩ ⟨b, off + 1, none⟩ _ (by simp)).trans ?_
  rw [World.cell?_drew]
  exact hx1
 rintro e u' w'' ⟨rfl, rfl, rfl⟩
 simp [Leaves, settle, results, Tryz.results295]
 exact ⟨w', hw', rfl⟩
end Go.Proofs.Sa
end
section
set_option maxRecDepth 100000
namespace Go.AM
open Go
section
variable {P : Program} {glob : Glob} {A : AProg} {g : G} {H : List AObj} {w : World}
def azpZ (fid : Nat) (vf vc : List Value) : Oper := ⟨none, .call { callee := .value (.const (.func (.func fid) vf.toArray vc.toArray)), args := #[], argTypes := #[] }, 0, "", #[], none⟩
theorem arKZ {fid : Nat} {first caps : List AV} {vf vc : List Value} (hlf : LRel g first vf) (hlc : LRel g caps vc) {call : Nat -> List AV -> List AObj -> Out} (hcall : abSZ P glob call) {site : Option Nat}
  {av : AV} {H' : List AObj} {wr : List Nat} (h : abrZ call H site (.fn fid first caps) [] = some (av, H', wr)) (hw : WF g H w) (hg : aauZ glob g) :
  (∀ w, (callFunc fid (vf ++ vc).toArray).run P w = .ok (.enter fid (vf ++ vc).toArray) w) /\
  Calls P fid (vf ++ vc).toArray w fun e w' => (∃ x, e = .returned x) /\ ∃ g', Step g H w g' H' w' wr := by
 have hF : ∃ Fn, P.funcs[fid]? = some Fn /\ (Fn.name == "runtime.NumGoroutine") = false /\ Fn.body.isNone = false := by
  have h := h
  simp only [abrZ] at h
  split at h
  ·cases h
  rename_i args' lent hlend
  split at h
  ·cases h
  rename_i v H2 wr2 hc
  have hargs : LRel g (first ++ [] ++ caps) (vf ++ [] ++ vc) := (hlf.append ⟨rfl, fun i a x h => by simp at h⟩).append hlc
  obtain ⟨l1, l2⟩ := agXZ hw hlend hargs
  obtain ⟨g1, hstep1, hlent⟩ := aevZ lent g H hw fun o ho => .inl (l1 o ho)
  exact (hcall fid _ _ v H2 wr2 hc g1 w _ hstep1.wf (hg.mono hstep1.le) (l2 g1 hlent).strip).1
 obtain ⟨Fn, hfn, hname, hbody⟩ := hF
 have hn : ¬ (Fn.name = "runtime.NumGoroutine") := by simpa using hname
 have hb : ¬ (Fn.body = none) := fun e => by rw [e] at hbody; simp at hbody
 refine ⟨fun w => by simp [callFunc, hfn, hn, hb], ?_⟩
 have hrun : (execOp (Act.eval { tmps := #[], defers := [] }) (azpZ fid vf vc)).run P w = .ok (.enter fid (vf ++ vc).toArray) w := by
  simp [azpZ, execOp, resolve, Act.eval, Deferred.ofValue, invoke, callFunc, hfn, hn, hb]
 have hd := akxZ (o := azpZ fid vf vc) (a := { tmps := #[], defers := [] })
  (vx := []) hlf ⟨rfl, fun i a x h => by simp at h⟩ hlc hcall h hw hg fun Fn' _ _ _ => by simpa using hrun
 rcases hd with ⟨v, w', hr, _⟩ | ⟨w', hr, _⟩ | ⟨f, args, w1, hr, hR⟩
 ·rw [hrun] at hr; cases hr
 ·rw [hrun] at hr; cases hr
 ·rw [hrun] at hr
  cases hr
  refine hR.mono fun e w' he => ?_
  cases e with
  | panicked c => exact he.elim
  | outgrown => exact he.elim
  | returned x => exact ⟨⟨x, rfl⟩, by obtain ⟨g', h1, _⟩ := he; exact ⟨g', h1⟩⟩
def faV (off : Nat) : AV -> Option AV
 | .ptr o v off0 => some (.ptr o v (off0 + off))
 | .vp o v n k i off0 => some (.vp o v n k i (off0 + off))
 | .ep row off0 => some (.ep row (off0 + off))
 | _ => none
theorem faV0 {a a' : AV} (h : faV 0 a = some a') : a' = a := by
 cases a <;> first | (simp only [faV, Option.some.injEq, Nat.add_zero] at h; exact h.symm) | cases h
theorem avAZ {off b o2 : Nat} {a a' : AV} (h : faV off a = some a') (hv : VRel g a (.pointer (some ⟨b, o2, none⟩))) : VRel g a' (.pointer (some ⟨b, o2 + off, none⟩)) := by
 cases hv with
 | ptr o v off0 l ad hl hv hh =>
  simp only [faV, Option.some.injEq] at h
  subst h
  exact .ptr o v _ l _ hl hv fun e1 e2 => by have := hh e1 e2; simp only [Addr.mk.injEq] at this; rw [this.1, this.2.1]
 | vp o v n k i off0 l ad hl hv hn hh =>
  simp only [faV, Option.some.injEq] at h
  subst h
  exact .vp o v n k i _ l _ hl hv hn fun e1 e2 => by have := hh e1 e2; simp only [Addr.mk.injEq] at this; rw [this.1, this.2.1, Nat.add_assoc]
 | ep row off0 b' base hst hp hh =>
  simp only [faV, Option.some.injEq] at h
  subst h
  have := VRel.ep row (off0 + off) b base hst hp hh
  rwa [<- Nat.add_assoc] at this
 | undef => cases h
def chkC (off : Nat) (k : IntKind) (m : Int) : ACode :=
 .seq (.region false [⟨some 1, .fld 0 1 false (.tmp 0), none, []⟩,⟨some 1, .fa off (.tmp 1), none, []⟩,⟨some 1, .load 1 false (.tmp 1), none, []⟩,⟨some 1, .bin .eql .no (.tmp 1) (.const (.int k m)), none, []⟩]) (.cond (.tmp 1) .skip .bad)
def putC (off : Nat) (k : IntKind) (m : Int) : ACode :=
 .region false [⟨some 1, .fld 0 1 false (.tmp 0), none, []⟩,⟨some 1, .fa off (.tmp 1), none, []⟩,⟨none, .store 1 (.tmp 1) (.const (.int k m)), none, []⟩]
def aBXZ : ACode := .region false [⟨some 1, .fld 1 1 false (.tmp 0), none, []⟩,⟨some 1, .callv (.tmp 1) [], none, []⟩]
def azqZ : ACode := .seq (chkC 0 .u32 0) <| .seq (chkC 1 .i32 0) <| .seq (putC 1 .i32 1) <| .seq aBXZ <| .seq (chkC 1 .i32 1) <| .seq (putC 0 .u32 1) (putC 1 .i32 0)
def afTZ : AFn := ⟨2, [], [],.seq (.region false [⟨some 0, .nilck (.tmp 0), none, []⟩,⟨some 1, .nilck (.tmp 1), none, []⟩,⟨some 0, .build [.undef, .undef] [(0, 1, .tmp 0), (1, 1, .tmp 1)], none, []⟩]) azqZ⟩
theorem aqGZ {b : Nat} {d : Option Nat} : (⟨b, []⟩ : Ctx).site d = none := by
 cases d <;> simp [Ctx.site]
theorem opR {call : Nat -> List AV -> List AObj -> Out} {b : Nat} {o : AOper} {r : List AOper} {s s' : ASt} (hgd : o.guard = none) (hW : isW none false o.op = false)
  (h : adRZ call ⟨b, []⟩ (o :: r) s = some s') : ∃ v, evR s.H s.ρ o.op = some v /\ adRZ call ⟨b, []⟩ r ⟨putSlot s.ρ o.dst v, s.H, s.wr⟩ = some s' := by
 simp only [adRZ, afaZ, wanted, hgd, if_true, evOp, aqGZ, hW, Bool.false_eq_true, if_false] at h
 split at h
 ·rename_i v H' wr h1
  split at h1
  ·rename_i v2 h2
   cases h1
   exact ⟨_, h2, h⟩
  ·cases h1
 ·cases h
theorem opW {call : Nat -> List AV -> List AObj -> Out} {b : Nat} {o : AOper} {r : List AOper} {s s' : ASt} (hgd : o.guard = none) (hW : isW none false o.op = true)
  (h : adRZ call ⟨b, []⟩ (o :: r) s = some s') : ∃ v H' l, evW call s.H s.ρ none o.op = some (v, H', l) /\ adRZ call ⟨b, []⟩ r ⟨putSlot s.ρ o.dst v, H', aaCZ b s.wr l⟩ = some s' := by
 simp only [adRZ, afaZ, wanted, hgd, if_true, evOp, aqGZ, hW] at h
 split at h
 ·rename_i v H' wr h1
  exact ⟨_, _, _, h1, h⟩
 ·cases h
theorem aimZ {n : Nat} {c : Ctx} {x y : ACode} {s : ASt} {e s'} (hx : ∀ m e s1, aaNZ A m c x s = some (e, s1) -> e = .normal) (h : aaNZ A n c (.seq x y) s = some (e, s')) :
  ∃ m s1, m < n /\ aaNZ A m c x s = some (.normal, s1) /\ aaNZ A m c y s1 = some (e, s') := by
 cases n with
 | zero => rw [acgZ] at h; cases h
 | succ m =>
  rw [aclZ] at h
  split at h
  ·rename_i s1 h1
   exact ⟨m, s1, Nat.lt_succ_self m, h1, h⟩
  ·rename_i hno
   obtain rfl := hx m e s' h
   exact absurd h (hno s')
theorem akLZ {n : Nat} {c : Ctx} {ops : List AOper} {s : ASt} {e s'} (h : aaNZ A n c (.region false ops) s = some (e, s')) : e = .normal /\ ∃ m, m < n /\ adRZ (aaXZ A m) c ops s = some s' := by
 cases n with
 | zero => rw [acgZ] at h; cases h
 | succ m =>
  rw [acyZ] at h
  simp only [actZ, Bool.false_and, Bool.false_eq_true, if_false] at h
  split at h
  ·rename_i s1 h1
   cases h
   exact ⟨rfl, m, Nat.lt_succ_self m, h1⟩
  ·cases h
theorem azrZ {x : AV} {k : IntKind} {m : Int} (h : binV .eql .no x (.int k m) = some (.bool true)) : x = .int k m := by
 cases x with
 | int k' m' =>
  simp only [binV] at h
  split at h
  ·rename_i hk
   subst hk
   simp at h
   rw [h]
  ·cases h
 | _ => change none = some _ at h; cases h
theorem akMZ {n b off : Nat} {k : IntKind} {m : Int} {p f y : AV} {H : List AObj} {wr : List Nat} {e s'} (h : aaNZ A n ⟨b, []⟩ (chkC off k m) ⟨[.agg [p, f], y], H, wr⟩ = some (e, s')) :
  e = .normal /\ ∃ p' z, faV off p = some p' /\ aamZ H 1 p' = some [.int k m] /\ s' = ⟨[.agg [p, f], z], H, wr⟩ := by
 obtain ⟨n1, s1, _, h1, h2⟩ := aimZ (fun m e s1 h => (akLZ h).1) h
 obtain ⟨_, n2, _, h1⟩ := akLZ h1
 obtain ⟨v1, e1, h1⟩ := opR rfl rfl h1
 obtain ⟨v2, e2, h1⟩ := opR rfl rfl h1
 obtain ⟨v3, e3, h1⟩ := opR rfl rfl h1
 obtain ⟨v4, e4, h1⟩ := opR rfl rfl h1
 simp only [adRZ, Option.some.injEq] at h1
 subst h1
 simp [evR, AOpd.ev, abnZ] at e1
 subst e1
 simp only [evR, putSlot, AOpd.ev, List.set_cons_succ, List.set_cons_zero, List.getElem?_cons_succ, List.getElem?_cons_zero, Option.getD_some] at e2 e3 e4
 have e2' : faV off p = some v2 := by cases p <;> simp_all [faV]
 cases n1 with
 | zero => rw [acgZ] at h2; cases h2
 | succ n1 =>
  rw [aczZ] at h2
  simp only [putSlot, AOpd.ev, List.set_cons_succ, List.set_cons_zero, List.getElem?_cons_succ, List.getElem?_cons_zero, Option.getD_some] at h2
  split at h2
  ·cases n1 with
   | zero => rw [acgZ] at h2; cases h2
   | succ n1 =>
    rw [ahcZ] at h2
    cases h2
    refine ⟨rfl, v2, .bool true, e2', ?_, rfl⟩
    split at e3
    ·rename_i cs hr
     have hc : cs = [v3] := by
      simp only [abnZ, Bool.false_eq_true, if_false] at e3
      split at e3
      ·cases e3; rfl
      ·cases e3
     subst hc
     rw [hr, azrZ e4]
    ·cases e3
  ·cases n1 with
   | zero => rw [acgZ] at h2; cases h2
   | succ n1 => rw [agLZ] at h2; cases h2
  ·cases h2
theorem avBZ {call : Nat -> List AV -> List AObj -> Out} {H H' : List AObj} {ρ : List AV} {x : AOpd} {k : IntKind} {m : Int} {a : AV} {l : List Nat} (h : evW call H ρ none (.store 1 x (.const (.int k m))) = some (a, H', l)) :
  storeCells H [.int k m] (x.ev ρ) = some (H', l) := by
 have e : evW call H ρ none (.store 1 x (.const (.int k m))) = (match storeCells H [.int k m] (x.ev ρ) with | some (H', wr) => some (.undef, H', wr) | none => none) := rfl
 rw [e] at h
 split at h
 ·rename_i h1
  cases h
  exact h1
 ·cases h
theorem aqHZ {H : List AObj} {ρ : List AV} {x : AOpd} {v : AV} (h : evR H ρ (.nilck x) = some v) : v = x.ev ρ /\ v.cells = [v] /\ v ≠ .undef := by
 simp only [evR] at h
 split at h <;> first | (cases h; rename_i e; exact ⟨e.symm, rfl, by simp⟩) | cases h
theorem avCZ {H : List AObj} {ρ : List AV} {p f v : AV} (hp : ρ[0]? = some p) (hf : ρ[1]? = some f) (cp : p.cells = [p]) (cf : f.cells = [f])
  (h : evR H ρ (.build [.undef, .undef] [(0, 1, .tmp 0), (1, 1, .tmp 1)]) = some v) : v = .agg [p, f] := by
 simp only [evR, ackZ, AOpd.ev, hp, hf, Option.getD_some, cp, cf] at h
 split at h
 ·split at h
  ·simpa [adjZ] using h.symm
  ·cases h
 ·cases h
theorem andZ {n b off : Nat} {k : IntKind} {m : Int} {p f y : AV} {H : List AObj} {wr : List Nat} {e s'} (h : aaNZ A n ⟨b, []⟩ (putC off k m) ⟨[.agg [p, f], y], H, wr⟩ = some (e, s')) :
  e = .normal /\ ∃ p' z H' l, faV off p = some p' /\ storeCells H [.int k m] p' = some (H', l) /\ s' = ⟨[.agg [p, f], z], H', aaCZ b wr l⟩ := by
 obtain ⟨he, n2, _, h1⟩ := akLZ h
 obtain ⟨v1, e1, h1⟩ := opR rfl rfl h1
 obtain ⟨v2, e2, h1⟩ := opR rfl rfl h1
 obtain ⟨v3, H3, l, e3, h1⟩ := opW rfl rfl h1
 simp only [adRZ, Option.some.injEq] at h1
 subst h1
 simp [evR, AOpd.ev, abnZ] at e1
 subst e1
 have e3 := avBZ e3
 simp only [evR, putSlot, AOpd.ev, List.set_cons_succ, List.set_cons_zero, List.getElem?_cons_succ, List.getElem?_cons_zero, Option.getD_some] at e2 e3
 have e2' : faV off p = some v2 := by cases p <;> simp_all [faV]
 exact ⟨he, v2, v2, H3, l, e2', e3, rfl⟩
theorem asKZ {n b : Nat} {p f y : AV} {H : List AObj} {wr : List Nat} {e s'} (h : aaNZ A n ⟨b, []⟩ aBXZ ⟨[.agg [p, f], y], H, wr⟩ = some (e, s')) :
  e = .normal /\ ∃ m z H' l, m < n /\ abrZ (aaXZ A m) H none f [] = some (z, H', l) /\ s' = ⟨[.agg [p, f], z], H', aaCZ b wr l⟩ := by
 obtain ⟨he, n2, hn, h1⟩ := akLZ h
 obtain ⟨v1, e1, h1⟩ := opR rfl rfl h1
 obtain ⟨v3, H3, l, e3, h1⟩ := opW rfl rfl h1
 simp only [adRZ, Option.some.injEq] at h1
 subst h1
 simp [evR, AOpd.ev, abnZ] at e1
 subst e1
 simp only [evW, putSlot, AOpd.ev, List.set_cons_succ, List.set_cons_zero, List.getElem?_cons_succ, List.getElem?_cons_zero, Option.getD_some, List.map_nil] at e3
 exact ⟨he, n2, v3, H3, l, hn, e3, rfl⟩
theorem axeZ {n : Nat} {args : List AV} {H : List AObj} {r : AV × List AObj × List Nat} (hp : A.prim 295 = none) (hf : A.fn 295 = some afTZ) (h : aaXZ A n 295 args H = some r) :
  ∃ p f q0 q1 m z H1 H2 H3 H4 l1 l2 l3 l4, args = [p, f] /\ m < n /\ faV 0 p = some q0 /\ faV 1 p = some q1 /\ aamZ H 1 q0 = some [.int .u32 0] /\ aamZ H 1 q1 = some [.int .i32 0] /\
   storeCells H [.int .i32 1] q1 = some (H1, l1) /\ abrZ (aaXZ A m) H1 none f [] = some (z, H2, l2) /\ aamZ H2 1 q1 = some [.int .i32 1] /\
   storeCells H2 [.int .u32 1] q0 = some (H3, l3) /\ storeCells H3 [.int .i32 0] q1 = some (H4, l4) /\
   r = aaVZ H.length (.tup [], H4, aaCZ H.length (aaCZ H.length (aaCZ H.length (aaCZ H.length [] l1) l2) l3) l4) := by
 rcases ahTZ h with ⟨p, v1, hp', _⟩ | ⟨fn, s', e, r', hf', he, hee, hfin, hr, hN⟩
 ·rw [hp] at hp'; cases hp'
 rw [hf] at hf'
 cases hf'
 obtain ⟨n1, s1, hn1, h1, he⟩ := aimZ (fun m e s1 h => (akLZ h).1) he
 obtain ⟨_, _, _, h1⟩ := akLZ h1
 obtain ⟨u1, d1, h1⟩ := opR rfl rfl h1
 obtain ⟨u2, d2, h1⟩ := opR rfl rfl h1
 obtain ⟨v1, e1, h1⟩ := opR rfl rfl h1
 simp only [adRZ, Option.some.injEq] at h1
 subst h1
 obtain ⟨d1, c1, u1'⟩ := aqHZ d1
 obtain ⟨d2, c2, u2'⟩ := aqHZ d2
 match args, d1, d2, e1, hN with
 | [], d1, _, e1, _ => exact absurd (by simpa [aejZ, afTZ, AOpd.ev] using d1) u1'
 | [p], d1, d2, e1, _ => exact absurd (by simpa [aejZ, afTZ, AOpd.ev, putSlot] using d2) u2'
 | p :: f :: x :: r, d1, d2, e1, hN => simp [afTZ] at hN
 | [p, f], d1, d2, e1, hN =>
  simp [aejZ, afTZ, AOpd.ev, putSlot] at d1 d2
  subst d1
  subst d2
  have hv1 : v1 = .agg [u1, u2] := avCZ (by simp [aejZ, afTZ, putSlot]) (by simp [aejZ, afTZ, putSlot]) c1 c2 e1
  subst hv1
  have he : aaNZ A n1 ⟨H.length, []⟩ azqZ ⟨[.agg [u1, u2], u2], H, []⟩ = some (e, s') := by simpa [aejZ, putSlot, afTZ] using he
  unfold azqZ at he
  obtain ⟨n3, s3, hn3, h3, he⟩ := aimZ (fun m e s1 h => (akMZ h).1) he
  obtain ⟨_, q0, z0, a1, a2, rfl⟩ := akMZ h3
  obtain ⟨n4, s4, hn4, h4, he⟩ := aimZ (fun m e s1 h => (akMZ h).1) he
  obtain ⟨_, q1, z1, b1, b2, rfl⟩ := akMZ h4
  obtain ⟨n5, s5, hn5, h5, he⟩ := aimZ (fun m e s1 h => (andZ h).1) he
  obtain ⟨_, q1', z2, H1, l1, c1, c2, rfl⟩ := andZ h5
  obtain ⟨n6, s6, hn6, h6, he⟩ := aimZ (fun m e s1 h => (asKZ h).1) he
  obtain ⟨_, m, z3, H2, l2, hm, d1, rfl⟩ := asKZ h6
  obtain ⟨n7, s7, hn7, h7, he⟩ := aimZ (fun m e s1 h => (akMZ h).1) he
  obtain ⟨_, q2, z4, f1, f2, rfl⟩ := akMZ h7
  obtain ⟨n8, s8, hn8, h8, he⟩ := aimZ (fun m e s1 h => (andZ h).1) he
  obtain ⟨_, q3, z5, H3, l3, g1, g2, rfl⟩ := andZ h8
  obtain ⟨_, q4, z6, H4, l4, i1, i2, rfl⟩ := andZ he
  rw [b1] at c1 f1 i1
  rw [a1] at g1
  cases c1; cases f1; cases i1; cases g1
  refine ⟨u1, u2, q0, q1, m, z3, H1, H2, H3, H4, l1, l2, l3, l4, rfl, by omega, a1, b1, a2, b2, c2, d1, f2, g2, i2, ?_⟩
  rw [hr]
  simp [ahvZ, aoMZ, aktZ, afTZ, aaCZ] at hfin
  rw [<- hfin]
end
end Go.AM
namespace Go.Proofs.Sa
open Go Go.AM Go.Proofs Go.RowKit Go.Lib
theorem slow_ok {glob : Glob} {A : AProg} (hp : A.prim 295 = none) (hf : A.fn 295 = some afTZ) : aBVZ Tryz.prog glob A 295 := by
 intro n hm f' args H av H' wr hh g w xs hw hg hx
 dsimp only at hh
 split at hh
 rotate_left
 ·cases hh
 rename_i e
 subst e
 refine ⟨⟨Tryz.f295, Tryz.func295, by kernel_rfl, by kernel_rfl⟩, ?_⟩
 obtain ⟨p, f, q0, q1, m, z, H1, H2, H3, H4, l1, l2, l3, l4, rfl, hmn, a0, a1, r0, r1, s1, d1, r2, s3, s4, hr⟩ := axeZ hp hf hh
 obtain ⟨x, y, rfl, hv, hy⟩ := aeMZ hx
 have hx0 : ∃ b off, x = .pointer (some ⟨b, off, none⟩) := by
  have e := faV0 a0
  subst e
  obtain ⟨b, off, _, e, _⟩ := abgZ hw r0 hv
  exact ⟨b, off, e⟩
 obtain ⟨b, off, rfl⟩ := hx0
 have v0 := avAZ a0 hv
 have v1 := avAZ a1 hv
 obtain ⟨b0, o0, vs0, e0, k0, t0, c0⟩ := abgZ hw r0 v0
 cases e0
 obtain ⟨b1, o1, vs1, e1, k1, t1, c1⟩ := abgZ hw r1 v1
 cases e1
 have hc0 : w.cell? ⟨b, off, none⟩ = some (.int .u32 0) := by
  obtain ⟨hl, hr⟩ := t0
  match vs0, hl with
  | [y0], _ =>
   have := hr 0 _ _ rfl rfl
   cases this
   exact c0 0 _ rfl
 have hc1 : w.cell? ⟨b, off + 1, none⟩ = some (.int .i32 0) := by
  obtain ⟨hl, hr⟩ := t1
  match vs1, hl with
  | [y0], _ =>
   have := hr 0 _ _ rfl rfl
   cases this
   exact c1 0 _ rfl
 have one : ∀ {g : G} (k : IntKind) (n : Int), LRel g [.int k n] [.int k n] := fun k n => ⟨rfl, fun i a x e1 e2 => by
  match i with
  | 0 => simp at e1 e2; subst e1; subst e2; exact .int k n
  | i + 1 => simp at e1⟩
 obtain ⟨b2, o2, e2, i2, f2, st1⟩ := abBZ hw s1 v1 (one .i32 1)
 cases e2
 have hz1 := f2 0 (by simp)
 cases f with
 | fn fid first caps =>
  obtain ⟨vf, vc, ey, hlf, hlc⟩ := hy.fn_inv
  subst ey
  have hcall := hm m hmn
  obtain ⟨hin, hcalls⟩ := arKZ (P := Tryz.prog) (hlf.mono st1.le) (hlc.mono st1.le) hcall d1 st1.wf (hg.mono st1.le)
  refine (avzZ b off fid vf vc _ w (fun w' => ∃ g', Step g H1 (w.setCells b (off + 1) [.int .i32 1]) g' H2 w' l2) hin (by simp) hc0 hc1 hz1 ?_ ?_).mono ?_
  ·simpa [World.setCells] using hcalls
  ·rintro w' ⟨g', st2⟩
   have hle := st1.le.trans st2.le
   obtain ⟨b3, o3, e3, i3, f3, st3⟩ := abBZ st2.wf s3 (v0.mono hle) (one .u32 1)
   cases e3
   obtain ⟨b4, o4, e4, i4, f4, st4⟩ := abBZ st3.wf s4 (v1.mono hle) (one .i32 0)
   cases e4
   obtain ⟨b5, o5, vs5, e5, k5, t5, c5⟩ := abgZ st2.wf r2 (v1.mono hle)
   cases e5
   refine ⟨?_, f3 0 (by simp), ?_, ?_⟩
   ·have := i3 0 (by simp)
    exact Option.isSome_iff_exists.1 this
   ·obtain ⟨hl, hr⟩ := t5
    match vs5, hl with
    | [y0], _ =>
     have := hr 0 _ _ rfl rfl
     cases this
     exact c5 0 _ rfl
   ·have := f4 0 (by simp)
    simpa [World.setCells] using this
  ·rintro e w' ⟨rfl, w2,⟨g', st2⟩, rfl⟩
   have st2' := st2.trans (Step.of_heap (w' := w2.drew) st2.wf rfl)
   have hle := st1.le.trans st2'.le
   obtain ⟨b3, o3, e3, i3, f3, st3⟩ := abBZ st2'.wf s3 (v0.mono hle) (one .u32 1)
   cases e3
   obtain ⟨b4, o4, e4, i4, f4, st4⟩ := abBZ st3.wf s4 (v1.mono hle) (one .i32 0)
   cases e4
   have hall := ((st1.trans st2').trans st3).trans st4
   have hall2 := Step.narrow (wr := aaCZ H.length (aaCZ H.length (aaCZ H.length (aaCZ H.length [] l1) l2) l3) l4) hw.lt hall (fun o ho hb => by
    simp only [List.append_nil, List.mem_append] at ho
    rcases ho with ((ho | ho) | ho) | ho
    ·exact (aaBZ _ _ _).1 o ((aaBZ _ _ _).1 o ((aaBZ _ _ _).1 o ((aaBZ _ _ _).2 o ho hb)))
    ·exact (aaBZ _ _ _).1 o ((aaBZ _ _ _).1 o ((aaBZ _ _ _).2 o ho hb))
    ·exact (aaBZ _ _ _).1 o ((aaBZ _ _ _).2 o ho hb)
    ·exact (aaBZ _ _ _).2 o ho hb)
   simp only [World.setCells] at hall2
   simp only [aaVZ] at hr
   split at hr
   ·rename_i hcut
    simp only [Bool.and_eq_true] at hcut
    cases hr
    refine ⟨g'.cut H.length, Step.cut hw hall2 fun o ho x hx => ?_, VRel.skip _⟩
    have := List.all_eq_true.1 hcut.2 o ho
    rw [hx] at this
    exact this
   ·cases hr
    exact ⟨g', hall2, VRel.skip _⟩
 | _ => simp [abrZ] at d1
end Go.Proofs.Sa
end
section
set_option maxRecDepth 100000
namespace Go.AM
open Go
def aBYZ (f : Nat) : List Nat := match f with
 | 3 => [11, 45, 74, 19, 20, 106, 108]
 | 4 => [2, 22, 4, 7, 10, 58, 13, 81, 98, 104]
 | 6 => [1, 52, 56]
 | 8 => [13]
 | 9 => [2, 5, 32]
 | 10 => [2]
 | 11 => [2]
 | 12 => [2]
 | 13 => [37]
 | 14 => [3]
 | 16 => [4, 5]
 | 17 => [4, 6, 9]
 | 18 => [3]
 | 19 => [4, 5, 28, 58, 68]
 | 20 => [2, 3, 6]
 | 26 => [8]
 | 27 => [2, 40]
 | 31 => [2, 7]
 | 33 => [28]
 | 34 => [4, 5]
 | 35 => [2]
 | 36 => [2, 3, 29, 34]
 | 37 => [81, 83, 2, 3, 18, 35, 58, 69, 84]
 | 38 => [2, 3, 12, 57, 61, 66]
 | 39 => [23]
 | 41 => [1]
 | 43 => [2, 3]
 | 44 => [1, 32, 50, 86, 91, 127, 132, 150]
 | 45 => [18]
 | 46 => [2, 3, 7, 8]
 | 50 => [14]
 | 52 => [1, 5]
 | 53 => [4, 6, 8]
 | 54 => [2, 3, 6, 8]
 | 55 => [4, 7, 46]
 | 57 => [1]
 | 58 => [1]
 | 59 => [1]
 | 61 => [1]
 | 64 => [1]
 | 65 => [2, 3]
 | 66 => [2, 3]
 | 67 => [2, 3]
 | 68 => [5]
 | 71 => [1]
 | 72 => [1]
 | 74 => [1, 7, 10, 11, 15, 16, 21, 22, 26, 27, 33, 34, 50, 51, 55, 56, 60, 61, 65, 66]
 | 77 => [1, 5]
 | 78 => [1, 7]
 | 79 => [1]
 | 80 => [1]
 | 81 => [2]
 | 82 => [1]
 | 83 => [1, 6, 7]
 | 84 => [1]
 | 85 => [2, 3, 8, 9]
 | 86 => [1, 39, 58]
 | 87 => [2, 3]
 | 88 => [1]
 | 92 => [12, 98]
 | 95 => [1]
 | 96 => [1]
 | 97 => [1, 4]
 | 98 => [1]
 | 99 => [6]
 | 100 => [2]
 | 101 => [26]
 | 102 => [1]
 | 103 => [1]
 | 104 => [2, 3]
 | 105 => [1]
 | 106 => [1]
 | 107 => [2]
 | 108 => [2, 4, 47]
 | 109 => [1]
 | 110 => [1, 30, 36]
 | 111 => [2]
 | 112 => [2, 4, 5, 3]
 | 113 => [1]
 | 114 => [1, 26, 32]
 | 115 => [2]
 | 116 => [2, 3, 37, 42, 48]
 | 117 => [1]
 | 118 => [16]
 | 119 => [2]
 | 120 => [4, 3]
 | 121 => [21, 33, 39, 57]
 | 122 => [7, 20, 21, 27, 28]
 | 123 => [1, 13, 27, 28]
 | 124 => [7, 19, 20]
 | 125 => [7, 19, 20]
 | 126 => [1, 15, 63, 66, 67]
 | 127 => [1, 12, 27, 28, 8, 71, 74, 75]
 | 129 => [1]
 | 131 => [1]
 | 132 => [24, 30, 33]
 | 133 => [1]
 | 136 => [1]
 | 138 => [2, 3]
 | 140 => [2]
 | 143 => [3, 4, 5]
 | 152 => [7]
 | 153 => [1]
 | 154 => [1, 13, 5, 7, 9, 11]
 | 155 => [1, 5]
 | 156 => [1, 5]
 | 157 => [2, 5]
 | 160 => [2]
 | 161 => [1]
 | 162 => [1]
 | 163 => [1, 2, 5]
 | 164 => [2]
 | 166 => [1]
 | 167 => [1]
 | 169 => [4, 7, 18, 22, 39, 44, 54, 61, 71, 89]
 | 170 => [2, 3, 4, 13]
 | 174 => [9, 11]
 | 177 => [34, 35, 36, 48, 49, 22]
 | 178 => [5, 16]
 | 179 => [2, 3, 4]
 | 180 => [12]
 | 181 => [5, 8]
 | 184 => [1]
 | 186 => [2]
 | 187 => [1]
 | 188 => [1]
 | 189 => [1]
 | 190 => [1, 4]
 | 191 => [1, 7]
 | 194 => [1]
 | 196 => [1]
 | 197 => [1, 7]
 | 200 => [7]
 | 204 => [2]
 | 205 => [3]
 | 206 => [7]
 | 207 => [1]
 | 208 => [7]
 | 209 => [1]
 | 210 => [7]
 | 211 => [1]
 | 215 => [3, 9, 11]
 | 217 => [3]
 | 218 => [14]
 | 220 => [1]
 | 222 => [1]
 | 225 => [2, 3]
 | 226 => [2, 3]
 | 227 => [10]
 | 230 => [3, 4, 5, 6]
 | 233 => [31]
 | 239 => [1, 9, 16, 23, 28, 39, 46]
 | 249 => [2]
 | 250 => [2, 3]
 | 251 => [1, 2, 3]
 | 253 => [2, 9]
 | 255 => [7]
 | 257 => [7]
 | 259 => [7]
 | 261 => [7]
 | 262 => [1]
 | 263 => [1]
 | 265 => [2]
 | 267 => [2]
 | 270 => [5]
 | 271 => [1, 5]
 | 272 => [9]
 | 275 => [2]
 | 276 => [3, 4, 5]
 | 280 => [14]
 | 281 => [2, 3]
 | 283 => [3]
 | 290 => [10]
 | 291 => [10]
 | 292 => [15]
 | 293 => [15]
 | 296 => [6, 94, 11, 121, 123, 124]
 | 300 => [2, 3]
 | 306 => [2, 3]
 | 310 => [8, 9]
 | 312 => [7]
 | 313 => [1]
 | 323 => [2]
 | 324 => [7]
 | 325 => [1]
 | 326 => [7]
 | 328 => [7]
 | 330 => [7]
 | 331 => [1]
 | 336 => [9]
 | 337 => [17, 7, 27]
 | 338 => [2, 4, 5]
 | 343 => [5]
 | 348 => [9]
 | 349 => [13]
 | 350 => [8, 9]
 | 352 => [2]
 | 355 => [2]
 | 361 => [2]
 | 362 => [2]
 | 370 => [16]
 | 371 => [100, 101, 163, 210, 230]
 | 410 => [5]
 | 413 => [5]
 | 419 => [85]
 | 423 => [11]
 | 424 => [11]
 | 425 => [2]
 | 426 => [14]
 | _ => []
def frzK (f r : Nat) : List (Nat × Nat) := match f, r with
 | 3, 7 => [(0, 12)]
 | 37, 13 => [(1, 94)]
 | 112, 3 => [(1, 3)]
 | 126, 10 => [(0, 5)]
 | 127, 15 => [(0, 6)]
 | 233, 18 => [(0, 9)]
 | _, _ => []
def nlK (f : Nat) : Bool := match f with
 | 154 | 174 | 227 | 296 | 419 => true
 | _ => false
def tyK (f : Nat) : List Nat := match f with
 | 50 => [109, 231, 5]
 | 154 => [109, 231, 5]
 | 218 => [109, 231, 5]
 | 227 => [109, 231, 5]
 | _ => []
def atNZ (f : Nat) : Option Prim := match f with
 | 69 => some (akKZ 109 231)
 | 51 => some (arFZ 5)
 | 49 => some (aznZ 109 5)
 | 26 => some arGZ
 | 285 => some idxP
 | 278 => some arHZ
 | 294 => some anaZ
 | 21 => some atJZ
 | _ => none
def opsK : List AV := [[], [], [110, 101, 103], [43], [45], [42], [47], [94], [114, 111, 111, 116], [61], [60]].map AV.str
def rowK (n : Nat) : Option (List AV) := if n = 6 then some opsK else if n = 0 then some (Lib.pow10Tab.map fun z => AV.int .u64 z) else none
def ajuZ : Glob := ⟨rowK, false, []⟩
noncomputable def fnK (f : Nat) : Option AFn := match f with
 | 295 => some afTZ
 | f => match Go.Proofs.Tryz.prog.funcs[f]? with
  | some F => match F.body, athZ Go.Proofs.Tryz.prog F.results.toList with
   | some b, some rs => some ⟨F.ntmps, aBYZ f, rs, agTZ Go.Proofs.Tryz.prog { ajuZ with nl := nlK f, typed := tyK f } (frzK f) b⟩
   | _, _ => none
  | none => none
noncomputable def AK : AProg := ⟨fnK, atNZ⟩
theorem axfZ : (Go.Proofs.Tryz.prog.funcs.toList.all fun F => !(F.name == "runtime.NumGoroutine")) = true := by kernel_rfl
theorem azsZ {f : Nat} {F : Func} (h : Go.Proofs.Tryz.prog.funcs[f]? = some F) : (F.name == "runtime.NumGoroutine") = false := by
 have := List.all_eq_true.1 axfZ F (by rw [Array.mem_toList_iff]; exact Array.mem_of_getElem? h)
 simpa using this
theorem aBZZ {f : Nat} {fn : AFn} (hne : f ≠ 295) (h : fnK f = some fn) : asIZ Go.Proofs.Tryz.prog ajuZ f fn := by
 unfold fnK at h
 split at h
 ·exact absurd rfl hne
 split at h
 ·rename_i F hF
  split at h
  ·rename_i b rs hb hr
   cases h
   exact ⟨F, b, frzK f, nlK f, tyK f, hF, azsZ hF, hb, rfl, rfl, hr⟩
  ·cases h
 ·cases h
theorem tabK : Go.Proofs.Tryz.prog.globalNamed "internal/strconv.uint64pow10" = some 0 := by kernel_rfl
theorem axgZ : Good Go.Proofs.Tryz.prog ajuZ AK where
 mixed := by kernel_rfl
 fn := fun f fn h => by
  by_cases e : f = 295
  ·subst e
   exact .inr (Go.Proofs.Sa.slow_ok rfl rfl)
  ·exact .inl (aBZZ e h)
 prim := fun f p h => by
  have h : atNZ f = some p := h
  unfold atNZ at h
  split at h
  ·cases h; exact Go.Proofs.Sa.copyCheck_ok
  ·cases h; exact Go.Proofs.Sa.string_ok
  ·cases h; exact Go.Proofs.Sa.grow_ok
  ·cases h; exact Go.Proofs.Sa.join_ok
  ·cases h; exact Go.Proofs.Sa.index_ok
  ·cases h; exact Go.Proofs.Sa.count_ok
  ·cases h; exact Go.Proofs.Sa.boolLoad_ok
  ·cases h; exact Go.Proofs.Sa.itoa_ok tabK rfl
  ·cases h
end Go.AM
end
section
namespace Go.AM
open Go
def apmZ : AV -> List AObj -> List Nat -> Bool := fun v H wr => match v, H, wr with | .bool true, [], [] => true | _, _, _ => false
def axhZ : AV -> List AObj -> List Nat -> Bool := fun v H wr => match v, H, wr with | .str [53], [], [] => true | _, _, _ => false
def aqIZ : List AV := [.agg [.int .i64 (0), .sl false [[.int .i64 (0), .str [97, 32, 126]], [.int .i64 (1), .str [98]]], .int .i64 (0), .int .i64 (0), .sl false [], .int .i64 (0), .sl false [], .sl false [], .int .i64 (0), .int .i64 (0), .sl false [], .sl false [], .sl false []], .str [97, 32, 126, 126, 126, 124, 98]]
def aqJZ : List AV := [.agg [.int .i64 (2), .sl false [], .int .i64 (0), .int .i64 (0), .sl false [], .int .i64 (3), .sl false [[.int .i64 (12)], [.int .i64 (7)]], .sl false [], .int .i64 (0), .int .i64 (0), .sl false [], .sl false [], .sl false []], .str [43, 32, 49, 50, 32, 55]]
def aqKZ : List AV := [.agg [.int .i64 (3), .sl false [], .int .i64 (0), .int .i64 (0), .sl false [], .int .i64 (0), .sl false [], .sl false [[.sl false [[.str [97]], [.str [98, 59]]]], [.sl false [[.str []], [.str [124]]]]], .int .i64 (0), .int .i64 (0), .sl false [], .sl false [], .sl false []], .str [97, 124, 98, 126, 59, 59, 124, 126, 124]]
def aqLZ : List AV := [.agg [.int .i64 (6), .sl false [], .int .i64 (0), .int .i64 (0), .sl false [], .int .i64 (0), .sl false [], .sl false [], .int .i64 (0), .int .i64 (0), .sl false [], .sl false [], .sl false [[.str [120]], [.str []], [.str [126]]]], .str [120, 126, 124, 126, 124, 126, 126]]
def aqMZ : List AV := [.agg [.int .i64 (5), .sl false [], .int .i64 (0), .int .i64 (0), .sl false [], .int .i64 (0), .sl false [], .sl false [], .int .i64 (0), .int .i64 (0), .sl false [], .sl false [[.sl false [[.sl false [[.int .i64 (21), .int .i64 (2), .int .i64 (0)], [.int .i64 (-1), .int .i64 (1), .int .i64 (0)]]], [.sl false [[.int .i64 (3), .int .i64 (4), .int .i64 (1)]]]]]], .sl false []], .str [99, 51, 50, 32, 114, 49, 124, 102, 35, 48, 52]]
def aoAZ : List AV := [.agg [.int .i64 (1), .sl false [], .sl false [], .sl false [[.int .i64 (0)], [.int .i64 (2)]], .str [], .int .i64 (0), .sl false []], .sl false [[.str [97, 49, 50, 98, 51]], [.str [57]], [.str [57, 57, 48]]]]
end Go.AM
end
