/- Part 3 of the proof that stands in the last text of this folder (lemmas; no statement of its own). -/
import Derived.Test.YtjomjnkapjgheaaDoorK02
section
open Nat renaming reduceBEq → NB, reduceAdd → NA, reduceSub → NS, reduceMul → NM, reduceLT → NL, reduceLeDiff → ND, reduceEqDiff → NE
open Int renaming reduceLT → IL, reduceLE → ID, reduceToNat → IT, reduceEq → IE, reduceBEq → IB, reduceBNe → IN, reduceAdd → IA, reduceSub → IS, reduceNeg → IM
open Bool renaming not_true → BT, not_false → BF
namespace Go.Proofs.AM
open Go
section
variable {P : Program} {glob : Nat → Option (List AV)} {g : G} {H : List AObj} {w : World} {ρ : List AV} {a : Act}
variable {dst : Option Tmp} {type : TypeId} {pos : String} {after : Array Edge} {guard : Option (Nat × Bool)}
theorem gives_of {o : Oper} {R : Value → World → Prop} {v : Value} {w' : World} (h : (execOp a.eval o).run P w = .ok (.value v) w') (hr : R v w') : Gives P o a w R := ⟨v, w', h, hr⟩
theorem map_some {α β : Type} {f : α → β} {x : Option α} {y : β} (h : x.map f = some y) : ∃ z, x = some z ∧ f z = y := by
  cases x with
  | none => simp at h
  | some z => exact ⟨z, rfl, by simpa using h⟩
theorem r_move {X : Operand} {x : AOpd} (hx : opnd glob X = some x) (hw : WF g H w) (hg : GlobOk glob g) (hs : SlotRel g ρ a.tmps) :
    Gives P ⟨dst, .move X, type, pos, after, guard⟩ a w (QPost g H w (x.ev ρ)) :=
  gives_of (by simp [execOp]) (.same hw (opnd_sound hx hg hs))
theorem r_assign {X : Operand} {x : AOpd} (hx : opnd glob X = some x) (hw : WF g H w) (hg : GlobOk glob g) (hs : SlotRel g ρ a.tmps) :
    Gives P ⟨dst, .assign X, type, pos, after, guard⟩ a w (QPost g H w (x.ev ρ)) :=
  gives_of (by simp [execOp]) (.same hw (opnd_sound hx hg hs))
theorem VRel.bool_inv {b : Bool} {x : Value} (h : VRel g (.bool b) x) : x = .bool b := by cases h; rfl
theorem VRel.int_inv {k : IntKind} {n : Int} {x : Value} (h : VRel g (.int k n) x) : x = .int k n := by cases h; rfl
theorem VRel.str_inv {l : List UInt8} {x : Value} (h : VRel g (.str l) x) : ∃ s : ByteArray, x = .string s ∧ s.data.toList = l := by cases h; exact ⟨_, rfl, rfl⟩
theorem r_pick {C A B : Operand} {c x y : AOpd} (hc : opnd glob C = some c) (hx : opnd glob A = some x) (hy : opnd glob B = some y) {t : Bool} (ht : c.ev ρ = .bool t)
    (hw : WF g H w) (hg : GlobOk glob g) (hs : SlotRel g ρ a.tmps) :
    Gives P ⟨dst, .pick C A B, type, pos, after, guard⟩ a w (QPost g H w (if t then x.ev ρ else y.ev ρ)) := by
  have h := opnd_sound hc hg hs
  rw [ht] at h
  have e := h.bool_inv
  refine gives_of (v := if t then a.eval A else a.eval B) (w' := w) ?_ (.same hw ?_)
  · cases t <;> simp [execOp, e, asBool]
  · cases t
    · exact opnd_sound hy hg hs
    · exact opnd_sound hx hg hs
theorem r_load {t : TypeId} {X : Operand} {x : AOpd} {n : Nat} {agg : Bool} (hx : opnd glob X = some x) (hsh : shapeOf P t = some (n, agg)) {cs : List AV} {av : AV}
    (hr : readCells H n (x.ev ρ) = some cs) (ho : ofCells agg cs = some av) (hw : WF g H w) (hg : GlobOk glob g) (hs : SlotRel g ρ a.tmps) :
    Gives P ⟨dst, .load t X, type, pos, after, guard⟩ a w (QPost g H w av) := by
  obtain ⟨b, off, vs, e, hlen, hl, hc⟩ := readCells_sound hw hr (opnd_sound hx hg hs)
  have hrun := run_loadVar' hsh w b off vs (by rw [← hl.1]; exact hlen) hc
  refine gives_of ?_ (.same hw (ofCells_sound ho hl))
  simp [execOp, Instr.loadAt, Instr.sureAddr, e, hrun]
theorem VRel.ptr_inv {o v off : Nat} {x : Value} (h : VRel g (.ptr o v off) x) : ∃ b : Addr, x = .pointer (some b) := by cases h; exact ⟨_, rfl⟩
theorem VRel.vp_inv {o v n k i off : Nat} {x : Value} (h : VRel g (.vp o v n k i off) x) : ∃ b : Addr, x = .pointer (some b) := by cases h; exact ⟨_, rfl⟩
theorem VRel.ep_inv {row : List AV} {off : Nat} {x : Value} (h : VRel g (.ep row off) x) : ∃ b base : Nat, x = .pointer (some ⟨b, base + off, none⟩) := by cases h; exact ⟨_, _, rfl⟩
theorem VRel.fn_inv {f : Nat} {first caps : List AV} {x : Value} (h : VRel g (.fn f first caps) x) :
    ∃ vf vc : Array Value, x = .func (.func f) vf vc ∧ LRel g first vf.toList ∧ LRel g caps vc.toList := by
  cases h with
  | fn f first caps vf vc hf hc h1 h2 =>
    exact ⟨vf, vc, rfl,⟨by simpa using hf, fun i a x ha hx => h1 i a x ha (by simpa using hx)⟩,⟨by simpa using hc, fun i a x ha hx => h2 i a x ha (by simpa using hx)⟩⟩
theorem r_nilck {X : Operand} {x : AOpd} (hx : opnd glob X = some x) {av : AV}
    (hv : evR H ρ (.nilck x) = some av) (hw : WF g H w) (hg : GlobOk glob g) (hs : SlotRel g ρ a.tmps) :
    Gives P ⟨dst, .nilCheck X, type, pos, after, guard⟩ a w (QPost g H w av) := by
  have h := opnd_sound hx hg hs
  simp only [evR] at hv
  have key : ∀ y, x.ev ρ = y → some y = some av → (∀ z, VRel g y z → (∃ b : Addr, z = .pointer (some b)) ∨ ∃ f vf vc, z = .func (.func f) vf vc) →
      Gives P ⟨dst, .nilCheck X, type, pos, after, guard⟩ a w (QPost g H w av) := by
    intro y hy hav hz
    cases hav
    rw [hy] at h
    refine gives_of (v := a.eval X) (w' := w) ?_ (.same hw h)
    rcases hz _ h with ⟨b, e⟩ | ⟨f, vf, vc, e⟩ <;> simp [execOp, e]
  split at hv
  · rename_i o v off e; exact key _ e hv fun z hz => .inl hz.ptr_inv
  · rename_i o v n k i off e; exact key _ e hv fun z hz => .inl hz.vp_inv
  · rename_i row off e; exact key _ e hv fun z hz => .inl (by obtain ⟨b, base, e⟩ := hz.ep_inv; exact ⟨_, e⟩)
  · rename_i f b c e; exact key _ e hv fun z hz => .inr (by obtain ⟨vf, vc, e, _⟩ := hz.fn_inv; exact ⟨f, vf, vc, e⟩)
  · cases hv
theorem bytesLt_eq : ∀ a b : List UInt8, Op.bytesLess a b = bytesLt a b
  | [], [] => rfl
  | [], _ :: _ => rfl
  | _ :: _, [] => rfl
  | x :: a, y :: b => by simp only [Op.bytesLess, bytesLt, bytesLt_eq a b]
theorem tagOf_agg {t : TypeId} {tag : Tag} (h : tagOf P t = some tag) : aggT P t = false ∧ ∃ d, P.underlying t = some d := by
  unfold tagOf at h
  unfold aggT
  split at h
  · rename_i hd; exact ⟨by rw [hd], _, hd⟩
  · rename_i k hd; exact ⟨by rw [hd], _, hd⟩
  · rename_i hd; exact ⟨by rw [hd], _, hd⟩
  · cases h
theorem str_beq {s t : ByteArray} : (s.data.toList == t.data.toList) = (s.toList == t.toList) := by
  rw [ByteArray.toList_eq, ByteArray.toList_eq]
theorem equalIn_plain {t : TypeId} {tag : Tag} (ht : tagOf P t = some tag) {x y : AV} {b : Bool} (h : eqAtom tag x y = some b) {u v : Value} (hx : VRel g x u) (hy : VRel g y v) (d : Nat) :
    (Op.equalIn (d + 1) t u v).run P w = .ok b w := by
  unfold tagOf at ht
  unfold eqAtom at h
  split at h
  · cases h
    cases hx.bool_inv; cases hy.bool_inv
    split at ht <;> try cases ht
    rename_i hd
    exact run_equalIn_bool' w d t _ _ hd
  · split at h
    · rename_i e; cases h; subst e
      cases hx.int_inv; cases hy.int_inv
      split at ht <;> try cases ht
      rename_i hd
      exact run_equalIn_int w d t _ _ _ _ hd
    · cases h
  · cases h
    obtain ⟨s, rfl, hs⟩ := hx.str_inv
    obtain ⟨t', rfl, ht'⟩ := hy.str_inv
    split at ht <;> try cases ht
    rename_i hd
    rw [← hs, ← ht', str_beq]
    exact run_equalIn_string w d t _ _ hd
  · cases h
theorem eqFields_plain (d : Nat) (us vs : Array Value) : ∀ (fs : List Field) (i : Nat) (tags : List Tag), plainFields P i fs = some tags → ∀ (xs ys : List AV) (b : Bool),
    eqCells tags xs ys = some b → (∀ (j : Nat) a u, xs[j]? = some a → us[i + j]? = some u → VRel g a u) → (∀ (j : Nat) a u, ys[j]? = some a → vs[i + j]? = some u → VRel g a u) →
    (∀ j, j < xs.length → (us[i + j]?).isSome) → (∀ j, j < ys.length → (vs[i + j]?).isSome) →
    (Op.eqFields (d + 1) us vs fs).run P w = .ok b w
  | [], i, tags, hp, xs, ys, b, h, _, _, _, _ => by
    simp only [plainFields, Option.some.injEq] at hp
    subst hp
    cases xs <;> cases ys <;> simp [eqCells] at h
    subst h
    simp [Op.eqFields]
  | f :: fs, i, tags, hp, xs, ys, b, h, hx, hy, hxs, hys => by
    unfold plainFields at hp
    split at hp
    · rename_i t ts ht hts
      split at hp
      · rename_i hn
        simp only [Option.some.injEq] at hp
        subst hp
        cases xs with
        | nil => simp [eqCells] at h
        | cons x xs =>
          cases ys with
          | nil => simp [eqCells] at h
          | cons y ys =>
            obtain ⟨u, hu⟩ := Option.isSome_iff_exists.1 (hxs 0 (by simp))
            obtain ⟨v, hv⟩ := Option.isSome_iff_exists.1 (hys 0 (by simp))
            have h1 := hx 0 x u rfl hu
            have h2 := hy 0 y v rfl hv
            obtain ⟨hagg, dd, hdd⟩ := tagOf_agg ht
            simp only [Nat.add_zero] at hu hv
            have p1 : (part f.type us f.offset).run P w = .ok u w := by
              simp only [part, Sem.run_bind, run_isAgg' hdd, Result.andThen_ok, hagg, hn.2, hu]; rfl
            have p2 : (part f.type vs f.offset).run P w = .ok v w := by
              simp only [part, Sem.run_bind, run_isAgg' hdd, Result.andThen_ok, hagg, hn.2, hv]; rfl
            have shift : ∀ (zs : List AV) (z : AV) (ws : Array Value), (∀ j, j < (z :: zs).length → (ws[i + j]?).isSome) → ∀ j, j < zs.length → (ws[i + 1 + j]?).isSome := fun zs z ws hh j hj => by
              have := hh (j + 1) (by simp; omega)
              rwa [show i + (j + 1) = i + 1 + j by omega] at this
            have shiftR : ∀ (zs : List AV) (z : AV) (ws : Array Value), (∀ (j : Nat) a u, (z :: zs)[j]? = some a → ws[i + j]? = some u → VRel g a u) → ∀ (j : Nat) a u, zs[j]? = some a → ws[i + 1 + j]? = some u → VRel g a u := fun zs z ws hh j a u ha hu =>
              hh (j + 1) a u (by simpa using ha) (by rwa [show i + (j + 1) = i + 1 + j by omega])
            simp only [Op.eqFields, hn.1, ne_eq, not_false_eq_true, if_true, Sem.run_bind, p1, p2, Result.andThen_ok]
            unfold eqCells at h
            split at h
            · rename_i he
              rw [equalIn_plain ht he h1 h2 d]
              simp only [Result.andThen_ok, BT, Bool.false_eq_true, if_false]
              exact eqFields_plain d us vs fs (i + 1) ts hts xs ys b h (shiftR _ _ _ hx) (shiftR _ _ _ hy) (shift _ _ _ hxs) (shift _ _ _ hys)
            · rename_i he
              split at h
              · cases h
                rw [equalIn_plain ht he h1 h2 d]
                simp
              · cases h
            · cases h
      · cases hp
    · cases hp
theorem eqOther_sound {t : TypeId} {x y : AV} {b : Bool} (h : eqOther (eqK P t) x y = some b) {u v : Value} (hx : VRel g x u) (hy : VRel g y v) (X Y : Operand) (op : BinOp) :
    (eqGuard op t X Y u v).run P w = .ok () w ∧ (Op.equal t u v).run P w = .ok b w ∧ (binOp .eql t u v = do pure (.bool (← Op.equal t u v))) ∧ (binOp .neq t u v = do pure (.bool (!(← Op.equal t u v)))) := by
  generalize hk : eqK P t = k at h
  unfold eqOther at h
  split at h
  · cases h
    cases hx.bool_inv; cases hy.bool_inv
    unfold eqK at hk
    split at hk <;> try cases hk
    · split at hk <;> try cases hk
      split at hk <;> cases hk
    rename_i hd
    exact ⟨by simp [eqGuard_at_bool], run_equalIn_bool' w 9999 t _ _ hd, by simp [binOp], by simp [binOp]⟩
  · rename_i ts xs ys
    obtain ⟨us, rfl, hus⟩ := hx.agg_list
    obtain ⟨vs, rfl, hvs⟩ := hy.agg_list
    unfold eqK at hk
    split at hk <;> try cases hk
    rename_i fields hd
    split at hk <;> try cases hk
    rename_i ts' hts
    split at hk <;> try cases hk
    rename_i hno
    simp only [Bool.or_eq_true, not_or, Bool.not_eq_true] at hno
    have hfo : P.fieldsOf t = fields := by simp [Program.fieldsOf, hd]
    refine ⟨run_eqGuard_agg w op t X Y us vs hno.2, ?_, by simp [binOp], by simp [binOp]⟩
    show (Op.equalIn (9999 + 1) t (.agg us) (.agg vs)).run P w = .ok b w
    rw [run_equalIn_struct w 9999 t us vs (by rw [hfo]; exact hd) hno.1, hfo]
    exact eqFields_plain 9998 us vs fields.toList 0 ts hts xs ys b h (fun j a z ha hz => hus.2 j a z ha (by simpa using hz)) (fun j a z ha hz => hvs.2 j a z ha (by simpa using hz))
      (fun j hj => by have := hus.1; simp at this ⊢; omega) (fun j hj => by have := hvs.1; simp at this ⊢; omega)
  · cases h
    cases hx; cases hy
    unfold eqK at hk
    split at hk <;> try cases hk
    · split at hk <;> try cases hk
      split at hk <;> cases hk
    rename_i hd
    have key : ∀ d (b : Nat × Array Value × Array Value), (Op.equalIn (d + 1) t .nilFunc .nilFunc).run P w = .ok true w ∧ (Op.equalIn (d + 1) t .nilFunc (.func (.func b.1) b.2.1 b.2.2)).run P w = .ok false w := fun d b => by simp [Op.equalIn, run_underlying hd]
    exact ⟨by simp [eqGuard_at_nilFunc], by first | exact (key 9999 (0, #[], #[])).1 | exact (key 9999 (_, _, _)).2, by simp [binOp], by simp [binOp]⟩
  · cases h
    cases hx; cases hy
    unfold eqK at hk
    split at hk <;> try cases hk
    · split at hk <;> try cases hk
      split at hk <;> cases hk
    rename_i hd
    have key : ∀ d (b : Nat × Array Value × Array Value), (Op.equalIn (d + 1) t (.func (.func b.1) b.2.1 b.2.2) .nilFunc).run P w = .ok false w := fun d b => by simp [Op.equalIn, run_underlying hd]
    exact ⟨by simp [eqGuard_at_func], key 9999 (_, _, _), by simp [binOp], by simp [binOp]⟩
  · cases h
    cases hx; cases hy
    unfold eqK at hk
    split at hk <;> try cases hk
    · split at hk <;> try cases hk
      split at hk <;> cases hk
    rename_i hd
    have key : ∀ d (b : Nat × Array Value × Array Value), (Op.equalIn (d + 1) t .nilFunc .nilFunc).run P w = .ok true w ∧ (Op.equalIn (d + 1) t .nilFunc (.func (.func b.1) b.2.1 b.2.2)).run P w = .ok false w := fun d b => by simp [Op.equalIn, run_underlying hd]
    exact ⟨by simp [eqGuard_at_nilFunc], by first | exact (key 9999 (0, #[], #[])).1 | exact (key 9999 (_, _, _)).2, by simp [binOp], by simp [binOp]⟩
  · cases h
    cases hx; cases hy
    unfold eqK at hk
    split at hk <;> try cases hk
    · split at hk <;> try cases hk
      split at hk <;> cases hk
    rename_i hd
    have key : ∀ d, (Op.equalIn (d + 1) t (.pointer none) (.pointer none)).run P w = .ok true w := fun d => by simp [Op.equalIn, run_underlying hd]
    exact ⟨by simp [eqGuard_at_pointer], key 9999, by simp [binOp], by simp [binOp]⟩
  · cases h
theorem binV_sound {t : TypeId} {op : BinOp} {x y z : AV} (h : binV op (eqK P t) x y = some z) {u v : Value} (hx : VRel g x u) (hy : VRel g y v) (X Y : Operand) :
    ∃ c, (eqGuard op t X Y u v).run P w = .ok () w ∧ (binOp op t u v).run P w = .ok c w ∧ VRel g z c := by
  unfold binV at h
  split at h
  · rename_i k p k' q
    cases hx.int_inv; cases hy.int_inv
    have fin : ∀ c, z = c → (∃ cv, (binOp op t (.int k p) (.int k' q)).run P w = .ok cv w ∧ VRel g c cv) →
        ∃ c, (eqGuard op t X Y (.int k p) (.int k' q)).run P w = .ok () w ∧ (binOp op t (.int k p) (.int k' q)).run P w = .ok c w ∧ VRel g z c := by
      rintro c rfl ⟨cv, h1, h2⟩
      exact ⟨cv, by simp [eqGuard_at_int], h1, h2⟩
    split at h
    all_goals (try (cases h; done))
    all_goals (split at h <;> try (cases h; done))
    all_goals (rename_i hc; cases h)
    all_goals refine fin _ rfl ?_
    · exact ⟨_, by simp only [binOp, Op.shift, hc, if_false]; rfl, .int _ _⟩
    · exact ⟨_, by simp only [binOp, Op.shift, hc, if_false]; rfl, .int _ _⟩
    · subst hc; exact ⟨_, by simp only [binOp, ne_eq, not_true_eq_false, if_false, Op.intArith]; rfl, .int _ _⟩
    · subst hc; exact ⟨_, by simp only [binOp, ne_eq, not_true_eq_false, if_false, Op.intArith]; rfl, .int _ _⟩
    · subst hc; exact ⟨_, by simp only [binOp, ne_eq, not_true_eq_false, if_false, Op.intArith]; rfl, .int _ _⟩
    · obtain ⟨rfl, hq⟩ := hc; exact ⟨_, by simp only [binOp, ne_eq, not_true_eq_false, if_false, Op.intDiv, hq]; rfl, .int _ _⟩
    · obtain ⟨rfl, hq⟩ := hc; exact ⟨_, by simp only [binOp, ne_eq, not_true_eq_false, if_false, Op.intDiv, hq]; rfl, .int _ _⟩
    · subst hc; exact ⟨_, by simp only [binOp, ne_eq, not_true_eq_false, if_false, Op.intBits]; rfl, .int _ _⟩
    · subst hc; exact ⟨_, by simp only [binOp, ne_eq, not_true_eq_false, if_false, Op.intBits]; rfl, .int _ _⟩
    · subst hc; exact ⟨_, by simp only [binOp, ne_eq, not_true_eq_false, if_false, Op.intBits]; rfl, .int _ _⟩
    · subst hc; exact ⟨_, by simp only [binOp, ne_eq, not_true_eq_false, if_false, Op.intCmp]; rfl, .bool _⟩
    · subst hc; exact ⟨_, by simp only [binOp, ne_eq, not_true_eq_false, if_false, Op.intCmp]; rfl, .bool _⟩
    · subst hc; exact ⟨_, by simp only [binOp, ne_eq, not_true_eq_false, if_false, Op.intCmp]; rfl, .bool _⟩
    · subst hc; exact ⟨_, by simp only [binOp, ne_eq, not_true_eq_false, if_false, Op.intCmp]; rfl, .bool _⟩
    · subst hc; exact ⟨_, by simp only [binOp, ne_eq, not_true_eq_false, if_false, Op.intCmp]; rfl, .bool _⟩
    · subst hc; exact ⟨_, by simp only [binOp, ne_eq, not_true_eq_false, if_false, Op.intCmp]; rfl, .bool _⟩
  · rename_i p q
    obtain ⟨s, rfl, hs⟩ := hx.str_inv
    obtain ⟨t', rfl, ht⟩ := hy.str_inv
    have fin : ∀ c, z = c → (∃ cv, (binOp op t (.string s) (.string t')).run P w = .ok cv w ∧ VRel g c cv) →
        ∃ c, (eqGuard op t X Y (.string s) (.string t')).run P w = .ok () w ∧ (binOp op t (.string s) (.string t')).run P w = .ok c w ∧ VRel g z c := by
      rintro c rfl ⟨cv, h1, h2⟩
      exact ⟨cv, by simp [eqGuard_at_string], h1, h2⟩
    have e1 : s.toList = p := by rw [ByteArray.toList_eq]; exact hs
    have e2 : t'.toList = q := by rw [ByteArray.toList_eq]; exact ht
    split at h
    · split at h
      · rename_i hlen
        cases h
        refine fin _ rfl ⟨.string (s ++ t'), ?_, ?_⟩
        · have : ¬ (((s.size + t'.size : Nat) : Int) > IntKind.i64.max) := by
            have h1 : s.size = p.length := by rw [← hs, Array.length_toList]; rfl
            have h2 : t'.size = q.length := by rw [← ht, Array.length_toList]; rfl
            rw [IntKind.max_i64]; omega
          simp only [binOp, Op.stringOp, this, if_false]; rfl
        · have : (s ++ t').data.toList = p ++ q := by rw [ByteArray.data_append, Array.toList_append, hs, ht]
          rw [← this]; exact .str _
      · cases h
    · cases h; exact fin _ rfl ⟨_, by simp only [binOp, Op.stringOp, e1, e2]; rfl, .bool _⟩
    · cases h; exact fin _ rfl ⟨_, by simp only [binOp, Op.stringOp, e1, e2]; rfl, .bool _⟩
    · cases h; exact fin _ rfl ⟨_, by simp only [binOp, Op.stringOp, e1, e2, bytesLt_eq]; rfl, .bool _⟩
    · cases h; exact fin _ rfl ⟨_, by simp only [binOp, Op.stringOp, e1, e2, bytesLt_eq]; rfl, .bool _⟩
    · cases h; exact fin _ rfl ⟨_, by simp only [binOp, Op.stringOp, e1, e2, bytesLt_eq]; rfl, .bool _⟩
    · cases h; exact fin _ rfl ⟨_, by simp only [binOp, Op.stringOp, e1, e2, bytesLt_eq]; rfl, .bool _⟩
    · cases h
  · split at h
    · obtain ⟨b, hb, rfl⟩ := map_some h
      obtain ⟨h1, h2, h3, _⟩ := eqOther_sound (w := w) hb hx hy X Y .eql
      exact ⟨.bool b, h1, by rw [h3]; simp only [Sem.run_bind, h2, Result.andThen_ok, Sem.run_pure], .bool b⟩
    · obtain ⟨b, hb, rfl⟩ := map_some h
      obtain ⟨h1, h2, _, h4⟩ := eqOther_sound (w := w) hb hx hy X Y .neq
      exact ⟨.bool !b, h1, by rw [h4]; simp only [Sem.run_bind, h2, Result.andThen_ok, Sem.run_pure], .bool _⟩
    · cases h
theorem r_bin {t yt : TypeId} {op : BinOp} {X Y : Operand} {x y : AOpd} (hx : opnd glob X = some x) (hy : opnd glob Y = some y) {z : AV}
    (h : binV op (eqK P t) (x.ev ρ) (y.ev ρ) = some z) (hw : WF g H w) (hg : GlobOk glob g) (hs : SlotRel g ρ a.tmps) :
    Gives P ⟨dst, .binOp op t X Y yt, type, pos, after, guard⟩ a w (QPost g H w z) := by
  obtain ⟨c, h1, h2, h3⟩ := binV_sound (w := w) h (opnd_sound hx hg hs) (opnd_sound hy hg hs) X Y
  exact gives_of (by simp [execOp, h1, h2]) (.same hw h3)
theorem r_un {t : TypeId} {op : UnOp} {X : Operand} {x : AOpd} (hx : opnd glob X = some x) {z : AV} (h : unV op (x.ev ρ) = some z)
    (hw : WF g H w) (hg : GlobOk glob g) (hs : SlotRel g ρ a.tmps) : Gives P ⟨dst, .unOp op t X, type, pos, after, guard⟩ a w (QPost g H w z) := by
  have hr := opnd_sound hx hg hs
  unfold unV at h
  split at h
  · rename_i e
    rw [e] at hr
    have ev := hr.int_inv
    split at h
    · cases h; exact gives_of (by simp only [execOp, ev, Op.unary, Op.intArith]; rfl) (.same hw (.int _ _))
    · cases h; exact gives_of (by simp only [execOp, ev, Op.unary, Op.intBits]; rfl) (.same hw (.int _ _))
    · cases h
  · rename_i e
    rw [e] at hr
    have ev := hr.bool_inv
    split at h
    · cases h; exact gives_of (by simp only [execOp, ev, Op.unary]; rfl) (.same hw (.bool _))
    · cases h
  · cases h
theorem str_size {s : ByteArray} {p : List UInt8} (h : s.data.toList = p) : s.size = p.length := by rw [← h, Array.length_toList]; rfl
theorem str_extract {s : ByteArray} {p : List UInt8} (h : s.data.toList = p) (l r : Nat) : (s.extract l r).data.toList = (p.take r).drop l := by
  rw [ByteArray.data_extract, Array.toList_extract, ← h, List.drop_take]
theorem VRel.str' {s : ByteArray} {p : List UInt8} (h : s.data.toList = p) : VRel g (.str p) (.string s) := h ▸ .str s
theorem boundV_sound {dflt most n y : Nat} {x : Option AV} (h : boundV dflt most x = some n) (hm : most ≤ y) {v : Option Value} (hx : ∀ a, x = some a → ∃ u, v = some u ∧ VRel g a u) (hn : x = none → v = none) :
    (x = none ∧ v = none ∧ n = dflt) ∨ (x.isSome = true ∧ n ≤ most ∧ ∃ u, v = some u ∧ ∀ code, (Instr.sliceBound u y code).run P w = .ok n w) := by
  unfold boundV at h
  split at h
  · cases h; exact .inl ⟨rfl, hn rfl, rfl⟩
  · split at h
    · rename_i k m hc
      cases h
      obtain ⟨u, rfl, hr⟩ := hx _ rfl
      cases hr.int_inv
      refine .inr ⟨rfl, by omega, _, rfl, fun code => ?_⟩
      have h1 : 0 ≤ m ∧ m ≤ (y : Int) := by omega
      simp [Instr.sliceBound, asIntOf, h1]
    · cases h
  · cases h
end
end Go.Proofs.AM
end
section
namespace Go.Proofs.AM
open Go
section
variable {P : Program} {glob : Nat → Option (List AV)} {g : G} {H : List AObj} {w : World} {ρ : List AV} {a : Act}
variable {dst : Option Tmp} {type : TypeId} {pos : String} {after : Array Edge} {guard : Option (Nat × Bool)}
theorem oopnd_sound {X : Option Operand} {x : Option AOpd} (hx : oopnd glob X = some x) (hg : GlobOk glob g) (hs : SlotRel g ρ a.tmps) :
    (∀ y, x.map (AOpd.ev ρ) = some y → ∃ u, X.map a.eval = some u ∧ VRel g y u) ∧ (x.map (AOpd.ev ρ) = none → X.map a.eval = none) := by
  cases X with
  | none =>
    simp only [oopnd, Option.some.injEq] at hx
    subst hx
    exact ⟨fun y h => by simp at h, fun _ => rfl⟩
  | some X =>
    simp only [oopnd] at hx
    obtain ⟨z, hz, rfl⟩ := map_some hx
    refine ⟨fun y h => ?_, fun h => by simp at h⟩
    simp at h
    subst h
    exact ⟨_, rfl, opnd_sound hz hg hs⟩
theorem bounds_sound {isSlice : Bool} {len cap l h m : Nat} {lo hi mx : Option AV} (hb : bounds len lo hi mx = some (l, h, m)) (hcap : len ≤ cap)
    {ulo uhi umx : Option Value} (h1 : ∀ y, lo = some y → ∃ u, ulo = some u ∧ VRel g y u) (h1' : lo = none → ulo = none)
    (h2 : ∀ y, hi = some y → ∃ u, uhi = some u ∧ VRel g y u) (h2' : hi = none → uhi = none)
    (h3 : ∀ y, mx = some y → ∃ u, umx = some u ∧ VRel g y u) (h3' : mx = none → umx = none) (hmh : mx.isSome = true → hi.isSome = true) :
    ∃ m', (Instr.sliceBounds isSlice len cap ulo uhi umx).run P w = .ok (l, h, m') w ∧ l ≤ h ∧ h ≤ m ∧ m ≤ len ∧ ((mx.isSome = true ∧ m' = m) ∨ (mx = none ∧ m' = cap ∧ m = len)) := by
  unfold bounds at hb
  split at hb
  · cases hb
  rename_i m0 hm
  split at hb
  · cases hb
  rename_i h0 hh
  split at hb
  · cases hb
  rename_i l0 hl
  simp only [Option.some.injEq, Prod.mk.injEq] at hb
  obtain ⟨rfl, rfl, rfl⟩ := hb
  have hml : m0 ≤ len := by
    rcases boundV_sound (P := P) (w := w) (y := cap) hm hcap h3 h3' with ⟨_, _, e⟩ | ⟨_, e, _⟩ <;> omega
  have hhm : h0 ≤ m0 := by
    rcases boundV_sound (P := P) (w := w) (y := m0) hh (Nat.le_refl _) h2 h2' with ⟨hn, _, e⟩ | ⟨_, e, _⟩
    · rcases boundV_sound (P := P) (w := w) (y := cap) hm hcap h3 h3' with ⟨_, _, e'⟩ | ⟨e', _, _⟩
      · omega
      · have := hmh e'; simp [hn] at this
    · exact e
  have hlh : l0 ≤ h0 := by
    rcases boundV_sound (P := P) (w := w) (y := h0) hl (Nat.le_refl _) h1 h1' with ⟨_, _, e⟩ | ⟨_, e, _⟩ <;> omega
  have low : (ulo = none ∧ l0 = 0) ∨ (∃ u, ulo = some u ∧ ∀ code, (Instr.sliceBound u h0 code).run P w = .ok l0 w) := by
    rcases boundV_sound (P := P) (w := w) (y := h0) hl (Nat.le_refl _) h1 h1' with ⟨_, e1, e2⟩ | ⟨_, _, u, e1, e2⟩
    · exact .inl ⟨e1, e2⟩
    · exact .inr ⟨u, e1, e2⟩
  rcases boundV_sound (P := P) (w := w) (y := cap) hm hcap h3 h3' with ⟨e1, e2, e3⟩ | ⟨e1, _, um, e2, e3⟩
  · subst e2
    subst e1
    refine ⟨cap, ?_, hlh, hhm, hml, .inr ⟨rfl, rfl, e3⟩⟩
    rcases boundV_sound (P := P) (w := w) (y := cap) hh (by omega) h2 h2' with ⟨_, e5, e6⟩ | ⟨_, _, uh, e5, e6⟩
    · subst e5
      subst e6
      rcases low with ⟨l1, l2⟩ | ⟨u, l1, l2⟩ <;> subst l1 <;> cases isSlice <;> simp [Instr.sliceBounds, l2]
    · subst e5
      rcases low with ⟨l1, l2⟩ | ⟨u, l1, l2⟩ <;> subst l1 <;> cases isSlice <;> simp [Instr.sliceBounds, l2, e6]
  · subst e2
    refine ⟨m0, ?_, hlh, hhm, hml, .inl ⟨e1, rfl⟩⟩
    rcases boundV_sound (P := P) (w := w) (y := m0) hh (Nat.le_refl _) h2 h2' with ⟨e4, _, _⟩ | ⟨_, _, uh, e5, e6⟩
    · have := hmh e1; simp [e4] at this
    · subst e5
      rcases low with ⟨l1, l2⟩ | ⟨u, l1, l2⟩ <;> subst l1 <;> cases isSlice <;> simp [Instr.sliceBounds, l2, e3, e6]
theorem r_sliceS {t : TypeId} {X : Operand} {LO HI : Option Operand} {x : AOpd} {lo hi : Option AOpd} (hx : opnd glob X = some x) (hlo : oopnd glob LO = some lo) (hhi : oopnd glob HI = some hi)
    (ht : P.underlying t = some .string) {z : AV} (h : evR H ρ (.sliceS x lo hi) = some z)
    (hw : WF g H w) (hg : GlobOk glob g) (hs : SlotRel g ρ a.tmps) : Gives P ⟨dst, .slice t X LO HI none, type, pos, after, guard⟩ a w (QPost g H w z) := by
  have hr := opnd_sound hx hg hs
  obtain ⟨l1, l2⟩ := oopnd_sound hlo hg hs
  obtain ⟨h1, h2⟩ := oopnd_sound hhi hg hs
  simp only [evR] at h
  split at h
  · rename_i s e
    rw [e] at hr
    obtain ⟨bs, es, hbs⟩ := hr.str_inv
    split at h
    · rename_i l r m hb
      cases h
      obtain ⟨m', hrun, _, _, _, _⟩ := bounds_sound (P := P) (w := w) (isSlice := false) (cap := s.length) (umx := none) hb (Nat.le_refl _) l1 l2 h1 h2 (fun y hy => by simp at hy) (fun _ => rfl) (fun h => by simp at h)
      rw [← str_size hbs] at hrun
      refine gives_of (v := .string (bs.extract l r)) (w' := w) ?_ (.same hw (.str' (str_extract hbs l r)))
      simp [execOp, Instr.sliceAt, run_underlying ht, Instr.slice, es, hrun]
    · cases h
  · cases h
theorem drop_take_get {α : Type} (rows : List α) (l h i : Nat) : ((rows.take h).drop l)[i]? = if l + i < h then rows[l + i]? else none := by
  rw [List.getElem?_drop, List.getElem?_take]
theorem headOk_all {k k' : Nat} {rows : List (List AV)} (h : headOk k rows = true) (hk : ∀ row ∈ rows, row.length = k') : ∀ row ∈ rows, row.length = k := by
  cases rows with
  | nil => intro row hm; simp at hm
  | cons r rs =>
    simp only [headOk, beq_iff_eq] at h
    have := hk r (by simp)
    intro row hm
    rw [hk row hm]; omega
theorem VRel.sl_inv {full : Bool} {rows : List (List AV)} {x : Value} (hx : VRel g (.sl full rows) x) :
    (rows = [] ∧ x = .slice none 0 0) ∨ ∃ b off cap k, x = .slice (some ⟨b, off, none⟩) rows.length cap ∧ rows.length ≤ cap ∧ (full = true → cap = rows.length) ∧ (∀ row ∈ rows, row.length = k) ∧ (∀ (row : List AV), row ∈ rows → row.all AV.still = true) ∧
      (∀ i j, i < rows.length → j < k → (g.perm b (off + i * k + j)).isSome) ∧
      ∀ (i j : Nat) (row : List AV) a x, rows[i]? = some row → row[j]? = some a → g.perm b (off + i * k + j) = some x → VRel g a x := by
  cases hx with
  | slNil full => exact .inl ⟨rfl, rfl⟩
  | sl full rows b off cap k hcap hfull hk hst hp h => exact .inr ⟨b, off, cap, k, rfl, hcap, hfull, hk, hst, hp, h⟩
theorem run_sliceAt {t e : TypeId} {k : Nat} (ht : P.underlying t = some (.slice e)) (hk : size? P e = some k) {A : Option Addr} {len cap l h m : Nat} {lo hi mx : Option Value}
    (hrun : (Instr.sliceBounds true len cap lo hi mx).run P w = .ok (l, h, m) w) :
    (Instr.sliceAt t (.slice A len cap) lo hi mx).run P w = .ok (.slice (if m = l then A else A.map (·.add (l * k))) (h - l) (m - l)) w := by
  simp only [Instr.sliceAt, Sem.run_bind, run_underlying ht, Result.andThen_ok, Instr.slice, hrun, run_sizeOf' hk, Sem.run_pure]
theorem r_sliceV {t e : TypeId} {k : Nat} {X : Operand} {LO HI MX : Option Operand} {x : AOpd} {lo hi mx : Option AOpd} (hx : opnd glob X = some x) (hlo : oopnd glob LO = some lo) (hhi : oopnd glob HI = some hi) (hmx : oopnd glob MX = some mx)
    (ht : P.underlying t = some (.slice e)) (hk : size? P e = some k) {z : AV} (h : evR H ρ (.sliceV k x lo hi mx) = some z)
    (hw : WF g H w) (hg : GlobOk glob g) (hs : SlotRel g ρ a.tmps) : Gives P ⟨dst, .slice t X LO HI MX, type, pos, after, guard⟩ a w (QPost g H w z) := by
  have hr := opnd_sound hx hg hs
  obtain ⟨l1, l2⟩ := oopnd_sound hlo hg hs
  obtain ⟨h1, h2⟩ := oopnd_sound hhi hg hs
  obtain ⟨m1, m2⟩ := oopnd_sound hmx hg hs
  simp only [evR] at h
  split at h
  · rename_i full rows eq
    rw [eq] at hr
    split at h
    · rename_i l r m hb
      split at h
      · rename_i hc
        cases h
        simp only [Bool.and_eq_true, Bool.or_eq_true, Bool.not_eq_true'] at hc
        obtain ⟨hhead, hmh⟩ := hc
        have hmh' : (mx.map (AOpd.ev ρ)).isSome = true → (hi.map (AOpd.ev ρ)).isSome = true := fun e => by
          rcases hmh with e' | e' <;> simp_all
        rcases hr.sl_inv with ⟨er, ex⟩ | ⟨b, off, cap, k', ex, hcap, hfull, hk', hst, hp, hrel⟩
        · subst er
          obtain ⟨m', hrun, hlh, hhm, hml, hm'⟩ := bounds_sound (P := P) (w := w) (isSlice := true) (cap := 0) hb (Nat.le_refl _) l1 l2 h1 h2 m1 m2 hmh'
          simp at hml
          subst hml
          have e1 : r = 0 := by omega
          have e2 : l = 0 := by omega
          have e3 : m' = 0 := by rcases hm' with ⟨_, e⟩ | ⟨_, e, _⟩ <;> omega
          subst e1; subst e2; subst e3
          refine gives_of (v := .slice none 0 0) (w' := w) ?_ (.same hw (.slNil _))
          have := run_sliceAt ht hk (A := none) (len := 0) hrun
          simp only [execOp, ex, Sem.run_bind, this, Result.andThen_ok, Sem.run_pure]
          rfl
        · obtain ⟨m', hrun, hlh, hhm, hml, hm'⟩ := bounds_sound (P := P) (w := w) (isSlice := true) (cap := cap) hb hcap l1 l2 h1 h2 m1 m2 hmh'
          have hkk := headOk_all hhead hk'
          have hrunS := run_sliceAt ht hk (A := some ⟨b, off, none⟩) hrun
          have hmm : m ≤ m' := by rcases hm' with ⟨_, e⟩ | ⟨_, e, _⟩ <;> omega
          have hlen : ((rows.take r).drop l).length = r - l := by simp; omega
          refine gives_of (w' := w) (by simp only [execOp, ex, Sem.run_bind, hrunS, Result.andThen_ok, Sem.run_pure]; rfl) (.same hw ?_)
          rw [← hlen]
          have hadd : (if m' = l then some (⟨b, off, none⟩ : Addr) else (some (⟨b, off, none⟩ : Addr)).map (·.add (l * k))) = some ⟨b, if m' = l then off else off + l * k, none⟩ := by
            split
            · simp
            · simp [add_none]
          rw [hadd]
          refine .sl _ _ b _ (m' - l) k (by omega) (fun hf => ?_) (fun row hm => ?_) (fun row hm => hst row (List.mem_of_mem_take (List.mem_of_mem_drop hm))) (fun i j hi hj => ?_) fun i j row c y hrow hc hy => ?_
          · simp only [Bool.and_eq_true, decide_eq_true_eq, Bool.or_eq_true] at hf
            rw [hlen]
            rcases hm' with ⟨_, e⟩ | ⟨hn, e, e'⟩
            · omega
            · rcases hf.2 with hsome | hfu
              · simp only [Option.map_eq_none_iff] at hn; simp [hn] at hsome
              · have := hfull hfu; omega
          · exact hkk row (List.mem_of_mem_take (List.mem_of_mem_drop hm))
          · have hne : m' ≠ l := by omega
            simp only [hne, if_false]
            have hrl : l + i < rows.length := by omega
            have hk'k : k' = k := by rw [← hk' rows[l + i] (List.getElem_mem hrl)]; exact hkk _ (List.getElem_mem hrl)
            have := hp (l + i) j hrl (by omega)
            rw [hk'k, Nat.add_mul, ← Nat.add_assoc] at this
            exact this
          · rw [drop_take_get] at hrow
            split at hrow
            · rename_i hlt
              have hne : m' ≠ l := by omega
              simp only [hne, if_false] at hy
              have hk'k : k' = k := by rw [← hk' row (List.mem_of_getElem? hrow)]; exact hkk _ (List.mem_of_getElem? hrow)
              refine hrel (l + i) j row c y hrow hc ?_
              rw [hk'k, Nat.add_mul, ← Nat.add_assoc]
              exact hy
            · cases hrow
      · cases h
    · cases h
  · cases h
end
end Go.Proofs.AM
end
section
namespace Go.Proofs.AM
open Go
section
variable {P : Program} {glob : Nat → Option (List AV)} {g : G} {H : List AObj} {w : World} {ρ : List AV} {a : Act}
variable {dst : Option Tmp} {type : TypeId} {pos : String} {after : Array Edge} {guard : Option (Nat × Bool)}
theorem chunk_get {k : Nat} : ∀ (n : Nat) (l : List AV) (i : Nat), i < n → (chunk k n l)[i]? = some ((l.drop (i * k)).take k)
  | 0, _, i, h => by omega
  | n + 1, l, 0, _ => by simp [chunk]
  | n + 1, l, i + 1, h => by
    simp only [chunk, List.getElem?_cons_succ]
    rw [chunk_get n (l.drop k) i (by omega), List.drop_drop, show k + i * k = (i + 1) * k by rw [Nat.add_mul, Nat.one_mul, Nat.add_comm]]
theorem chunk_len {k : Nat} : ∀ (n : Nat) (l : List AV), (chunk k n l).length = n
  | 0, _ => rfl
  | n + 1, l => by simp [chunk, chunk_len n]
theorem r_sliceA {t e : TypeId} {n k : Nat} {X : Operand} {LO HI MX : Option Operand} {x : AOpd} {lo hi mx : Option AOpd} (hx : opnd glob X = some x) (hlo : oopnd glob LO = some lo) (hhi : oopnd glob HI = some hi) (hmx : oopnd glob MX = some mx)
    (ht : P.underlying t = some (.array n e)) (hk : size? P e = some k) {z : AV} (h : evR H ρ (.sliceA n k x lo hi mx) = some z)
    (hw : WF g H w) (hg : GlobOk glob g) (hs : SlotRel g ρ a.tmps) : Gives P ⟨dst, .slice t X LO HI MX, type, pos, after, guard⟩ a w (QPost g H w z) := by
  have hr := opnd_sound hx hg hs
  obtain ⟨l1, l2⟩ := oopnd_sound hlo hg hs
  obtain ⟨h1, h2⟩ := oopnd_sound hhi hg hs
  obtain ⟨m1, m2⟩ := oopnd_sound hmx hg hs
  simp only [evR] at h
  split at h
  · rename_i row off eq
    rw [eq] at hr
    split at h
    · rename_i hoff
      split at h
      · rename_i l r m hb
        split at h
        · rename_i hmh
          cases h
          simp only [Bool.or_eq_true, Bool.not_eq_true'] at hmh
          have hmh' : (mx.map (AOpd.ev ρ)).isSome = true → (hi.map (AOpd.ev ρ)).isSome = true := fun e => by
            rcases hmh with e' | e' <;> simp_all
          generalize hX : a.eval X = xv at hr
          cases hr with
          | ep row off b base hst hp hrel =>
            obtain ⟨m', hrun, hlh, hhm, hml, hm'⟩ := bounds_sound (P := P) (w := w) (isSlice := false) (cap := n) hb (Nat.le_refl _) l1 l2 h1 h2 m1 m2 hmh'
            have hmm : m' = m := by rcases hm' with ⟨_, e⟩ | ⟨_, e, e'⟩ <;> omega
            subst hmm
            have hlen : (((chunk k n (row.drop off)).take r).drop l).length = r - l := by simp [chunk_len]; omega
            have hrow : ∀ (i : Nat) (rw' : List AV), (((chunk k n (row.drop off)).take r).drop l)[i]? = some rw' → l + i < r ∧ rw' = (row.drop (off + (l + i) * k)).take k := fun i rw' hi => by
              rw [drop_take_get] at hi
              split at hi
              · rename_i hlt
                rw [chunk_get n _ (l + i) (by omega), List.drop_drop] at hi
                exact ⟨hlt, (Option.some.inj hi).symm⟩
              · cases hi
            have hin : ∀ i, l + i < r → off + (l + i) * k + k ≤ row.length := fun i hi => by
              have : (l + i + 1) * k ≤ n * k := Nat.mul_le_mul_right _ (by omega)
              rw [Nat.add_mul, Nat.one_mul] at this
              omega
            refine gives_of (v := .slice (some (if m' = l then (⟨b, base + off, none⟩ : Addr) else (⟨b, base + off, none⟩ : Addr).add (l * k))) (r - l) (m' - l)) (w' := w) ?_ (.same hw ?_)
            · simp only [execOp, hX, Instr.sliceAt, Sem.run_bind, run_underlying ht, Result.andThen_ok, Instr.sureAddr, Sem.run_pure, hrun, run_sizeOf' hk]
            · rw [← hlen]
              have hadd : (if m' = l then (⟨b, base + off, none⟩ : Addr) else (⟨b, base + off, none⟩ : Addr).add (l * k)) = ⟨b, if m' = l then base + off else base + off + l * k, none⟩ := by
                split
                · rfl
                · rw [add_none]
              rw [hadd]
              refine .sl _ _ b _ (m' - l) k (by omega) (fun hf => ?_) (fun rw' hm => ?_) (fun rw' hm => ?_) (fun i j hi hj => ?_) fun i j rw' c y hrw hc hy => ?_
              · simp only [decide_eq_true_eq] at hf; omega
              · obtain ⟨i, hi⟩ := List.mem_iff_getElem?.1 hm
                obtain ⟨hlt, rfl⟩ := hrow i rw' hi
                have := hin i hlt
                simp; omega
              · obtain ⟨i, hi⟩ := List.mem_iff_getElem?.1 hm
                obtain ⟨hlt, rfl⟩ := hrow i rw' hi
                rw [List.all_eq_true] at hst ⊢
                exact fun c hc => hst c (List.mem_of_mem_drop (List.mem_of_mem_take hc))
              · have hlt : l + i < r := by omega
                have := hin i hlt
                have hne : m' ≠ l := by omega
                simp only [hne, if_false]
                have := hp (off + (l + i) * k + j) (by omega)
                rwa [show base + (off + (l + i) * k + j) = base + off + l * k + i * k + j by rw [Nat.add_mul]; omega] at this
              · obtain ⟨hlt, rfl⟩ := hrow i rw' hrw
                have hj : j < k := by have := (List.getElem?_eq_some_iff.1 hc).1; simp at this; omega
                have hne : m' ≠ l := by omega
                simp only [hne, if_false] at hy
                rw [List.getElem?_take, if_pos hj, List.getElem?_drop] at hc
                refine hrel (off + (l + i) * k + j) c y hc ?_
                rw [show base + (off + (l + i) * k + j) = base + off + l * k + i * k + j by rw [Nat.add_mul]; omega]
                exact hy
        · cases h
      · cases h
    · cases h
  · cases h
theorem run_fieldAt {s : TypeId} {fields : Array Field} {f n : Nat} {fd : Field} (ht : P.underlying s = some (.struct fields)) (hf : fields[f]? = some fd) (hk : size? P fd.type = some (n + 1)) (b : Addr) :
    (Instr.fieldAt s (.pointer (some b)) f).run P w = .ok (.pointer (some (b.add fd.offset))) w := by
  simp only [Instr.fieldAt, Sem.run_bind, run_underlying ht, Result.andThen_ok, hf, Instr.sureAddr, fieldPlace, run_sizeOf' hk, Sem.run_pure]
  simp
theorem r_fa {s : TypeId} {fields : Array Field} {f n : Nat} {fd : Field} {X : Operand} {x : AOpd} (hx : opnd glob X = some x) (ht : P.underlying s = some (.struct fields)) (hf : fields[f]? = some fd) (hk : size? P fd.type = some (n + 1))
    {z : AV} (h : evR H ρ (.fa fd.offset x) = some z) (hw : WF g H w) (hg : GlobOk glob g) (hs : SlotRel g ρ a.tmps) : Gives P ⟨dst, .fieldAddr s X f, type, pos, after, guard⟩ a w (QPost g H w z) := by
  have hr := opnd_sound hx hg hs
  have fin : ∀ b, a.eval X = .pointer (some b) → VRel g z (.pointer (some (b.add fd.offset))) → Gives P ⟨dst, .fieldAddr s X f, type, pos, after, guard⟩ a w (QPost g H w z) := fun b e hz =>
    gives_of (w' := w) (by simp only [execOp, e, Sem.run_bind, run_fieldAt ht hf hk, Result.andThen_ok, Sem.run_pure]) (.same hw hz)
  simp only [evR] at h
  split at h
  · rename_i e
    rw [e] at hr
    cases h
    generalize hX : a.eval X = xv at hr
    cases hr with
    | ptr o v off l b hl hv hh => exact fin b hX (.ptr _ _ _ l _ hl hv fun e1 e2 => by rw [hh e1 e2, add_none])
  · rename_i e
    rw [e] at hr
    cases h
    generalize hX : a.eval X = xv at hr
    cases hr with
    | vp o v n k i off l b hl hv hn hh => exact fin b hX (.vp _ _ _ _ _ _ l _ hl hv hn fun e1 e2 => by rw [hh e1 e2, add_none, Nat.add_assoc])
  · rename_i e
    rw [e] at hr
    cases h
    generalize hX : a.eval X = xv at hr
    cases hr with
    | ep row off b base hst hp hh => exact fin _ hX (by rw [add_none, Nat.add_assoc]; exact .ep _ _ b base hst hp hh)
  · cases h
theorem LRel.sub {g : G} {cs : List AV} {vs : List Value} (h : LRel g cs vs) (off n : Nat) : LRel g ((cs.drop off).take n) ((vs.drop off).take n) := by
  refine ⟨by have := h.1; simp; omega, fun i a x ha hx => ?_⟩
  rw [List.getElem?_take, List.getElem?_drop] at ha hx
  split at ha
  · rename_i hi
    rw [if_pos hi] at hx
    exact h.2 _ a x ha hx
  · cases ha
theorem part_sound {t : TypeId} {n : Nat} {agg : Bool} (hsh : shapeOf P t = some (n, agg)) {cs : List AV} {vs : Array Value} (hl : LRel g cs vs.toList) {off : Nat} (ho : off + n ≤ cs.length) {z : AV} (h : ofCells agg ((cs.drop off).take n) = some z) :
    ∃ c, (part t vs off).run P w = .ok c w ∧ VRel g z c := by
  obtain ⟨h1, h2,⟨d, h3⟩, h4⟩ := shapeOf_spec hsh
  have hsz : vs.size = cs.length := by have := hl.1; simp at this; omega
  refine ⟨_, ?_, ofCells_sound h (hl.sub off n)⟩
  simp only [part, Sem.run_bind, run_isAgg' h3, Result.andThen_ok, h2]
  cases agg with
  | true =>
    simp only [if_true, Sem.run_bind, run_sizeOf' h1, Result.andThen_ok, Sem.run_pure]
    congr 2
    apply Array.ext'
    simp [List.extract]
  | false =>
    have hn1 := h4 rfl
    subst hn1
    have hlt : off < vs.size := by omega
    have hd : vs.toList.drop off = vs.toList[off] :: vs.toList.drop (off + 1) := List.drop_eq_getElem_cons (by simpa using hlt)
    rw [hd]
    simp [hlt]
theorem r_fld {s : TypeId} {fields : Array Field} {f n : Nat} {agg : Bool} {fd : Field} {X : Operand} {x : AOpd} (hx : opnd glob X = some x) (ht : P.underlying s = some (.struct fields)) (hf : fields[f]? = some fd) (hsh : shapeOf P fd.type = some (n, agg))
    {z : AV} (h : evR H ρ (.fld fd.offset n agg x) = some z) (hw : WF g H w) (hg : GlobOk glob g) (hs : SlotRel g ρ a.tmps) : Gives P ⟨dst, .field s X f, type, pos, after, guard⟩ a w (QPost g H w z) := by
  have hr := opnd_sound hx hg hs
  simp only [evR] at h
  split at h
  · rename_i cs e
    rw [e] at hr
    obtain ⟨vs, ev, hl⟩ := hr.agg_list
    split at h
    · rename_i ho
      obtain ⟨c, h1, h2⟩ := part_sound (P := P) (w := w) hsh hl ho h
      refine gives_of (w' := w) (v := c) ?_ (.same hw h2)
      simp [execOp, Instr.field, run_underlying ht, hf, ev, asAgg, h1]
    · cases h
  · cases h
theorem asIntOf_int (k : IntKind) (n : Int) : (asIntOf (.int k n)).run P w = .ok (k, n) w := rfl
theorem run_indexAt_slice {t e : TypeId} {k : Nat} (ht : P.underlying t = some (.slice e)) (hk : size? P e = some k) (b : Addr) (len cap : Nat) (ik : IntKind) (n : Int) (h0 : 0 ≤ n) (hn : n < len) :
    (Instr.indexAt t (.slice (some b) len cap) (.int ik n)).run P w = .ok (.pointer (some (b.add (n.toNat * k)))) w := by
  have hc : 0 ≤ n ∧ n < (len : Int) := ⟨h0, hn⟩
  simp [Instr.indexAt, asIntOf, run_underlying ht, hc, run_sizeOf' hk]
theorem run_indexAt_array {t e : TypeId} {k len : Nat} (ht : P.underlying t = some (.array len e)) (hk : size? P e = some k) (b : Addr) (ik : IntKind) (n : Int) (h0 : 0 ≤ n) (hn : n < len) :
    (Instr.indexAt t (.pointer (some b)) (.int ik n)).run P w = .ok (.pointer (some (b.add (n.toNat * k)))) w := by
  have hc : 0 ≤ n ∧ n < (len : Int) := ⟨h0, hn⟩
  simp [Instr.indexAt, asIntOf, run_underlying ht, hc, run_sizeOf' hk, Instr.sureAddr]
theorem r_iaV {t e : TypeId} {k : Nat} {X I : Operand} {x i : AOpd} (hx : opnd glob X = some x) (hi : opnd glob I = some i) (ht : P.underlying t = some (.slice e)) (hk : size? P e = some k)
    {z : AV} (h : evR H ρ (.iaV x i k) = some z) (hw : WF g H w) (hg : GlobOk glob g) (hs : SlotRel g ρ a.tmps) : Gives P ⟨dst, .indexAddr t X I, type, pos, after, guard⟩ a w (QPost g H w z) := by
  have hr := opnd_sound hx hg hs
  have hri := opnd_sound hi hg hs
  simp only [evR] at h
  split at h
  · rename_i full rows ik n e1 e2
    rw [e1] at hr
    rw [e2] at hri
    have ei := hri.int_inv
    split at h
    · rename_i h0
      split at h
      · rename_i row hrow
        split at h
        · rename_i hlen
          cases h
          have hlt : n.toNat < rows.length := (List.getElem?_eq_some_iff.1 hrow).1
          rcases hr.sl_inv with ⟨er, _⟩ | ⟨b, off, cap, k', ex, hcap, hfull, hk', hst, hp, hrel⟩
          · subst er; simp at hlt
          · have hkk : k' = k := by rw [← hk' row (List.mem_of_getElem? hrow)]; exact hlen
            subst hkk
            have hlt' : n < (rows.length : Int) := by omega
            refine gives_of (w' := w) (v := .pointer (some ⟨b, off + n.toNat * k' + 0, none⟩)) ?_ (.same hw (.ep row 0 b (off + n.toNat * k') (hst row (List.mem_of_getElem? hrow)) (fun j hj => hp n.toNat j hlt (by omega)) fun j c y hc hy => hrel n.toNat j row c y hrow hc hy))
            simp only [execOp, ex, ei, Sem.run_bind, run_indexAt_slice ht hk _ _ _ _ _ h0 hlt', Result.andThen_ok, Sem.run_pure, add_none, Nat.add_zero]
        · cases h
      · cases h
    · cases h
  · rename_i o v len ik n e1 e2
    rw [e1] at hr
    rw [e2] at hri
    have ei := hri.int_inv
    split at h
    · rename_i hn
      cases h
      generalize hX : a.eval X = xv at hr
      cases hr with
      | sr o v n0 l b cap hl hv hn0 hh =>
        refine gives_of (w' := w) (v := .pointer (some (b.add (n.toNat * k)))) ?_ (.same hw (.vp _ _ _ _ _ _ l _ hl hv hn0 fun e1 e2 => ?_))
        · simp only [execOp, hX, ei, Sem.run_bind, run_indexAt_slice ht hk _ _ _ _ _ hn.1 hn.2, Result.andThen_ok, Sem.run_pure]
        · rw [(hh e1 e2).1, add_none]; simp
    · cases h
  · cases h
theorem r_iaA {t e : TypeId} {k len : Nat} {X I : Operand} {x i : AOpd} (hx : opnd glob X = some x) (hi : opnd glob I = some i) (ht : P.underlying t = some (.array len e)) (hk : size? P e = some k)
    {z : AV} (h : evR H ρ (.iaA len k x i) = some z) (hw : WF g H w) (hg : GlobOk glob g) (hs : SlotRel g ρ a.tmps) : Gives P ⟨dst, .indexAddr t X I, type, pos, after, guard⟩ a w (QPost g H w z) := by
  have hr := opnd_sound hx hg hs
  have hri := opnd_sound hi hg hs
  simp only [evR] at h
  split at h
  · rename_i o v off ik n e1 e2
    rw [e1] at hr
    rw [e2] at hri
    have ei := hri.int_inv
    split at h
    · rename_i hn
      cases h
      generalize hX : a.eval X = xv at hr
      cases hr with
      | ptr o v off l b hl hv hh =>
        refine gives_of (w' := w) (v := .pointer (some (b.add (n.toNat * k)))) (by simp only [execOp, hX, ei, Sem.run_bind, run_indexAt_array ht hk _ _ _ hn.1 hn.2, Result.andThen_ok, Sem.run_pure]) (.same hw (.ptr _ _ _ l _ hl hv fun e1 e2 => by rw [hh e1 e2, add_none]))
    · cases h
  · rename_i row off ik n e1 e2
    rw [e1] at hr
    rw [e2] at hri
    have ei := hri.int_inv
    split at h
    · rename_i hn
      cases h
      generalize hX : a.eval X = xv at hr
      cases hr with
      | ep row off b base hst hp hh =>
        refine gives_of (w' := w) (v := .pointer (some (Addr.add ⟨b, base + off, none⟩ (n.toNat * k)))) (by simp only [execOp, hX, ei, Sem.run_bind, run_indexAt_array ht hk _ _ _ hn.1 hn.2, Result.andThen_ok, Sem.run_pure]) (.same hw (by rw [add_none, Nat.add_assoc]; exact .ep _ _ b base hst hp hh))
    · cases h
  · cases h
theorem r_ixS {t : TypeId} {X I : Operand} {x i : AOpd} (hx : opnd glob X = some x) (hi : opnd glob I = some i) (ht : P.underlying t = some .string)
    {z : AV} (h : evR H ρ (.ixS x i) = some z) (hw : WF g H w) (hg : GlobOk glob g) (hs : SlotRel g ρ a.tmps) : Gives P ⟨dst, .index t X I, type, pos, after, guard⟩ a w (QPost g H w z) := by
  have hr := opnd_sound hx hg hs
  have hri := opnd_sound hi hg hs
  simp only [evR] at h
  split at h
  · rename_i s ik n e1 e2
    rw [e1] at hr
    rw [e2] at hri
    have ei := hri.int_inv
    obtain ⟨bs, ex, hbs⟩ := hr.str_inv
    split at h
    · rename_i h0
      split at h
      · rename_i c hc
        cases h
        have hb : bs[n.toNat]? = some c := by
          rw [← hbs] at hc
          have hlt : n.toNat < bs.data.toList.length := (List.getElem?_eq_some_iff.1 hc).1
          have hlt' : n.toNat < bs.size := by simpa using hlt
          rw [getElem?_pos bs n.toNat hlt']
          rw [List.getElem?_eq_getElem hlt] at hc
          simp only [Option.some.injEq] at hc ⊢
          rw [← hc]
          simp
          rfl
        refine gives_of (w' := w) ?_ (.same hw (.int _ _))
        simp only [execOp, ex, ei, Instr.index, Sem.run_bind, asIntOf_int, run_underlying ht, Result.andThen_ok, h0, if_true, hb, Sem.run_pure]
      · cases h
    · cases h
  · cases h
theorem r_ixA {t e : TypeId} {k len : Nat} {agg : Bool} {X I : Operand} {x i : AOpd} (hx : opnd glob X = some x) (hi : opnd glob I = some i) (ht : P.underlying t = some (.array len e)) (hsh : shapeOf P e = some (k, agg))
    {z : AV} (h : evR H ρ (.ixA len k agg x i) = some z) (hw : WF g H w) (hg : GlobOk glob g) (hs : SlotRel g ρ a.tmps) : Gives P ⟨dst, .index t X I, type, pos, after, guard⟩ a w (QPost g H w z) := by
  have hr := opnd_sound hx hg hs
  have hri := opnd_sound hi hg hs
  simp only [evR] at h
  split at h
  · rename_i cs ik n e1 e2
    rw [e1] at hr
    rw [e2] at hri
    have ei := hri.int_inv
    obtain ⟨vs, ev, hl⟩ := hr.agg_list
    split at h
    · rename_i hn
      obtain ⟨c, h1, h2⟩ := part_sound (P := P) (w := w) hsh hl hn.2.2 h
      have hc : 0 ≤ n ∧ n < (len : Int) := ⟨hn.1, hn.2.1⟩
      refine gives_of (w' := w) (v := c) ?_ (.same hw h2)
      simp only [execOp, ev, ei, Instr.index, Sem.run_bind, asIntOf_int, run_underlying ht, Result.andThen_ok, hc, and_self, if_true, run_sizeOf' (shapeOf_spec hsh).1, h1, Sem.run_pure]
    · cases h
  · cases h
theorem r_lenS {t : TypeId} {ty : TypeId} {X : Operand} {x : AOpd} (hx : opnd glob X = some x) (ht : P.underlying t = some .string)
    {z : AV} (h : evR H ρ (.lenS x) = some z) (hw : WF g H w) (hg : GlobOk glob g) (hs : SlotRel g ρ a.tmps) : Gives P ⟨dst, .call { callee := .builtin .len, args := #[X], argTypes := #[t] }, ty, pos, after, guard⟩ a w (QPost g H w z) := by
  have hr := opnd_sound hx hg hs
  simp only [evR] at h
  split at h
  · rename_i s e
    rw [e] at hr
    obtain ⟨bs, ex, hbs⟩ := hr.str_inv
    cases h
    refine gives_of (w' := w) (v := .int .i64 bs.size) ?_ (.same hw (by rw [str_size hbs]; exact .int _ _))
    simp [execOp, resolve, invoke, builtin, Builtin.len_, run_underlying ht, ex, goInt]
  · cases h
theorem r_lenV {t e : TypeId} {ty : TypeId} {X : Operand} {x : AOpd} (hx : opnd glob X = some x) (ht : P.underlying t = some (.slice e))
    {z : AV} (h : evR H ρ (.lenV x) = some z) (hw : WF g H w) (hg : GlobOk glob g) (hs : SlotRel g ρ a.tmps) : Gives P ⟨dst, .call { callee := .builtin .len, args := #[X], argTypes := #[t] }, ty, pos, after, guard⟩ a w (QPost g H w z) := by
  have hr := opnd_sound hx hg hs
  have fin : ∀ A n c, a.eval X = .slice A n c → z = .int .i64 n → Gives P ⟨dst, .call { callee := .builtin .len, args := #[X], argTypes := #[t] }, ty, pos, after, guard⟩ a w (QPost g H w z) := fun A n c ex ez =>
    gives_of (w' := w) (v := .int .i64 n) (by simp [execOp, resolve, invoke, builtin, Builtin.len_, run_underlying ht, ex, goInt]) (.same hw (by rw [ez]; exact .int _ _))
  simp only [evR] at h
  split at h
  · rename_i full rows e
    rw [e] at hr
    cases h
    rcases hr.sl_inv with ⟨er, ex⟩ | ⟨b, off, cap, k', ex, _⟩
    · exact fin _ _ _ ex (by rw [er]; rfl)
    · exact fin _ _ _ ex rfl
  · rename_i o v n e
    rw [e] at hr
    cases h
    generalize hX : a.eval X = xv at hr
    cases hr with
    | sr o v n0 l b cap hl hv hn0 hh => exact fin _ _ _ hX rfl
  · cases h
theorem r_lenC {t e : TypeId} {n : Nat} {ty : TypeId} {X : Operand} (ht : P.underlying t = some (.array n e)) (hw : WF g H w) :
    Gives P ⟨dst, .call { callee := .builtin .len, args := #[X], argTypes := #[t] }, ty, pos, after, guard⟩ a w (QPost g H w (.int .i64 n)) := by
  refine gives_of (w' := w) (v := .int .i64 n) ?_ (.same hw (.int _ _))
  simp [execOp, resolve, invoke, builtin, Builtin.len_, run_underlying ht, goInt]
theorem r_ext {X : Operand} {x : AOpd} {n : Nat} (hx : opnd glob X = some x)
    {z : AV} (h : evR H ρ (.ext n x) = some z) (hw : WF g H w) (hg : GlobOk glob g) (hs : SlotRel g ρ a.tmps) : Gives P ⟨dst, .extract X n, type, pos, after, guard⟩ a w (QPost g H w z) := by
  have hr := opnd_sound hx hg hs
  simp only [evR] at h
  split at h
  · rename_i vs e
    rw [e] at hr
    obtain ⟨us, ex, hl⟩ := hr.tup_list
    have hlt : n < vs.length := (List.getElem?_eq_some_iff.1 h).1
    have hlt' : n < us.size := by have := hl.1; simp at this; omega
    refine gives_of (w' := w) (v := us[n]) ?_ (.same hw (hl.2 n z _ h (by simp [hlt'])))
    simp [execOp, ex, Instr.extract, hlt']
  · cases h
end
end Go.Proofs.AM
end
