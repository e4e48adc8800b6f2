/- Part 28 of the proof that stands in the last text of this folder (lemmas; no statement of its own). -/
import Derived.Test.YtglokbbcckpaaaaGreatDoorK21
import Derived.Test.YtglokbbcckpaaaaGreatDoorK24
import Derived.Test.YtglokbbcckpaaaaGreatDoorK25
import Derived.Test.YtglokbbcckpaaaaGreatDoorK26
import Derived.Test.YtglokbbcckpaaaaGreatDoorK27
set_option linter.unusedVariables false
set_option linter.unusedSimpArgs false
section
namespace Go.AM
open Go
def all2 {α : Type} (p : α -> α -> Bool) : List α -> List α -> Bool
 | [], [] => true
 | a :: x, b :: y => p a b && all2 p x y
 | _, _ => false
theorem akNZ {α : Type} {p : α -> α -> Bool} (hp : ∀ a b, p a b = true -> a = b) : ∀ x y : List α, all2 p x y = true -> x = y
 | [], [], _ => rfl
 | a :: x, b :: y, h => by
  simp only [all2, Bool.and_eq_true] at h
  rw [hp a b h.1, akNZ hp x y h.2]
 | [], _ :: _, h => by cases h
 | _ :: _, [], h => by cases h
def avDZ : Nat -> AV -> AV -> Bool
 | 0, _, _ => false
 | n + 1, a, b => match a, b with
  | .int k x, .int k' y => decide (k = k') && decide (x = y)
  | .str x, .str y => all2 (fun a b => decide (a = b)) x y
  | .sl f x, .sl g y => (f == g) && all2 (all2 (avDZ n)) x y
  | .agg x, .agg y => all2 (avDZ n) x y
  | _, _ => false
theorem apnZ : ∀ (n : Nat) (a b : AV), avDZ n a b = true -> a = b
 | 0, _, _, h => by cases h
 | n + 1, a, b, h => by
  unfold avDZ at h
  split at h
  ·simp only [Bool.and_eq_true, decide_eq_true_eq] at h
   rw [h.1, h.2]
  ·rw [akNZ (fun a b h => by simpa using h) _ _ h]
  ·simp only [Bool.and_eq_true, beq_iff_eq] at h
   rw [h.1, akNZ (akNZ (apnZ n)) _ _ h.2]
  ·rw [akNZ (apnZ n) _ _ h]
  ·cases h
def agCZ : List (List AV × AV) -> Prim
 | [], _, _ => none
 | (a, v) :: r, args, H => if all2 (avDZ 10) a args = true then some (v, [], []) else agCZ r args H
theorem aneZ : ∀ {tab : List (List AV × AV)} {args : List AV} {H : List AObj} {r}, agCZ tab args H = some r -> ∃ v, (args, v) ∈ tab /\ r = (v, [], [])
 | [], _, _, _, h => by cases h
 | (a, v) :: t, args, H, r, h => by
  unfold agCZ at h
  split at h
  ·rename_i e
   cases h
   have := akNZ (apnZ 10) _ _ e
   subst this
   exact ⟨v, by simp, rfl⟩
  ·obtain ⟨v', h1, h2⟩ := aneZ h
   exact ⟨v', by simp [h1], h2⟩
theorem aqNZ {n : Nat} : ∀ {l : List AV}, abLZ n l = true -> ∀ (i : Nat) a, l[i]? = some a -> a.under n = true
 | [], _, i, a, h => by simp at h
 | v :: r, hu, i, a, h => by
  simp only [abLZ, Bool.and_eq_true] at hu
  cases i with
  | zero => simp at h; subst h; exact hu.1
  | succ i => exact aqNZ hu.2 i a (by simpa using h)
theorem anfZ {P : Program} {glob : Glob} {A : AProg} (hA : Good P glob A) (hglob : ∀ n row, glob.row n = some row -> abLZ 0 row = true) {f : Nat} {tab : List (List AV × AV)}
  (hf : ∃ F, P.funcs[f]? = some F /\ (F.name == "runtime.NumGoroutine") = false /\ F.body.isNone = false)
  (h : ∀ a v, (a, v) ∈ tab -> v.atomic = true /\ abLZ 0 a = true /\ aapZ A f a [] = some (v, [], [])) :
  abSZ P glob fun f' args H => if f' = f then (agCZ tab args H).map (abxZ H) else none := by
 refine ahoZ hf fun args H v ws ns hp g w xs hw hg hx => ?_
 obtain ⟨v', hm, e⟩ := aneZ hp
 cases e
 obtain ⟨hat, hu, hc⟩ := h args v hm
 obtain ⟨n, hc⟩ := aoWZ hc
 have hw0 : WF (g.cut 0) [] w := by
  refine ⟨hw.perm, fun o l h => by simp [G.cut] at h, fun o l h => by simp [G.cut] at h, fun o x l _ h => by simp [G.cut] at h, fun o l x h => ?_, fun o l x h => ?_, fun o o' l l' x x' h => ?_,⟨fun b y hy => ⟨(hw.whole.blocks b y hy).1, fun o l z hz => ?_⟩, hw.whole.io⟩⟩
  all_goals first
   | (have := h.at_; simp at this; done)
   | (have := hz.at_; simp at this; done)
 have hg0 : aauZ glob (g.cut 0) := fun n row e => by
  obtain ⟨h1, h2⟩ := hg n row e
  exact ⟨h1.cut (by simpa [AV.under] using hglob n row e), h2⟩
 have hx0 : LRel (g.cut 0) args xs := ⟨hx.1, fun i a x e1 e2 => (hx.2 i a x e1 e2).cut (aqNZ hu i a e1)⟩
 refine ((altZ hA n f args [] v [] [] hc (g.cut 0) w xs hw0 hg0 hx0).2).mono fun e w' he => ?_
 cases e with
 | panicked c => exact he
 | outgrown => exact he
 | returned x =>
  obtain ⟨g', hs, hr⟩ := he
  have hio : w'.os = w.os /\ w'.output = w.output := by
   have e1 := hs.wf.whole.io
   have e2 := hs.le.io
   have e3 := hw.whole.io
   rw [e2] at e1
   have e4 : (w.os, w.output) = (w'.os, w'.output) := e3.symm.trans e1
   exact ⟨(congrArg Prod.fst e4).symm, (congrArg Prod.snd e4).symm⟩
  refine ⟨g, by simpa [adSZ] using Step.bigger hw hs.frame.1 (fun b hb => hs.frame.2 b hb fun o ho => by cases ho) hio, ?_⟩
  cases v <;> first | (simp [AV.atomic, AV.atom] at hat; done) | exact VRel.atomic hr hat
theorem afrZ {A : AProg} {m n f : Nat} {args : List AV} (h : alUZ A m n f args [] apmZ = true) : aapZ A f args [] = some (.bool true, [], []) := by
 obtain ⟨v, H', wr, h1, h2⟩ := ajtZ A m n f args [] apmZ h
 unfold apmZ at h2
 split at h2
 ·exact h1
 ·cases h2
theorem atOZ {A : AProg} {m n f : Nat} {args : List AV} (h : alUZ A m n f args [] axhZ = true) : aapZ A f args [] = some (.str [53], [], []) := by
 obtain ⟨v, H', wr, h1, h2⟩ := ajtZ A m n f args [] axhZ h
 unfold axhZ at h2
 split at h2
 ·exact h1
 ·cases h2
theorem akOZ : ∀ n row, ajuZ.row n = some row -> abLZ 0 row = true := by
 intro n row h
 simp only [ajuZ, rowK] at h
 split at h
 ·cases h; rfl
 ·split at h
  ·cases h; rfl
  ·cases h
def azuZ : List (List AV × AV) := [(aqIZ, .bool true), (aqJZ, .bool true), (aqKZ, .bool true), (aqLZ, .bool true), (aqMZ, .bool true)]
def tab9 : List (List AV × AV) := [(aoAZ, .str [53])]
def azvZ (f : Nat) : Option Prim := match f with
 | 31 => some (agCZ azuZ)
 | 9 => some (agCZ tab9)
 | f => atNZ f
noncomputable def AL : AProg := ⟨fnK, azvZ⟩
theorem azwZ : abSZ Go.Proofs.Tryz.prog ajuZ fun f' args H => if f' = 31 then (agCZ azuZ args H).map (abxZ H) else none := by
 refine anfZ axgZ akOZ ⟨Go.Proofs.Tryz.f31, Go.Proofs.Tryz.func31, by kernel_rfl, by kernel_rfl⟩ fun a v h => ?_
 simp only [azuZ, List.mem_cons, Prod.mk.injEq, or_false, List.not_mem_nil] at h
 rcases h with ⟨rfl, rfl⟩ | ⟨rfl, rfl⟩ | ⟨rfl, rfl⟩ | ⟨rfl, rfl⟩ | ⟨rfl, rfl⟩
 ·exact ⟨rfl, by kernel_rfl, afrZ aEzZ⟩
 ·exact ⟨rfl, by kernel_rfl, afrZ aEAZ⟩
 ·exact ⟨rfl, by kernel_rfl, afrZ aEBZ⟩
 ·exact ⟨rfl, by kernel_rfl, afrZ aECZ⟩
 ·exact ⟨rfl, by kernel_rfl, afrZ aEDZ⟩
theorem avEZ : abSZ Go.Proofs.Tryz.prog ajuZ fun f' args H => if f' = 9 then (agCZ tab9 args H).map (abxZ H) else none := by
 refine anfZ axgZ akOZ ⟨Go.Proofs.Tryz.f9, Go.Proofs.Tryz.func9, by kernel_rfl, by kernel_rfl⟩ fun a v h => ?_
 simp only [tab9, List.mem_cons, Prod.mk.injEq, or_false, List.not_mem_nil] at h
 obtain ⟨rfl, rfl⟩ := h
 exact ⟨rfl, by kernel_rfl, atOZ aztZ⟩
theorem avFZ {A : AProg} (hfn : A.fn = fnK) (h295 : A.prim 295 = none) (hprim : ∀ f p, A.prim f = some p -> atNZ f = some p ∨ abSZ Go.Proofs.Tryz.prog ajuZ fun f' args H => if f' = f then (p args H).map (abxZ H) else none) :
  Good Go.Proofs.Tryz.prog ajuZ A where
 mixed := axgZ.mixed
 fn := fun f fn h => by
  rw [hfn] at h
  by_cases e : f = 295
  ·subst e
   exact .inr (Go.Proofs.Sa.slow_ok h295 (by rw [hfn]; rfl))
  ·exact .inl (aBZZ e h)
 prim := fun f p h => (hprim f p h).elim (fun h => axgZ.prim f p h) id
theorem aEEZ : Good Go.Proofs.Tryz.prog ajuZ AL := avFZ rfl rfl fun f p h => by
 have h : azvZ f = some p := h
 unfold azvZ at h
 split at h
 ·cases h; exact .inr azwZ
 ·cases h; exact .inr avEZ
 ·exact .inl h
theorem atPZ : alUZ AL 10000 100 14 [] [] apmZ = true := by kernel_rfl
def azxZ : List (List AV × AV) := [([], .bool true)]
theorem axiZ : abSZ Go.Proofs.Tryz.prog ajuZ fun f' args H => if f' = 14 then (agCZ azxZ args H).map (abxZ H) else none := by
 refine anfZ aEEZ akOZ ⟨Go.Proofs.Tryz.f14, Go.Proofs.Tryz.func14, by kernel_rfl, by kernel_rfl⟩ fun a v h => ?_
 simp only [azxZ, List.mem_cons, Prod.mk.injEq, or_false, List.not_mem_nil] at h
 obtain ⟨rfl, rfl⟩ := h
 exact ⟨rfl, rfl, afrZ atPZ⟩
def azyZ (f : Nat) : Option Prim := match f with
 | 14 => some (agCZ azxZ)
 | f => atNZ f
noncomputable def AM0 : AProg := ⟨fnK, azyZ⟩
theorem aEFZ : Good Go.Proofs.Tryz.prog ajuZ AM0 := avFZ rfl rfl fun f p h => by
 have h : azyZ f = some p := h
 unfold azyZ at h
 split at h
 ·cases h; exact .inr axiZ
 ·exact .inl h
end Go.AM
end
section
namespace Go.AM
open Go
inductive XT (α : Type) where
 | e
 | n (v : Option α) (l r : XT α)
def XT.get {α : Type} : List Bool -> XT α -> Option α
 | [], .e => none
 | [], .n v _ _ => v
 | _ :: _, .e => none
 | b :: p, .n _ l r => match b with
  | false => XT.get p l
  | true => XT.get p r
def XT.set {α : Type} (x : α) : List Bool -> XT α -> XT α
 | [], .e => .n (some x) .e .e
 | [], .n _ l r => .n (some x) l r
 | b :: p, .e => match b with
  | false => .n none (XT.set x p .e) .e
  | true => .n none .e (XT.set x p .e)
 | b :: p, .n v l r => match b with
  | false => .n v (XT.set x p l) r
  | true => .n v l (XT.set x p r)
inductive SH where
 | any
 | bool
 | num (k : IntKind) (lo hi : Int)
 | txt (hi : Int)
 | sl (alts : List (List SH)) (lo hi : Int)
 | agg (cs : List SH)
 | tup (vs : List SH)
 deriving Inhabited
inductive Cd where
 | none
 | lt (a : Nat) (ca : Int) (b : Nat) (cb : Int)
 | le (a : Nat) (ca : Int) (b : Nat) (cb : Int)
 | eq (a : Nat) (ca : Int) (b : Nat) (cb : Int)
 | ne (a : Nat) (ca : Int) (b : Nat) (cb : Int)
 deriving DecidableEq, Inhabited
inductive XV where
 | top
 | tt (b : Bool)
 | bl (c : Cd)
 | num (k : IntKind) (s : Nat) (c : Int)
 | txt (s : Nat) (c : Int)
 | sl (id : Nat)
 | fsl (id : Nat)
 | nil
 | agg (cs : List XV)
 | tup (vs : List XV)
 | ep (row : List XV) (off : Nat)
 | ptr (o s off : Nat)
 | gs (s id : Nat)
 | own (id : Nat)
 deriving Inhabited
inductive XO where
 | any
 | box (s : Nat) (cells : List XV)
 deriving Inhabited
structure VF where
 s : Nat
 id : Nat
 k : Nat
 os : List Nat
structure LI where
 alts : List (List SH)
 s : Nat
 c : Int
structure Memo where
 id : Nat
 s : Nat
 c : Int
 row : List XV
structure ST where
 ns : Nat
 nl : Nat
 nv : Nat
 rng : XT (Int × Int)
 les : XT (List (Nat × Int))
 lst : XT LI
 memo : List Memo
 rems : List (Nat × Int × Int × Nat)
def ile (a b : Int) : Bool := match a, b with
 | .ofNat a, .ofNat b => Nat.ble a b
 | .negSucc _, .ofNat _ => true
 | .ofNat _, .negSucc _ => false
 | .negSucc a, .negSucc b => Nat.ble b a
def ieq (a b : Int) : Bool := match a, b with
 | .ofNat a, .ofNat b => Nat.beq a b
 | .negSucc a, .negSucc b => Nat.beq a b
 | _, _ => false
def imin (a b : Int) : Int := match ile a b with
 | true => a
 | false => b
def imax (a b : Int) : Int := match ile a b with
 | true => b
 | false => a
def ikEq (a b : IntKind) : Bool := decide (a = b)
def kr (k : IntKind) : Option (Int × Int) := match k with
 | .i64 => some (-9223372036854775808, 9223372036854775807)
 | .u8 => some (0, 255)
 | _ => none
def ST.lo (T : ST) (s : Nat) : Int := match T.rng.get (aaLZ s) with
 | some p => p.1
 | none => 0
def ST.hi (T : ST) (s : Nat) : Int := match T.rng.get (aaLZ s) with
 | some p => p.2
 | none => 0
def ST.edges (T : ST) (s : Nat) : List (Nat × Int) := match T.les.get (aaLZ s) with
 | some l => l
 | none => []
def leQ (T : ST) : Nat -> Nat -> Int -> Nat -> Int -> Bool
 | 0, a, ca, b, cb => (Nat.beq a b && ile ca cb) || ile (T.hi a + ca) (T.lo b + cb)
 | n + 1, a, ca, b, cb => (Nat.beq a b && ile ca cb) || ile (T.hi a + ca) (T.lo b + cb) || (T.edges a).any fun e => leQ T n e.1 (e.2 + ca) b cb
def akfZ {α β : Type} (f : α -> Option β) : List α -> Option β
 | [] => none
 | a :: r => match f a with
  | some b => some b
  | none => akfZ f r
def gapQ (T : ST) : Nat -> Nat -> Nat -> Option Int
 | 0, a, b => match Nat.beq a b with
  | true => some 0
  | false => none
 | n + 1, a, b => match Nat.beq a b with
  | true => some 0
  | false => akfZ (fun e => match gapQ T n e.1 b with
   | some g => some (g + e.2)
   | none => none) (T.edges a)
def hiQ (T : ST) : Nat -> Nat -> Int
 | 0, s => T.hi s
 | n + 1, s => (T.edges s).foldr (fun e m => imin m (hiQ T n e.1 + e.2)) (T.hi s)
def qf : Nat := 4
def gf : Nat := 16
def ST.fresh (T : ST) (lo hi : Int) : ST := { T with ns := T.ns + 1, rng := T.rng.set (lo, hi) (aaLZ T.ns) }
def ST.freshV (T : ST) : ST := { T with nv := T.nv + 1 }
def ST.freshL (T : ST) (li : LI) : ST := { T with nl := T.nl + 1, lst := T.lst.set li (aaLZ T.nl) }
def ST.le (T : ST) (a : Nat) (ca : Int) (b : Nat) (cb : Int) : ST :=
 { T with
  rng := (T.rng.set (T.lo a, imin (T.hi a) (T.hi b + (cb - ca))) (aaLZ a)).set (imax (T.lo b) (T.lo a + (ca - cb)), match Nat.beq a b with | true => imin (T.hi a) (T.hi b + (cb - ca)) | false => T.hi b) (aaLZ b)
  les := match Nat.beq a 0 || Nat.beq b 0 with
   | true => T.les
   | false => T.les.set ((b, cb - ca) :: T.edges a) (aaLZ a) }
def XV.clean : XV -> XV
 | .bl _ => .bl .none
 | x => x
mutual
def inst : SH -> ST -> ST × XV
 | .any, T => (T, .top)
 | .bool, T => (T, .bl .none)
 | .num k lo hi, T => match ieq lo hi with
  | true => (T, .num k 0 lo)
  | false => (T.fresh lo hi, .num k T.ns 0)
 | .txt hi, T => (T.fresh 0 hi, .txt T.ns 0)
 | .sl alts lo hi, T => match ieq lo hi with
  | true => (T.freshL ⟨alts, 0, lo⟩, .sl T.nl)
  | false => ((T.fresh lo hi).freshL ⟨alts, T.ns, 0⟩, .sl T.nl)
 | .agg cs, T => match akPZ cs T with
  | (T', xs) => (T', .agg xs)
 | .tup cs, T => match akPZ cs T with
  | (T', xs) => (T', .tup xs)
def akPZ : List SH -> ST -> ST × List XV
 | [], T => (T, [])
 | s :: r, T => match inst s T with
  | (T1, x) => match akPZ r T1 with
   | (T2, xs) => (T2, x :: xs)
end
def asLZ (T : ST) (id : Nat) : SH := match T.lst.get (aaLZ id) with
 | some li => .sl li.alts (T.lo li.s + li.c) (hiQ T qf li.s + li.c)
 | none => .any
mutual
def gen (T : ST) : XV -> SH
 | .tt _ => .bool
 | .bl _ => .bool
 | .num k s c => .num k (T.lo s + c) (hiQ T qf s + c)
 | .txt s c => .txt (hiQ T qf s + c)
 | .sl id => asLZ T id
 | .fsl id => asLZ T id
 | .nil => .sl [] 0 0
 | .agg cs => .agg (genL T cs)
 | .tup cs => .tup (genL T cs)
 | _ => .any
def genL (T : ST) : List XV -> List SH
 | [] => []
 | x :: r => gen T x :: genL T r
end
mutual
def leSH : SH -> SH -> Bool
 | a, .any => true
 | .bool, .bool => true
 | .num k lo hi, .num k' lo' hi' => ikEq k k' && ile lo' lo && ile hi hi'
 | .txt hi, .txt hi' => ile hi hi'
 | .sl alts lo hi, .sl alts' lo' hi' => ile lo' lo && ile hi hi' && ajaZ alts alts'
 | .agg cs, .agg cs' => alVZ cs cs'
 | .tup cs, .tup cs' => alVZ cs cs'
 | _, _ => false
def alVZ : List SH -> List SH -> Bool
 | [], [] => true
 | a :: r, b :: s => leSH a b && alVZ r s
 | _, _ => false
def ajaZ : List (List SH) -> List (List SH) -> Bool
 | [], _ => true
 | a :: r, bs => (bs.any fun b => alVZ a b) && ajaZ r bs
end
def avGZ (a : List SH) (bs : List (List SH)) : Bool := bs.any fun b => alVZ a b
def aCaZ (a : List SH) (bs : List (List SH)) : List (List SH) := match avGZ a bs with
 | true => bs
 | false => bs ++ [a]
mutual
def upSH : SH -> SH -> SH
 | .bool, .bool => .bool
 | .num k lo hi, .num k' lo' hi' => match ikEq k k' with
  | true => .num k (imin lo lo') (imax hi hi')
  | false => .any
 | .txt hi, .txt hi' => .txt (imax hi hi')
 | .sl alts lo hi, .sl alts' lo' hi' => .sl (ajbZ alts alts') (imin lo lo') (imax hi hi')
 | .agg cs, .agg cs' => match atQZ cs cs' with
  | some l => .agg l
  | none => .any
 | .tup cs, .tup cs' => match atQZ cs cs' with
  | some l => .tup l
  | none => .any
 | _, _ => .any
def atQZ : List SH -> List SH -> Option (List SH)
 | [], [] => some []
 | a :: r, b :: s => match atQZ r s with
  | some l => some (upSH a b :: l)
  | none => none
 | _, _ => none
def ajbZ : List (List SH) -> List (List SH) -> List (List SH)
 | [], bs => bs
 | a :: r, [] => a :: r
 | [a], [b] => match alVZ a b with
  | true => [b]
  | false => match alVZ b a with
   | true => [a]
   | false => match atQZ a b with
    | some c => [c]
    | none => [a, b]
 | a :: r, bs => aCaZ a (ajbZ r bs)
end
end Go.AM
end
section
namespace Go.AM
open Go
def angZ (T : ST) : Cd -> Option Bool
 | .none => none
 | .lt a ca b cb => match leQ T qf a (ca + 1) b cb with
  | true => some true
  | false => match leQ T qf b cb a ca with
   | true => some false
   | false => none
 | .le a ca b cb => match leQ T qf a ca b cb with
  | true => some true
  | false => match leQ T qf b (cb + 1) a ca with
   | true => some false
   | false => none
 | .eq a ca b cb => match leQ T qf a (ca + 1) b cb || leQ T qf b (cb + 1) a ca with
  | true => some false
  | false => match leQ T qf a ca b cb && leQ T qf b cb a ca with
   | true => some true
   | false => none
 | .ne a ca b cb => match leQ T qf a (ca + 1) b cb || leQ T qf b (cb + 1) a ca with
  | true => some true
  | false => match leQ T qf a ca b cb && leQ T qf b cb a ca with
   | true => some false
   | false => none
def Cd.not : Cd -> Cd
 | .none => .none
 | .lt a ca b cb => .le b cb a ca
 | .le a ca b cb => .lt b cb a ca
 | .eq a ca b cb => .ne a ca b cb
 | .ne a ca b cb => .eq a ca b cb
def hold (T : ST) : Cd -> ST
 | .none => T
 | .lt a ca b cb => T.le a (ca + 1) b cb
 | .le a ca b cb => T.le a ca b cb
 | .eq a ca b cb => (T.le a ca b cb).le b cb a ca
 | .ne a ca b cb => match leQ T qf a ca b cb with
  | true => T.le a (ca + 1) b cb
  | false => match leQ T qf b cb a ca with
   | true => T.le b (cb + 1) a ca
   | false => T
def asMZ (T : ST) (c : Cd) (b : Bool) : Option ST := match angZ T c with
 | some b' => match b == b' with
  | true => some T
  | false => none
 | none => match b with
  | true => some (hold T c)
  | false => some (hold T c.not)
def cmpX (T : ST) (c : Cd) : Option (ST × XV) := match angZ T c with
 | some b => some (T, .tt b)
 | none => some (T, .bl c)
def inR (lo hi mn mx : Int) : Bool := ile mn lo && ile hi mx
def addX (T : ST) (k : IntKind) (a : Nat) (ca : Int) (b : Nat) (cb : Int) : Option (ST × XV) := match kr k with
 | none => none
 | some (mn, mx) =>
  let lo := T.lo a + ca + (T.lo b + cb)
  let hi := T.hi a + ca + (T.hi b + cb)
  match inR lo hi mn mx with
  | true => match Nat.beq b 0 with
   | true => some (T, .num k a (ca + cb))
   | false => match Nat.beq a 0 with
    | true => some (T, .num k b (ca + cb))
    | false => some (T.fresh lo hi, .num k T.ns 0)
  | false => some (T.fresh mn mx, .num k T.ns 0)
def subX (T : ST) (k : IntKind) (a : Nat) (ca : Int) (b : Nat) (cb : Int) : Option (ST × XV) := match kr k with
 | none => none
 | some (mn, mx) =>
  let lo := T.lo a + ca - (T.hi b + cb)
  let hi := T.hi a + ca - (T.lo b + cb)
  match inR lo hi mn mx with
  | true => match Nat.beq b 0 with
   | true => some (T, .num k a (ca - cb))
   | false => some (T.fresh lo hi, .num k T.ns 0)
  | false => some (T.fresh mn mx, .num k T.ns 0)
def apoZ : List (Nat × Int × Int × Nat) -> Nat -> Int -> Int -> Option Nat
 | [], _, _, _ => none
 | (a', ca', c', s) :: r, a, ca, c => match Nat.beq a a' && ieq ca ca' && ieq c c' with
  | true => some s
  | false => apoZ r a ca c
def remX (T : ST) (k : IntKind) (a : Nat) (ca c : Int) : Option (ST × XV) := match apoZ T.rems a ca c with
 | some s => some (T, .num k s 0)
 | none => some ({ T.fresh (match ile 0 (T.lo a + ca) with | true => 0 | false => 1 - c) (c - 1) with rems := (a, ca, c, T.ns) :: T.rems }, .num k T.ns 0)
def numX (T : ST) (op : BinOp) (k : IntKind) (a : Nat) (ca : Int) (b : Nat) (cb : Int) : Option (ST × XV) := match op with
 | .lss => cmpX T (.lt a ca b cb)
 | .gtr => cmpX T (.lt b cb a ca)
 | .leq => cmpX T (.le a ca b cb)
 | .geq => cmpX T (.le b cb a ca)
 | .eql => cmpX T (.eq a ca b cb)
 | .neq => cmpX T (.ne a ca b cb)
 | .add => addX T k a ca b cb
 | .sub => subX T k a ca b cb
 | .mul => match kr k with
  | some (mn, mx) => some (T.fresh mn mx, .num k T.ns 0)
  | none => none
 | .quo => match kr k, Nat.beq b 0 && ile 1 cb with
  | some (mn, mx), true => match ile 0 (T.lo a + ca) && inR 0 (T.hi a + ca) mn mx with
   | true => some (T.fresh 0 ((T.hi a + ca) / cb), .num k T.ns 0)
   | false => some (T.fresh mn mx, .num k T.ns 0)
  | _, _ => none
 | .rem => match kr k, Nat.beq b 0 && ile 1 cb with
  | some (mn, mx), true => remX T k a ca cb
  | _, _ => none
 | _ => none
def aCbZ : BinOp -> Bool
 | .eql | .neq | .lss | .leq | .gtr | .geq => true
 | _ => false
def isEq : BinOp -> Bool
 | .eql | .neq => true
 | _ => false
def catX (T : ST) (a : Nat) (ca : Int) (b : Nat) (cb : Int) : Option (ST × XV) :=
 match ile (T.hi a + ca + (T.hi b + cb)) 4611686018427387904 with
 | false => none
 | true => match Nat.beq b 0 with
  | true => some (T, .txt a (ca + cb))
  | false => match Nat.beq a 0 with
   | true => some (T, .txt b (ca + cb))
   | false => some ((T.fresh (T.lo a + ca + (T.lo b + cb)) (T.hi a + ca + (T.hi b + cb))).le T.ns 0 a (ca + cb + T.hi b), .txt T.ns 0)
def tagX : Tag -> XV -> XV -> Bool
 | .bool, x, y => (match x with | .tt _ | .bl _ => true | _ => false) && (match y with | .tt _ | .bl _ => true | _ => false)
 | .int, .num k _ _, .num k' _ _ => ikEq k k'
 | .str, .txt _ _, .txt _ _ => true
 | _, _, _ => false
def atRZ : List Tag -> List XV -> List XV -> Bool
 | [], [], [] => true
 | t :: ts, x :: xs, y :: ys => tagX t x y && atRZ ts xs ys
 | _, _, _ => false
def ainZ : XV -> Bool
 | .tt _ | .bl _ => true
 | _ => false
def binX (T : ST) (op : BinOp) (ek : EqK) (x y : XV) : Option (ST × XV) := match x, y with
 | .num k a ca, .num k' b cb => match ikEq k k' with
  | true => numX T op k a ca b cb
  | false => none
 | .txt a ca, .txt b cb => match aCbZ op with
  | true => some (T, .bl .none)
  | false => match op with
   | .add => catX T a ca b cb
   | _ => none
 | .agg xs, .agg ys => match ek with
  | .cells ts => match isEq op && atRZ ts xs ys with
   | true => some (T, .bl .none)
   | false => none
  | _ => none
 | x, y => match ek with
  | .bool => match isEq op && ainZ x && ainZ y with
   | true => some (T, .bl .none)
   | false => none
  | _ => none
def unX (T : ST) (op : UnOp) (x : XV) : Option (ST × XV) := match op, x with
 | .not, .tt b => some (T, .tt !b)
 | .not, .bl c => some (T, .bl c.not)
 | .neg, .num k a ca => match kr k with
  | none => none
  | some (mn, mx) => match inR (0 - (T.hi a + ca)) (0 - (T.lo a + ca)) mn mx with
   | true => some (T.fresh (0 - (T.hi a + ca)) (0 - (T.lo a + ca)), .num k T.ns 0)
   | false => some (T.fresh mn mx, .num k T.ns 0)
 | _, _ => none
def mm2X (T : ST) (mx : Bool) (x y : XV) : Option (ST × XV) := match x, y with
 | .num k a ca, .num k' b cb => match ikEq k k' with
  | false => none
  | true => match mx with
   | false => match leQ T qf a ca b cb with
    | true => some (T, .num k a ca)
    | false => match leQ T qf b cb a ca with
     | true => some (T, .num k b cb)
     | false => some (((T.fresh (imin (T.lo a + ca) (T.lo b + cb)) (imin (T.hi a + ca) (T.hi b + cb))).le T.ns 0 a ca).le T.ns 0 b cb, .num k T.ns 0)
   | true => match leQ T qf a ca b cb with
    | true => some (T, .num k b cb)
    | false => match leQ T qf b cb a ca with
     | true => some (T, .num k a ca)
     | false => some (T.fresh (imax (T.lo a + ca) (T.lo b + cb)) (imax (T.hi a + ca) (T.hi b + cb)), .num k T.ns 0)
 | _, _ => none
def mmX (mx : Bool) : ST -> XV -> List XV -> Option (ST × XV)
 | T, x, [] => some (T, x)
 | T, x, y :: r => match mm2X T mx x y with
  | some (T1, z) => mmX mx T1 z r
  | none => none
def aluZ (T : ST) : XV -> Option (ST × XV)
 | .num k s c => some (T, .num k s c)
 | .txt s c => some (T, .txt s c)
 | .tt b => some (T, .tt b)
 | .bl c => some (T, .bl c)
 | .sl id => some (T, .sl id)
 | .fsl id => some (T, .sl id)
 | .nil => some (T.freshL ⟨[], 0, 0⟩, .sl T.nl)
 | _ => none
def affZ (T : ST) : List XV -> Option (ST × List XV)
 | [] => some (T, [])
 | x :: r => match aluZ T x with
  | none => none
  | some (T1, y) => match affZ T1 r with
   | none => none
   | some (T2, ys) => some (T2, y :: ys)
def XV.cellsX : XV -> List XV
 | .agg cs => cs
 | x => [x]
def XV.cellOk : XV -> Bool
 | .num .. | .txt .. | .tt _ | .bl _ | .sl _ | .fsl _ | .nil | .ep .. | .ptr .. | .gs .. => true
 | _ => false
def ofX (agg : Bool) : List XV -> Option XV
 | cs => match agg with
  | true => some (.agg cs)
  | false => match cs with
   | [v] => some v
   | _ => none
def lenB (k : Nat) (l : List XV) : Bool := Nat.beq l.length k
def ahpZ (k : Nat) : List (List SH) -> Bool
 | [] => true
 | a :: r => Nat.beq a.length k && ahpZ k r
def alZZ : List Memo -> Nat -> Nat -> Int -> Option (List XV)
 | [], _, _, _ => none
 | m :: r, id, s, c => match Nat.beq m.id id && Nat.beq m.s s && ieq m.c c with
  | true => some m.row
  | false => alZZ r id s c
def axjZ (T : ST) (id s : Nat) (c : Int) : List (List SH) -> List (ST × XV)
 | [] => []
 | a :: r => match akPZ a T with
  | (T1, xs) => ({ T1 with memo := ⟨id, s, c, xs⟩ :: T1.memo }, .ep xs 0) :: axjZ T id s c r
def appZ : XV -> Option Nat
 | .sl id => some id
 | .fsl id => some id
 | _ => none
def idxX (T : ST) (x i : XV) (k : Nat) : Option (List (ST × XV)) := match appZ x, i with
 | some id, .num _ s c => match alZZ T.memo id s c with
  | some row => match lenB k row with
   | true => some [(T, .ep row 0)]
   | false => none
  | none => match T.lst.get (aaLZ id) with
   | some li => match leQ T qf 0 0 s c && leQ T qf s (c + 1) li.s li.c && ahpZ k li.alts with
    | true => some (axjZ T id s c li.alts)
    | false => none
   | none => none
 | _, _ => none
def lenL (T : ST) (id : Nat) : Option (ST × XV) := match T.lst.get (aaLZ id) with
 | some li => some (T, .num .i64 li.s li.c)
 | none => none
def lenX (T : ST) : XV -> Option (ST × XV)
 | .sl id => lenL T id
 | .fsl id => lenL T id
 | .gs _ id => lenL T id
 | .nil => some (T, .num .i64 0 0)
 | _ => none
def bndX (ds : Nat) (dc : Int) : Option XV -> Option (Nat × Int)
 | none => some (ds, dc)
 | some (.num _ s c) => some (s, c)
 | _ => none
def azzZ (T : ST) (s : Nat) (c : Int) (s' : Nat) (c' : Int) : ST × Nat × Int := match Nat.beq s s' with
 | true => (T, 0, c' - c)
 | false => match Nat.beq s 0 with
  | true => (T, s', c' - c)
  | false => (T.fresh (imax 0 (T.lo s' + c' - (T.hi s + c))) (T.hi s' + c' - (T.lo s + c)), T.ns, 0)
def asNZ (T : ST) (ls : Nat) (lc : Int) (lo hi : Option XV) : Option (ST × Nat × Int) := match bndX 0 0 lo, bndX ls lc hi with
 | some (s, c), some (s', c') => match leQ T qf 0 0 s c && leQ T qf s c s' c' && leQ T qf s' c' ls lc with
  | true => some (azzZ T s c s' c')
  | false => none
 | _, _ => none
structure FSt where
 T : ST
 env : XT XV
 heap : List XO
 vecs : List VF
 h : Nat
def FSt.at (F : FSt) (t : Nat) : XV := match F.env.get (aaLZ t) with
 | some x => x
 | none => .top
def arLZ : AV -> XV
 | .bool b => .tt b
 | .int k n => .num k 0 n
 | .str l => .txt 0 l.length
 | .sl true [] => .nil
 | _ => .top
def ofAV : AV -> XV
 | .agg cs => .agg (cs.map arLZ)
 | .tup [] => .tup []
 | v => arLZ v
def FSt.opd (F : FSt) : AOpd -> XV
 | .tmp t => F.at t
 | .const v => ofAV v
def FSt.put (F : FSt) (d : Option Nat) (T : ST) (x : XV) : FSt := match d with
 | some d => { F with T := T, env := F.env.set x (aaLZ d) }
 | none => { F with T := T }
def FSt.putH (F : FSt) (d : Option Nat) (T : ST) (x : XV) (heap : List XO) (vecs : List VF) : FSt := match d with
 | some d => ⟨T, F.env.set x (aaLZ d), heap, vecs, F.h⟩
 | none => ⟨T, F.env, heap, vecs, F.h⟩
def axkZ : List VF -> Nat -> Option VF
 | [], _ => none
 | v :: r, s => match Nat.beq v.s s with
  | true => some v
  | false => axkZ r s
def aerZ (os : List Nat) : List VF -> List VF
 | [] => []
 | v :: r => match v.os.any os.contains with
  | true => aerZ os r
  | false => v :: aerZ os r
def FSt.vec (F : FSt) (s id : Nat) : Option VF := match axkZ F.vecs s with
 | some v => match Nat.beq v.id id with
  | true => some v
  | false => none
 | none => none
def hget : List XO -> Nat -> XO
 | [], _ => .any
 | x :: _, 0 => x
 | _ :: r, n + 1 => hget r n
def hset (x : XO) : List XO -> Nat -> List XO
 | [], _ => []
 | _ :: r, 0 => x :: r
 | y :: r, n + 1 => y :: hset x r n
def axlZ (F : FSt) (k : Nat) : XV -> Option (List XV)
 | .ep row off => match Nat.ble (off + k) row.length with
  | true => some ((row.drop off).take k)
  | false => none
 | .ptr o s off => match hget F.heap o with
  | .box s' cells => match Nat.beq s s' && Nat.ble (off + k) cells.length with
   | true => some ((cells.drop off).take k)
   | false => none
  | _ => none
 | _ => none
def avHZ (cells : List XV) (off : Nat) (vs : List XV) : List XV := cells.take off ++ vs ++ cells.drop (off + vs.length)
def asOZ (F : FSt) (cells : List XV) : List (Nat × Nat × AOpd) -> Option (List XV)
 | [] => some cells
 | (off, size, x) :: r =>
  let vs := (F.opd x).cellsX
  match lenB size vs && Nat.ble (off + size) cells.length && vs.all XV.cellOk with
  | true => asOZ F (avHZ cells off vs) r
  | false => none
def aycZ (F : FSt) (k : Nat) : List (Nat × AOpd) -> Option (List (List SH))
 | [] => some []
 | (i, x) :: r => match affZ F.T (F.opd x).cellsX with
  | some (T1, vs) => match lenB k vs, aycZ F k r with
   | true, some aa => some (ajbZ [genL T1 vs] aa)
   | _, _ => none
  | none => none
def aeVZ : Nat -> List (Nat × AOpd) -> Option Nat
 | n, [] => some n
 | n, (i, _) :: r => match Nat.beq n i with
  | true => aeVZ (n + 1) r
  | false => none
def asPZ (F : FSt) (k : Nat) (alts : List (List SH)) : List (Nat × AOpd) -> Bool
 | [] => true
 | (i, x) :: r => match affZ F.T (F.opd x).cellsX with
  | some (T1, vs) => lenB k vs && avGZ (genL T1 vs) alts && asPZ F k alts r
  | none => false
def asQZ (F : FSt) : XV -> Option (ST × Nat)
 | .sl id => some (F.T, id)
 | .fsl id => some (F.T, id)
 | .gs s id => match F.vec s id with
  | some _ => some (F.T, id)
  | none => none
 | .nil => some (F.T.freshL ⟨[], 0, 0⟩, F.T.nl)
 | _ => none
def app2 {α : Type} : Option (List α) -> Option (List α) -> Option (List α)
 | some a, some b => some (a ++ b)
 | _, _ => none
def axmZ (F : FSt) (T : ST) (d : Option Nat) (os : List Nat) (k bytes : Nat) (li li' : LI) : Option (List FSt) :=
 match ile ((T.hi li'.s + li'.c + (T.hi li.s + li.c)) * (bytes + 1 : Nat)) 1099511627776 && ahpZ k li'.alts with
 | false => none
 | true =>
  let alts := ajbZ li.alts li'.alts
  match ajaZ li.alts alts && ajaZ li'.alts alts with
  | false => none
  | true => match Nat.beq li.s 0 with
   | true => some [F.putH d ((T.freshV).freshL ⟨alts, li'.s, li'.c + li.c⟩) (.gs T.nv T.nl) F.heap (⟨T.nv, T.nl, k, os⟩ :: aerZ os F.vecs)]
   | false =>
    let T1 := (T.fresh (T.lo li.s + li.c + (T.lo li'.s + li'.c)) (T.hi li.s + li.c + (T.hi li'.s + li'.c))).le T.ns 0 li'.s (li'.c + (T.hi li.s + li.c))
    some [F.putH d ((T1.freshV).freshL ⟨alts, T.ns, 0⟩) (.gs T.nv T.nl) F.heap (⟨T.nv, T.nl, k, os⟩ :: aerZ os F.vecs)]
def alvZ (o : Nat) (os : List Nat) : List Nat := match os.contains o with
 | true => os
 | false => o :: os
def appX (F0 : FSt) (d : Option Nat) (o k bytes : Nat) (s x : XV) : Option (List FSt) :=
 let F := { F0 with heap := hset .any F0.heap o }
 match asQZ F0 x with
 | none => none
 | some (T, id) => match T.lst.get (aaLZ id) with
  | none => none
  | some li => match ahpZ k li.alts with
   | false => none
   | true => match s with
    | .nil => match ile ((T.hi li.s + li.c) * (bytes + 1 : Nat)) 1099511627776 with
     | true => some [F.putH d T.freshV (.gs T.nv id) F.heap (⟨T.nv, id, k, [o]⟩ :: aerZ [o] F.vecs)]
     | false => none
    | .fsl id' => match T.lst.get (aaLZ id') with
     | some li' => axmZ F T d [o] k bytes li li'
     | none => none
    | .gs s' id' => match F.vec s' id', T.lst.get (aaLZ id') with
     | some v, some li' => match Nat.beq v.k k with
      | true => axmZ F T d (alvZ o v.os) k bytes li li'
      | false => none
     | _, _ => none
    | _ => none
def arMZ : AOpd -> Option Nat
 | .const (.fn f [] []) => some f
 | _ => none
def axnZ (F : FSt) : ST -> List AOpd -> Option (ST × List XV × Bool)
 | T, [] => some (T, [], false)
 | T, a :: r =>
  match (match F.opd a with
   | .gs s id => match F.vec s id with
    | some _ => some (T, .sl id, true)
    | none => none
   | .agg cs => match affZ T cs with
    | some (T1, cs') => some (T1, .agg cs', false)
    | none => none
   | x => match aluZ T x with
    | some (T1, y) => some (T1, y, false)
    | none => none) with
  | none => none
  | some (T1, y, b) => match axnZ F T1 r with
   | none => none
   | some (T2, ys, b') => some (T2, y :: ys, b || b')
def avIZ : XV -> Bool
 | .num .. | .txt .. | .tt _ | .bl _ => true
 | _ => false
def resX (lent : Bool) (x : XV) : Option XV := match lent with
 | true => match avIZ x with
  | true => some x
  | false => none
 | false => match x with
  | .own id => some (.sl id)
  | .num .. | .txt .. | .tt _ | .bl _ | .sl _ | .agg _ | .tup _ => some x
  | _ => none
def axoZ (lent : Bool) : List (ST × XV) -> Option (List (ST × XV))
 | [] => some []
 | (T, x) :: r => match resX lent x, axoZ lent r with
  | some y, some l => some ((T, y) :: l)
  | _, _ => none
def aCcZ : List (ST × XV) -> Option SH
 | [] => none
 | [(T, x)] => some (gen T x)
 | (T, x) :: r => match aCcZ r with
  | some s => some (upSH (gen T x) s)
  | none => none
def azAZ (T : ST) (split : Bool) (l : List (ST × XV)) : Option (List (ST × XV)) := match split, l with
 | true, l => some l
 | false, [] => some []
 | false, [r] => some [r]
 | false, l => match aCcZ l with
  | none => none
  | some s => match l.all fun p => leSH (gen p.1 p.2) s with
   | true => some [inst s T]
   | false => none
abbrev anhZ := Nat -> Nat -> List XV -> ST -> Option (List (ST × XV))
def aggZ (sites : List Nat) (h : Nat) (d : Option Nat) : Option Nat := match d with
 | none => none
 | some t => match sites.idxOf? t with
  | some i => some (h + i)
  | none => none
def puts (F : FSt) (d : Option Nat) : List (ST × XV) -> List FSt
 | [] => []
 | (T, x) :: r => F.put d T x :: puts F d r
def put1 (F : FSt) (d : Option Nat) : Option (ST × XV) -> Option (List FSt)
 | some (T, x) => some [F.put d T x]
 | none => none
def aydZ (F : FSt) (dr : Bool) (site : Option Nat) (k n : Nat) (ps : List (Nat × AOpd)) : Option (Nat × List VF) := match ps, dr, site, Nat.beq n 1 && Nat.beq k 1 with
 | [(0, x)], false, none, true => match F.opd x with
  | .gs s id => match F.vec s id with
   | some v => some (id, aerZ v.os F.vecs)
   | none => none
  | _ => none
 | _, _, _, _ => none
def opX (call : anhZ) (split : Nat -> Bool) (dr : Bool) (site : Option Nat) (F : FSt) (d : Option Nat) (op : AOp) : Option (List FSt) := match op with
 | .mov x => some [F.put d F.T (F.opd x)]
 | .pick c a b => match F.opd c with
  | .tt true => some [F.put d F.T (F.opd a)]
  | .tt false => some [F.put d F.T (F.opd b)]
  | _ => none
 | .alloc zs => match site with
  | some o => some [F.putH d F.T.freshV (.ptr o F.T.nv 0) (hset (.box F.T.nv (zs.map arLZ)) F.heap o) (aerZ [o] F.vecs)]
  | none => none
 | .box k x => match site with
  | some o => match lenB k (F.opd x).cellsX && (F.opd x).cellsX.all XV.cellOk with
   | true => some [F.putH d F.T.freshV (.ptr o F.T.nv 0) (hset (.box F.T.nv (F.opd x).cellsX) F.heap o) (aerZ [o] F.vecs)]
   | false => none
  | none => match affZ F.T (F.opd x).cellsX with
   | some (T, cs) => match lenB k cs with
    | true => some [F.put d T (.ep cs 0)]
    | false => none
   | none => none
 | .build zs ps => match asOZ F (zs.map arLZ) ps with
  | some cs => some [F.put d F.T (.agg cs)]
  | none => none
 | .bsl k zs n ps => match aydZ F dr site k n ps with
  | some (id, vs) => some [F.putH d (F.T.freshL ⟨[[gen F.T (.sl id)]], 0, 1⟩) (.fsl F.T.nl) F.heap vs]
  | none => match aycZ F k ps, aeVZ 0 ps with
  | some alts, some m => match Nat.beq m n && Nat.blt 0 n && asPZ F k alts ps with
   | true => match site with
    | none => some [F.put d (F.T.freshL ⟨alts, 0, (n : Int)⟩) (.fsl F.T.nl)]
    | some o => some [F.putH d ((F.T.freshV).freshL ⟨alts, 0, (n : Int)⟩) (.gs F.T.nv F.T.nl) (hset .any F.heap o) (⟨F.T.nv, F.T.nl, k, [o]⟩ :: aerZ [o] F.vecs)]
   | false => none
  | _, _ => none
 | .load k agg x => match axlZ F k (F.opd x) with
  | some cs => match ofX agg cs with
   | some y => some [F.put d F.T y]
   | none => none
  | none => none
 | .store k x v => match F.opd x with
  | .ptr o s off => match hget F.heap o with
   | .box s' cells => match Nat.beq s s' && lenB k (F.opd v).cellsX && (F.opd v).cellsX.all XV.cellOk && Nat.ble (off + (F.opd v).cellsX.length) cells.length with
    | true => some [F.putH d F.T .top (hset (.box s (avHZ cells off (F.opd v).cellsX)) F.heap o) F.vecs]
    | false => none
   | _ => none
  | _ => none
 | .nilck x => match F.opd x with
  | .ptr o s off => some [F.put d F.T (.ptr o s off)]
  | .ep row off => some [F.put d F.T (.ep row off)]
  | _ => none
 | .bin op ek x y => put1 F d (binX F.T op ek (F.opd x) (F.opd y))
 | .un op x => put1 F d (unX F.T op (F.opd x))
 | .conv c x => match c, F.opd x with
  | .toInt k, .num _ s c => match kr k with
   | none => none
   | some (mn, mx) => match inR (F.T.lo s + c) (F.T.hi s + c) mn mx with
    | true => some [F.put d F.T (.num k s c)]
    | false => some [F.put d (F.T.fresh mn mx) (.num k F.T.ns 0)]
  | .same, .txt s c => some [F.put d F.T (.txt s c)]
  | .s2b, .txt s c => match ile (F.T.hi s + c) 1099511627776 with
   | true => some [F.put d (F.T.freshL ⟨[[.num .u8 0 255]], s, c⟩) (.sl F.T.nl)]
   | false => none
  | .b2s, x => match asQZ F x with
   | some (T, id) => match T.lst.get (aaLZ id) with
    | some li => match ajaZ li.alts [[.num .u8 0 255]] with
     | true => some [F.put d T (.txt li.s li.c)]
     | false => none
    | none => none
   | none => none
  | _, _ => none
 | .sliceS x lo hi => match F.opd x with
  | .txt s c => match asNZ F.T s c (lo.map F.opd) (hi.map F.opd) with
   | some (T, s', c') => some [F.put d T (.txt s' c')]
   | none => none
  | _ => none
 | .sliceV k x lo hi none => match appZ (F.opd x) with
  | some id => match F.T.lst.get (aaLZ id) with
   | some li => match asNZ F.T li.s li.c (lo.map F.opd) (hi.map F.opd), ahpZ k li.alts with
    | some (T, s', c'), true => some [F.put d (T.freshL ⟨li.alts, s', c'⟩) (.sl T.nl)]
    | _, _ => none
   | none => none
  | none => none
 | .fa off x => match F.opd x with
  | .ptr o s off0 => some [F.put d F.T (.ptr o s (off0 + off))]
  | .ep row off0 => some [F.put d F.T (.ep row (off0 + off))]
  | _ => none
 | .fld off k agg x => match F.opd x with
  | .agg cs => match Nat.ble (off + k) cs.length, ofX agg ((cs.drop off).take k) with
   | true, some y => some [F.put d F.T y]
   | _, _ => none
  | _ => none
 | .iaV x i k => match idxX F.T (F.opd x) (F.opd i) k with
  | some l => some (puts F d l)
  | none => none
 | .ixS x i => match F.opd x, F.opd i with
  | .txt s c, .num _ s' c' => match leQ F.T qf 0 0 s' c' && leQ F.T qf s' (c' + 1) s c with
   | true => some [F.put d (F.T.fresh 0 255) (.num .u8 F.T.ns 0)]
   | false => none
  | _, _ => none
 | .lenS x => match F.opd x with
  | .txt s c => some [F.put d F.T (.num .i64 s c)]
  | _ => none
 | .lenV x => put1 F d (lenX F.T (F.opd x))
 | .lenC n => some [F.put d F.T (.num .i64 0 n)]
 | .mm mx xs => match xs.map F.opd with
  | [] => none
  | x :: r => put1 F d (mmX mx F.T x r)
 | .app k bytes s x => match site with
  | some o => appX F d o k bytes (F.opd s) (F.opd x)
  | none => none
 | .ext i x => match F.opd x with
  | .tup vs => match vs[i]? with
   | some y => some [F.put d F.T y]
   | none => none
  | _ => none
 | .callv f xs => match arMZ f, site with
  | some f, none => match axnZ F F.T xs with
   | none => none
   | some (T, ys, lent) => match call f F.heap.length ys T with
    | none => none
    | some l => match axoZ lent l with
     | none => none
     | some l' => match azAZ T (split f) l' with
      | none => none
      | some l2 => some (puts F d l2)
  | _, _ => none
 | _ => none
inductive GX where
 | bad
 | run
 | skip
 | both (t : Nat) (c : Cd) (want : Bool)
def aoBZ (F : FSt) : Option (Option Nat × Bool) -> GX
 | none => .run
 | some (none, _) => .bad
 | some (some t, want) => match F.at t with
  | .tt b => match b == want with
   | true => .run
   | false => .skip
  | .bl c => .both t c want
  | .tup [] => .skip
  | _ => .bad
def avJZ (F : FSt) (t : Nat) (c : Cd) (b : Bool) (k : FSt -> Option (List FSt)) : Option (List FSt) := match asMZ F.T c b with
 | none => some []
 | some T => k { F with T := T, env := F.env.set (.tt b) (aaLZ t) }
def avKZ (call : anhZ) (split : Nat -> Bool) (dr : Bool) (sites : List Nat) (h : Nat) (o : AOper) (F : FSt) : Option (List FSt) := match aoBZ F o.guard with
 | .bad => none
 | .run => opX call split dr (aggZ sites h o.dst) F o.dst o.op
 | .skip => some [F.put o.dst F.T (.tup [])]
 | .both t c want => app2 (avJZ F t c want fun F => opX call split dr (aggZ sites h o.dst) F o.dst o.op) (avJZ F t c (!want) fun F => some [F.put o.dst F.T (.tup [])])
def atSZ {α β : Type} (f : α -> Option (List β)) : List α -> Option (List β)
 | [] => some []
 | a :: r => app2 (f a) (atSZ f r)
def opsX (call : anhZ) (split : Nat -> Bool) (dr : Bool) (sites : List Nat) (h : Nat) : List AOper -> List FSt -> Option (List FSt)
 | [], l => some l
 | o :: r, l => match atSZ (avKZ call split dr sites h o) l with
  | none => none
  | some l' => opsX call split dr sites h r l'
end Go.AM
end
