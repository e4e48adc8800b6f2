/- Part 34 of the proof that stands in the last text of this folder (lemmas; no statement of its own). -/
import Derived.Test.YtjomjnkapjgheaaDoorK20
import Derived.Test.YtjomjnkapjgheaaDoorK30
import Derived.Test.YtjomjnkapjgheaaDoorK31
import Derived.Test.YtjomjnkapjgheaaDoorK32
import Derived.Test.YtjomjnkapjgheaaDoorK33
import Derived.Handed
import Derived.ChangeSlices
import Derived.ProofKit
import Derived.OpenShut
import Derived.Lib.LaidTab
import Derived.Lib.ItoaNum
section
set_option linter.unusedVariables false
set_option maxRecDepth 8000
namespace Go.Proofs.AM
open Go
structure TwinFns (A : AProg) (g : String → Nat) : Prop where
  same : HasSame A g
  twins : Has A g "dactyl/dactyllaw31.SecretTwins" (dactyllaw31_SecretTwins g)
  exam : Has A g "dactyl/dactylref23.Exam" (dactylref23_Exam g)
  spoilt : Has A g "dactyl/dactylref23.Spoilt" (dactylref23_Spoilt g)
  opn : Has A g "dactyl/dactylref31.Open" (dactylref31_Open g)
  twin : Has A g "dactyl/secret.Twin" (secret_Twin g)
  twin31 : Has A g "dactyl/dactylref31.Twin" (dactylref31_Twin g)
  only : Has A g "dactyl/secret.Only" (secret_Only g)
  erase : Has A g "dactyl/source.Erase" (source_Erase g)
  only31 : Has A g "dactyl/dactylref31.Only" (dactylref31_Only g)
  lives : Has A g "dactyl/dactyllaw31.lives" (dactyllaw31_lives g)
  take : Has A g "(*dactyl/dactylref23.Maker).Take" (dactylref23_Maker_Take g)
  block : Has A g "(*dactyl/dactylref23.Maker).Block" (dactylref23_Maker_Block g)
  fact : Has A g "(*dactyl/dactylref23.Maker).Fact" (dactylref23_Maker_Fact g)
  has : Has A g "dactyl/dactylref23.has" (dactylref23_has g)
  question : Has A g "(*dactyl/dactylref23.Maker).Question" (dactylref23_Maker_Question g)
  around : Has A g "dactyl/dactylref01.Around" (dactylref01_Around g)
  spoiltB : Has A g "dactyl/dactylref23.spoiltBlock" (dactylref23_spoiltBlock g)
  spoiltQ : Has A g "dactyl/dactylref23.spoiltQuestion" (dactylref23_spoiltQuestion g)
  rest : Has A g "dactyl/secret.rest" (secret_rest g)
  rest31 : Has A g "dactyl/dactylref31.rest" (dactylref31_rest g)
  decimal : Has A g "dactyl/dactylref23.Decimal" (dactylref23_Decimal g)
  same23 : Has A g "dactyl/dactylref23.Same" (dactylref23_Same g)
  erase25 : Has A g "dactyl/dactylref25.Erase" (dactylref25_Erase g)
  sameTexts : Has A g "dactyl/dactylref01.SameTexts" (dactylref01_SameTexts g)
  at' : Has A g "dactyl/dactylref01.At" (dactylref01_At g)
  runs : Has A g "(*dactyl/dactylref23.Maker).Runs" (dactylref23_Maker_Runs g)
  expr : Has A g "(*dactyl/dactylref23.Maker).Expr" (dactylref23_Maker_Expr g)
  sum : Has A g "(*dactyl/dactylref23.Maker).Sum" (dactylref23_Maker_Sum g)
  grid : Has A g "(*dactyl/dactylref23.Maker).Grid" (dactylref23_Maker_Grid g)
  figure : Has A g "(*dactyl/dactylref23.Maker).Figure" (dactylref23_Maker_Figure g)
  melody : Has A g "(*dactyl/dactylref23.Maker).Melody" (dactylref23_Maker_Melody g)
  lines : Has A g "(*dactyl/dactylref23.Maker).Lines" (dactylref23_Maker_Lines g)
  phrase : Has A g "(*dactyl/dactylref23.Maker).Phrase" (dactylref23_Maker_Phrase g)
  term : Has A g "(*dactyl/dactylref23.Maker).term" (dactylref23_Maker_term g)
  box : Has A g "dactyl/dactylref23.box" (dactylref23_box g)
  arity : Has A g "dactyl/dactylref23.Arity" (dactylref23_Arity g)
  same01 : Has A g "dactyl/dactylref01.Same" (dactylref01_Same g)
  encode : Has A g "dactyl/dactylref23.Encode" (dactylref23_Encode g)
  bytes : Has A g "dactyl/dactylref01.Bytes" (dactylref01_Bytes g)
  int : Has A g "dactyl/dactylref01.Int" (dactylref01_Int g)
  encBlock : Has A g "dactyl/dactylref23.EncodeBlock" (dactylref23_EncodeBlock g)
  ints : Has A g "dactyl/dactylref01.Ints" (dactylref01_Ints g)
  encQ : Has A g "dactyl/dactylref23.encodeQuestion" (dactylref23_encodeQuestion g)
  encRuns : Has A g "dactyl/dactylref23.encodeRuns" (dactylref23_encodeRuns g)
  encExpr : Has A g "dactyl/dactylref23.encodeExpr" (dactylref23_encodeExpr g)
  strs : Has A g "dactyl/dactylref01.Strings" (dactylref01_Strings g)
  encFig : Has A g "dactyl/dactylref23.encodeFigure" (dactylref23_encodeFigure g)
  encMel : Has A g "dactyl/dactylref23.encodeMelody" (dactylref23_encodeMelody g)
  itoa : SpecItoa A g
  cloneS : SpecClone A (g "slices.Clone[[]string,string]") 1 16
  cloneQ : SpecClone A (g "slices.Clone[[]dactyl/api.Question,dactyl/api.Question]") 7 128
  cloneI : SpecClone A (g "slices.Clone[[]dactyl/api.Item,dactyl/api.Item]") 4 88
theorem fit_of_ok {x : Exam} (h : x.Ok) : FitTwin x where
  items := by have := h.lenI; omega
  ask := fun i hi => by have := (h.items i hi).lenA; omega
  q := fun i hi q hq => by
    have h1 := (h.items i hi).ask q hq
    have h2 := h1.lenO
    have h3 := h1.lenR
    have h4 := h1.points
    constructor <;> omega
theorem enc_all {A : AProg} {g : String → Nat} (F : TwinFns A g) : EncAll A g := by
  have hi := fun n hn => int_spec F.int n hn
  have hb := fun s hs => bytes_spec F.bytes hi s hs
  have e1 : Enc01 A g := ⟨hi, hb, fun l h1 h2 => ints_spec F.ints hi l h1 h2, fun l h1 h2 => strs_spec F.strs hi hb l h1 h2⟩
  have e2 : Enc23 A g := ⟨e1, fun l h1 h2 => runs_enc F.encRuns e1 l h1 h2, fun e h1 h2 => expr_enc F.encExpr e1 _ e (Nat.lt_succ_self _) h1 h2,
    fun w h l h1 h2 h3 h4 => fig_enc F.encFig e1 w h l h1 h2 h3 h4, fun L h1 h2 => mel_enc F.encMel e1 L h1 h2⟩
  exact ⟨e2, fun b hb => block_enc F.encBlock e2 b hb, fun q hq => question_enc F.encQ e2 q hq⟩
theorem gens_all {A : AProg} {g : String → Nat} (F : TwinFns A g) : Gens A g := by
  have ha := around_spec F.around
  have ht := take_spec F.take F.at' ha
  have hp := phrase_gen F.phrase ht
  have hr := runs_gen F.runs ht hp
  have har := fun op H => arity_spec F.arity op H
  have htm := fun d hd => term_gen F.term ht har d hd
  have hbx : ∀ {x y w hh : Int}, (0 ≤ x ∧ x ≤ 1000) → (0 ≤ y ∧ y ≤ 1000) → (0 ≤ w ∧ w ≤ 1000) → (0 ≤ hh ∧ hh ≤ 1000) → ∀ H, callI A (g "dactyl/dactylref23.box") [vi x, vi y, vi w, vi hh] H = some (.sl false ((P4 x y w hh).map encPoint), H, []) :=
    fun h1 h2 h3 h4 H => box_spec F.box h1 h2 h3 h4 H
  exact ⟨ht, fun h0 h1 => block_gen F.block hr (expr_gen F.expr ht htm) (sum_gen F.sum ht) (grid_gen F.grid ht hp) (figure_gen F.figure ht hbx) (melody_gen F.melody ht) (lines_gen F.lines ht) h0 h1,
    fun hb _ h0 h1 => fact_gen F.fact ht hb h0 h1, fun l hl f => has_spec F.has l hl f, fun hm => question_gen F.question ht hp hr (decimal_spec F.decimal) hm⟩
theorem twin_specs {A : AProg} {g : String → Nat} (F : TwinFns A g) : TwinSpecs A g := by
  have ha := around_spec F.around
  have G := gens_all F
  have E := enc_all F
  have hEx := fun x hx => exam_enc F.encode E x hx
  have he : ∀ (x : Exam) (H : List AObj), x.Ok → callI A (g "dactyl/source.Erase") [encExam x] H = some (encExam (eraseExam x), H, []) := fun x H hx => erase_spec F.erase F.cloneQ F.cloneI x hx H
  have h23 := fun a b H ha hb => same23_spec F.same23 F.same01 hEx a b ha hb H
  have hO : ∀ {a b : Exam}, a.Ok → b.Ok → ∀ H, callI A (g "dactyl/secret.Only") [encExam a, encExam b] H = some (.bool (eqv (eraseExam a) (eraseExam b)), H, []) :=
    fun ha hb H => only_spec F.only F.same he (fun _ h => eraseExam_ok h) _ _ ha hb H
  have hT : ∀ {x : Exam}, x.Ok → ∀ n H, callI A (g "dactyl/secret.Twin") [encExam x, vi n] H = some (encExam (twinExam n x), H, []) :=
    fun hx n H => twin_spec F.twin (rest_spec F.rest) F.itoa F.cloneS F.cloneQ F.cloneI _ (fit_of_ok hx) n H
  refine ⟨fun hl H => exam_spec F.exam G hl H, fun hx hs _ _ _ h1 h2 H => spoilt_spec F.spoilt ha (fun h1 h2 _ _ h3 H => spoiltB_spec F.spoiltB ha h1 h2 h3 H) (fun h1 h2 _ _ h3 H => spoiltQ_spec F.spoiltQ ha h1 h2 h3 H) hx hs h1 h2 H,
    fun hx hs _ _ h1 h2 H => open_spec F.opn ha hx hs h1 h2 H, hT, fun hx n H => twin31_spec F.twin31 (rest31_spec F.rest31) (decimal_spec F.decimal) _ hx n H,
    fun ha _ H => same_spec F.same _ _ H ha, hO, fun {a b} ha hb H => ?_, fun hx H => he _ H hx, fun H => lives_spec F.lives F.sameTexts hT hO H⟩
  rw [only31_spec F.only31 (fun x H hx => erase25_spec F.erase25 x hx H) (fun _ h => eraseExam_ok h) h23 a b ha hb H]
  rw [eqv_iff (examBytes_inj (eraseExam_ok ha) (eraseExam_ok hb))]
theorem twins_call {A : AProg} {g : String → Nat} (F : TwinFns A g) {l m : List Int} (hl : ListOk l) (hm : ListOk m) {n at' how by' : Int} (hat : IntOk at') (hhow : IntOk how) (hby : IntOk by') (H : List AObj) :
    callI A (g "dactyl/dactyllaw31.SecretTwins") [.sl false (l.map encInt), .sl false (m.map encInt), vi n, vi at', vi how, vi by'] H = some (.bool true, H, []) :=
  twins_spec F.twins (twin_specs F) hl hm hat hhow hby H
end Go.Proofs.AM
end
section
set_option maxRecDepth 100000
namespace Go.Proofs.Tw
open Go Go.Proofs.AM Go.Proofs
def primOf (f : Nat) : Option (List AV → Option AV) := if f = 25 then some itoaPrim else if f = 22 then some clonePrim else if f = 23 then some clonePrim else if f = 26 then some clonePrim else none
def M : AProg := ⟨lookN fnTab, primOf⟩
theorem glob_eq : glob gT = fun n => if n = 0 then some (Lib.pow10Tab.map fun z => AV.int .u64 z) else none := rfl
theorem good : Go.Proofs.AM.Good Tryd.prog (glob gT) M where
  mixed := by kernel_rfl
  fn := fun f fn h => (lookN_ok allOk h).ok
  prim := fun f p h => by
    have h' : primOf f = some p := h
    unfold primOf at h'
    split at h'
    · rename_i e; subst e; cases h'; rw [glob_eq]; exact itoa_ok (by kernel_rfl)
    split at h'
    · rename_i e; subst e; cases h'; exact clone_ok ⟨Tryd.f22, Tryd.func22, by kernel_rfl, by kernel_rfl⟩ clone22_nil clone22_zero
    split at h'
    · rename_i e; subst e; cases h'; exact clone_ok ⟨Tryd.f23, Tryd.func23, by kernel_rfl, by kernel_rfl⟩ clone23_nil clone23_zero
    split at h'
    · rename_i e; subst e; cases h'; exact clone_ok ⟨Tryd.f26, Tryd.func26, by kernel_rfl, by kernel_rfl⟩ clone26_nil clone26_zero
    · cases h'
theorem prim25 : primOf 25 = some itoaPrim := rfl
theorem itoa_arg {n : Nat} (hn : n < 1000000) : itoaPrim [vi n] = some (.str (dec n)) := by
  have h : (0 : Int) ≤ n ∧ (n : Int) < 1000000 := ⟨by omega, by omega⟩
  have e : itoaPrim [vi n] = if (0 : Int) ≤ n ∧ (n : Int) < 1000000 then some (.str (dec (n : Int).toNat)) else none := rfl
  rw [e, if_pos h, Int.toNat_natCast]
theorem gItoa : gN "strconv.Itoa" = 25 := by kernel_rfl
theorem itoa_spec : SpecItoa M gN := by
  intro n H hn
  rw [gItoa]
  refine callI_prim ?_
  have e : M.prim 25 = some itoaPrim := prim25
  rw [e, Option.bind_some]
  exact itoa_arg hn
theorem clone_prim (args : List AV) : (some clonePrim).bind (· args) = match args with | [.sl _ []] => some (.sl false []) | _ => none := by
  rcases args with _ | ⟨a, _ | ⟨b, r⟩⟩
  · rfl
  · cases a <;> first | rfl | (rename_i f rows; cases rows <;> rfl)
  · cases a <;> rfl
theorem eqM {f : Nat} {fn : AFn} (h : lookN fnTab f = some fn) : M.fn f = some fn := h
theorem fns : TwinFns M gN where
  same := ⟨⟨by kernel_rfl, by kernel_rfl⟩,⟨by kernel_rfl, by kernel_rfl⟩,⟨by kernel_rfl, by kernel_rfl⟩,⟨by kernel_rfl, by kernel_rfl⟩,⟨by kernel_rfl, by kernel_rfl⟩,⟨by kernel_rfl, by kernel_rfl⟩,⟨by kernel_rfl, by kernel_rfl⟩,⟨by kernel_rfl, by kernel_rfl⟩,⟨by kernel_rfl, by kernel_rfl⟩,⟨by kernel_rfl, by kernel_rfl⟩,⟨by kernel_rfl, by kernel_rfl⟩,⟨by kernel_rfl, by kernel_rfl⟩,⟨by kernel_rfl, by kernel_rfl⟩,⟨by kernel_rfl, by kernel_rfl⟩,⟨by kernel_rfl, by kernel_rfl⟩,⟨by kernel_rfl, by kernel_rfl⟩,⟨by kernel_rfl, by kernel_rfl⟩,⟨by kernel_rfl, by kernel_rfl⟩,⟨by kernel_rfl, by kernel_rfl⟩,⟨by kernel_rfl, by kernel_rfl⟩,⟨by kernel_rfl, by kernel_rfl⟩⟩
  twins := ⟨by kernel_rfl, by kernel_rfl⟩
  exam := ⟨by kernel_rfl, by kernel_rfl⟩
  spoilt := ⟨by kernel_rfl, by kernel_rfl⟩
  opn := ⟨by kernel_rfl, by kernel_rfl⟩
  twin := ⟨by kernel_rfl, by kernel_rfl⟩
  twin31 := ⟨by kernel_rfl, by kernel_rfl⟩
  only := ⟨by kernel_rfl, by kernel_rfl⟩
  erase := ⟨by kernel_rfl, by kernel_rfl⟩
  only31 := ⟨by kernel_rfl, by kernel_rfl⟩
  lives := ⟨by kernel_rfl, by kernel_rfl⟩
  take := ⟨by kernel_rfl, by kernel_rfl⟩
  block := ⟨by kernel_rfl, by kernel_rfl⟩
  fact := ⟨by kernel_rfl, by kernel_rfl⟩
  has := ⟨by kernel_rfl, by kernel_rfl⟩
  question := ⟨by kernel_rfl, by kernel_rfl⟩
  around := ⟨by kernel_rfl, by kernel_rfl⟩
  spoiltB := ⟨by kernel_rfl, by kernel_rfl⟩
  spoiltQ := ⟨by kernel_rfl, by kernel_rfl⟩
  rest := ⟨by kernel_rfl, by kernel_rfl⟩
  rest31 := ⟨by kernel_rfl, by kernel_rfl⟩
  decimal := ⟨by kernel_rfl, by kernel_rfl⟩
  same23 := ⟨by kernel_rfl, by kernel_rfl⟩
  erase25 := ⟨by kernel_rfl, by kernel_rfl⟩
  sameTexts := ⟨by kernel_rfl, by kernel_rfl⟩
  at' := ⟨by kernel_rfl, by kernel_rfl⟩
  runs := ⟨by kernel_rfl, by kernel_rfl⟩
  expr := ⟨by kernel_rfl, by kernel_rfl⟩
  sum := ⟨by kernel_rfl, by kernel_rfl⟩
  grid := ⟨by kernel_rfl, by kernel_rfl⟩
  figure := ⟨by kernel_rfl, by kernel_rfl⟩
  melody := ⟨by kernel_rfl, by kernel_rfl⟩
  lines := ⟨by kernel_rfl, by kernel_rfl⟩
  phrase := ⟨by kernel_rfl, by kernel_rfl⟩
  term := ⟨by kernel_rfl, by kernel_rfl⟩
  box := ⟨by kernel_rfl, by kernel_rfl⟩
  arity := ⟨by kernel_rfl, by kernel_rfl⟩
  same01 := ⟨by kernel_rfl, by kernel_rfl⟩
  encode := ⟨by kernel_rfl, by kernel_rfl⟩
  bytes := ⟨by kernel_rfl, by kernel_rfl⟩
  int := ⟨by kernel_rfl, by kernel_rfl⟩
  encBlock := ⟨by kernel_rfl, by kernel_rfl⟩
  ints := ⟨by kernel_rfl, by kernel_rfl⟩
  encQ := ⟨by kernel_rfl, by kernel_rfl⟩
  encRuns := ⟨by kernel_rfl, by kernel_rfl⟩
  encExpr := ⟨by kernel_rfl, by kernel_rfl⟩
  strs := ⟨by kernel_rfl, by kernel_rfl⟩
  encFig := ⟨by kernel_rfl, by kernel_rfl⟩
  encMel := ⟨by kernel_rfl, by kernel_rfl⟩
  itoa := itoa_spec
  cloneS := clone_spec (zs := [(.str [])]) (by kernel_rfl) fun args => clone_prim args
  cloneQ := clone_spec (zs := [(.int .i64 0), (.sl false []), (.sl false []), (.sl false []), (.str []), (.int .i64 0), (.sl false [])]) (by kernel_rfl) fun args => clone_prim args
  cloneI := clone_spec (zs := [(.str []), (.sl false []), (.sl false []), (.sl false [])]) (by kernel_rfl) fun args => clone_prim args
theorem twins_calls {l m : List Int} (hl : ListOk l) (hm : ListOk m) {n at' how by' : Int} (hat : IntOk at') (hhow : IntOk how) (hby : IntOk by') (g : G) (w : World) (xs : List Value) (hw : WF g [] w) (hg : GlobOk (glob gT) g)
    (hx : LRel g [.sl false (l.map encInt), .sl false (m.map encInt), vi n, vi at', vi how, vi by'] xs) :
    Calls Tryd.prog 3 xs.toArray w fun e w' => e = .returned (.bool true) ∧ ∃ g', Step g [] w g' [] w' [] := by
  have h := twins_call fns hl hm (n := n) hat hhow hby []
  have e : gN "dactyl/dactyllaw31.SecretTwins" = 3 := by kernel_rfl
  rw [e] at h
  obtain ⟨k, hk⟩ := callI_to h
  obtain ⟨_, hc⟩ := evCall_sound good k 3 _ [] _ _ _ hk g w xs hw hg hx
  refine hc.mono ?_
  intro e w' he
  cases e with
  | returned v =>
    obtain ⟨g', h1, h2⟩ := he
    cases h2
    exact ⟨rfl, g', h1⟩
  | _ => exact he.elim
end Go.Proofs.Tw
end
section
namespace Go.Proofs.AM
open Go Go.ChangeShapes Go.WideShapes Go.ChangeAt Go.RowKit
def G0 (W : World) : G := { perm := fun b i => W.cell? ⟨b, i, none⟩, obj := fun _ => none, whole := fun b => W.heap[b]?, io := (W.os, W.output) }
theorem wf0 (W : World) : WF (G0 W) [] W where
  perm := fun _ _ _ h => h
  lt := fun _ _ h => by cases h
  blk := fun _ _ h => by cases h
  st := fun _ _ _ _ h => by cases h
  obj := fun _ _ _ hb => by have := hb.loc; cases this
  priv := fun _ _ _ hb => by have := hb.loc; cases this
  inj := fun _ _ _ _ _ _ hb => by have := hb.loc; cases this
  whole := ⟨fun _ _ h => ⟨h, fun _ _ hl => by cases hl⟩, rfl⟩
theorem step_heap {W W' : World} {g' : G} {H' : List AObj} (h : Step (G0 W) [] W g' H' W' []) {b : Nat} (hb : b < W.heap.size) : W'.heap[b]? = W.heap[b]? := h.frame.2 b hb fun o ho => by cases ho
theorem step_kept {W W' : World} {g' : G} {H' : List AObj} (h : Step (G0 W) [] W g' H' W' []) (may : MemPlace → Prop) : W.keptBut W' may := by
  have e := h.wf.whole.io
  rw [h.le.io] at e
  have e' : (W.os, W.output) = (W'.os, W'.output) := e
  refine ⟨(congrArg Prod.fst e').symm, (congrArg Prod.snd e').symm, fun i hi => ?_⟩
  rw [step_heap h hi]
  split <;> simp_all
section
variable {H : Type} {enc : TypeId × Value → H} {P : Program} {W : World}
theorem ints_arg {t e : TypeId} {base : Nat} {v : Value} {d : DataW H} {p : List MemPlace} (ht : P.underlying t = some (.slice e)) (he : P.underlying e = some (.int .i64)) (hc : P.cellsOf e = 1)
    (hval : Value.okWide P W .any base t v) (hd : DataW.Trod enc P W 0 (fun _ => true) true t v d p) :
    ∃ l : List Int, ListOk l ∧ VRel (G0 W) (.sl false (l.map encInt)) v ∧
      ∀ (W' : World) (sp : Nat → Bool), (∀ b, b < W.heap.size → W'.heap[b]? = W.heap[b]?) → (∀ q ∈ p, sp q.block = true) → DataW.Trod enc P W' 0 sp true t v d p := by
  simp only [Value.okWide, ht, Cell.okWide] at hval
  obtain ⟨fuel, hd⟩ := hd
  have hform : v = .slice none 0 0 ∨ ∃ a len cap, v = .slice (some a) len cap ∧ a.spot = none := by
    unfold Cell.ok at hval
    rw [ht] at hval
    split at hval <;> first | exact hval.elim | skip
    all_goals first | (rename_i h; cases h; done) | skip
    · exact .inl rfl
    · exact .inr ⟨_, _, _, rfl, hval.2.2.2.1⟩
  rcases open_ints ht he hc hd with ⟨e1, e2⟩ | ⟨a, len, cap, zs, e1, _, hl, hm, hz, e2, hcell, hwf⟩
  · have hv : v = .slice none 0 0 := by
      rcases hform with rfl | ⟨a, len, cap, rfl, _⟩
      · rfl
      · simp [Value.cells] at e1
    subst hv
    cases e2
    exact ⟨[], (fun a ha => by cases ha), .slNil _, fun W' sp _ _ => shut_slice_nil ht⟩
  · have hv : v = .slice (some a) len cap ∧ a.spot = none := by
      rcases hform with rfl | ⟨a', len', cap', rfl, hs⟩
      · simp [Value.cells] at e1
      · simp [Value.cells] at e1
        obtain ⟨rfl, rfl, rfl⟩ := e1
        exact ⟨rfl, hs⟩
    obtain ⟨rfl, hs⟩ := hv
    simp only [Prod.mk.injEq] at e2
    obtain ⟨rfl, rfl⟩ := e2
    simp only [if_true] at hz
    have hadd : ∀ i, a.add i = ⟨a.block, a.off + i, none⟩ := fun i => by
      have ea : a = ⟨a.block, a.off, none⟩ := by cases a; simp at hs; subst hs; rfl
      rw [ea]; exact Addr.add_lit _ _ _
    have hlt : 0 < zs.length → a.block < W.heap.size := fun h0 => by
      have := hcell 0 h0
      rw [hadd] at this
      exact World.block_lt_of_cell? (a := ⟨a.block, a.off + 0, none⟩) W this
    refine ⟨zs.take len, fun n hn => ?_, ?_, fun W' sp hW' hsp => ?_⟩
    · have := Go.bounds_i64 (hwf n (List.mem_of_mem_take hn))
      exact ⟨this.1, this.2⟩
    · have ea : a = ⟨a.block, a.off, none⟩ := by cases a; simp at hs; subst hs; rfl
      have hlen : ((zs.take len).map encInt).length = len := by simp; omega
      have key : VRel (G0 W) (.sl false ((zs.take len).map encInt)) (.slice (some ⟨a.block, a.off, none⟩) ((zs.take len).map encInt).length cap) := by
        refine .sl false _ a.block a.off cap 1 (by omega) (fun h => by cases h) (fun row hr => ?_) (fun row hr => ?_) (fun i j hi hj => ?_) fun i j row c x hr hcc hx => ?_
        · obtain ⟨n, _, rfl⟩ := List.mem_map.1 hr; rfl
        · obtain ⟨n, _, rfl⟩ := List.mem_map.1 hr; rfl
        · have : j = 0 := by omega
          subst this
          show (W.cell? ⟨a.block, a.off + i * 1 + 0, none⟩).isSome
          have := hcell i (by omega)
          rw [hadd] at this
          simp only [Nat.mul_one, Nat.add_zero, this]; rfl
        · have hi : i < len := by rw [← hlen]; exact (List.getElem?_eq_some_iff.1 hr).1
          have hj : j = 0 := by
            obtain ⟨n, _, rfl⟩ := List.mem_map.1 (List.mem_of_getElem? hr)
            have := (List.getElem?_eq_some_iff.1 hcc).1
            simp [encInt] at this
            exact this
          subst hj
          have hx' : W.cell? ⟨a.block, a.off + i * 1 + 0, none⟩ = some x := hx
          have hc2 := hcell i (by omega)
          rw [hadd] at hc2
          simp only [Nat.mul_one, Nat.add_zero] at hx'
          rw [hc2] at hx'
          cases hx'
          rw [List.getElem?_map] at hr
          have hz2 : (zs.take len)[i]? = some (zs.getD i 0) := by
            rw [List.getElem?_take, if_pos hi, List.getElem?_eq_getElem (by omega)]
            simp [List.getD, show i < zs.length by omega]
          rw [hz2] at hr
          simp only [Option.map_some, Option.some.injEq] at hr
          subst hr
          simp only [encInt, List.getElem?_cons_zero, Option.some.injEq] at hcc
          subst hcc
          exact .int _ _
      rw [hlen, ← ea] at key
      exact key
    · refine ⟨2, shut_ints 0 ht he hc (Nat.zero_le _) hl hm ?_ (fun i hi => ?_) hwf⟩
      · by_cases h0 : 0 < zs.length
        · have : sp a.block = true := hsp (.cell a.block (a.off + 0)) (MemPlace.mem_row.2 ⟨0, h0, rfl⟩)
          rw [this, if_pos rfl, hz]
        · split <;> omega
      · have h1 := hcell i hi
        rw [hadd] at h1 ⊢
        exact (World.cell?_of_block (a := ⟨a.block, a.off + i, none⟩) (hW' a.block (hlt (by omega)))).trans h1
end
end Go.Proofs.AM
end
