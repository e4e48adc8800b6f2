/- Part 6 of the proof that stands in the last text of this folder (lemmas; no statement of its own). -/
import Derived.Test.YtjomjnkapjgheaaDoorK04
import Derived.Test.YtjomjnkapjgheaaDoorK05
section
namespace Go.Proofs.AM
open Go
section
variable {P : Program} {glob : Nat → Option (List AV)} {g : G} {H : List AObj} {w w' : World} {ρ : List AV} {a : Act}
variable {dst : Option Tmp} {type : TypeId} {pos : String} {after : Array Edge} {guard : Option (Nat × Bool)}
theorem RowsRel.oneCell {k : Nat} {rows : List (List AV)} {cells : List Value} (h : RowsRel g k rows cells) (hst : rows.all (fun r => r.all AV.cellOk) = true) : ∀ x ∈ cells, x.oneCell' = true := by
  intro x hx
  obtain ⟨n, hn⟩ := List.mem_iff_getElem?.1 hx
  have hlt : n < cells.length := (List.getElem?_eq_some_iff.1 hn).1
  rw [h.len] at hlt
  have hk0 : 0 < k := by
    rcases Nat.eq_zero_or_pos k with e | e
    · subst e; simp at hlt
    · exact e
  have hi : n / k < rows.length := by rw [Nat.div_lt_iff_lt_mul hk0]; exact hlt
  have hm : n % k < k := Nat.mod_lt _ hk0
  have hrk := h.row rows[n / k] (List.getElem_mem hi)
  have e : n / k * k + n % k = n := by rw [Nat.mul_comm]; exact Nat.div_add_mod n k
  have hv := h.rel (n / k) (n % k) rows[n / k] (rows[n / k][n % k]'(by omega)) x (by simp [hi]) (by simp [hrk, hm]) (by rw [e]; exact hn)
  exact hv.oneCell (List.all_eq_true.1 (List.all_eq_true.1 hst _ (List.getElem_mem hi)) _ (List.getElem_mem _))
theorem w_app {t u e ty : TypeId} {i : TypeInfo} {z : Value} {d : TypeDesc} {S X : Operand} {s x : AOpd} (ht : P.underlying t = some (.slice e)) (hu : P.underlying u = some d) (hd : ∀ k, d ≠ .int k) (hi : P.info? e = some i) (hz : i.zero = some z)
    (hS : opnd glob S = some s) (hX : opnd glob X = some x) (hzs : z.cells.size = i.size) {call : Nat → List AV → List AObj → Out} {site : Option Nat}
    {av : AV} {H' : List AObj} {wr : List Nat} (h : evW call H ρ site (.app i.size i.bytes s x) = some (av, H', wr)) (hw : WF g H w) (hg : GlobOk glob g) (hs : SlotRel g ρ a.tmps) :
    Does P ⟨dst, .call { callee := .builtin .append, args := #[S, X], argTypes := #[t, u] }, ty, pos, after, guard⟩ a w fun v w' => ∃ g', Step g H w g' H' w' wr ∧ VRel g' av v := by
  have hrs := opnd_sound hS hg hs
  have hrx := opnd_sound hX hg hs
  have fin : ∀ v w', (Builtin.append_ #[t, u] ty #[a.eval S, a.eval X]).run P w = .ok v w' → (∃ g', Step g H w g' H' w' wr ∧ VRel g' av v) →
      Does P ⟨dst, .call { callee := .builtin .append, args := #[S, X], argTypes := #[t, u] }, ty, pos, after, guard⟩ a w fun v w' => ∃ g', Step g H w g' H' w' wr ∧ VRel g' av v := fun v w' hr hR =>
    .inl ⟨v, w', by simp [execOp, resolve, invoke, builtin, hr], hR⟩
  simp only [evW, evApp] at h
  split at h
  · cases h
  rename_i new hnew
  split at h
  · cases h
  rename_i hhead
  have hhead' : headOk i.size new = true := by simpa using hhead
  obtain ⟨news, hN, hrr, hstill⟩ := appRows_sound (P := P) hw hnew hhead' hrx
  generalize s.ev ρ = sv at h hrs
  split at h
  · rename_i full rows
    split at h
    · rename_i hemp
      cases h
      have hn0 : new = [] := by simpa using hemp
      subst hn0
      have hnews : news = [] := List.eq_nil_of_length_eq_zero (by have := hN.size; simpa using this)
      subst hnews
      rcases hrs.sl_inv with ⟨er, es⟩ | ⟨b, off, cap, k, es, hcap, _⟩
      · refine fin _ w ?_ ⟨g, .refl hw, es ▸ hrs⟩
        rw [es]
        exact run_append_fit ht hu hd hi hN (by simp) (by simp)
      · refine fin _ w ?_ ⟨g, .refl hw, es ▸ hrs⟩
        rw [es]
        exact run_append_fit ht hu hd hi hN (by simpa using hcap) (by simp [Go.storeCells])
    · rename_i hemp
      split at h
      · rename_i hc
        simp only [Bool.and_eq_true] at hc
        obtain ⟨⟨hfu, hhr⟩, hroom⟩ := hc
        simp only [roomy, decide_eq_true_eq] at hroom
        split at h
        · rename_i id
          split at h
          · rename_i hid
            cases h
            have hpos : 0 < new.length := by
              cases new with
              | nil => simp at hemp
              | cons _ _ => simp
            have key : ∀ (base : Option Addr) (sCap : Nat) (olds : List Value), a.eval S = .slice base rows.length sCap → sCap = rows.length → RowsRel g i.size rows olds → rows.all (fun r => r.all AV.cellOk) = true →
                (∀ w2 : World, w2.heap = w.heap → (Builtin.firstCells i.size rows.length (.slice base rows.length sCap)).run P w2 = .ok olds.toArray w2) →
                Does P ⟨dst, .call { callee := .builtin .append, args := #[S, X], argTypes := #[t, u] }, ty, pos, after, guard⟩ a w fun v w' => ∃ g', Step g H w g' (make H id (.vec · i.size (rows ++ new))) w' [id] ∧ VRel g' (.sr id (verAt H id) (rows.length + new.length)) v := by
              intro base sCap olds es hsc hro hst ho
              have hrun := run_append_more (ty := ty) ht hu hd hi hz hN ho (by omega) hroom
              have hcap := grownCap_ge w (rows.length + new.length) sCap e
              have hall := hro.append hrr
              have hlen : (rows ++ new).length = rows.length + new.length := by simp
              have hll := hall.len
              obtain ⟨g', h1, h2⟩ := Step.newVec (w' := w.drew.alloc (.cells (olds.toArray ++ (news.toArray ++ Builtin.zeroCells z.cells (grownCap w (rows.length + new.length) sCap e - (rows.length + new.length)))) e)) hw hid (t := e) rfl
                (k := i.size) (cap := grownCap w (rows.length + new.length) sCap e) (rows := rows ++ new)
                (by
                  have : (olds.toArray ++ (news.toArray ++ Builtin.zeroCells z.cells (grownCap w (rows.length + new.length) sCap e - (rows.length + new.length)))).toList.take ((rows ++ new).length * i.size) = olds ++ news := by
                    simp only [Array.toList_append, ← List.append_assoc]
                    rw [← hll]
                    exact List.take_left
                  rw [this]; exact hall)
                (by rw [List.all_append, hst, hstill]; rfl) (by omega)
                (by
                  have h1 := hro.len
                  have h2 := hrr.len
                  simp only [Array.size_append, List.size_toArray, size_zeroCells, hzs, h1, h2, ← Nat.add_mul]
                  congr 1
                  omega)
              rw [hlen] at h2
              exact .inl ⟨_, _, by simp [execOp, resolve, invoke, builtin, es, hrun], g', h1, h2⟩
            rcases hrs.sl_inv with ⟨er, es⟩ | ⟨b, off, cap, k, es, hcap, hfull, hk, hst, hp, hrel⟩
            · subst er
              exact key none 0 [] es rfl ⟨by simp, fun r hr => by simp at hr, fun i j r c x h => by simp at h⟩ rfl (fun _ _ => rfl)
            · obtain ⟨news', hN', hrr', hst'⟩ := appRows_sound (P := P) (v := .sl full rows) hw rfl hhr (es ▸ hrs)
              exact key _ cap news' es (hfull hfu) hrr' hst' hN'.cells
          · cases h
        · cases h
      · cases h
  · rename_i o v n
    split at h
    · rename_i v' k' rows hH
      split at h
      · rename_i hc
        obtain ⟨rfl, hlen, rfl, hroom⟩ := hc
        simp only [roomy, decide_eq_true_eq] at hroom
        generalize hsv : a.eval S = sval at hrs
        cases hrs with
        | sr o v n l b cap hl hv hn hh =>
          have hst : l.st = v' := by
            have := hw.st o _ l hH hl
            simp only [AObj.ver] at this
            omega
          have hb : Backed g H o l (.vec v' i.size rows) := ⟨hH, rfl, hl, hst⟩
          obtain ⟨h0, hlk, hcap, hsoft, hk, hsome, hcell⟩ := hw.obj o l _ hb
          obtain ⟨rfl, rfl⟩ := hh hst (by omega)
          split at h
          · rename_i hemp
            cases h
            have hn0 : new = [] := by simpa using hemp
            subst hn0
            have hnews : news = [] := List.eq_nil_of_length_eq_zero (by have := hN.size; simpa using this)
            subst hnews
            refine fin (.slice (some ⟨l.b, 0, none⟩) n l.cap) w ?_ ⟨g, .refl hw, .sr o v' n l _ _ hl hv hn hh⟩
            rw [hsv]
            exact run_append_fit ht hu hd hi hN (by simp; omega) (by simp [Go.storeCells])
          · rename_i hemp
            cases h
            have hpos : 0 < new.length := by
              cases new with
              | nil => simp at hemp
              | cons _ _ => simp
            have hhr : headOk i.size rows = true := by
              cases rows with
              | nil => rfl
              | cons r rs => simpa [headOk] using hk r (by simp)
            have hsr : VRel g (.sr o v' rows.length) (.slice (some ⟨l.b, 0, none⟩) rows.length l.cap) := by rw [hlen]; exact .sr o v' n l _ _ hl hv hn hh
            obtain ⟨olds, hO, hro, hrst⟩ := appRows_sound (P := P) (v := .sr o v' rows.length) hw (by simp [appRows, rowsOf, hH]) hhr hsr
            have hall := hro.append hrr
            have hallst : (rows ++ new).all (fun r => r.all AV.cellOk) = true := by rw [List.all_append, hrst, hstill]; rfl
            have hlen2 : (rows ++ new).length = n + new.length := by simp; omega
            by_cases hfit : n + new.length ≤ l.cap
            ·
              have hbig : (n + new.length) * i.size ≤ l.cap * i.size := Nat.mul_le_mul_right _ hfit
              rw [Nat.add_mul] at hbig
              have hnl := hrr.len
              have hol := hro.len
              rw [hlen] at hol
              have hin : ∀ j, j < news.length → (w.cell? ⟨l.b, n * i.size + j, none⟩).isSome = true := fun j hj => hsome _ (by omega)
              obtain ⟨hs1, hs2⟩ := setCells_heap l.b news (n * i.size) w
              have hone : ∀ y ∈ news, y.oneCell' = true := hrr.oneCell hstill
              have hst0 := run_storeCells_cells (P := P) l.b (n * i.size) news 0 w (by simpa using hin) (by intro j hj; exact hsoft _ (by simpa using hin j hj)) hone
              refine fin (.slice (some ⟨l.b, 0, none⟩) (n + new.length) l.cap) (w.setCells l.b (n * i.size) news) ?_
                ⟨g.setObj o { l with len := n + new.length }, Step.update hw o _ _ (hw.lt o l hl) (by rw [hs1]; exact Nat.le_refl _) (fun b _ hne => hs2 b (Ne.symm (hne l _ hb))) (by rw [hs1]; exact hw.blk o l hl)
                  (.inr ⟨l, _, hb, rfl⟩) hst rfl (fun l0 hl0 => by rw [hl] at hl0; cases hl0; exact ⟨Nat.le_refl _, fun _ => ⟨by show l.len ≤ n + new.length; omega, fun e => by exfalso; have : n + new.length = l.len := e; omega⟩⟩)
                  (fun hle => ⟨hlen2.symm, hlk, by rw [hlen2]; exact hfit, fun j hj => ?_, hall.row, fun j hj => ?_, fun i' j row c h1 h2 => ?_⟩) (setCells_io _ _ _ _),
                  .sr o v' _ { l with len := n + new.length } _ _ (by simp [G.setObj]) (by show v' ≤ l.st; omega) (fun _ => Nat.le_refl _) fun _ _ => ⟨rfl, rfl⟩⟩
              · rw [hsv]
                exact run_append_fit ht hu hd hi hN hfit (by simp only [add_none, Nat.zero_add]; simpa using hst0)
              · show (w.setCells l.b (n * i.size) news).frozen? _ = false
                rw [World.frozen?_setCells]
                refine hsoft j ?_
                by_cases hr : n * i.size ≤ j ∧ j < n * i.size + news.length
                · have := hin (j - n * i.size) (by omega)
                  rwa [show n * i.size + (j - n * i.size) = j by omega] at this
                · have hj' : ((w.setCells l.b (n * i.size) news).cell? ⟨l.b, j, none⟩).isSome = true := hj
                  rwa [World.cell?_setCells_out l.b news (n * i.size) w ⟨l.b, j, none⟩ (fun _ _ => by simp; omega)] at hj'
              · show ((w.setCells l.b (n * i.size) news).cell? ⟨l.b, j, none⟩).isSome = true
                by_cases hr : n * i.size ≤ j ∧ j < n * i.size + news.length
                · have := World.cell?_setCells_in l.b news (n * i.size) w hin (j - n * i.size) (by omega)
                  rw [show n * i.size + (j - n * i.size) = j by omega] at this
                  rw [this]; rfl
                · rw [World.cell?_setCells_out l.b news (n * i.size) w ⟨l.b, j, none⟩ (fun _ _ => by simp; omega)]
                  exact hsome j hj
              · have hi' : i' < (rows ++ new).length := (List.getElem?_eq_some_iff.1 h1).1
                have hjk : j < i.size := by rw [← hall.row row (List.mem_of_getElem? h1)]; exact (List.getElem?_eq_some_iff.1 h2).1
                have hlt := lt_of_div hi' hjk
                rw [hlen2, Nat.add_mul] at hlt
                have hs := List.all_eq_true.1 (List.all_eq_true.1 hallst row (List.mem_of_getElem? h1)) c (List.mem_of_getElem? h2)
                refine ⟨hs, ?_⟩
                show ∃ x, (w.setCells l.b (n * i.size) news).cell? ⟨l.b, i' * i.size + j, none⟩ = some x ∧ _
                rw [List.getElem?_append] at h1
                split at h1
                · rename_i hi2
                  have hlt2 := lt_of_div hi2 hjk
                  rw [hlen] at hlt2
                  rw [World.cell?_setCells_out l.b news (n * i.size) w ⟨l.b, i' * i.size + j, none⟩ (fun _ _ => by simp; omega)]
                  obtain ⟨_, y, hy, hr⟩ := hcell i' j row c h1 h2
                  exact ⟨y, hy, hr.mono hle⟩
                · rename_i hi2
                  have hge : rows.length * i.size ≤ i' * i.size := Nat.mul_le_mul_right _ (by omega)
                  rw [hlen] at hge
                  have hjn : i' * i.size + j - n * i.size < news.length := by omega
                  have := World.cell?_setCells_in l.b news (n * i.size) w hin (i' * i.size + j - n * i.size) hjn
                  rw [show n * i.size + (i' * i.size + j - n * i.size) = i' * i.size + j by omega] at this
                  refine ⟨_, this, (hrr.rel (i' - rows.length) j row c _ h1 h2 ?_).mono hle⟩
                  rw [Nat.sub_mul, hlen, show i' * i.size - n * i.size + j = i' * i.size + j - n * i.size by omega]
                  simp [hjn]
            ·
              have hrun := run_append_more (w := w) (P := P) (ty := ty) ht hu hd hi hz (sLen := n) (sCap := l.cap) (base := some ⟨l.b, 0, none⟩) (olds := olds) hN (by intro w2 e; have := hO.cells w2 e; simpa [Builtin.firstCells, hlen] using this) (by omega) hroom
              have hcap' := grownCap_ge w (n + new.length) l.cap e
              have hll := hall.len
              generalize hW : w.drew.alloc (.cells (olds.toArray ++ (news.toArray ++ Builtin.zeroCells z.cells (grownCap w (n + new.length) l.cap e - (n + new.length)))) e) = W at hrun
              have hWh : W.heap = w.heap.push (.cells (olds.toArray ++ (news.toArray ++ Builtin.zeroCells z.cells (grownCap w (n + new.length) l.cap e - (n + new.length)))) e) := by rw [← hW]; rfl
              have hWio : W.os = w.os ∧ W.output = w.output := by rw [← hW]; exact ⟨rfl, rfl⟩
              have htake : (olds.toArray ++ (news.toArray ++ Builtin.zeroCells z.cells (grownCap w (n + new.length) l.cap e - (n + new.length)))).toList.take ((rows ++ new).length * i.size) = olds ++ news := by
                simp only [Array.toList_append, ← List.append_assoc]
                rw [← hll]
                exact List.take_left
              have hsz : (olds.toArray ++ (news.toArray ++ Builtin.zeroCells z.cells (grownCap w (n + new.length) l.cap e - (n + new.length)))).size = grownCap w (n + new.length) l.cap e * i.size := by
                have h1 := hro.len
                have h2 := hrr.len
                rw [hlen] at h1
                simp only [Array.size_append, List.size_toArray, size_zeroCells, hzs, h1, h2, ← Nat.add_mul]
                congr 1
                omega
              generalize hcs : (olds.toArray ++ (news.toArray ++ Builtin.zeroCells z.cells (grownCap w (n + new.length) l.cap e - (n + new.length)))) = C at hWh htake hsz
              refine fin (.slice (some ⟨w.heap.size, 0, none⟩) (n + new.length) (grownCap w (n + new.length) l.cap e)) W (by rw [hsv]; exact hrun)
                ⟨g.setObj o ⟨w.heap.size, v', n + new.length, i.size, grownCap w (n + new.length) l.cap e⟩, Step.update hw o _ _ (hw.lt o l hl) (by rw [hWh]; simp) (fun b hb' _ => alloc_heap_old hWh hb') (by rw [hWh]; simp)
                  (.inl (Nat.le_refl _)) rfl rfl (fun l0 hl0 => by rw [hl] at hl0; cases hl0; exact ⟨by show l.st ≤ v'; omega, fun _ => ⟨by show l.len ≤ n + new.length; omega, fun e => by exfalso; have : n + new.length = l.len := e; omega⟩⟩)
                  (fun hle => ⟨hlen2.symm, rfl, by rw [hlen2]; exact hcap', soft_new hWh, hall.row, fun j hj => ?_, fun i' j row c h1 h2 => ?_⟩) hWio,
                  .sr o v' _ _ _ _ (by simp [G.setObj]; rfl) (Nat.le_refl _) (fun _ => Nat.le_refl _) fun _ _ => ⟨rfl, rfl⟩⟩
              · rw [cell_new hWh]
                have : j < C.size := by rw [hsz]; exact hj
                simp [this]
              · have hi' : i' < (rows ++ new).length := (List.getElem?_eq_some_iff.1 h1).1
                have hjk : j < i.size := by rw [← hall.row row (List.mem_of_getElem? h1)]; exact (List.getElem?_eq_some_iff.1 h2).1
                have hlt := lt_of_div hi' hjk
                have hs := List.all_eq_true.1 (List.all_eq_true.1 hallst row (List.mem_of_getElem? h1)) c (List.mem_of_getElem? h2)
                have hl2 : i' * i.size + j < (olds ++ news).length := by rw [hll]; exact hlt
                refine ⟨hs, (olds ++ news)[i' * i.size + j], ?_, (hall.rel i' j row c _ h1 h2 (by simp)).mono hle⟩
                rw [cell_new hWh]
                have : C.toList[i' * i.size + j]? = some ((olds ++ news)[i' * i.size + j]) := by
                  have h3 : (C.toList.take ((rows ++ new).length * i.size))[i' * i.size + j]? = (olds ++ news)[i' * i.size + j]? := by rw [htake]
                  rw [List.getElem?_take, if_pos hlt] at h3
                  rw [h3]; exact List.getElem?_eq_getElem hl2
                simpa using this
      · cases h
    · cases h
  · cases h
end
end Go.Proofs.AM
end
section
namespace Go.Proofs.AM
open Go
section
variable {P : Program} {glob : Nat → Option (List AV)} {g : G} {H : List AObj} {w w' : World} {ρ : List AV} {a : Act}
variable {dst : Option Tmp} {type : TypeId} {pos : String} {after : Array Edge} {guard : Option (Nat × Bool)}
theorem fixRows_sound {k : Nat} : ∀ (parts : List (Nat × Operand)) (aps : List (Nat × AOpd)),
    parts.length = aps.length → ∀ (g : G) (H : List AObj), WF g H w → (∀ (j : Nat) i X i' x, parts[j]? = some (i, X) → aps[j]? = some (i', x) → i' = i ∧ VRel g (x.ev ρ) (a.eval X)) →
    ∀ (rows : List (List AV)) (cells : Array Value), RowsRel g k rows cells.toList → rows.all (fun r => r.all AV.still) = true → ∀ out H' l, fixRows ρ k H rows aps = some (out, H', l) →
    ∃ g' cells', Step g H w g' H' w l ∧ Instr.fill (fun i => some (i * k, k)) cells (parts.map fun p => (p.1, a.eval p.2)) = some cells' ∧ RowsRel g' k out cells'.toList ∧ out.length = rows.length ∧ out.all (fun r => r.all AV.still) = true
  | [], aps, hl, g, H, hw, _, rows, cells, hr, hst, out, H', l, h => by
    cases aps with
    | nil =>
      simp only [fixRows, Option.some.injEq, Prod.mk.injEq] at h
      obtain ⟨rfl, rfl, rfl⟩ := h
      exact ⟨g, cells, .refl hw, rfl, hr, rfl, hst⟩
    | cons _ _ => simp at hl
  | (i, X) :: parts, aps, hl, g, H, hw, hp, rows, cells, hr, hst, out, H', l, h => by
    cases aps with
    | nil => simp at hl
    | cons p aps =>
      obtain ⟨i', x⟩ := p
      simp only [fixRows] at h
      split at h
      · rename_i v H1 l1 hfix
        split at h
        · rename_i hc
          split at h
          · rename_i rows' H'' l' hrest
            simp only [Option.some.injEq, Prod.mk.injEq] at h
            obtain ⟨rfl, rfl, rfl⟩ := h
            obtain ⟨h1, h2⟩ := hp 0 i X i' x rfl rfl
            subst h1
            obtain ⟨g1, hstep, hv0⟩ := fix_sound hw hfix h2
            have hv := hv0.cells (all_still_cellOk hc.2.2)
            have hlv := hv.1
            simp only [Array.length_toList] at hlv
            have hr1 := hr.mono hstep.le
            have hlen := hr.len
            simp only [Array.length_toList] at hlen
            have hb : i' * k + k ≤ rows.length * k := by
              have : (i' + 1) * k ≤ rows.length * k := Nat.mul_le_mul_right _ hc.2.1
              rwa [Nat.add_mul, Nat.one_mul] at this
            obtain ⟨cells1, e1, e2⟩ := fill_step (place := fun i => some (i * k, k)) (cells := cells) (i := i') (off := i' * k) (v := a.eval X) (rest := parts.map fun p => (p.1, a.eval p.2)) (by simp; omega) (by omega)
            have hr2 : RowsRel g1 k (rows.set i' v.cells) cells1.toList := by
              rw [e1]
              have := hr1.set hc.2.1 hv hc.1
              simpa using this
            have hst1 : (rows.set i' v.cells).all (fun r => r.all AV.still) = true := by
              rw [List.all_eq_true] at hst ⊢
              intro r hm
              rcases List.mem_or_eq_of_mem_set hm with hm' | rfl
              · exact hst r hm'
              · exact hc.2.2
            obtain ⟨g', cells', e3, e4, e5, e6, e7⟩ := fixRows_sound parts aps (by simpa using hl) g1 H1 hstep.wf
              (fun j i X o x h1 h2 => by obtain ⟨a1, a2⟩ := hp (j + 1) i X o x (by simpa using h1) (by simpa using h2); exact ⟨a1, a2.mono hstep.le⟩) _ cells1 hr2 hst1 _ _ _ hrest
            exact ⟨g', cells', hstep.trans e3, by simp only [List.map_cons]; rw [e2]; exact e4, e5, by rw [e6]; simp, e7⟩
          · cases h
        · cases h
      · cases h
theorem w_bsl {t e : TypeId} {k n : Nat} {parts : Array (Nat × Operand)} {zs : List AV} {aps : List (Nat × AOpd)} (ht : P.underlying t = some (.slice e)) (hk : size? P e = some k) (hz : zeroCells? P e = some zs) (hp : partsL glob n parts.toList = some aps)
    (hzl : zs.length = k) (hn : n * k ≤ 16777216) (hst : zs.all AV.still = true) {call : Nat → List AV → List AObj → Out} {site : Option Nat}
    {av : AV} {H' : List AObj} {wr : List Nat} (h : evW call H ρ site (.bsl k (zs.map AV.strip1) n aps) = some (av, H', wr)) (hw : WF g H w) (hg : GlobOk glob g) (hs : SlotRel g ρ a.tmps) :
    Does P ⟨dst, .buildSlice t n parts, type, pos, after, guard⟩ a w fun v w' => ∃ g', Step g H w g' H' w' wr ∧ VRel g' av v := by
  simp only [evW] at h
  obtain ⟨it, z, hi, hzz, hzr⟩ := zeroCells?_spec hz
  obtain ⟨i', hi', hsz⟩ := size?_info hk
  rw [hi] at hi'
  cases hi'
  obtain ⟨h1, h2⟩ := partsL_spec hp
  have hz0 : RowsRel g k (List.replicate n (zs.map AV.strip1)) (((Array.range (n * k)).map (z.cells[· % z.cells.size]!)).toList) := zeroRows (hzr g).strip1 (by simpa using hzl)
  have hz1 : (List.replicate n (zs.map AV.strip1)).all (fun r => r.all AV.still) = true := by rw [List.all_eq_true]; intro r hm; rw [(List.mem_replicate.1 hm).2]; exact map_strip1_still hst
  have hrun : ∀ cells, Instr.fill (fun i => some (i * k, k)) ((Array.range (n * k)).map (z.cells[· % z.cells.size]!)) (parts.toList.map fun p => (p.1, a.eval p.2)) = some cells →
      (execOp a.eval ⟨dst, .buildSlice t n parts, type, pos, after, guard⟩).run P w = .ok (.value (.slice (some ⟨w.heap.size, 0, none⟩) n n)) (w.alloc (.cells cells e)) := fun cells e1 => by
    have hf : Instr.fill (fun i => some (i * k, k)) ((Array.range (n * k)).map (z.cells[· % z.cells.size]!)) (parts.map fun p => (p.1, a.eval p.2)).toList = some cells := by rw [Array.toList_map]; exact e1
    simp only [execOp, Sem.run_bind, run_buildSlice ht hi hsz hzz hn hf, Result.andThen_ok, Sem.run_pure]
  split at h
  · rename_i id
    split at h
    · rename_i rows hb
      split at h
      · rename_i hid
        cases h
        obtain ⟨cells, e1, e2, e3, e4⟩ := fillRowsC_sound (g := g) (a := a) (ρ := ρ) parts.toList aps h1 (fun j i X i' x e1 e2 => by
          obtain ⟨ho, _, hx⟩ := h2 j i X i' x e1 e2
          exact ⟨ho, opnd_sound hx hg hs⟩) _ _ hz0 (rows_still_cellOk hz1) _ hb
        have hlen : rows.length = n := by rw [e3]; simp
        have hcl := e2.len
        have htake : cells.toList.take (rows.length * k) = cells.toList := List.take_of_length_le (by omega)
        obtain ⟨g', s1, s2⟩ := Step.newVec (w' := w.alloc (.cells cells e)) hw hid (c := cells) (t := e) rfl (k := k) (cap := n) (by rw [htake]; exact e2) e4 (by omega) (by simpa [hlen] using hcl)
        rw [hlen] at s2
        exact .inl ⟨_, _, hrun cells e1, g', s1, s2⟩
      · cases h
    · cases h
  · split at h
    · rename_i rows H1 wr1 hfr
      cases h
      obtain ⟨g1, cells, hstep, e1, e2, e3, e4⟩ := fixRows_sound (a := a) (ρ := ρ) parts.toList aps h1 g H hw (fun j i X i' x e1 e2 => by
        obtain ⟨ho, _, hx⟩ := h2 j i X i' x e1 e2
        exact ⟨ho, opnd_sound hx hg hs⟩) _ _ hz0 hz1 _ _ _ hfr
      have hlen : rows.length = n := by rw [e3]; simp
      have hcl := e2.len
      have htake : cells.toList.take (rows.length * k) = cells.toList := List.take_of_length_le (by omega)
      have hperm := Step.allocPerm (w' := w.alloc (.cells cells e)) hstep.wf cells e (0, 0) rfl
      have hv := VRel.sl_new (g := g1) (f := true) (cap := n) (b := w.heap.size) e4 (by omega) (fun _ => hlen.symm) (by rw [htake]; exact e2.mono hperm.le)
      rw [hlen] at hv
      refine .inl ⟨_, _, hrun cells e1, _, (hstep.trans hperm).weaken fun o ho => by simpa using ho, hv⟩
    · cases h
structure OwnRel (g : G) (H : List AObj) (n0 : Nat) (w : World) (k : Nat) (rows : List (List AV)) (b cap : Nat) : Prop where
  hnew : n0 ≤ b
  hlt : b < w.heap.size
  hcap : rows.length ≤ cap
  hsoft : Soft w b
  hrow : ∀ row ∈ rows, row.length = k
  hstill : rows.all (fun r => r.all AV.still) = true
  hsome : ∀ j, j < cap * k → (w.cell? ⟨b, j, none⟩).isSome
  hrel : ∀ (i j : Nat) (row : List AV) c, rows[i]? = some row → row[j]? = some c → ∃ y, w.cell? ⟨b, i * k + j, none⟩ = some y ∧ VRel g c y
  hpriv : ∀ j, g.perm b j = none
  hapart : ∀ o l x, Backed g H o l x → l.b ≠ b
  hwhole : g.whole b = none
def RetRel (g : G) (H : List AObj) (n0 : Nat) (w : World) (av : AV) (v : Value) : Prop :=
  match av with
  | .own k rows => ∃ b cap, v = .slice (some ⟨b, 0, none⟩) rows.length cap ∧ OwnRel g H n0 w k rows b cap
  | av => VRel g av v
def CallOk (P : Program) (glob : Nat → Option (List AV)) (call : Nat → List AV → List AObj → Out) : Prop :=
  ∀ f args H av H' wr, call f args H = some (av, H', wr) → ∀ g w xs, WF g H w → GlobOk glob g → LRel g args xs →
    (∃ F, P.funcs[f]? = some F ∧ (F.name == "runtime.NumGoroutine") = false ∧ F.body.isNone = false) ∧
    Calls P f xs.toArray w fun e w' => match e with
      | .returned v => ∃ g', Step g H w g' H' w' wr ∧ RetRel g' H' w.heap.size w' av v
      | _ => False
theorem own_fixed {n0 : Nat} (hw : WF g H w) {k : Nat} {rows : List (List AV)} {b cap : Nat} (h : OwnRel g H n0 w k rows b cap) :
    ∃ g', Step g H w g' H w [] ∧ VRel g' (.sl false rows) (.slice (some ⟨b, 0, none⟩) rows.length cap) := by
  have hle : g.le (g.addPerm b fun i => w.cell? ⟨b, i, none⟩) := by
    refine ⟨fun b' i y hy => ?_, fun o l hl => ⟨l, hl, Nat.le_refl _, fun _ => ⟨Nat.le_refl _, fun _ => rfl⟩⟩, fun _ _ hx => hx, rfl⟩
    by_cases e : b' = b
    · subst e; rw [h.hpriv i] at hy; cases hy
    · simp only [G.addPerm, e, if_false]; exact hy
  have hbk : ∀ o l x, Backed (g.addPerm b fun i => w.cell? ⟨b, i, none⟩) H o l x → Backed g H o l x := fun o l x hb => ⟨hb.at_, hb.alive, hb.loc, hb.st⟩
  refine ⟨g.addPerm b fun i => w.cell? ⟨b, i, none⟩,⟨hle,⟨fun b' i y hy => ?_, hw.lt, hw.blk, hw.st, fun o l x hb => (hw.obj o l x (hbk _ _ _ hb)).keep hle rfl, fun o l x hb j => ?_, fun o o' l l' x x' hb hb' => hw.inj o o' l l' x x' (hbk _ _ _ hb) (hbk _ _ _ hb'),
      hw.whole.keep rfl rfl ⟨rfl, rfl⟩ (fun _ _ _ => rfl) fun o l hl => .inr ⟨o, l, hl, rfl⟩⟩,
    Frame.refl _ _ _, fun _ _ _ => rfl, Nat.le_refl _, fun _ l' hl => .inr ⟨l', hl, rfl⟩, fun _ _ _ => rfl⟩, ?_⟩
  · by_cases e : b' = b
    · subst e; simpa only [G.addPerm, if_true] using hy
    · simp only [G.addPerm, e, if_false] at hy; exact hw.perm b' i y hy
  · have hne := h.hapart o l x (hbk _ _ _ hb)
    simp only [G.addPerm, hne, if_false]
    exact hw.priv o l x (hbk _ _ _ hb) j
  · refine .sl false rows b 0 cap k h.hcap (by simp) h.hrow (List.all_eq_true.1 h.hstill) (fun i j hi hj => ?_) fun i j row c x h1 h2 h3 => ?_
    · have hrk := h.hrow rows[i] (List.getElem_mem hi)
      obtain ⟨y, hy, _⟩ := h.hrel i j rows[i] (rows[i][j]'(by omega)) (by simp [hi]) (by simp)
      simp only [G.addPerm, if_true, Nat.zero_add, hy]; rfl
    · obtain ⟨y, hy, hr⟩ := h.hrel i j row c h1 h2
      simp only [G.addPerm, if_true, Nat.zero_add, hy, Option.some.injEq] at h3
      subst h3
      exact hr.mono hle
theorem own_object {n0 : Nat} (hw : WF g H w) {k : Nat} {rows : List (List AV)} {b cap : Nat} (h : OwnRel g H n0 w k rows b cap) {id : Nat} (hid : id < H.length) :
    ∃ g', g'.perm = g.perm ∧ g.le g' ∧ WF g' (make H id (.vec · k rows)) w ∧ (∀ o, o ≠ id → g'.obj o = g.obj o) ∧ (∀ l', g'.obj id = some l' → l'.b = b) ∧
      VRel g' (.sr id (verAt H id) rows.length) (.slice (some ⟨b, 0, none⟩) rows.length cap) := by
  have hx : H[id]? = some H[id] := by simp [hid]
  have hv : verAt H id = H[id].ver + 1 := by simp [verAt, hid]
  generalize hl' : (⟨b, verAt H id, rows.length, k, cap⟩ : Loc) = l'
  have hle : g.le (g.setObj id l') := by
    refine ⟨fun _ _ _ hx => hx, fun o' l hl => ?_, fun _ _ hx => hx, rfl⟩
    by_cases e : o' = id
    · subst e
      have := hw.st o' _ l hx hl
      exact ⟨l', by simp [G.setObj], by rw [← hl']; show l.st ≤ verAt H o'; omega, fun e => by exfalso; rw [← hl'] at e; have : verAt H o' = l.st := e; omega⟩
    · exact ⟨l, by simp only [G.setObj, e, if_false]; exact hl, Nat.le_refl _, fun _ => ⟨Nat.le_refl _, fun _ => rfl⟩⟩
  have hbk : ∀ o' l x, o' ≠ id → Backed (g.setObj id l') (make H id (.vec · k rows)) o' l x → Backed g H o' l x := fun o' l x hne hb =>
    ⟨by rw [← getElem?_set_ne' H _ (Ne.symm hne)]; exact hb.at_, hb.alive, by have := hb.loc; simpa only [G.setObj, hne, if_false] using this, hb.st⟩
  have hself : ∀ l x, Backed (g.setObj id l') (make H id (.vec · k rows)) id l x → l = l' ∧ x = .vec (verAt H id) k rows := fun l x hb => by
    have h1 := hb.at_
    have h2 := hb.loc
    simp [make, hid] at h1
    simp [G.setObj] at h2
    refine ⟨h2.symm, ?_⟩
    rw [← h1, hv]
  refine ⟨g.setObj id l', rfl, hle,⟨hw.perm, fun o' l hl => ?_, fun o' l hl => ?_, fun o' x l hx' hl => ?_, fun o' l x hb => ?_, fun o' l x hb j => ?_, fun o1 o2 l1 l2 x1 x2 hb1 hb2 e => ?_,
      ⟨fun b' x hx => ⟨(hw.whole.blocks b' x hx).1, fun o' l hl => by
        by_cases e : o' = id
        · subst e
          simp [G.setObj] at hl
          subst hl
          rw [← hl']
          intro e2
          have e3 : b = b' := e2
          have h0 := h.hwhole
          have hx0 : g.whole b' = some x := hx
          rw [e3, hx0] at h0
          cases h0
        · simp only [G.setObj, e, if_false] at hl
          exact (hw.whole.blocks b' x hx).2 o' l hl⟩, hw.whole.io⟩⟩, fun o hne => by simp [G.setObj, hne], fun l2 hl2 => ?_, ?_⟩
  · by_cases e : o' = id
    · subst e; simpa [make] using hid
    · simp only [G.setObj, e, if_false] at hl
      simpa [make] using hw.lt o' l hl
  · by_cases e : o' = id
    · subst e
      simp [G.setObj] at hl
      subst hl; rw [← hl']; exact h.hlt
    · simp only [G.setObj, e, if_false] at hl
      exact hw.blk o' l hl
  · by_cases e : o' = id
    · subst e
      simp [G.setObj] at hl
      simp [make, hid] at hx'
      subst hl; subst hx'
      rw [← hl']
      show verAt H o' ≤ H[o'].ver + 1
      omega
    · simp only [G.setObj, e, if_false] at hl
      rw [make, getElem?_set_ne' H _ (Ne.symm e)] at hx'
      exact hw.st o' x l hx' hl
  · by_cases e : o' = id
    · subst e
      obtain ⟨rfl, rfl⟩ := hself l x hb
      rw [← hl']
      refine ⟨rfl, rfl, h.hcap, h.hsoft, h.hrow, h.hsome, fun i j row c h1 h2 => ⟨still_cellOk (List.all_eq_true.1 (List.all_eq_true.1 h.hstill row (List.mem_of_getElem? h1)) c (List.mem_of_getElem? h2)), ?_⟩⟩
      obtain ⟨y, hy, hr⟩ := h.hrel i j row c h1 h2
      refine ⟨y, hy, ?_⟩
      rw [hl']
      exact hr.mono hle
    · exact (hw.obj o' l x (hbk o' l x e hb)).keep hle rfl
  · by_cases e : o' = id
    · subst e
      obtain ⟨rfl, rfl⟩ := hself l x hb
      rw [← hl']; exact h.hpriv j
    · exact hw.priv o' l x (hbk o' l x e hb) j
  · by_cases e1 : o1 = id
    · by_cases e2 : o2 = id
      · rw [e1, e2]
      · subst e1
        obtain ⟨rfl, rfl⟩ := hself l1 x1 hb1
        exact absurd (by rw [← hl'] at e; exact e.symm) (h.hapart o2 l2 x2 (hbk _ _ _ e2 hb2))
    · by_cases e2 : o2 = id
      · subst e2
        obtain ⟨rfl, rfl⟩ := hself l2 x2 hb2
        exact absurd (by rw [← hl'] at e; exact e) (h.hapart o1 l1 x1 (hbk _ _ _ e1 hb1))
      · exact hw.inj o1 o2 l1 l2 x1 x2 (hbk _ _ _ e1 hb1) (hbk _ _ _ e2 hb2) e
  · simp [G.setObj] at hl2
    rw [← hl2, ← hl']
  · subst hl'
    exact .sr id _ _ _ _ _ (by simp [G.setObj]; rfl) (Nat.le_refl _) (fun _ => Nat.le_refl _) fun _ _ => ⟨rfl, rfl⟩
end
end Go.Proofs.AM
end
section
namespace Go.Proofs.AM
open Go
section
variable {P : Program} {glob : Nat → Option (List AV)} {g : G} {H : List AObj} {w w' : World} {ρ : List AV} {a : Act}
variable {dst : Option Tmp} {type : TypeId} {pos : String} {after : Array Edge} {guard : Option (Nat × Bool)}
theorem w_mkmap {t : TypeId} {call : Nat → List AV → List AObj → Out} {site : Option Nat}
    {av : AV} {H' : List AObj} {wr : List Nat} (h : evW call H ρ site .mkmap = some (av, H', wr)) (hw : WF g H w) :
    Does P ⟨dst, .makeMap t none, type, pos, after, guard⟩ a w fun v w' => ∃ g', Step g H w g' H' w' wr ∧ VRel g' av v := by
  simp only [evW] at h
  split at h
  · rename_i id
    split at h
    · rename_i hid
      cases h
      have e : (w.alloc (.map #[] 0)).heap = w.heap.push (.map #[] 0) := rfl
      have hst := Step.update (w' := w.alloc (.map #[] 0)) hw id (.map (verAt H id) []) ⟨w.heap.size, verAt H id, 0, 0, 0⟩ hid (by rw [e]; simp) (fun b hb _ => alloc_heap_old e hb) (by rw [e]; simp) (.inl (Nat.le_refl _)) rfl rfl (fun l hl => by
        have hx : H[id]? = some H[id] := by simp [hid]
        have := hw.st id _ l hx hl
        have hv : verAt H id = H[id].ver + 1 := by simp [verAt, hid]
        exact ⟨by show l.st ≤ verAt H id; omega, fun e => by have e' : verAt H id = l.st := e; omega⟩)
        fun hle => ⟨rfl, #[], 0, by rw [e]; simp, rfl, fun i k v e h => by simp at h⟩
      refine .inl ⟨.map (some w.heap.size), w.alloc (.map #[] 0), by simp [execOp, Instr.makeMap, Result.andThen], _, hst, ?_⟩
      exact .mp id _ _ _ (by simp [G.setObj]; rfl) (Nat.le_refl _) fun _ _ => rfl
    · cases h
  · cases h
theorem w_ins {t kt et : TypeId} {K : IntKind} {M X V : Operand} {m k v : AOpd} (ht : P.underlying t = some (.map kt et)) (hk : P.underlying kt = some (.int K))
    (hM : opnd glob M = some m) (hX : opnd glob X = some k) (hV : opnd glob V = some v) {call : Nat → List AV → List AObj → Out} {site : Option Nat}
    {av : AV} {H' : List AObj} {wr : List Nat} (h : evW call H ρ site (.ins m k v) = some (av, H', wr)) (hw : WF g H w) (hg : GlobOk glob g) (hs : SlotRel g ρ a.tmps) :
    Does P ⟨dst, .insert t M X V, type, pos, after, guard⟩ a w fun v w' => ∃ g', Step g H w g' H' w' wr ∧ VRel g' av v := by
  have hm := opnd_sound hM hg hs
  have hx := opnd_sound hX hg hs
  have hv := (opnd_sound hV hg hs).strip
  simp only [evW] at h
  split at h
  · rename_i kk o ver e1
    rw [e1] at hm
    split at h
    · rename_i v' es ho
      split at h
      · rename_i hc
        obtain ⟨hver, hkey, hstill⟩ := hc
        obtain ⟨l, entries, clock, hb, hmv, hheap, hrel, hlen⟩ := mp_backed hw ho hver hm
        have hck : ∀ b, (Instr.checkKey b 10000 kt (a.eval X)).run P w = .ok () w := fun b => run_checkKey_int hk b 9999 (a.eval X)
        have step : ∀ (es' : List (AV × AV)) (xs' : Array MapEntry) (clock' : Nat), ERel g es' xs'.toList →
            ∃ g', Step g H w g' (H.set o (.map ver es')) { w with heap := w.heap.setIfInBounds l.b (.map xs' clock') } [o] := fun es' xs' clock' hr => by
          have hlt := hw.blk o l hb.loc
          have hoth : ∀ b, b ≠ l.b → (w.heap.setIfInBounds l.b (.map xs' clock'))[b]? = w.heap[b]? := fun b hne => by simp [Ne.symm hne]
          refine ⟨_, Step.update hw o (.map ver es') l (hw.lt o l hb.loc) (by simp) (fun b _ hne => hoth b fun e => hne l _ hb e.symm) (by simpa using hlt) (.inr ⟨l, _, hb, rfl⟩) hb.st rfl (fun l2 hl2 => ?_)
            fun hle => ⟨hlen, xs', clock', by simp [hlt], by simpa using hr.1, fun i k v e h1 h2 => ?_⟩⟩
          · have : l2 = l := by have := hb.loc; rw [hl2] at this; exact Option.some.inj this
            subst this
            exact ⟨Nat.le_refl _, fun _ => ⟨Nat.le_refl _, fun _ => rfl⟩⟩
          · have := hr.2 i k v e h1 (by simpa using h2)
            exact ⟨this.1.mono hle, this.2.mono hle⟩
        split at h
        · rename_i j x hf
          obtain ⟨j', e', k', n, h1, h2, h3, h4, h5⟩ := findKey_sound (K := K) hx es entries.toList 0 _ hrel hf
          have hj : entries[j']? = some e' := by simpa using h2
          simp only [Nat.zero_add] at h1
          subst h1
          simp only [Option.some.injEq, Prod.mk.injEq] at h
          obtain ⟨rfl, rfl, rfl⟩ := h
          have hxe : a.eval X = .int k' n := by rw [h4] at hx; cases hh : a.eval X <;> rw [hh] at hx <;> cases hx; rfl
          have hke : e'.key = .int k' n := by
            have := (hrel.2 j _ _ e' h3 h2).1
            cases hh : e'.key <;> rw [hh] at this <;> cases this; rfl
          have hfk := MapKept.run_findKey (w := w) hk h5
          have hst : (Instr.keyThatStays (.int k' n) (.int k' n)).run P w = .ok (.int k' n) w := by simp [Instr.keyThatStays, Instr.sameBits]
          have hrun : (Instr.mapUpdate t (a.eval M) (a.eval X) (a.eval V)).run P w = .ok () { w with heap := w.heap.setIfInBounds l.b (.map (entries.modify j fun e => { e with key := .int k' n, val := a.eval V }) clock) } := by
            rw [hxe] at hfk hck
            simp [Instr.mapUpdate, run_underlying ht, hmv, hxe, MapKept.run_getObj_map hheap, hck, hfk, hj, hke, hst, MapKept.run_setObj_map _ hheap, Result.andThen]
          obtain ⟨g', hs'⟩ := step (es.set j (k.ev ρ, (v.ev ρ).strip)) (entries.modify j fun e => { e with key := .int k' n, val := a.eval V }) clock ⟨by simpa using hrel.1, fun i k2 v2 e2 h6 h7 => by
            have h7' : (entries.modify j fun e => { e with key := .int k' n, val := a.eval V })[i]? = some e2 := by rw [← Array.getElem?_toList]; exact h7
            rw [Array.getElem?_modify] at h7'
            by_cases e : j = i
            · subst e
              have hlt : j < es.length := (List.getElem?_eq_some_iff.1 h3).1
              simp only [List.getElem?_set, if_true, hlt] at h6
              rw [if_pos rfl, hj] at h7'
              simp only [Option.map_some, Option.some.injEq] at h7'
              subst h7'
              simp only [Option.some.injEq, Prod.mk.injEq] at h6
              obtain ⟨rfl, rfl⟩ := h6
              exact ⟨by rw [← hxe]; exact hx, hv⟩
            · rw [if_neg e] at h7'
              rw [getElem?_set_ne' _ _ e] at h6
              exact hrel.2 i k2 v2 e2 h6 (by simpa using h7')⟩
          exact .inr (.inl ⟨_, by simp [execOp, hrun], g', hs', .undef _⟩)
        · rename_i hf
          have h5 := findKey_sound (K := K) hx es entries.toList 0 _ hrel hf
          simp only [Option.some.injEq, Prod.mk.injEq] at h
          obtain ⟨rfl, rfl, rfl⟩ := h
          have hfk := MapKept.run_findKey (w := w) hk h5
          have hrun : (Instr.mapUpdate t (a.eval M) (a.eval X) (a.eval V)).run P w = .ok () { w with heap := w.heap.setIfInBounds l.b (.map (entries.push { key := a.eval X, val := a.eval V, born := clock }) (clock + 1)) } := by
            simp [Instr.mapUpdate, run_underlying ht, hmv, MapKept.run_getObj_map hheap, hck, hfk, MapKept.run_setObj_map _ hheap, Result.andThen]
          obtain ⟨g', hs'⟩ := step (es ++ [(k.ev ρ, (v.ev ρ).strip)]) (entries.push { key := a.eval X, val := a.eval V, born := clock }) (clock + 1) ⟨by simpa using hrel.1, fun i k2 v2 e2 h6 h7 => by
            have h7' : (entries.toList ++ [{ key := a.eval X, val := a.eval V, born := clock }])[i]? = some e2 := by simpa using h7
            by_cases e : i < es.length
            · rw [List.getElem?_append_left e] at h6
              rw [List.getElem?_append_left (by rw [← hrel.1]; exact e)] at h7'
              exact hrel.2 i k2 v2 e2 h6 h7'
            · rw [List.getElem?_append_right (by omega)] at h6
              rw [List.getElem?_append_right (by rw [← hrel.1]; omega), ← hrel.1] at h7'
              cases hd : i - es.length with
              | zero =>
                rw [hd] at h6 h7'
                simp at h6 h7'
                obtain ⟨rfl, rfl⟩ := h6
                subst h7'
                exact ⟨hx, hv⟩
              | succ d => rw [hd] at h6; simp at h6⟩
          exact .inr (.inl ⟨_, by simp [execOp, hrun], g', hs', .undef _⟩)
        · cases h
      · cases h
    · cases h
  · cases h
end
end Go.Proofs.AM
end
section
namespace Go.Proofs.AM
open Go
section
variable {P : Program} {glob : Nat → Option (List AV)} {g : G} {H : List AObj} {w w' : World} {ρ : List AV} {a : Act}
variable {dst : Option Tmp} {type : TypeId} {pos : String} {after : Array Edge} {guard : Option (Nat × Bool)}
theorem VRel.atom {g g' : G} {v : AV} {x : Value} (h : VRel g v x) (ha : v.atom = true) : VRel g' v x := by
  cases h <;> first | (simp [AV.atom] at ha; done) | exact .bool _ | exact .int _ _ | exact .str _ | exact .nilFn | exact .nilPtr
theorem VRel.atomic {g g' : G} {v : AV} {x : Value} (h : VRel g v x) (ha : v.atomic = true) : VRel g' v x := by
  have lists : ∀ {cs : List AV} {xs : List Value}, LRel g cs xs → cs.all AV.atom = true → LRel g' cs xs := fun hl hc =>
    ⟨hl.1, fun i c y h1 h2 => (hl.2 i c y h1 h2).atom (List.all_eq_true.1 hc c (List.mem_of_getElem? h1))⟩
  unfold AV.atomic at ha
  split at ha
  · obtain ⟨vs, rfl, hl⟩ := h.agg_list
    exact (lists hl ha).agg
  · obtain ⟨vs, rfl, hl⟩ := h.tup_list
    have := lists hl ha
    exact .tup _ vs (by simpa using this.1) fun i c y h1 h2 => this.2 i c y h1 (by simpa using h2)
  · exact h.atom ha
theorem LRel.append {as bs : List AV} {xs ys : List Value} (h1 : LRel g as xs) (h2 : LRel g bs ys) : LRel g (as ++ bs) (xs ++ ys) := by
  refine ⟨by simp [h1.1, h2.1], fun i c y hc hy => ?_⟩
  rw [List.getElem?_append] at hc hy
  have := h1.1
  split at hc
  · rename_i hi
    rw [if_pos (by omega)] at hy
    exact h1.2 i c y hc hy
  · rename_i hi
    rw [if_neg (by omega)] at hy
    exact h2.2 _ c y hc (by rw [this]; exact hy)
theorem LRel.strip {as : List AV} {xs : List Value} (h : LRel g as xs) : LRel g (as.map AV.strip) xs := by
  refine ⟨by simpa using h.1, fun i a x ha hx => ?_⟩
  rw [List.getElem?_map] at ha
  cases hq : as[i]? with
  | none => simp [hq] at ha
  | some b => simp [hq] at ha; subst ha; exact (h.2 i b x hq hx).strip
theorem mem_ifcons {c : Bool} {o id : Nat} {wr : List Nat} (h : o ∈ wr) : o ∈ (if c = true then wr else id :: wr) := by
  cases c
  · exact List.mem_cons_of_mem _ h
  · exact h
theorem lent_back (hw : WF g H w) {g1 g2 : G} {H1 H2 : List AObj} (h1 : g1.io = (w.os, w.output)) (h2 : Step g1 H1 w g2 H2 w' []) : Step g H w g H w' [] := by
  have hall : ∀ b, b < w.heap.size → w'.heap[b]? = w.heap[b]? := fun b hb => h2.frame.2 b hb fun o ho => by simp at ho
  have hio : w'.os = w.os ∧ w'.output = w.output := by
    have := h2.wf.whole.io
    rw [h2.le.io, h1] at this
    exact ⟨(congrArg Prod.fst this).symm, (congrArg Prod.snd this).symm⟩
  refine ⟨G.le.refl g,⟨fun b i x hx => ?_, hw.lt, fun o l hl => Nat.lt_of_lt_of_le (hw.blk o l hl) h2.frame.1, hw.st, fun o l x hb => ?_, hw.priv, hw.inj, hw.whole.keep rfl rfl hio (fun b hb _ => hall b hb) fun o l hl => .inr ⟨o, l, hl, rfl⟩⟩,
    ⟨h2.frame.1, fun b hb _ => hall b hb⟩, fun _ _ _ => rfl, Nat.le_refl _, fun _ l' hl => .inr ⟨l', hl, rfl⟩, fun _ _ _ => rfl⟩
  · rw [cell_of_heap (hall b (hw.perm_lt hx))]; exact hw.perm b i x hx
  · exact (hw.obj o l x hb).keep (G.le.refl g) (hall l.b (hw.blk o l hb.loc))
theorem w_callv {ty : TypeId} {ts : Array TypeId} {F : Operand} {X : Array Operand} {f : AOpd} {xs : List AOpd} (hF : opnd glob F = some f) (hX : opnds glob X.toList = some xs) {call : Nat → List AV → List AObj → Out} (hcall : CallOk P glob call) {site : Option Nat}
    {av : AV} {H' : List AObj} {wr : List Nat} (h : evW call H ρ site (.callv f xs) = some (av, H', wr)) (hw : WF g H w) (hg : GlobOk glob g) (hs : SlotRel g ρ a.tmps) :
    Does P ⟨dst, .call { callee := .value F, args := X, argTypes := ts }, ty, pos, after, guard⟩ a w fun v w' => ∃ g', Step g H w g' H' w' wr ∧ VRel g' av v := by
  have hrf := opnd_sound hF hg hs
  have hrx := opnds_sound hX hg hs
  simp only [evW, evCallv] at h
  generalize hfv : f.ev ρ = fv at h hrf
  split at h
  · rename_i fid first caps
    obtain ⟨vf, vc, ef, hlf, hlc⟩ := hrf.fn_inv
    split at h
    · cases h
    rename_i args' lent hlend
    split at h
    · cases h
    rename_i v H2 wr2 hc
    have hargs : LRel g (first ++ xs.map (AOpd.ev ρ) ++ caps) (vf.toList ++ X.toList.map a.eval ++ vc.toList) := (hlf.append hrx).append hlc
    obtain ⟨l1, l2⟩ := lendAll_sound hw hlend hargs
    obtain ⟨g1, hstep1, hlent⟩ := goneAll_sound lent g H hw fun o ho => .inl (l1 o ho)
    have hargs1 := (l2 g1 hlent).strip
    obtain ⟨⟨Fn, hfn, hname, hbody⟩, hcalls⟩ := hcall fid _ _ v H2 wr2 hc g1 w _ hstep1.wf (hg.mono hstep1.le) hargs1
    have hrun : (execOp a.eval ⟨dst, .call { callee := .value F, args := X, argTypes := ts }, ty, pos, after, guard⟩).run P w = .ok (.enter fid (vf.toList ++ X.toList.map a.eval ++ vc.toList).toArray) w := by
      have harr : (vf ++ X.map a.eval ++ vc) = (vf.toList ++ X.toList.map a.eval ++ vc.toList).toArray := by
        apply Array.ext'
        simp
      have hn : ¬ (Fn.name = "runtime.NumGoroutine") := by simpa using hname
      have hb : ¬ (Fn.body = none) := fun e => by rw [e] at hbody; simp at hbody
      rw [← harr]
      simp [execOp, resolve, ef, Deferred.ofValue, invoke, callFunc, hfn, hn, hb]
    refine .inr (.inr ⟨fid, _, w, hrun, hcalls.mono fun e w' he => ?_⟩)
    cases e with
    | panicked c => exact he
    | outgrown => exact he
    | returned rv =>
      obtain ⟨g2, hstep2, hret⟩ := he
      split at h
      · rename_i hemp
        have hl0 : lent = [] := by simpa using hemp
        subst hl0
        have hstep := hstep1.trans hstep2
        simp only [List.nil_append] at hstep
        split at h
        · rename_i k rows
          obtain ⟨b, cap, rfl, hown⟩ := hret
          split at h
          · rename_i id
            split at h
            · rename_i hid
              cases h
              obtain ⟨g3, hp, hle, hwf, hoth, hself, hv⟩ := own_object hstep.wf hown hid
              refine ⟨g3,⟨hstep.le.trans hle, hwf, ?_, fun o ho hn => ?_, by simpa [make] using hstep.len, fun o l' hl' => ?_, fun o ho hn => ?_⟩, hv⟩
              · refine hstep.frame.weaken fun o ho => ?_
                split
                · exact ho
                · exact List.mem_cons_of_mem _ ho
              · have hne : o ≠ id := fun e => by
                  subst e
                  split at hn
                  · rename_i hc; exact hn (by simpa using hc)
                  · simp at hn
                have hn' : o ∉ wr2 := fun hm => hn (mem_ifcons hm)
                rw [make, getElem?_set_ne' _ _ (Ne.symm hne)]
                exact hstep.same o ho hn'
              · by_cases e : o = id
                · subst e
                  rw [hself l' hl']
                  exact .inl hown.hnew
                · rw [hoth o e] at hl'
                  exact hstep.track o l' hl'
              · have hne : o ≠ id := fun e => by
                  subst e
                  split at hn
                  · rename_i hc; exact hn (by simpa using hc)
                  · simp at hn
                have hn' : o ∉ wr2 := fun hm => hn (mem_ifcons hm)
                rw [hoth o hne]
                exact hstep.keep o ho hn'
            · cases h
          · cases h
            obtain ⟨g3, hs3, hv⟩ := own_fixed hstep.wf hown
            exact ⟨g3, (hstep.trans hs3).weaken fun o ho => by simpa using ho, hv⟩
        · cases h
          rename_i hno
          have : RetRel g2 H' w.heap.size w' av rv = VRel g2 av rv := by
            cases av <;> first | rfl | exact absurd rfl (hno _ _)
          rw [this] at hret
          exact ⟨g2, hstep, hret⟩
      · split at h
        · rename_i hcond
          cases h
          simp only [Bool.and_eq_true] at hcond
          obtain ⟨⟨hwr, _⟩, hat⟩ := hcond
          have hwr0 : wr2 = [] := by simpa using hwr
          subst hwr0
          have : RetRel g2 H2 w.heap.size w' av rv = VRel g2 av rv := by
            cases av <;> first | rfl | (simp [AV.atomic, AV.atom] at hat)
          rw [this] at hret
          exact ⟨g, lent_back hw (hstep1.le.io.trans hw.whole.io) hstep2, hret.atomic hat⟩
        · cases h
  · cases h
theorem cOp_append_ty {d : TypeDesc} {α : Type} {x : Option α} {y : α} (h : (if (d matches .int _) then none else x) = some y) : (∀ k, d ≠ .int k) ∧ x = some y := by
  cases d <;> first | (simp at h; done) | exact ⟨fun k e => (by cases e), by simpa using h⟩
theorem evW_sound {o : Oper} {op : AOp} (hc : cOp P glob o = some op) {call : Nat → List AV → List AObj → Out} (hcall : CallOk P glob call) {site : Option Nat} {av : AV} {H' : List AObj} {wr : List Nat} (h : evW call H ρ site op = some (av, H', wr)) (hw : WF g H w) (hg : GlobOk glob g) (hs : SlotRel g ρ a.tmps) :
    Does P o a w fun v w' => ∃ g', Step g H w g' H' w' wr ∧ VRel g' av v := by
  obtain ⟨dst, o, type, pos, after, guard⟩ := o
  unfold cOp at hc
  dsimp only at hc
  split at hc
  · obtain ⟨x, hx, rfl⟩ := map_some hc; simp [evW] at h
  · obtain ⟨x, hx, rfl⟩ := map_some hc; simp [evW] at h
  · split at hc
    · cases hc; simp [evW] at h
    · cases hc
  · obtain ⟨zs, hz, rfl⟩ := map_some hc
    exact w_alloc hz h hw
  · split at hc
    · rename_i n x h1 h2
      cases hc
      exact w_box h2 h hw hg hs
    · cases hc
  · repeat' split at hc
    all_goals first | (cases hc; done) | (obtain ⟨x, hx, rfl⟩ := map_some hc; simp [evW] at h)
  · split at hc
    · rename_i e ht
      split at hc
      · rename_i k zs ps h1 h2 h3
        split at hc
        · rename_i hcond
          cases hc
          exact w_bsl ht h1 h2 h3 hcond.2.1 hcond.2.2.1 hcond.2.2.2 h hw hg hs
        · cases hc
      · cases hc
    · cases hc
  · split at hc
    · cases hc; simp [evW] at h
    · cases hc
  · split at hc
    · rename_i n x v h1 h2 h3
      cases hc
      exact w_store h1 h2 h3 h hw hg hs
    · cases hc
  · obtain ⟨x, hx, rfl⟩ := map_some hc; simp [evW] at h
  · split at hc
    · split at hc
      · obtain ⟨x, hx, rfl⟩ := map_some hc; simp [evW] at h
      · obtain ⟨x, hx, rfl⟩ := map_some hc; simp [evW] at h
      · cases hc
    · split at hc
      · cases hc; simp [evW] at h
      · cases hc
  · obtain ⟨x, hx, rfl⟩ := map_some hc; simp [evW] at h
  · split at hc
    · cases hc; simp [evW] at h
    · cases hc
  · split at hc
    · cases hc; simp [evW] at h
    · cases hc
  · split at hc
    · rename_i e ht
      split at hc
      · rename_i i zs l c h1 h2 h3 h4
        split at hc
        · rename_i hcond
          cases hc
          exact w_mks ht h1 h2 h3 h4 hcond.2.1 hcond.2.2 h hw hg hs
        · cases hc
      · cases hc
    · cases hc
  · repeat' split at hc
    all_goals first | (cases hc; done) | (cases hc; simp [evW] at h)
  · repeat' split at hc
    all_goals first | (cases hc; done) | (cases hc; simp [evW] at h)
  · repeat' split at hc
    all_goals first | (cases hc; done) | (cases hc; simp [evW] at h)
  · repeat' split at hc
    all_goals first | (cases hc; done) | (cases hc; simp [evW] at h)
  · repeat' split at hc
    all_goals first | (cases hc; done) | (cases hc; simp [evW] at h)
  · obtain ⟨x, hx, rfl⟩ := map_some hc; simp [evW] at h
  · cases hc
    exact w_mkmap h hw
  · split at hc
    · rename_i kt et ht
      split at hc
      · rename_i K m k v hk h1 h2 h3
        cases hc
        exact w_ins ht hk h1 h2 h3 h hw hg hs
      · cases hc
    · cases hc
  · repeat' split at hc
    all_goals first | (cases hc; done) | (cases hc; simp [evW] at h)
  · split at hc
    · repeat' split at hc
      all_goals first | (cases hc; done) | (cases hc; simp [evW] at h)
    · rename_i s x t u h1 h2
      obtain ⟨S, X, rfl, hS, hX⟩ := opnds_two h1
      cases toList_two h2
      split at hc
      · rename_i e d ht hu
        obtain ⟨hd, hc⟩ := cOp_append_ty hc
        split at hc
        · rename_i i hi
          split at hc
          · rename_i z hz
            split at hc
            · rename_i hcond
              cases hc
              exact w_app ht hu hd hi hz hS hX hcond.2 h hw hg hs
            · cases hc
          · cases hc
        · cases hc
      · cases hc
    · cases hc; simp [evW] at h
    · cases hc; simp [evW] at h
    · cases hc
  · split at hc
    · rename_i f xs h1 h2
      cases hc
      exact w_callv h1 h2 hcall h hw hg hs
    · cases hc
  · cases hc
end
end Go.Proofs.AM
end
