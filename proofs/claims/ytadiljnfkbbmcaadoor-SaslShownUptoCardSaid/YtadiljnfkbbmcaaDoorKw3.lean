/-
  THE OPERATIONS THAT LOOK INTO MEMORY, each as one step over 'Sep' (loads, stores, new blocks, slices that are read). My own text; it says nothing of any program.
-/
import Derived.Test.YtadiljnfkbbmcaaDoorKw2
set_option linter.unusedVariables false
namespace Go.Kw
open Go.RowKit

/-! ### Types, by closed checks -/
def oneT (P : Program) (t : TypeId) : Bool :=
  match P.underlying t with
  | some (.struct _) => false
  | some (.array _ _) => false
  | some _ => true
  | none => false
def aggT (P : Program) (t : TypeId) : Bool :=
  match P.underlying t with
  | some (.struct _) => true
  | some (.array _ _) => true
  | _ => false
def sizeT (P : Program) (t : TypeId) : Option Nat := (P.info? t).map (·.size)
/-- A slice type: its element type, the element's zero cells, its size in cells and in bytes. -/
def elemT (P : Program) (t : TypeId) : Option (TypeId × Value × Nat × Nat) :=
  match P.underlying t with
  | some (.slice e) => (P.info? e).bind fun i => i.zero.map fun z => (e, z, i.size, i.bytes)
  | _ => none

section
variable {P : Program} {w w' : World}
theorem sizeT_run {t k : Nat} (h : sizeT P t = some k) : (sizeOf t).run P w = .ok k w := by
  unfold sizeT at h
  cases hi : P.info? t with
  | none => rw [hi] at h; cases h
  | some i =>
    rw [hi] at h
    simp only [Option.map_some, Option.some.injEq] at h
    simp [sizeOf, typeInfo, hi, h]
theorem isAgg_one {t : Nat} (h : oneT P t = true) : (isAgg t).run P w = .ok false w := by
  unfold oneT at h
  cases hu : P.underlying t with
  | none => rw [hu] at h; cases h
  | some d =>
    rw [hu] at h
    cases d <;> simp at h <;> simp [isAgg, run_underlying hu]
theorem isAgg_agg {t : Nat} (h : aggT P t = true) : (isAgg t).run P w = .ok true w := by
  unfold aggT at h
  cases hu : P.underlying t with
  | none => rw [hu] at h; cases h
  | some d =>
    rw [hu] at h
    cases d <;> simp at h <;> simp [isAgg, run_underlying hu]
theorem run_load1 {t : Nat} {a : Addr} {v : Value} (h : oneT P t = true) (hc : w.cell? a = some v) : (Instr.loadAt t (.pointer (some a))).run P w = .ok v w := by
  simp [Instr.loadAt, Instr.sureAddr, loadVar, isAgg_one (w := w) h, load, Sem.run, hc]
theorem run_loadN {t : Nat} {a : Addr} {vs : List Value} (h : aggT P t = true) (hs : sizeT P t = some vs.length) (hc : ∀ j u, vs[j]? = some u → w.cell? (a.add j) = some u) :
    (Instr.loadAt t (.pointer (some a))).run P w = .ok (.agg vs.toArray) w := by
  simp [Instr.loadAt, Instr.sureAddr, loadVar, isAgg_agg (w := w) h, sizeT_run (w := w) hs, run_loadCells_list w a vs hc]

theorem take_set_succ {α : Type} (l : List α) (k : Nat) (v : α) (h : k < l.length) : (l.set k v).take (k + 1) = l.take k ++ [v] := by
  rw [List.set_eq_take_append_cons_drop, if_pos h, List.take_append]
  have : (l.take k).length = k := by simp; omega
  rw [this, List.take_of_length_le (by omega)]
  simp
/-! storing into a block that may bear a frozen mark behind its end -/
theorem run_storeCells (g o : Nat) (t : TypeId) (fz : Nat × Nat) : ∀ (vs : List Value) (i : Nat) (cur : Array Value) (w : World), w.heap[g]? = some (.cells cur t fz) → free fz cur.size → o + i + vs.length ≤ cur.size → (∀ v ∈ vs, v.oneCell' = true) →
    ∃ w', (storeCells ⟨g, o, none⟩ vs i).run P w = .ok () w' ∧ w'.heap[g]? = some (.cells (cur.toList.take (o + i) ++ vs ++ cur.toList.drop (o + i + vs.length)).toArray t fz) ∧ w.grownBy w' (some g) ∧ w'.heap.size = w.heap.size
  | [], i, cur, w, hg, _, _, _ => ⟨w, by simp [storeCells], by simpa using hg, ⟨rfl, rfl, rfl, Nat.le_refl _, fun _ _ _ => rfl⟩, rfl⟩
  | v :: rest, i, cur, w, hg, hf, hl, h1 => by
    have hi : o + i < cur.size := by simp at hl; omega
    have hv := h1 v (.head _)
    have hc : w.cell? ⟨g, o + i, none⟩ = some cur[o + i] := by rw [cell_of w hg]; simp [hi]
    have hfr : w.frozen? ⟨g, o + i, none⟩ = false := by
      simp only [World.frozen?, hg]
      have := hf (o + i) hi
      simpa using this
    have hst : (store ((⟨g, o, none⟩ : Addr).add i) v).run P w = .ok () (w.setCell ⟨g, o + i, none⟩ v) := by
      rw [add_eq]
      cases v <;> simp [Value.oneCell'] at hv <;> simp [store, Sem.run, hc, hfr]
    have hg' : (w.setCell ⟨g, o + i, none⟩ v).heap[g]? = some (.cells (cur.setIfInBounds (o + i) v) t fz) := by
      simp [World.setCell, Array.getElem?_modify, hg]
    obtain ⟨w', hr, hh, hgr, hsz⟩ := run_storeCells g o t fz rest (i + 1) (cur.setIfInBounds (o + i) v) _ hg' (by simpa using hf) (by simp at hl ⊢; omega) (fun u hu => h1 u (.tail _ hu))
    refine ⟨w', ?_, ?_, ⟨hgr.os, hgr.tape, hgr.output, by simpa [World.setCell] using hgr.size, fun k hk hne => ?_⟩, ?_⟩
    · simp only [storeCells, Sem.run_bind, hst, Result.andThen_ok]
      exact hr
    · rw [hh]
      have e1 : (cur.setIfInBounds (o + i) v).toList.take (o + (i + 1)) = cur.toList.take (o + i) ++ [v] := by
        rw [Array.toList_setIfInBounds]
        exact take_set_succ _ _ _ (by simpa using hi)
      have e2 : (cur.setIfInBounds (o + i) v).toList.drop (o + (i + 1) + rest.length) = cur.toList.drop (o + i + (v :: rest).length) := by
        rw [Array.toList_setIfInBounds, List.drop_set_of_lt (by omega)]
        simp only [List.length_cons]
        congr 1
        omega
      rw [e1, e2]
      simp
    · rw [hgr.block k (by simpa [World.setCell] using hk) hne]
      exact Below.heap_setCell _ _ _ _ (fun e => hne (by rw [e]))
    · rw [hsz]; simp [World.setCell]

/-! ### Steps by a run of an operation's own 'Sem' -/
section
variable {n : Nat} {ρ : Env} {Q : PQ} {ops : Array Oper} {k : Nat} {o : Oper}
theorem val_run {s : Sem Value} {v : Value} (hr : s.run P w = .ok v w') (he : execOp (ev ρ) o = (do let x ← s; pure (Next.value x))) : (execOp (ev ρ) o).run P w = .ok (.value v) w' := by
  rw [he, Sem.run_bind, hr]
  rfl
theorem unit_run {s : Sem Unit} (hr : s.run P w = .ok () w') (he : execOp (ev ρ) o = (do s; pure Next.skip)) : (execOp (ev ρ) o).run P w = .ok .skip w' := by
  rw [he, Sem.run_bind, hr]
  rfl
theorem GL_v {s : Sem Value} {v : Value} (hr : s.run P w = .ok v w') (ho : ops[k]? = some o) (hd : okDst n o.dst = true) (hw : wantedE ops ρ o = true)
    (he : execOp (ev ρ) o = (do let x ← s; pure (Next.value x))) (h : GL P n ops Q (k + 1) (put ρ o.dst v) w') : GL P n ops Q k ρ w := GL_val ho hd hw (val_run hr he) h
theorem GL_u {s : Sem Unit} (hr : s.run P w = .ok () w') (ho : ops[k]? = some o) (hd : okDst n o.dst = true) (hw : wantedE ops ρ o = true)
    (he : execOp (ev ρ) o = (do s; pure Next.skip)) (h : GL P n ops Q (k + 1) (put ρ o.dst undef) w') : GL P n ops Q k ρ w := GL_unit ho hd hw (unit_run hr he) h
end

section
variable {n : Nat} {ρ : Env} {Q : PQ} {ops : Array Oper} {k : Nat} {o : Oper}
theorem GL_V {s : Sem Value} {v : Value} (hr : s.run P w = .ok v w') (h : GL P n ops Q (k + 1) (put ρ o.dst v) w') (ho : ops[k]? = some o := by rfl) (hd : okDst n o.dst = true := by kernel_rfl) (hw : wantedE ops ρ o = true := by kernel_rfl)
    (he : execOp (ev ρ) o = (do let x ← s; pure (Next.value x)) := by kernel_rfl) : GL P n ops Q k ρ w := GL_v hr ho hd hw he h
theorem GL_U {s : Sem Unit} (hr : s.run P w = .ok () w') (h : GL P n ops Q (k + 1) (put ρ o.dst undef) w') (ho : ops[k]? = some o := by rfl) (hd : okDst n o.dst = true := by kernel_rfl) (hw : wantedE ops ρ o = true := by kernel_rfl)
    (he : execOp (ev ρ) o = (do s; pure Next.skip) := by kernel_rfl) : GL P n ops Q k ρ w := GL_u hr ho hd hw he h
end

/-! ### Slices that are read -/
/-- While F lies there, v reads as xs (n elements of sz cells). -/
def Rd (w0 : World) (F : List Chunk) (v : Value) (sz n : Nat) (xs : List Value) : Prop :=
  xs.length = n * sz ∧ ∃ A c, v = .slice A n c ∧ n ≤ c ∧ c ≤ maxLen ∧ (0 < n → ∃ ad, A = some ad ∧ ∀ w, Sep w0 w F → ∀ j u, xs[j]? = some u → w.cell? (ad.add j) = some u)
section
variable {w0 : World} {F F' cs : List Chunk} {v : Value} {sz nn : Nat} {xs : List Value}
theorem Rd.more (h : Rd w0 F v sz nn xs) (hs : F.Sublist F') : Rd w0 F' v sz nn xs := by
  obtain ⟨h1, A, c, rfl, h2, h3, h4⟩ := h
  refine ⟨h1, A, c, rfl, h2, h3, fun hn => ?_⟩
  obtain ⟨ad, rfl, h5⟩ := h4 hn
  exact ⟨ad, rfl, fun w hw => h5 w (hw.sub hs)⟩
theorem RowOk.rd {v : Value} {t : Nat} {w : World} (h : RowOk w v t sz nn xs) : ∃ A c, v = .slice A nn c ∧ nn ≤ c ∧ c ≤ maxLen ∧ (0 < nn → ∃ ad, A = some ad ∧ ∀ j u, xs[j]? = some u → w.cell? (ad.add j) = some u) := by
  rcases h.2 with ⟨rfl, rfl⟩ | ⟨g, off, cap, cur, fz, rfl, hg, hnc, hcm, hcs, hx, hf⟩
  · exact ⟨none, 0, rfl, Nat.le_refl _, by simp [maxLen], fun h => absurd h (by omega)⟩
  · refine ⟨_, cap, rfl, hnc, hcm, fun _ => ⟨_, rfl, fun j u hu => ?_⟩⟩
    rw [add_eq, cell_of w hg]
    rw [← hx, List.getElem?_take] at hu
    split at hu
    · rw [List.getElem?_drop] at hu
      simpa using hu
    · cases hu
theorem Rd.of_row {t i : Nat} {w : World} (h : Sep w0 w F) (hi : F[i]? = some (.row v t sz nn xs)) : Rd w0 F v sz nn xs := by
  have hok : RowOk w v t sz nn xs := h.get hi
  obtain ⟨A, c, rfl, h1, h2, h3⟩ := hok.rd
  refine ⟨hok.1, A, c, rfl, h1, h2, fun hn => ?_⟩
  obtain ⟨ad, rfl, _⟩ := h3 hn
  refine ⟨ad, rfl, fun w' hw' => ?_⟩
  obtain ⟨A', c', he, _, _, h5⟩ := RowOk.rd (hw'.get hi : RowOk w' _ t sz nn xs)
  cases he
  obtain ⟨ad', he', h6⟩ := h5 hn
  cases he'
  exact h6
theorem Rd.len (h : Rd w0 F v sz nn xs) : xs.length = nn * sz := h.1
theorem Rd.form (h : Rd w0 F v sz nn xs) : ∃ A c, v = .slice A nn c ∧ nn ≤ c ∧ c ≤ maxLen := by
  obtain ⟨_, A, c, h1, h2, h3, _⟩ := h
  exact ⟨A, c, h1, h2, h3⟩
/-- The whole of a block that is an array, as a slice. -/
theorem Rd.of_blk {g t i : Nat} {l : List Value} (hi : F[i]? = some (.blk g t l)) (hl : l.length = nn * sz) (hm : nn ≤ maxLen) : Rd w0 F (.slice (some ⟨g, 0, none⟩) nn nn) sz nn l :=
  ⟨hl, _, nn, rfl, Nat.le_refl _, hm, fun _ => ⟨_, rfl, fun w hw j u hu => by rw [add_eq, hw.blk_cell hi]; simpa using hu⟩⟩

/-- 'xs[i]''s place. -/
theorem R_place {A : Option Addr} {c i t e : Nat} {ki : IntKind} (h : Rd w0 F (.slice A nn c) sz nn xs) (hi : i < nn) (ht : P.underlying t = some (.slice e)) (hs : sizeT P e = some sz) :
    ∃ ad, (∀ w, (Instr.indexAt t (.slice A nn c) (.int ki (i : Int))).run P w = .ok (.pointer (some ad)) w) ∧ ∀ w, Sep w0 w F → ∀ j u, j < sz → xs[i * sz + j]? = some u → w.cell? (ad.add j) = some u := by
  obtain ⟨h1, A', c', he, h2, h3, h4⟩ := h
  cases he
  obtain ⟨ad, rfl, h5⟩ := h4 (by omega)
  refine ⟨ad.add (i * sz), fun w => ?_, fun w hw j u hj hu => ?_⟩
  · have hb : (0 ≤ (i : Int) ∧ (i : Int) < (nn : Int)) := by omega
    simp [Instr.indexAt, asIntOf, run_underlying ht, sizeT_run (w := w) hs, hb]
    omega
  · rw [Go.Kw.add_add]
    exact h5 w hw _ u hu
end
end
end Go.Kw
