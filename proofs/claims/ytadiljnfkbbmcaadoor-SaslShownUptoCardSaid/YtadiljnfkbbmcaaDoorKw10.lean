/-
  ARRAYS OF BYTES: '=='; one that a slice is seen as; copy. My own text.
-/
import Derived.Test.YtadiljnfkbbmcaaDoorKw9
set_option linter.unusedVariables false
set_option linter.unusedSimpArgs false
namespace Go.Kw
open Go.RowKit Go.Code Go
section
variable {P : Program} {w0 w w' : World} {cs F : List Chunk}
theorem equal_arr8_at (d : Nat) {t e n : Nat} {l m : List UInt8} (ht : P.underlying t = some (.array n e)) (he : P.underlying e = some (.int .u8)) (hs : sizeT P e = some 1) (hk : P.plainKey e = true) (hl : l.length = n) (hm : m.length = n) :
    (Op.equalIn (d + 1 + 1) t (.agg (bs l).toArray) (.agg (bs m).toArray)).run P w = .ok (l == m) w := by
  have hp : ∀ (l : List UInt8) (i : Nat), i < l.length → (part e (bs l).toArray (i * 1)).run P w = .ok (.int .u8 ((l.getD i 0).toNat : Int)) w := fun l i hi => run_part_plain (P := P) w hk (by simpa using bs_get l i hi)
  rw [Op.equalIn]
  simp only [Sem.run_bind, run_underlying ht, Result.andThen_ok, sizeT_run (w := w) hs]
  rw [Std.Legacy.Range.forIn_eq_forIn_range']
  simp only [Std.Legacy.Range.size, Nat.sub_zero, Nat.add_sub_cancel, Nat.div_one]
  have key : ∀ (c k : Nat), k + c = n → (forIn (m := Sem) (List.range' k c 1) ((none, ()) : Option Bool × Unit) fun i r => do
      if (!(← Op.equalIn (d + 1) e (← part e (bs l).toArray (i * 1)) (← part e (bs m).toArray (i * 1)))) = true then pure (ForInStep.done (some false, ())) else pure (ForInStep.yield (none, ()))).run P w =
      .ok (if l.drop k == m.drop k then (none, ()) else (some false, ())) w := by
    intro c
    induction c with
    | zero => intro k hk'; simp [List.drop_of_length_le (show l.length ≤ k by omega), List.drop_of_length_le (show m.length ≤ k by omega)]
    | succ c ih =>
      intro k hk'
      have hkl : k < l.length := by omega
      have hkm : k < m.length := by omega
      have e1 : (l.drop k == m.drop k) = ((l.getD k 0 == m.getD k 0) && (l.drop (k + 1) == m.drop (k + 1))) := by
        have a1 : l.getD k 0 = l[k] := by simp [List.getElem?_eq_getElem hkl]
        have a2 : m.getD k 0 = m[k] := by simp [List.getElem?_eq_getElem hkm]
        rw [a1, a2, List.drop_eq_getElem_cons hkl, List.drop_eq_getElem_cons hkm, List.cons_beq_cons]
      have hq : (Op.equalIn (d + 1) e (.int .u8 ((l.getD k 0).toNat : Int)) (.int .u8 ((m.getD k 0).toNat : Int))).run P w = .ok (l.getD k 0 == m.getD k 0) w := by
        rw [run_equalIn_int w d e .u8 .u8 _ _ he, Kw.u8_eql]
      rw [List.range'_succ, List.forIn_cons, Sem.run_bind, Sem.run_bind, hp l k hkl, Result.andThen_ok, Sem.run_bind, hp m k hkm, Result.andThen_ok, Sem.run_bind, hq, Result.andThen_ok, e1]
      cases hb : (l.getD k 0 == m.getD k 0)
      · simp
      · simp only [Bool.not_true, Bool.false_eq_true, if_false, Bool.true_and]
        show (forIn (m := Sem) (List.range' (k + 1) c 1) _ _).run P w = _
        exact ih (k + 1) (by omega)
  have h0 := key n 0 (by omega)
  simp only [List.drop_zero] at h0
  rw [h0]
  cases l == m <;> simp
theorem R_eqarr8 {t e n : Nat} {l m : List UInt8} (ht : P.underlying t = some (.array n e)) (he : P.underlying e = some (.int .u8)) (hs : sizeT P e = some 1) (hk : P.plainKey e = true) (hg : P.eqGuardType P.depth t = false) (hl : l.length = n) (hm : m.length = n) :
    (do eqGuard .eql t (.tmp 0) (.tmp 0) (.agg (bs l).toArray) (.agg (bs m).toArray); binOp .eql t (.agg (bs l).toArray) (.agg (bs m).toArray)).run P w = .ok (.bool (l == m)) w := by
  rw [Sem.run_bind, run_eqGuard_agg w _ _ _ _ _ _ hg, Result.andThen_ok, run_eql_struct, equal_arr8_at 9998 ht he hs hk hl hm]
  rfl
/-! copy into an array of one's own -/
theorem Src.firstk {x : Value} {sz m k : Nat} {news : List Value} (h : Src w x sz m news) (hk : k ≤ m) : (Builtin.firstCells sz k x).run P w = .ok (news.take (k * sz)).toArray w := by
  obtain ⟨h1, X, c, rfl, h2⟩ := h
  have hkm : k * sz ≤ m * sz := Nat.mul_le_mul_right _ hk
  have h3 : Src w (.slice X k c) sz k (news.take (k * sz)) := by
    refine ⟨by rw [List.length_take]; omega, X, c, rfl, fun h0 => ?_⟩
    obtain ⟨ad, rfl, hc⟩ := h2 (by omega)
    refine ⟨ad, rfl, fun j u hu => hc j u ?_⟩
    rw [List.getElem?_take] at hu
    split at hu
    · exact hu
    · cases hu
  have e : Builtin.firstCells sz k (.slice X m c) = Builtin.firstCells sz k (.slice X k c) := by cases X <;> rfl
  rw [e]; exact h3.first
theorem R_copy8 {i g t t2 ty e T n c m : Nat} {x : Value} {d l : List UInt8} (h : Sep w0 w cs) (hi : cs[i]? = some (.blk g T (bs d))) (hd : d.length = n) (hx : Src w x 1 m (bs l)) (ht : P.underlying t = some (.slice e)) (hs : sizeT P e = some 1) :
    ∃ w', (Builtin.copy_ #[t, t2] ty #[.slice (some ⟨g, 0, none⟩) n c, x]).run P w = .ok (.int .i64 ((min m n : Nat) : Int)) w' ∧ Sep w0 w' (cs.set i (.blk g T (bs (l.take n ++ d.drop l.length)))) := by
  have hg : w.heap[g]? = some (.cells (bs d).toArray T (0, 0)) := h.get hi
  have hf := hx.firstk (P := P) (Nat.min_le_left m n)
  have hlm : l.length = m := by have := hx.1; simpa [bs_length] using this
  obtain ⟨_, X, c', rfl, _⟩ := hx
  have e1 : (bs l).take (min m n * 1) = bs (l.take n) := by
    rw [bs_take]; congr 1
    rcases Nat.le_total m n with hmn | hmn
    · rw [Nat.min_eq_left hmn, List.take_of_length_le (by omega), List.take_of_length_le (by omega)]
    · rw [Nat.min_eq_right hmn]
  obtain ⟨w', hr, hh, hgr, _⟩ := run_storeCells (P := P) g 0 T (0, 0) (bs (l.take n)) 0 (bs d).toArray w hg (fun i _ => by simp) (by simp [bs_length, hd]; omega) (bs_one _)
  refine ⟨w', ?_, h.change hi hgr ?_ (fun g' hg' => .inl hg')⟩
  · show (Builtin.copy_ _ _ _).run P w = _
    simp only [Builtin.copy_, List.getElem?_toArray, List.getElem?_cons_zero, List.getElem?_cons_succ, Sem.run_bind, run_underlying ht, Result.andThen_ok, Builtin.lenOf, Sem.run_pure, sizeT_run (w := w) hs]
    rw [show Nat.min m n = min m n from rfl, hf, e1]
    simp only [Result.andThen_ok, hr, Sem.run_pure]
    rfl
  · show w'.heap[g]? = _
    rw [hh]
    simp only [Nat.add_zero, List.take_zero, List.nil_append, Nat.zero_add, bs_append, bs_length]
    congr 3

    congr 1
    have := bs_drop d (l.take n).length
    rw [Nat.mul_one] at this
    rw [this]
    congr 1
    rw [List.length_take]
    rcases Nat.le_total n l.length with hmn | hmn
    · rw [Nat.min_eq_left hmn, List.drop_of_length_le (by omega), List.drop_of_length_le (by omega)]
    · rw [Nat.min_eq_right hmn]
/-- A whole array is laid over a block of its size. -/
theorem R_storeL {i g T t : Nat} {l xs : List Value} (h : Sep w0 w cs) (hi : cs[i]? = some (.blk g T l)) (hs : sizeT P t = some xs.length) (hb : l.length = xs.length) (h1 : ∀ u ∈ xs, u.oneCell' = true) :
    ∃ w', (Instr.storeAt t (.pointer (some ⟨g, 0, none⟩)) (.agg xs.toArray)).run P w = .ok () w' ∧ Sep w0 w' (cs.set i (.blk g T xs)) := by
  obtain ⟨w', hr, H⟩ := R_storeP (off := 0) (v := .agg xs.toArray) h hi (by simpa [Value.cells] using hs) (by simp [Value.cells, hb]) (by simpa [Value.cells] using h1)
  refine ⟨w', hr, ?_⟩
  have e : l.take 0 ++ (Value.agg xs.toArray).cells.toList ++ l.drop (0 + (Value.agg xs.toArray).cells.size) = xs := by
    simp [Value.cells, ← hb]
  rw [e] at H
  exact H
theorem R_arrptr8 {A : Option Addr} {c t e n m : Nat} {l : List UInt8} (h : Rd w0 F (.slice A m c) 1 m (bs l)) (ht : P.underlying t = some (.array n e)) (hn : n ≤ m) (h0 : 0 < n) :
    ∃ ad, (∀ w, (Instr.arrayAt t (.slice A m c)).run P w = .ok (.pointer (some ad)) w) ∧ ∀ w, Sep w0 w F → ∀ j u, (bs (l.take n))[j]? = some u → w.cell? (ad.add j) = some u := by
  obtain ⟨ad, h1, h2⟩ := R_arrptr h ht hn h0
  rw [bs_take] at h2
  exact ⟨ad, h1, h2⟩
theorem R_arrptr8x {A : Option Addr} {c t e n m : Nat} {l : List UInt8} (h : Rd w0 F (.slice A m c) 1 m (bs l)) (ht : P.underlying t = some (.array n e)) (hl : l.length = n) (h0 : 0 < n) :
    ∃ ad, (∀ w, (Instr.arrayAt t (.slice A m c)).run P w = .ok (.pointer (some ad)) w) ∧ ∀ w, Sep w0 w F → ∀ j u, (bs l)[j]? = some u → w.cell? (ad.add j) = some u := by
  have hm : m = n := by have := h.1; rw [bs_length] at this; omega
  obtain ⟨ad, h1, h2⟩ := R_arrptr8 h ht (by omega : n ≤ m) h0
  rw [List.take_of_length_le (by omega)] at h2
  exact ⟨ad, h1, h2⟩
/-- A literal's block, as a row. -/
theorem Sep.asRow (h : Sep w0 w cs) {i g t : Nat} {l : List Value} (hi : cs[i]? = some (.blk g t l)) (sz n : Nat) (hl : l.length = n * sz) (hn : n ≤ maxLen) : Sep w0 w (cs.set i (.row (.slice (some ⟨g, 0, none⟩) n n) t sz n l)) :=
  h.change hi ⟨rfl, rfl, rfl, Nat.le_refl _, fun _ _ _ => rfl⟩ (by
    have hg : w.heap[g]? = some (.cells l.toArray t (0, 0)) := h.get hi
    refine ⟨hl, .inr ⟨g, 0, n, l.toArray, (0, 0), rfl, hg, Nat.le_refl _, hn, by simp [hl], ?_, fun i _ => by simp⟩⟩
    simp only [List.drop_zero]
    rw [List.take_of_length_le (by omega)]) (fun g' hg' => .inl hg')
end
end Go.Kw
