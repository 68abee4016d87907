/-
  SCOPES THROUGH WHICH NO JUMP GOES; GOING OVER A TEXT's RUNES. My own text; it says nothing of any program.
-/
import Derived.Test.YtadiljnfkbbmcaaDoorKw11
import Derived.Scope
import Derived.Laws.Runes
import Derived.Laws.RangeString
set_option linter.unusedVariables false
set_option linter.unusedSimpArgs false
set_option maxRecDepth 100000
namespace Go.Kw
open Go.RowKit
section
variable {P : Program} {w0 w w' : World} {cs F : List Chunk} {n : Nat} {ρ : Env} {Q : PQ} {ops : Array Oper} {k : Nat} {o : Oper}
def nog (Q : PQ) : PQ
  | .goto _, _, _ => False
  | e, ρ, w => Q e ρ w
theorem G_scope {c : Code} (h : G P n c ρ w (nog Q)) : G P n (.scope c) ρ w Q := fun a ha =>
  wp_scope_straight (wp_mono (h a ha) fun e a' w' ⟨ρ', h1, h2⟩ => by
    cases e with
    | goto l => exact h2.elim
    | normal => exact ⟨ρ', h1, h2⟩
    | exit i => exact ⟨ρ', h1, h2⟩
    | ret => exact ⟨ρ', h1, h2⟩
    | panic c => exact ⟨ρ', h1, h2⟩
    | outgrown => exact ⟨ρ', h1, h2⟩)
theorem nog_normal (h : Q .normal ρ w) : nog Q .normal ρ w := h
theorem nog_exit {i : Nat} (h : Q (.exit i) ρ w) : nog Q (.exit i) ρ w := h
theorem nog_ret (h : Q .ret ρ w) : nog Q .ret ρ w := h

def dcR (l : List UInt8) (p : Nat) : Nat := (Utf8.decode ⟨l.toArray⟩ p).1
def dcW (l : List UInt8) (p : Nat) : Nat := (Utf8.decode ⟨l.toArray⟩ p).2
theorem R_range {t : Nat} {l : List UInt8} (h : Sep w0 w cs) (ht : P.underlying t = some .string) :
    ∃ g w', (Instr.range t (.string ⟨l.toArray⟩)).run P w = .ok (.pointer (some ⟨g, 0, none⟩)) w' ∧ Sep w0 w' (.obj g (.stringIter ⟨l.toArray⟩ 0) :: cs) :=
  ⟨w.heap.size, w.alloc (.stringIter ⟨l.toArray⟩ 0), run_range_string w t _ ht,
    h.add (World.grownBy_alloc w _ none) (by show (w.alloc _).heap[w.heap.size]? = _; exact heap_alloc_new w _) (fun g hg => by cases hg; exact Nat.le_refl _)⟩
theorem run_getObj_it {g p : Nat} {s : ByteArray} (h : w.heap[g]? = some (.stringIter s p)) : (getObj g).run P w = .ok (.stringIter s p) w := by
  simp [getObj, Sem.run, h]
theorem run_setObj_it {g p : Nat} {s : ByteArray} (o : Obj) (h : w.heap[g]? = some (.stringIter s p)) : (setObj g o).run P w = .ok () { w with heap := w.heap.setIfInBounds g o } := by
  simp [setObj, Sem.run, h]
theorem R_next {i g T p : Nat} {l : List UInt8} (h : Sep w0 w cs) (hi : cs[i]? = some (.obj g (.stringIter ⟨l.toArray⟩ p))) (hp : p < l.length) :
    ∃ w', (Instr.next (.pointer (some ⟨g, 0, none⟩)) true T).run P w = .ok (.tuple #[.bool true, .int .i64 (p : Int), .int .i32 (dcR l p : Int)]) w' ∧
      Sep w0 w' (cs.set i (.obj g (.stringIter ⟨l.toArray⟩ (p + dcW l p)))) := by
  have hg : w.heap[g]? = some (.stringIter ⟨l.toArray⟩ p) := h.get hi
  have hlt : g < w.heap.size := (Array.getElem?_eq_some_iff.1 hg).1
  have hp' : p < (ByteArray.mk l.toArray).size := hp
  refine ⟨{ w with heap := w.heap.setIfInBounds g (.stringIter ⟨l.toArray⟩ (p + (Utf8.decode ⟨l.toArray⟩ p).2)) }, ?_, h.change hi ⟨rfl, rfl, rfl, by simp, fun k hk hne => ?_⟩ ?_ (fun g' hg' => .inl hg')⟩
  · simp only [Instr.next, Sem.run_bind, run_getObj_it hg, Result.andThen, hp', if_true, run_setObj_it _ hg]
    rfl
  · have hne' : ¬ g = k := fun e => hne (by rw [← e]; rfl)
    simp [Array.getElem?_setIfInBounds, hne']
  · show (_ : Array Obj)[g]? = _
    simp [Array.getElem?_setIfInBounds, hlt]
    rfl
theorem R_next_over {i g T p : Nat} {l : List UInt8} (h : Sep w0 w cs) (hi : cs[i]? = some (.obj g (.stringIter ⟨l.toArray⟩ p))) (hp : ¬ p < l.length) :
    (Instr.next (.pointer (some ⟨g, 0, none⟩)) true T).run P w = .ok (.tuple #[.bool false]) w := by
  have hg : w.heap[g]? = some (.stringIter ⟨l.toArray⟩ p) := h.get hi
  have hp' : ¬ p < (ByteArray.mk l.toArray).size := hp
  simp [Instr.next, getObj, Sem.run, hg, hp']

/-! ### What a rune is -/
def encL (c : Int) : List UInt8 := (Utf8.encode c).data.toList
theorem get_at (l : List UInt8) (i : Nat) : (ByteArray.mk l.toArray).get! i = l.getD i 0 := by
  rw [← byte_at]
  rcases Nat.lt_or_ge i l.length with h | h
  · rw [getElem!_pos (ByteArray.mk l.toArray) i h]; simp [ByteArray.get!, h]; try rfl
  · rw [getElem!_neg (ByteArray.mk l.toArray) i (by show ¬ i < l.length; omega)]; simp [ByteArray.get!, h]; try rfl
theorem dc_ascii {l : List UInt8} {p : Nat} (h : (l.getD p 0).toNat < 128) : dcR l p = (l.getD p 0).toNat ∧ dcW l p = 1 := by
  unfold dcR dcW Utf8.decode
  simp only [Nat.add_zero, get_at]
  rw [if_pos h]
  exact ⟨rfl, rfl⟩
/-- A rune that is no ASCII: its bytes are none either. -/
theorem dc_far {l : List UInt8} {p : Nat} (hp : p < l.length) (h : ¬ (l.getD p 0).toNat < 128) :
    128 ≤ dcR l p ∧ 1 ≤ dcW l p ∧ p + dcW l p ≤ l.length ∧ (∀ j, p ≤ j → j < p + dcW l p → 128 ≤ (l.getD j 0).toNat) ∧ (dcR l p = 65533 ∨ Utf8.valid (dcR l p : Int) = true) ∧ dcR l p < 2097152 := by
  have hh : ∀ (j : Nat), (l.getD j 0).toNat < 256 := fun j => (l.getD j 0).toNat_lt
  have hs : (ByteArray.mk l.toArray).size = l.length := rfl
  have one : ∀ x : Nat × Nat, x = (65533, 1) → 128 ≤ x.1 ∧ 1 ≤ x.2 ∧ p + x.2 ≤ l.length ∧ (∀ j, p ≤ j → j < p + x.2 → 128 ≤ (l.getD j 0).toNat) ∧ (x.1 = 65533 ∨ Utf8.valid (x.1 : Int) = true) ∧ x.1 < 2097152 := by
    rintro _ rfl
    refine ⟨by decide, by decide, by simp only; omega, fun j h1 h2 => ?_, .inl rfl, by decide⟩
    have : j = p := by simp only at h2; omega
    subst this; omega
  unfold dcR dcW
  generalize hx : Utf8.decode ⟨l.toArray⟩ p = x
  unfold Utf8.decode at hx
  simp only [Nat.add_zero, get_at, hs] at hx
  rw [if_neg h] at hx
  split at hx
  · rename_i h2
    simp only [Bool.and_eq_true, beq_iff_eq, decide_eq_true_eq] at h2
    split at hx
    · subst hx
      refine ⟨by simp only; omega, by simp, by simp only; omega, fun j h3 h4 => ?_, .inr ?_, ?_⟩
      · simp only at h4
        rcases (by omega : j = p ∨ j = p + 1) with rfl | rfl
        · omega
        · have := hh (p + 1); omega
      · simp only [Utf8.valid, Bool.or_eq_true, Bool.and_eq_true, decide_eq_true_eq]
        have := hh p; omega
      · have := hh p; simp only; omega
    · exact one _ hx.symm
  · split at hx
    · rename_i h2
      simp only [Bool.and_eq_true, beq_iff_eq, decide_eq_true_eq] at h2
      split at hx
      · rename_i h5
        simp only [Bool.and_eq_true, decide_eq_true_eq, ge_iff_le] at h5
        subst hx
        refine ⟨by simp only; omega, by simp, by simp only; omega, fun j h3 h4 => ?_, .inr h5.2, ?_⟩
        · simp only at h4
          rcases (by omega : j = p ∨ j = p + 1 ∨ j = p + 2) with rfl | rfl | rfl
          · omega
          · omega
          · omega
        · have := hh p; simp only; omega
      · exact one _ hx.symm
    · split at hx
      · rename_i h2
        simp only [Bool.and_eq_true, beq_iff_eq, decide_eq_true_eq] at h2
        split at hx
        · rename_i h5
          simp only [Bool.and_eq_true, decide_eq_true_eq, ge_iff_le] at h5
          subst hx
          refine ⟨by simp only; omega, by simp, by simp only; omega, fun j h3 h4 => ?_, .inr h5.2, ?_⟩
          · simp only at h4
            rcases (by omega : j = p ∨ j = p + 1 ∨ j = p + 2 ∨ j = p + 3) with rfl | rfl | rfl | rfl
            · omega
            · omega
            · omega
            · omega
          · have := hh p; simp only; omega
        · exact one _ hx.symm
      · exact one _ hx.symm
/-- The text of a rune that is no ASCII: two to four bytes, none of them ASCII. -/
theorem encL_far {c : Nat} (h : 128 ≤ c) (hv : Utf8.valid (c : Int) = true) : 2 ≤ (encL c).length ∧ (encL c).length ≤ 4 ∧ ∀ b ∈ encL c, 128 ≤ b.toNat := by
  have hb : c < 1114112 := by
    simp only [Utf8.valid, Bool.or_eq_true, Bool.and_eq_true, decide_eq_true_eq] at hv
    omega
  have hc : ¬ c < 128 := by omega
  have e : ∀ n, n < 256 → (UInt8.ofNat n).toNat = n := fun n hn => by rw [UInt8.toNat_ofNat']; exact Nat.mod_eq_of_lt hn
  unfold encL Utf8.encode
  simp only [hv, if_true, Int.toNat_natCast, hc, if_false]
  split
  · refine ⟨show 2 ≤ 2 by omega, show 2 ≤ 4 by omega, fun b hb => ?_⟩
    simp only [List.mem_cons, List.not_mem_nil, or_false] at hb
    rcases hb with rfl | rfl <;> rw [e _ (by omega)] <;> omega
  · split
    · refine ⟨show 2 ≤ 3 by omega, show 3 ≤ 4 by omega, fun b hb => ?_⟩
      simp only [List.mem_cons, List.not_mem_nil, or_false] at hb
      rcases hb with rfl | rfl | rfl <;> rw [e _ (by omega)] <;> omega
    · refine ⟨show 2 ≤ 4 by omega, show 4 ≤ 4 by omega, fun b hb => ?_⟩
      simp only [List.mem_cons, List.not_mem_nil, or_false] at hb
      rcases hb with rfl | rfl | rfl | rfl <;> rw [e _ (by omega)] <;> omega
theorem encL_ascii {c : Nat} (h : c < 128) : encL c = [UInt8.ofNat c] := by
  have hv : Utf8.valid (c : Int) = true := by simp only [Utf8.valid, Bool.or_eq_true, Bool.and_eq_true, decide_eq_true_eq]; omega
  unfold encL Utf8.encode
  simp only [hv, if_true, Int.toNat_natCast, h]
theorem R_runestr {s t : Nat} {k : IntKind} {c : Int} (hs : P.underlying s = some (.int k)) (ht : P.underlying t = some .string) : (convert s t (.int k c)).run P w = .ok (.string ⟨(encL c).toArray⟩) w := by
  have e : (⟨(encL c).toArray⟩ : ByteArray) = Utf8.encode c := by
    apply ByteArray.ext
    simp [encL]
  rw [e]
  exact run_convert_int_string w s t k c (by rw [hs]; rfl) ht

theorem neql_self (a : Nat) : ((a : Int) == (a : Int)) = true := by simp
theorem nneq_self (a : Nat) : ((a : Int) != (a : Int)) = false := by simp
theorem G_cut2 {X : Type} {x y z : Code} (L : X → List (Nat × Value)) (Φ : X → World → Prop)
    (h : G P n x ρ w (thn (fun ρ' w' => G P n y ρ' w' (thn (fun ρ'' w'' => ∃ q, Agr ρ'' (L q) ∧ Φ q w'') Q)) Q)) (k : ∀ (q : X) (β : Env) (w : World), Φ q w → G P n z (upds β (L q)) w Q) : G P n (.seq x (.seq y z)) ρ w Q := by
  refine G_seq (G_mono (fun e ρ' w' h => ?_) h)
  cases e with
  | normal => exact G_cut L Φ h k
  | exit i => exact h
  | goto l => exact h
  | ret => exact h
  | panic c => exact h
  | outgrown => exact h
/-! rows of truths -/
def bls (l : List Bool) : List Value := l.map Value.bool
theorem bls_length (l : List Bool) : (bls l).length = l.length := by simp [bls]
theorem bls_one (l : List Bool) : ∀ u ∈ bls l, u.oneCell' = true := by
  intro u hu
  simp only [bls, List.mem_map] at hu
  obtain ⟨a, _, rfl⟩ := hu
  rfl
theorem bls_get (l : List Bool) (i : Nat) (h : i < l.length) : (bls l)[i]? = some (.bool (l.getD i false)) := by simp [bls, h]
theorem bls_store (l : List Bool) (j : Nat) (b : Bool) (hj : j < l.length) : (bls l).take j ++ (Value.bool b).cells.toList ++ (bls l).drop (j + (Value.bool b).cells.size) = bls (l.set j b) := by
  show (bls l).take j ++ [Value.bool b] ++ (bls l).drop (j + 1) = _
  unfold bls
  rw [List.map_set, List.set_eq_take_append_cons_drop, if_pos (by simpa using hj)]
  simp
theorem R_bstoreB {i g T t j : Nat} {l : List Bool} {b : Bool} (h : Sep w0 w cs) (hi : cs[i]? = some (.blk g T (bls l))) (hs : sizeT P t = some 1) (hj : j < l.length) :
    ∃ w', (Instr.storeAt t (.pointer (some ⟨g, j, none⟩)) (.bool b)).run P w = .ok () w' ∧ Sep w0 w' (cs.set i (.blk g T (bls (l.set j b)))) := by
  obtain ⟨w', hr, H⟩ := R_storeP (v := .bool b) h hi hs (by rw [bls_length]; exact hj) (by kernel_rfl)
  rw [bls_store l j b hj] at H
  exact ⟨w', hr, H⟩
theorem R_strneF {t : Nat} {l m : List UInt8} (h : l = m) : (do eqGuard .neq t (.tmp 0) (.tmp 0) (.string ⟨l.toArray⟩) (.string ⟨m.toArray⟩); binOp .neq t (.string ⟨l.toArray⟩) (.string ⟨m.toArray⟩)).run P w = .ok (.bool false) w := by
  rw [R_strne, h]; simp
theorem R_strneT {t : Nat} {l m : List UInt8} (h : ¬ l = m) : (do eqGuard .neq t (.tmp 0) (.tmp 0) (.string ⟨l.toArray⟩) (.string ⟨m.toArray⟩); binOp .neq t (.string ⟨l.toArray⟩) (.string ⟨m.toArray⟩)).run P w = .ok (.bool true) w := by
  rw [R_strne]; simp [h]
theorem resCT {fn : Func} {Φ : Value → World → Prop} {a t u : Nat} {v : Value} {ad : Addr} {vs : List Value} (h : fn.results = #[.cell a t, .tmp u]) (hv : ρ u = v) (hp : ρ a = .pointer (some ad)) (ht : aggT P t = true) (hs : sizeT P t = some vs.length)
    (hc : ∀ j u, vs[j]? = some u → w.cell? (ad.add j) = some u) (hΦ : Φ (.tuple #[.agg vs.toArray, v]) w) : retQ P fn Φ .ret ρ w := fun tm htm => by
  refine ⟨_, ?_, hΦ⟩
  simp [results, h, htm, hp, hv, asAddr, loadVar, isAgg_agg (w := w) ht, sizeT_run (w := w) hs, run_loadCells_list w ad vs hc]
end
end Go.Kw
