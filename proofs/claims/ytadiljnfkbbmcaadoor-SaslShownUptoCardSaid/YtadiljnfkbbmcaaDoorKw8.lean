/-
  PAIRS OF TEXTS: structs of two strings: '==', lists of such behind cells. My own text.
-/
import Derived.Test.YtadiljnfkbbmcaaDoorKw7
import Derived.Laws.StructEq
import Derived.ChangeKeysEq
set_option linter.unusedVariables false
set_option linter.unusedSimpArgs false
namespace Go.Kw
open Go.RowKit Go.Code Go

abbrev Str2 := List UInt8 × List UInt8
def us (l : List Str2) : List Value := l.flatMap fun u => [S u.1, S u.2]
theorem us_length (l : List Str2) : (us l).length = l.length * 2 := by
  induction l with
  | nil => rfl
  | cons a l ih => simp only [us, List.flatMap_cons, List.length_append, List.length_cons, List.length_nil] at ih ⊢; omega
theorem us_append (l m : List Str2) : us (l ++ m) = us l ++ us m := by simp [us]
theorem us_get (l : List Str2) (i : Nat) (h : i < l.length) : (us l)[i * 2 + 0]? = some (S (l.getD i ([], [])).1) ∧ (us l)[i * 2 + 1]? = some (S (l.getD i ([], [])).2) := by
  induction l generalizing i with
  | nil => simp at h
  | cons a l ih =>
    cases i with
    | zero => exact ⟨rfl, rfl⟩
    | succ i =>
      have := ih i (by simpa using h)
      simp only [us, List.flatMap_cons, List.getD_cons_succ] at this ⊢
      rw [show (i + 1) * 2 + 0 = (i * 2 + 0) + 2 from by omega, show (i + 1) * 2 + 1 = (i * 2 + 1) + 2 from by omega]
      exact this
section
variable {P : Program} {w0 w w' : World} {cs F : List Chunk}
theorem us_at {l : List Str2} {i : Nat} {ad : Addr} (h : ∀ w, Sep w0 w F → ∀ j u, j < 2 → (us l)[i * 2 + j]? = some u → w.cell? (ad.add j) = some u) (hw : Sep w0 w F) (hi : i < l.length) :
    ∀ j u, ([S (l.getD i ([], [])).1, S (l.getD i ([], [])).2] : List Value)[j]? = some u → w.cell? (ad.add j) = some u := by
  intro j u hj
  match j with
  | 0 => exact h w hw 0 u (by omega) ((us_get l i hi).1.trans (by simpa using hj))
  | 1 => exact h w hw 1 u (by omega) ((us_get l i hi).2.trans (by simpa using hj))
  | j + 2 => simp at hj
theorem us_one (l : List Str2) : ∀ u ∈ us l, u.oneCell' = true := by
  intro u hu
  simp only [us, List.mem_flatMap] at hu
  obtain ⟨a, _, hu⟩ := hu
  simp only [List.mem_cons, List.not_mem_nil, or_false] at hu
  rcases hu with rfl | rfl <;> rfl
/-! '==' of two such structs -/
theorem bytes_beq (l m : List UInt8) : (ByteArray.mk l.toArray == ByteArray.mk m.toArray) = (l == m) := by
  show ((l.toArray : Array UInt8) == m.toArray) = _
  simp
theorem equal_SS {t : TypeId} {f1 f2 : Field} {a b c d : List UInt8} (hu : P.underlying t = some (.struct #[f1, f2])) (hp : P.stoodInHeld t = false) (n1 : (f1.name == "_") = false) (n2 : (f2.name == "_") = false)
    (u1 : P.underlying f1.type = some .string) (u2 : P.underlying f2.type = some .string) (k1 : P.plainKey f1.type = true) (k2 : P.plainKey f2.type = true) (o1 : f1.offset = 0) (o2 : f2.offset = 1) :
    (Op.equal t (.agg #[S a, S b]) (.agg #[S c, S d])).run P w = .ok (a == c && b == d) w := by
  have hf : P.fieldsOf t = #[f1, f2] := by simp [Program.fieldsOf, hu]
  have hs : ∀ (k : Nat) (l m : List UInt8) {ty : TypeId}, P.underlying ty = some .string → (Op.equalIn (k + 1) ty (S l) (S m)).run P w = .ok (l == m) w := by
    intro k l m ty hty
    simp only [S, Op.equalIn, Sem.run_bind, run_underlying hty, Result.andThen_ok, bytes_beq]
    rfl
  have hn1 : f1.name ≠ "_" := by simpa using n1
  have hn2 : f2.name ≠ "_" := by simpa using n2
  show (Op.equalIn (9998 + 1 + 1) t _ _).run P w = _
  rw [run_equalIn_struct w (9998 + 1) t _ _ (by rw [hf]; exact hu) hp, hf]
  show (Op.eqFields (9998 + 1) _ _ [f1, f2]).run P w = _
  have p1 : ∀ (x y : List UInt8), (part f1.type #[S x, S y] f1.offset).run P w = .ok (S x) w := fun x y => by rw [o1]; exact run_part_plain w k1 rfl
  have p2 : ∀ (x y : List UInt8), (part f2.type #[S x, S y] f2.offset).run P w = .ok (S y) w := fun x y => by rw [o2]; exact run_part_plain w k2 rfl
  simp only [Op.eqFields, if_pos hn1, if_pos hn2, Sem.run_bind, p1, Result.andThen_ok, hs 9998 a c u1]
  cases a == c
  · simp
  · simp only [Sem.run_bind, p2, Result.andThen_ok, hs 9998 b d u2, Bool.not_true, Bool.false_eq_true, if_false, Bool.true_and]
    cases b == d <;> simp
theorem R_eqSS {t : TypeId} {f1 f2 : Field} {a b c d : List UInt8} (hu : P.underlying t = some (.struct #[f1, f2])) (hp : P.stoodInHeld t = false) (n1 : (f1.name == "_") = false) (n2 : (f2.name == "_") = false)
    (u1 : P.underlying f1.type = some .string) (u2 : P.underlying f2.type = some .string) (k1 : P.plainKey f1.type = true) (k2 : P.plainKey f2.type = true) (o1 : f1.offset = 0) (o2 : f2.offset = 1) (hg : P.eqGuardType P.depth t = false) :
    (do eqGuard .eql t (.tmp 0) (.tmp 0) (.agg #[S a, S b]) (.agg #[S c, S d]); binOp .eql t (.agg #[S a, S b]) (.agg #[S c, S d])).run P w = .ok (.bool (a == c && b == d)) w := by
  have e := equal_SS (w := w) (a := a) (b := b) (c := c) (d := d) hu hp n1 n2 u1 u2 k1 k2 o1 o2
  have g : (eqGuard .eql t (.tmp 0) (.tmp 0) (.agg #[S a, S b]) (.agg #[S c, S d])).run P w = .ok () w := by
    simp [eqGuard, hg]
  rw [Sem.run_bind, g, Result.andThen_ok]
  show (do pure (Value.bool (← Op.equal t (.agg #[S a, S b]) (.agg #[S c, S d])))).run P w = _
  rw [Sem.run_bind, e]; rfl
theorem R_neSS {t : TypeId} {f1 f2 : Field} {a b c d : List UInt8} (hu : P.underlying t = some (.struct #[f1, f2])) (hp : P.stoodInHeld t = false) (n1 : (f1.name == "_") = false) (n2 : (f2.name == "_") = false)
    (u1 : P.underlying f1.type = some .string) (u2 : P.underlying f2.type = some .string) (k1 : P.plainKey f1.type = true) (k2 : P.plainKey f2.type = true) (o1 : f1.offset = 0) (o2 : f2.offset = 1) (hg : P.eqGuardType P.depth t = false) :
    (do eqGuard .neq t (.tmp 0) (.tmp 0) (.agg #[S a, S b]) (.agg #[S c, S d]); binOp .neq t (.agg #[S a, S b]) (.agg #[S c, S d])).run P w = .ok (.bool (!(a == c && b == d))) w := by
  have e := equal_SS (w := w) (a := a) (b := b) (c := c) (d := d) hu hp n1 n2 u1 u2 k1 k2 o1 o2
  have g : (eqGuard .neq t (.tmp 0) (.tmp 0) (.agg #[S a, S b]) (.agg #[S c, S d])).run P w = .ok () w := by
    simp [eqGuard, hg]
  rw [Sem.run_bind, g, Result.andThen_ok]
  show (do pure (Value.bool (!(← Op.equal t (.agg #[S a, S b]) (.agg #[S c, S d]))))).run P w = _
  rw [Sem.run_bind, e]; rfl
def pairT (P : Program) (t : TypeId) : Bool :=
  match P.underlying t with
  | some (.struct fs) => match fs.toList with
    | [f1, f2] => !P.stoodInHeld t && !(f1.name == "_") && !(f2.name == "_") && (P.underlying f1.type matches some .string) && (P.underlying f2.type matches some .string) && P.plainKey f1.type && P.plainKey f2.type && f1.offset == 0 && f2.offset == 1 && !P.eqGuardType P.depth t
    | _ => false
  | _ => false
theorem pairT_spec {t : TypeId} (h : pairT P t = true) : ∃ f1 f2, P.underlying t = some (.struct #[f1, f2]) ∧ P.stoodInHeld t = false ∧ (f1.name == "_") = false ∧ (f2.name == "_") = false ∧ P.underlying f1.type = some .string ∧ P.underlying f2.type = some .string ∧
    P.plainKey f1.type = true ∧ P.plainKey f2.type = true ∧ f1.offset = 0 ∧ f2.offset = 1 ∧ P.eqGuardType P.depth t = false := by
  unfold pairT at h
  split at h
  · rename_i fs hu
    split at h
    · rename_i f1 f2 hf
      have e : fs = #[f1, f2] := by rw [← Array.toArray_toList (xs := fs), hf]
      subst e
      simp only [Bool.and_eq_true, Bool.not_eq_true', beq_iff_eq] at h
      obtain ⟨⟨⟨⟨⟨⟨⟨⟨⟨h1, h2⟩, h3⟩, h4⟩, h5⟩, h6⟩, h7⟩, h8⟩, h9⟩, h10⟩ := h
      refine ⟨f1, f2, hu, h1, h2, h3, ?_, ?_, h6, h7, h8, h9, h10⟩
      · split at h4 <;> simp_all
      · split at h5 <;> simp_all
    · cases h
  · cases h
theorem R_eq2 {t : TypeId} {a b c d : List UInt8} (h : pairT P t = true) :
    (do eqGuard .eql t (.tmp 0) (.tmp 0) (.agg #[S a, S b]) (.agg #[S c, S d]); binOp .eql t (.agg #[S a, S b]) (.agg #[S c, S d])).run P w = .ok (.bool (a == c && b == d)) w := by
  obtain ⟨f1, f2, h0, h1, h2, h3, h4, h5, h6, h7, h8, h9, h10⟩ := pairT_spec h
  exact R_eqSS h0 h1 h2 h3 h4 h5 h6 h7 h8 h9 h10
theorem R_ne2 {t : TypeId} {a b c d : List UInt8} (h : pairT P t = true) :
    (do eqGuard .neq t (.tmp 0) (.tmp 0) (.agg #[S a, S b]) (.agg #[S c, S d]); binOp .neq t (.agg #[S a, S b]) (.agg #[S c, S d])).run P w = .ok (.bool (!(a == c && b == d))) w := by
  obtain ⟨f1, f2, h0, h1, h2, h3, h4, h5, h6, h7, h8, h9, h10⟩ := pairT_spec h
  exact R_neSS h0 h1 h2 h3 h4 h5 h6 h7 h8 h9 h10
end
end Go.Kw
