/-
  SPLITTING A TEXT AT ITS NOUGHTS, PLAIN. My own text.
-/
import Derived.Test.YtadiljnfkbbmcaaDoorKw11
set_option linter.unusedVariables false
set_option linter.unusedSimpArgs false
namespace Go.Kw
def splitL (z : UInt8) : List UInt8 → List (List UInt8)
  | [] => [[]]
  | c :: l => if c = z then [] :: splitL z l else match splitL z l with
    | h :: t => (c :: h) :: t
    | [] => [[c]]
theorem splitL_ne (z : UInt8) (l : List UInt8) : splitL z l ≠ [] := by
  cases l with
  | nil => simp [splitL]
  | cons c l => unfold splitL; split <;> (try split) <;> simp
theorem cnt_cons (z c : UInt8) (l : List UInt8) : cntF (c :: l) z = (if c = z then 1 else 0) + cntF l z := by
  have key : ∀ (l : List UInt8) (k : Nat), l.foldl (fun (n : Nat) x => if x == z then n + 1 else n) k = k + l.foldl (fun (n : Nat) x => if x == z then n + 1 else n) 0 := by
    intro l
    induction l with
    | nil => simp
    | cons x l ih =>
      intro k
      simp only [List.foldl_cons]
      rw [ih, ih (if (x == z) = true then 0 + 1 else 0)]
      split <;> omega
  unfold cntF
  rw [List.foldl_cons, key]
  by_cases h : c = z <;> simp [h]
theorem idx_cons (z c : UInt8) (l : List UInt8) : idxK (c :: l) z = if c = z then some 0 else (idxK l z).map (· + 1) := by
  unfold idxK
  rw [List.length_cons, List.range_succ_eq_map, List.find?_cons]
  by_cases h : c = z
  · simp [h]
  · have h' : (c == z) = false := by simpa using h
    simp only [List.getD_cons_zero, h', if_neg h, List.find?_map]
    congr 1
theorem cnt_zero (z : UInt8) : ∀ (l : List UInt8), cntF l z = 0 → splitL z l = [l]
  | [], _ => rfl
  | c :: l, h => by
    rw [cnt_cons] at h
    have hc : ¬ c = z := by intro e; simp [e] at h
    rw [splitL, if_neg hc, cnt_zero z l (by omega)]
theorem cnt_pos (z : UInt8) : ∀ (l : List UInt8), 0 < cntF l z → ∃ m, idxK l z = some m ∧ m < l.length ∧ splitL z l = l.take m :: splitL z (l.drop (m + 1)) ∧ cntF l z = cntF (l.drop (m + 1)) z + 1
  | [], h => by simp [cntF] at h
  | c :: l, h => by
    by_cases hc : c = z
    · refine ⟨0, by rw [idx_cons, if_pos hc], by simp, by rw [splitL, if_pos hc]; rfl, ?_⟩
      rw [cnt_cons, if_pos hc]; simp; omega
    · rw [cnt_cons, if_neg hc] at h
      obtain ⟨m, h1, h2, h3, h4⟩ := cnt_pos z l (by omega)
      refine ⟨m + 1, by rw [idx_cons, if_neg hc, h1]; rfl, by simp; omega, ?_, ?_⟩
      · rw [splitL, if_neg hc, h3]; rfl
      · rw [cnt_cons, if_neg hc, h4]; simp
theorem cnt_le (z : UInt8) : ∀ (l : List UInt8), cntF l z ≤ l.length
  | [] => by simp [cntF]
  | c :: l => by rw [cnt_cons, List.length_cons]; have := cnt_le z l; split <;> omega
theorem split_len (z : UInt8) : ∀ (l : List UInt8), (splitL z l).length = cntF l z + 1
  | [] => rfl
  | c :: l => by
    have ih := split_len z l
    rw [cnt_cons, splitL]
    split
    · simp [ih]; omega
    · split
      · rename_i h t e
        rw [e] at ih
        simpa using ih
      · rename_i e; exact absurd e (splitL_ne z l)
theorem nmin (a b : Nat) : (if (b : Int) < (a : Int) then (b : Int) else (a : Int)) = ((min a b : Nat) : Int) := by
  split <;> omega
end Go.Kw
