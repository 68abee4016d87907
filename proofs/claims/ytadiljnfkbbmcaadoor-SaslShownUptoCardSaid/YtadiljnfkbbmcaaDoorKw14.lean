/-
  WHAT THE SECOND FORM's BOUND GIVES, over the seat's own words for bulk. My own text.
-/
import Derived.Test.YtadiljnfkbbmcaaDoorRows
import Derived.Test.YtadiljnfkbbmcaaDoorKw13
import Derived.Stop.LaidErr
set_option linter.unusedVariables false
namespace Go.Proofs.YtadiljnfkbbmcaaDoor.bulks
theorem bound {H : Type} {l : List (DataW H)} (hk : Rows.uptoSmall H l = true) : Rows.uptoBulkAll l ≤ 1048576 := of_decide_eq_true hk
theorem all_mem {H : Type} {d : DataW H} : ∀ {l : List (DataW H)}, d ∈ l → Rows.uptoBulk d ≤ Rows.uptoBulkAll l
  | x :: r, h => by
    simp only [Rows.uptoBulkAll]
    cases h with
    | head => omega
    | tail _ h => have := all_mem h; omega
theorem one_le {H : Type} (d : DataW H) : 1 ≤ Rows.uptoBulk d := by
  cases d with
  | lit l => cases l <;> simp [Rows.uptoBulk]
  | _ => simp [Rows.uptoBulk]
theorem all_len {H : Type} : ∀ (l : List (DataW H)), l.length ≤ Rows.uptoBulkAll l
  | [] => Nat.zero_le _
  | x :: r => by
    have := one_le x; have := all_len r
    simp only [Rows.uptoBulkAll, List.length_cons]; omega
/-- a list of texts -/
theorem texts {H : Type} : ∀ (l : List (List UInt8)), Rows.uptoBulkAll (l.map fun t => (DataW.lit (.string t) : DataW H)) = (l.map fun t => t.length + 1).sum
  | [] => rfl
  | x :: r => by simp only [List.map_cons, Rows.uptoBulkAll, Rows.uptoBulk, texts r, List.sum_cons]
theorem mem_le {A : Type} (f : A → Nat) : ∀ {l : List A} {a : A}, a ∈ l → f a ≤ (l.map f).sum
  | x :: r, a, h => by
    simp only [List.map_cons, List.sum_cons]
    cases h with
    | head => omega
    | tail _ h => have := mem_le f h; omega
/-- a list of pairs of texts -/
theorem pairs {H : Type} : ∀ (l : List Kw.Str2), Rows.uptoBulkAll (l.map fun u => (DataW.agg [.lit (.string u.1), .lit (.string u.2)] : DataW H)) = (l.map fun u => u.1.length + u.2.length + 3).sum
  | [] => rfl
  | x :: r => by simp only [List.map_cons, Rows.uptoBulkAll, Rows.uptoBulk, pairs r, List.sum_cons]; omega
theorem sum_len {A : Type} (f : A → Nat) (h : ∀ a, 1 ≤ f a) : ∀ (l : List A), l.length ≤ (l.map f).sum
  | [] => Nat.zero_le _
  | x :: r => by have := h x; have := sum_len f h r; simp only [List.map_cons, List.sum_cons, List.length_cons]; omega
theorem laid_tail {P : Program} {x : String × DataW Unit} {r : List (String × DataW Unit)} {w : World} (h : laidMet P (x :: r) w) : laidMet P r w := h.tail
end Go.Proofs.YtadiljnfkbbmcaaDoor.bulks
