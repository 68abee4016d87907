/-
  NUMBERS: what the run's wrapped numbers are, as ints that fit and as UIntNs. My own text.
-/
import Derived.Test.YtadiljnfkbbmcaaDoorKw3
set_option linter.unusedVariables false
namespace Go.Kw
open Go.RowKit

def band (k : IntKind) (x y : Int) : Int := k.wrap (BitVec.ofInt k.bits x &&& BitVec.ofInt k.bits y).toNat
def bor (k : IntKind) (x y : Int) : Int := k.wrap (BitVec.ofInt k.bits x ||| BitVec.ofInt k.bits y).toNat
def bxor (k : IntKind) (x y : Int) : Int := k.wrap (BitVec.ofInt k.bits x ^^^ BitVec.ofInt k.bits y).toNat

theorem unw64 {e : Int} (h : -9223372036854775808 ≤ e ∧ e ≤ 9223372036854775807) : IntKind.i64.wrap e = e := by
  simp only [IntKind.wrap, IntKind.bits, IntKind.signed, Bool.true_and]
  split <;> simp_all <;> omega
theorem unw_i32 {e : Int} (h : -2147483648 ≤ e ∧ e ≤ 2147483647) : IntKind.i32.wrap e = e := by
  simp only [IntKind.wrap, IntKind.bits, IntKind.signed, Bool.true_and]
  split <;> simp_all <;> omega
theorem quo64 {x y : Int} (hx : 0 ≤ x ∧ x ≤ 9223372036854775807) (hy : 1 ≤ y) : IntKind.i64.wrap (x.tdiv y) = x / y := by
  rw [Int.tdiv_eq_ediv_of_nonneg hx.1]
  have h1 : 0 ≤ x / y := Int.ediv_nonneg hx.1 (by omega)
  have h2 : x / y ≤ x := Int.ediv_le_self _ hx.1
  exact unw64 (by omega)
theorem rem64 {x y : Int} (hx : 0 ≤ x) : x.tmod y = x % y := Int.tmod_eq_emod_of_nonneg hx
theorem shr64 {x : Int} {n : Nat} {m : Int} (hm : (2 : Int) ^ n = m) (hx : 0 ≤ x) : x.fdiv (2 ^ n) = x / m := by
  rw [hm, Int.fdiv_eq_ediv_of_nonneg]
  rw [← hm]
  exact Int.pow_nonneg (by decide)

/-! naturals -/
theorem wrap_u8 (n : Int) : IntKind.u8.wrap n = n % 256 := by simp [IntKind.wrap, IntKind.bits, IntKind.signed]
theorem wrap_u32 (n : Int) : IntKind.u32.wrap n = n % 4294967296 := by simp [IntKind.wrap, IntKind.bits, IntKind.signed]
theorem wrap_u64 (n : Int) : IntKind.u64.wrap n = n % 18446744073709551616 := by simp [IntKind.wrap, IntKind.bits, IntKind.signed]

theorem nadd64 (a b : Nat) (h : a + b ≤ 9223372036854775807) : IntKind.i64.wrap ((a : Int) + (b : Int)) = ((a + b : Nat) : Int) := by rw [unw64 (by omega)]; omega
theorem nsub64 (a b : Nat) (h : b ≤ a ∧ a ≤ 9223372036854775807) : IntKind.i64.wrap ((a : Int) - (b : Int)) = ((a - b : Nat) : Int) := by rw [unw64 (by omega)]; omega
theorem nmul64 (a b : Nat) (h : a * b ≤ 9223372036854775807) : IntKind.i64.wrap ((a : Int) * (b : Int)) = ((a * b : Nat) : Int) := by
  rw [← Int.natCast_mul]; exact unw64 (by omega)
theorem nquo64 (a b : Nat) (h : a ≤ 9223372036854775807) : IntKind.i64.wrap ((a : Int).tdiv (b : Int)) = ((a / b : Nat) : Int) := by
  have e : (a : Int).tdiv (b : Int) = ((a / b : Nat) : Int) := rfl
  rw [e]
  have h1 := Nat.div_le_self a b
  generalize a / b = q at *
  exact unw64 (by omega)
theorem nrem64 (a b : Nat) : (a : Int).tmod (b : Int) = ((a % b : Nat) : Int) := rfl
theorem nconv64 (a : Nat) (h : a ≤ 9223372036854775807) : IntKind.i64.wrap (a : Int) = (a : Int) := unw64 (by omega)
theorem n_of_u8 (a : UInt8) : IntKind.i64.wrap (a.toNat : Int) = (a.toNat : Int) := unw64 (by have := a.toNat_lt; omega)
theorem nlss (a b : Nat) : decide ((a : Int) < (b : Int)) = decide (a < b) := by simp
theorem nleq (a b : Nat) : decide ((a : Int) ≤ (b : Int)) = decide (a ≤ b) := by simp
theorem ngtr (a b : Nat) : decide ((a : Int) > (b : Int)) = decide (a > b) := by simp
theorem ngeq (a b : Nat) : decide ((a : Int) ≥ (b : Int)) = decide (a ≥ b) := by simp
theorem neql (a b : Nat) : ((a : Int) == (b : Int)) = (a == b) := by rw [Bool.eq_iff_iff]; simp only [beq_iff_eq]; omega
theorem nneq (a b : Nat) : ((a : Int) != (b : Int)) = (a != b) := by rw [bne, neql]; rfl
theorem nshl64 (a n m : Nat) (hm : 2 ^ n = m) (h : a * m ≤ 9223372036854775807) : IntKind.i64.wrap ((a : Int) * 2 ^ n) = ((a * m : Nat) : Int) := by
  subst hm
  have : ((a : Int) * 2 ^ n) = ((a * 2 ^ n : Nat) : Int) := by push_cast; rfl
  rw [this]; exact unw64 (by omega)
theorem nshr64 (a n m : Nat) (hm : 2 ^ n = m) : (a : Int).fdiv (2 ^ n) = ((a / m : Nat) : Int) := by
  subst hm
  rw [Int.fdiv_eq_ediv_of_nonneg _ (Int.pow_nonneg (by decide))]
  push_cast
  rfl
theorem u8_ofNat (n : Nat) : IntKind.u8.wrap (n : Int) = ((UInt8.ofNat n).toNat : Int) := by rw [wrap_u8]; simp
theorem u64_ofNat (n : Nat) : IntKind.u64.wrap (n : Int) = ((UInt64.ofNat n).toNat : Int) := by rw [wrap_u64]; simp
theorem eql_T {α : Type} [BEq α] [LawfulBEq α] {a b : α} (h : (a == b) = true) : a = b := eq_of_beq h
theorem eql_F {α : Type} [BEq α] [LawfulBEq α] {a b : α} (h : (a == b) = false) : ¬ a = b := by simpa using h
theorem neq_T {α : Type} [BEq α] [LawfulBEq α] {a b : α} (h : (a != b) = true) : ¬ a = b := by simpa using h
theorem neq_F {α : Type} [BEq α] [LawfulBEq α] {a b : α} (h : (a != b) = false) : a = b := by simpa using h
theorem not_T {b : Bool} (h : (!b) = false) : b = true := by simpa using h
theorem not_F {b : Bool} (h : (!b) = true) : b = false := by simpa using h

/-! ### UInt8 -/
theorem u8_add (a b : UInt8) : IntKind.u8.wrap ((a.toNat : Int) + (b.toNat : Int)) = ((a + b).toNat : Int) := by rw [wrap_u8, UInt8.toNat_add]; omega
theorem u8_sub (a b : UInt8) : IntKind.u8.wrap ((a.toNat : Int) - (b.toNat : Int)) = ((a - b).toNat : Int) := by
  rw [wrap_u8, UInt8.toNat_sub]; have := a.toNat_lt; have := b.toNat_lt; omega
theorem u8_mul (a b : UInt8) : IntKind.u8.wrap ((a.toNat : Int) * (b.toNat : Int)) = ((a * b).toNat : Int) := by
  rw [wrap_u8, UInt8.toNat_mul, ← Int.natCast_mul]; omega
theorem u32_add (a b : UInt32) : IntKind.u32.wrap ((a.toNat : Int) + (b.toNat : Int)) = ((a + b).toNat : Int) := by rw [wrap_u32, UInt32.toNat_add]; omega
theorem u32_sub (a b : UInt32) : IntKind.u32.wrap ((a.toNat : Int) - (b.toNat : Int)) = ((a - b).toNat : Int) := by
  rw [wrap_u32, UInt32.toNat_sub]; have := a.toNat_lt; have := b.toNat_lt; omega
theorem u64_add (a b : UInt64) : IntKind.u64.wrap ((a.toNat : Int) + (b.toNat : Int)) = ((a + b).toNat : Int) := by rw [wrap_u64, UInt64.toNat_add]; omega
theorem u64_mul (a b : UInt64) : IntKind.u64.wrap ((a.toNat : Int) * (b.toNat : Int)) = ((a * b).toNat : Int) := by
  rw [wrap_u64, UInt64.toNat_mul, ← Int.natCast_mul]; omega
theorem u8_lss (a b : UInt8) : decide ((a.toNat : Int) < (b.toNat : Int)) = decide (a < b) := by simp [UInt8.lt_iff_toNat_lt]
theorem u8_leq (a b : UInt8) : decide ((a.toNat : Int) ≤ (b.toNat : Int)) = decide (a ≤ b) := by simp [UInt8.le_iff_toNat_le]
theorem u8_gtr (a b : UInt8) : decide ((a.toNat : Int) > (b.toNat : Int)) = decide (a > b) := by simp [UInt8.lt_iff_toNat_lt]
theorem u8_geq (a b : UInt8) : decide ((a.toNat : Int) ≥ (b.toNat : Int)) = decide (a ≥ b) := by simp [UInt8.le_iff_toNat_le]
theorem u8_eql (a b : UInt8) : ((a.toNat : Int) == (b.toNat : Int)) = (a == b) := by
  rw [Bool.eq_iff_iff]; simp only [beq_iff_eq, ← UInt8.toNat_inj]; omega
theorem u8_neq (a b : UInt8) : ((a.toNat : Int) != (b.toNat : Int)) = (a != b) := by
  rw [bne, u8_eql]; rfl
theorem u32_eql (a b : UInt32) : ((a.toNat : Int) == (b.toNat : Int)) = (a == b) := by
  rw [Bool.eq_iff_iff]; simp only [beq_iff_eq, ← UInt32.toNat_inj]; omega
theorem u64_eql (a b : UInt64) : ((a.toNat : Int) == (b.toNat : Int)) = (a == b) := by
  rw [Bool.eq_iff_iff]; simp only [beq_iff_eq, ← UInt64.toNat_inj]; omega
theorem u8_self (a : UInt8) : IntKind.u8.wrap (a.toNat : Int) = (a.toNat : Int) := by rw [wrap_u8]; have := a.toNat_lt; omega
theorem u32_self (a : UInt32) : IntKind.u32.wrap (a.toNat : Int) = (a.toNat : Int) := by rw [wrap_u32]; have := a.toNat_lt; omega
theorem ofInt_nat (k a : Nat) : (BitVec.ofInt k (a : Int)) = BitVec.ofNat k a := by rw [BitVec.ofInt_natCast]
theorem ofInt_u8 (a : UInt8) : BitVec.ofInt IntKind.u8.bits (a.toNat : Int) = a.toBitVec := by
  rw [BitVec.ofInt_natCast]; apply BitVec.eq_of_toNat_eq; simp [IntKind.bits]
theorem ofInt_u32 (a : UInt32) : BitVec.ofInt IntKind.u32.bits (a.toNat : Int) = a.toBitVec := by
  rw [BitVec.ofInt_natCast]; apply BitVec.eq_of_toNat_eq; simp [IntKind.bits]
theorem u8_and (a b : UInt8) : band .u8 (a.toNat : Int) (b.toNat : Int) = ((a &&& b).toNat : Int) := by
  rw [band, ofInt_u8, ofInt_u8]; exact u8_self (a &&& b)
theorem u8_or (a b : UInt8) : bor .u8 (a.toNat : Int) (b.toNat : Int) = ((a ||| b).toNat : Int) := by
  rw [bor, ofInt_u8, ofInt_u8]; exact u8_self (a ||| b)
theorem u8_xor (a b : UInt8) : bxor .u8 (a.toNat : Int) (b.toNat : Int) = ((a ^^^ b).toNat : Int) := by
  rw [bxor, ofInt_u8, ofInt_u8]; exact u8_self (a ^^^ b)
theorem u32_and (a b : UInt32) : band .u32 (a.toNat : Int) (b.toNat : Int) = ((a &&& b).toNat : Int) := by
  rw [band, ofInt_u32, ofInt_u32]; exact u32_self (a &&& b)
theorem u32_or (a b : UInt32) : bor .u32 (a.toNat : Int) (b.toNat : Int) = ((a ||| b).toNat : Int) := by
  rw [bor, ofInt_u32, ofInt_u32]; exact u32_self (a ||| b)
theorem u32_xor (a b : UInt32) : bxor .u32 (a.toNat : Int) (b.toNat : Int) = ((a ^^^ b).toNat : Int) := by
  rw [bxor, ofInt_u32, ofInt_u32]; exact u32_self (a ^^^ b)
theorem u32_not (a : UInt32) : bxor .u32 (IntKind.u32.max) (a.toNat : Int) = ((~~~a).toNat : Int) := by
  rw [bxor, ofInt_u32]
  have h : BitVec.ofInt IntKind.u32.bits IntKind.u32.max = (BitVec.allOnes 32 : BitVec 32) := by rfl
  have h2 : BitVec.allOnes 32 ^^^ a.toBitVec = (~~~a).toBitVec := by rw [UInt32.toBitVec_not, BitVec.xor_comm, BitVec.xor_allOnes]
  rw [h]
  show IntKind.u32.wrap ((BitVec.allOnes 32 ^^^ a.toBitVec).toNat : Int) = _
  rw [h2]; exact u32_self (~~~a)
theorem u8_shl (a : UInt8) (n : Nat) (m : UInt8) (hm : m = UInt8.ofNat n) (hn : n < 8) : IntKind.u8.wrap ((a.toNat : Int) * 2 ^ n) = ((a <<< m).toNat : Int) := by
  subst hm
  rw [wrap_u8, UInt8.toNat_shiftLeft]
  have : (UInt8.ofNat n).toNat % 8 = n := by simp; omega
  rw [this, Nat.shiftLeft_eq]
  have h : ((a.toNat : Int) * 2 ^ n) = ((a.toNat * 2 ^ n : Nat) : Int) := by push_cast; rfl
  rw [h]; omega
theorem u8_shr (a : UInt8) (n : Nat) (m : UInt8) (hm : m = UInt8.ofNat n) (hn : n < 8) : (a.toNat : Int).fdiv (2 ^ n) = ((a >>> m).toNat : Int) := by
  subst hm
  rw [UInt8.toNat_shiftRight]
  have : (UInt8.ofNat n).toNat % 8 = n := by simp; omega
  rw [this, Nat.shiftRight_eq_div_pow, Int.fdiv_eq_ediv_of_nonneg _ (Int.pow_nonneg (by decide))]
  push_cast
  rfl
theorem u8_ofInt (n : Int) : IntKind.u8.wrap n = ((UInt8.ofInt n).toNat : Int) := by
  rw [wrap_u8]; simp [UInt8.ofInt]; omega
theorem u8_of_u8 (a : UInt8) : IntKind.u8.wrap (a.toNat : Int) = (a.toNat : Int) := by rw [wrap_u8]; have := a.toNat_lt; omega
theorem u32_of_u8 (a : UInt8) : IntKind.u32.wrap (a.toNat : Int) = (a.toUInt32.toNat : Int) := by rw [wrap_u32]; simp; have := a.toNat_lt; omega
theorem u8_of_u32 (a : UInt32) : IntKind.u8.wrap (a.toNat : Int) = (a.toUInt8.toNat : Int) := by rw [wrap_u8]; simp
theorem u8_of_u64 (a : UInt64) : IntKind.u8.wrap (a.toNat : Int) = (a.toUInt8.toNat : Int) := by rw [wrap_u8]; simp

/-! ### bytes as values -/
def B (b : UInt8) : Value := .int .u8 (b.toNat : Int)
def bs (l : List UInt8) : List Value := l.map B
theorem bs_length (l : List UInt8) : (bs l).length = l.length := by simp [bs]
theorem bs_append (l m : List UInt8) : bs (l ++ m) = bs l ++ bs m := by simp [bs]
theorem bs_get (l : List UInt8) (i : Nat) (h : i < l.length) : (bs l)[i]? = some (.int .u8 ((l.getD i 0).toNat : Int)) := by
  simp [bs, B, h]
theorem bs_drop (l : List UInt8) (i : Nat) : (bs l).drop (i * 1) = bs (l.drop i) := by simp [bs, List.map_drop]
theorem bs_take (l : List UInt8) (i : Nat) : (bs l).take (i * 1) = bs (l.take i) := by simp [bs, List.map_take]
theorem bs_cut (l : List UInt8) (a b : Nat) : ((bs l).drop (a * 1)).take ((b - a) * 1) = bs ((l.drop a).take (b - a)) := by simp [bs, List.map_drop, List.map_take]
theorem bs_zeros (n : Nat) : (List.replicate n (Value.int .u8 0).cells.toList).flatten = bs (List.replicate n 0) := by
  simp [bs, B, Value.cells]
theorem bs_one (l : List UInt8) : ∀ u ∈ bs l, u.oneCell' = true := by
  intro u hu
  simp only [bs, List.mem_map] at hu
  obtain ⟨b, _, rfl⟩ := hu
  rfl
theorem one_list {l : List Value} (h : l.all Value.oneCell' = true) : ∀ u ∈ l, u.oneCell' = true := fun u hu => List.all_eq_true.1 h u hu
end Go.Kw
