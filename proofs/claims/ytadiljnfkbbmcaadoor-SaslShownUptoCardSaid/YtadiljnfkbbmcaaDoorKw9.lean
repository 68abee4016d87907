/-
  ARRAYS AT A PLACE THAT IS NO CONSTANT, TABLES OF THE PROGRAM'S, SHIFTS BY A VARIABLE. My own text.
-/
import Derived.Test.YtadiljnfkbbmcaaDoorKw8
set_option linter.unusedVariables false
set_option linter.unusedSimpArgs false
namespace Go.Kw
open Go.RowKit Go.Code Go

def u32s (l : List UInt32) : List Value := l.map U
theorem u32s_length (l : List UInt32) : (u32s l).length = l.length := by simp [u32s]
theorem u32s_one (l : List UInt32) : ∀ u ∈ u32s l, u.oneCell' = true := by
  intro u hu
  simp only [u32s, List.mem_map] at hu
  obtain ⟨a, _, rfl⟩ := hu
  rfl
theorem u32s_get (l : List UInt32) (i : Nat) (h : i < l.length) : (u32s l)[i]? = some (.int .u32 ((l.getD i 0).toNat : Int)) := by simp [u32s, U, h]
/-- A variable of the program's, as it stood at the call. -/
def Gl (w0 : World) (g : Nat) (xs : List Value) : Prop := ∀ j u, xs[j]? = some u → w0.cell? ⟨g, j, none⟩ = some u
section
variable {P : Program} {w0 w w' : World} {cs F : List Chunk}
theorem Gl.cell {g : Nat} {xs : List Value} (h : Gl w0 g xs) (H : Sep w0 w cs) {j : Nat} {u : Value} (hu : xs[j]? = some u) : w.cell? ⟨g, j, none⟩ = some u := by
  have := h j u hu
  rw [← this]
  exact H.below.cell (World.block_lt_of_cell? _ _ this)
theorem R_arrplace {t e n g off i sz : Nat} {ki : IntKind} (ht : P.underlying t = some (.array n e)) (hs : sizeT P e = some sz) (hi : i < n) :
    (Instr.indexAt t (.pointer (some ⟨g, off, none⟩)) (.int ki (i : Int))).run P w = .ok (.pointer (some ⟨g, off + i * sz, none⟩)) w := by
  have hb : (0 ≤ (i : Int) ∧ (i : Int) < (n : Int)) := by omega
  simp [Instr.indexAt, asIntOf, run_underlying ht, sizeT_run (w := w) hs, hb, Instr.sureAddr, Addr.add, hi]
theorem R_arrplace1 {t e n g i : Nat} {ki : IntKind} (ht : P.underlying t = some (.array n e)) (hs : sizeT P e = some 1) (hi : i < n) :
    (Instr.indexAt t (.pointer (some ⟨g, 0, none⟩)) (.int ki (i : Int))).run P w = .ok (.pointer (some ⟨g, i, none⟩)) w := by
  have h := R_arrplace (w := w) (g := g) (off := 0) (ki := ki) ht hs hi
  simpa using h
theorem R_storeP {i g T t off : Nat} {l : List Value} {v : Value} (h : Sep w0 w cs) (hi : cs[i]? = some (.blk g T l)) (hs : sizeT P t = some v.cells.size) (hb : off + v.cells.size ≤ l.length)
    (h1 : v.cells.all Value.oneCell' = true) : ∃ w', (Instr.storeAt t (.pointer (some ⟨g, off, none⟩)) v).run P w = .ok () w' ∧ Sep w0 w' (cs.set i (.blk g T (l.take off ++ v.cells.toList ++ l.drop (off + v.cells.size)))) :=
  R_store h hi hs (Nat.ble_eq_true_of_le hb) h1
theorem R_bstore8 {i g T t j : Nat} {l : List UInt8} {b : UInt8} (h : Sep w0 w cs) (hi : cs[i]? = some (.blk g T (bs l))) (hs : sizeT P t = some 1) (hj : j < l.length) :
    ∃ w', (Instr.storeAt t (.pointer (some ⟨g, j, none⟩)) (.int .u8 (b.toNat : Int))).run P w = .ok () w' ∧ Sep w0 w' (cs.set i (.blk g T (bs (l.set j b)))) := by
  obtain ⟨w', hr, H⟩ := R_storeP (v := .int .u8 (b.toNat : Int)) h hi hs (by rw [bs_length]; exact hj) (by kernel_rfl)
  rw [bs_store l j b hj] at H
  exact ⟨w', hr, H⟩
theorem u32s_store (l : List UInt32) (j : Nat) (b : UInt32) (hj : j < l.length) : (u32s l).take j ++ (Value.int .u32 (b.toNat : Int)).cells.toList ++ (u32s l).drop (j + (Value.int .u32 (b.toNat : Int)).cells.size) = u32s (l.set j b) := by
  show (u32s l).take j ++ [U b] ++ (u32s l).drop (j + 1) = _
  unfold u32s
  rw [List.map_set, List.set_eq_take_append_cons_drop, if_pos (by simpa using hj)]
  simp
theorem R_bstore32 {i g T t j : Nat} {l : List UInt32} {b : UInt32} (h : Sep w0 w cs) (hi : cs[i]? = some (.blk g T (u32s l))) (hs : sizeT P t = some 1) (hj : j < l.length) :
    ∃ w', (Instr.storeAt t (.pointer (some ⟨g, j, none⟩)) (.int .u32 (b.toNat : Int))).run P w = .ok () w' ∧ Sep w0 w' (cs.set i (.blk g T (u32s (l.set j b)))) := by
  obtain ⟨w', hr, H⟩ := R_storeP (v := .int .u32 (b.toNat : Int)) h hi hs (by rw [u32s_length]; exact hj) (by kernel_rfl)
  rw [u32s_store l j b hj] at H
  exact ⟨w', hr, H⟩
/-! an array's value at a place -/
theorem R_aggidx {t e n i : Nat} {ki : IntKind} {xs : List Value} {u : Value} (ht : P.underlying t = some (.array n e)) (hs : sizeT P e = some 1) (hk : P.plainKey e = true) (hi : i < n) (hu : xs[i]? = some u) :
    (Instr.index t (.agg xs.toArray) (.int ki (i : Int))).run P w = .ok u w := by
  have hb : (0 ≤ (i : Int) ∧ (i : Int) < (n : Int)) := by omega
  have hp := run_part_plain (P := P) w hk (xs := xs.toArray) (off := i) (v := u) (by simpa using hu)
  simp [Instr.index, asIntOf, run_underlying ht, sizeT_run (w := w) hs, hb, hp]
  omega
/-! a slice as an array's address -/
theorem R_arrptr {A : Option Addr} {c t e n m sz : Nat} {xs : List Value} (h : Rd w0 F (.slice A m c) sz m xs) (ht : P.underlying t = some (.array n e)) (hn : n ≤ m) (h0 : 0 < n) :
    ∃ ad, (∀ w, (Instr.arrayAt t (.slice A m c)).run P w = .ok (.pointer (some ad)) w) ∧ ∀ w, Sep w0 w F → ∀ j u, (xs.take (n * sz))[j]? = some u → w.cell? (ad.add j) = some u := by
  obtain ⟨h1, A', c', he, h2, h3, h4⟩ := h
  cases he
  obtain ⟨ad, rfl, h5⟩ := h4 (by omega)
  refine ⟨ad, fun w => ?_, fun w hw j u hu => ?_⟩
  · have hb : ¬ (m < n) := by omega
    simp [Instr.arrayAt, run_underlying ht, hb]
  · rw [List.getElem?_take] at hu
    split at hu
    · exact h5 w hw j u hu
    · cases hu
/-! shifts -/
def shl32 (x : UInt32) (s : Nat) : UInt32 := UInt32.ofNat (x.toNat * 2 ^ min s 32)
def shr32 (x : UInt32) (s : Nat) : UInt32 := UInt32.ofNat (x.toNat / 2 ^ min s 32)
def shv64 (x : UInt64) (s : Nat) : UInt64 := UInt64.ofNat (x.toNat / 2 ^ min s 64)
theorem fdiv_nat (a n : Nat) : (a : Int).fdiv (2 ^ n) = ((a / 2 ^ n : Nat) : Int) := nshr64 a n (2 ^ n) rfl
theorem R_shl32 {t : Nat} {x : UInt32} {s : Nat} {k : IntKind} : (do eqGuard .shl t (.tmp 0) (.tmp 0) (.int .u32 (x.toNat : Int)) (.int k (s : Int)); binOp .shl t (.int .u32 (x.toNat : Int)) (.int k (s : Int))).run P w = .ok (.int .u32 ((shl32 x s).toNat : Int)) w := by
  show (Op.shift .shl .u32 (x.toNat : Int) k (s : Int)).run P w = _
  have h : ¬ ((s : Int) < 0) := by omega
  simp only [Op.shift, if_neg h, Int.toNat_natCast]
  have e : IntKind.u32.wrap ((x.toNat : Int) * 2 ^ min s IntKind.u32.bits) = ((shl32 x s).toNat : Int) := by
    rw [wrap_u32, shl32]
    have : ((x.toNat : Int) * 2 ^ min s IntKind.u32.bits) = ((x.toNat * 2 ^ min s 32 : Nat) : Int) := by push_cast; rfl
    rw [this]; simp
  rw [e]; rfl
theorem R_shr32 {t : Nat} {x : UInt32} {s : Nat} {k : IntKind} : (do eqGuard .shr t (.tmp 0) (.tmp 0) (.int .u32 (x.toNat : Int)) (.int k (s : Int)); binOp .shr t (.int .u32 (x.toNat : Int)) (.int k (s : Int))).run P w = .ok (.int .u32 ((shr32 x s).toNat : Int)) w := by
  show (Op.shift .shr .u32 (x.toNat : Int) k (s : Int)).run P w = _
  have h : ¬ ((s : Int) < 0) := by omega
  simp only [Op.shift, if_neg h, Int.toNat_natCast]
  have e : (x.toNat : Int).fdiv (2 ^ min s IntKind.u32.bits) = ((shr32 x s).toNat : Int) := by
    rw [fdiv_nat, shr32]
    have := x.toNat_lt
    have h2 := Nat.div_le_self x.toNat (2 ^ min s 32)
    show ((x.toNat / 2 ^ min s 32 : Nat) : Int) = _
    rw [UInt32.toNat_ofNat', Nat.mod_eq_of_lt (by omega)]
  rw [e]; rfl
theorem R_shr64 {t : Nat} {x : UInt64} {s : Nat} {k : IntKind} : (do eqGuard .shr t (.tmp 0) (.tmp 0) (.int .u64 (x.toNat : Int)) (.int k (s : Int)); binOp .shr t (.int .u64 (x.toNat : Int)) (.int k (s : Int))).run P w = .ok (.int .u64 ((shv64 x s).toNat : Int)) w := by
  show (Op.shift .shr .u64 (x.toNat : Int) k (s : Int)).run P w = _
  have h : ¬ ((s : Int) < 0) := by omega
  simp only [Op.shift, if_neg h, Int.toNat_natCast]
  have e : (x.toNat : Int).fdiv (2 ^ min s IntKind.u64.bits) = ((shv64 x s).toNat : Int) := by
    rw [fdiv_nat, shv64]
    have := x.toNat_lt
    have h2 := Nat.div_le_self x.toNat (2 ^ min s 64)
    show ((x.toNat / 2 ^ min s 64 : Nat) : Int) = _
    rw [UInt64.toNat_ofNat', Nat.mod_eq_of_lt (by omega)]
  rw [e]; rfl
theorem u32_shl (a : UInt32) (n : Nat) (m : UInt32) (hm : m = UInt32.ofNat n) (hn : n < 32) : IntKind.u32.wrap ((a.toNat : Int) * 2 ^ n) = ((a <<< m).toNat : Int) := by
  subst hm
  rw [wrap_u32, UInt32.toNat_shiftLeft]
  have : (UInt32.ofNat n).toNat % 32 = n := by simp; omega
  rw [this, Nat.shiftLeft_eq]
  have h : ((a.toNat : Int) * 2 ^ n) = ((a.toNat * 2 ^ n : Nat) : Int) := by push_cast; rfl
  rw [h]; omega
/-! copy -/
end
end Go.Kw
