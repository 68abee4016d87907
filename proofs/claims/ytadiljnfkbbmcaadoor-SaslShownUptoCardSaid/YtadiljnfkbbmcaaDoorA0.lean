/-
  BASE64, PLAIN: what the coder and the decoder say, and that one undoes the other. My own text; no program in sight.
-/
import Derived.Test.YtadiljnfkbbmcaaDoorKw4
set_option linter.unusedVariables false
set_option linter.unusedSimpArgs false
namespace Go.Kw
def val (c : UInt8) : UInt8 := if c ≥ 65 ∧ c ≤ 90 then c - 65 else if c ≥ 97 ∧ c ≤ 122 then c - 97 + 26 else if c ≥ 48 ∧ c ≤ 57 then c - 48 + 52 else if c = 43 then 62 else if c = 47 then 63 else if c = 61 then 64 else 65
def nextF (g : List UInt8) (over : Bool) (v : UInt8) : Nat :=
  if v = 65 then 40 else if over = true then 41
  else if g.length = 3 ∧ g.getD 2 0 = 64 then (if v = 64 then 0 else 41)
  else if v = 64 then (if g.length < 2 ∨ (g.length = 2 ∧ g.getD 1 0 &&& 15 ≠ 0) ∨ (g.length = 3 ∧ g.getD 2 0 &&& 3 ≠ 0) then 41 else 0)
  else 0
def grp (g : List UInt8) : List UInt8 :=
  if g.getD 2 0 = 64 then [g.getD 0 0 <<< 2 ||| g.getD 1 0 >>> 4]
  else if g.getD 3 0 = 64 then [g.getD 0 0 <<< 2 ||| g.getD 1 0 >>> 4, g.getD 1 0 <<< 4 ||| g.getD 2 0 >>> 2]
  else [g.getD 0 0 <<< 2 ||| g.getD 1 0 >>> 4, g.getD 1 0 <<< 4 ||| g.getD 2 0 >>> 2, g.getD 2 0 <<< 6 ||| g.getD 3 0]
def stp (g : List UInt8) (over : Bool) (c : UInt8) (o : List UInt8) : List UInt8 × Bool × List UInt8 × Nat :=
  if nextF g over (val c) ≠ 0 then (g, over, o, nextF g over (val c))
  else if g.length < 3 then (g ++ [val c], over, o, 0)
  else ([], val c == 64, o ++ grp (g ++ [val c]), 0)
theorem grp_len (g : List UInt8) : (grp g).length ≤ 3 := by unfold grp; split <;> (try split) <;> simp
theorem stp_len {g : List UInt8} {ov ov' : Bool} {c : UInt8} {o o' g' : List UInt8} {e : Nat} (h : stp g ov c o = (g', ov', o', e)) : o'.length ≤ o.length + 3 := by
  unfold stp at h
  have := grp_len (g ++ [val c])
  split at h
  · simp only [Prod.mk.injEq] at h; rw [← h.2.2.1]; omega
  · split at h
    · simp only [Prod.mk.injEq] at h; rw [← h.2.2.1]; omega
    · simp only [Prod.mk.injEq] at h; rw [← h.2.2.1, List.length_append]; omega
def decGo (g : List UInt8) (ov : Bool) (o : List UInt8) (k : Nat) : List UInt8 → List UInt8 × Nat × Nat
  | [] => if g.length > 0 then ([], 41, k) else (o, 0, 0)
  | c :: l => if (stp g ov c o).2.2.2 ≠ 0 then ([], (stp g ov c o).2.2.2, k) else decGo (stp g ov c o).1 (stp g ov c o).2.1 (stp g ov c o).2.2.1 (k + 1) l
def dec (l : List UInt8) : List UInt8 × Nat × Nat := decGo [] false [] 0 l
theorem dec_bad {g g' : List UInt8} {ov ov' : Bool} {o o' l : List UInt8} {k e : Nat} (hk : k < l.length) (h : stp g ov (l.getD k 0) o = (g', ov', o', e)) (he : ¬ e = 0) :
    decGo g ov o k (l.drop k) = ([], e, k) := by
  rw [List.drop_eq_getElem_cons hk]
  simp only [List.getD_eq_getElem?_getD, List.getElem?_eq_getElem hk, Option.getD_some] at h
  simp [decGo, h, he]
theorem dec_good {g g' : List UInt8} {ov ov' : Bool} {o o' l : List UInt8} {k e : Nat} (hk : k < l.length) (h : stp g ov (l.getD k 0) o = (g', ov', o', e)) (he : e = 0) :
    decGo g ov o k (l.drop k) = decGo g' ov' o' (k + 1) (l.drop (k + 1)) := by
  rw [List.drop_eq_getElem_cons hk]
  simp only [List.getD_eq_getElem?_getD, List.getElem?_eq_getElem hk, Option.getD_some] at h
  simp [decGo, h, he]
/-! the coder -/
def letters : List UInt8 := [65, 66, 67, 68, 69, 70, 71, 72, 73, 74, 75, 76, 77, 78, 79, 80, 81, 82, 83, 84, 85, 86, 87, 88, 89, 90, 97, 98, 99, 100, 101, 102, 103, 104, 105, 106, 107, 108, 109, 110, 111, 112, 113, 114, 115, 116, 117, 118, 119, 120, 121, 122, 48, 49, 50, 51, 52, 53, 54, 55, 56, 57, 43, 47]
def L (x : UInt8) : UInt8 := letters.getD x.toNat 0
def enc : List UInt8 → List UInt8
  | [] => []
  | [a] => [L (a >>> 2), L ((a &&& 3) <<< 4), 61, 61]
  | [a, b] => [L (a >>> 2), L ((a &&& 3) <<< 4 ||| b >>> 4), L ((b &&& 15) <<< 2), 61]
  | a :: b :: c :: r => [L (a >>> 2), L ((a &&& 3) <<< 4 ||| b >>> 4), L ((b &&& 15) <<< 2 ||| c >>> 6), L (c &&& 63)] ++ enc r
theorem enc_len : ∀ l : List UInt8, (enc l).length = (l.length + 2) / 3 * 4
  | [] => rfl
  | [a] => by simp [enc]
  | [a, b] => by simp [enc]
  | a :: b :: c :: r => by simp only [enc, List.length_append, List.length_cons, List.length_nil, enc_len r]; omega
theorem nshr (a : UInt8) (m : UInt8) (n : Nat) (h : m = UInt8.ofNat n) (hn : n < 8) : (a >>> m).toNat = a.toNat / 2 ^ n := by
  subst h; rw [UInt8.toNat_shiftRight, Nat.shiftRight_eq_div_pow]; congr 2; simp; omega
theorem nshl (a : UInt8) (m : UInt8) (n : Nat) (h : m = UInt8.ofNat n) (hn : n < 8) : (a <<< m).toNat = a.toNat * 2 ^ n % 256 := by
  subst h; rw [UInt8.toNat_shiftLeft, Nat.shiftLeft_eq]; congr 3; simp; omega
theorem nand (a : UInt8) (m : UInt8) (n : Nat) (h : m.toNat = 2 ^ n - 1) : (a &&& m).toNat = a.toNat % 2 ^ n := by
  rw [UInt8.toNat_and, h, Nat.and_two_pow_sub_one_eq_mod]
theorem nor (a b : UInt8) (n : Nat) (ha : a.toNat % 2 ^ n = 0) (hb : b.toNat < 2 ^ n) : (a ||| b).toNat = a.toNat + b.toNat := by
  rw [UInt8.toNat_or]
  have e : a.toNat = 2 ^ n * (a.toNat / 2 ^ n) := by have := Nat.div_add_mod a.toNat (2 ^ n); omega
  rw [e, ← Nat.two_pow_add_eq_or_of_lt hb]
theorem x1 (a : UInt8) : (a >>> 2).toNat = a.toNat / 4 := nshr a 2 2 rfl (by decide)
theorem x2 (a : UInt8) : ((a &&& 3) <<< 4).toNat = a.toNat % 4 * 16 := by rw [nshl _ 4 4 rfl (by decide), nand a 3 2 rfl]; omega
theorem x3 (a : UInt8) : (a >>> 4).toNat = a.toNat / 16 := nshr a 4 4 rfl (by decide)
theorem x4 (a : UInt8) : ((a &&& 15) <<< 2).toNat = a.toNat % 16 * 4 := by rw [nshl _ 2 2 rfl (by decide), nand a 15 4 rfl]; omega
theorem x5 (a : UInt8) : (a >>> 6).toNat = a.toNat / 64 := nshr a 6 6 rfl (by decide)
theorem x6 (a : UInt8) : (a &&& 63).toNat = a.toNat % 64 := nand a 63 6 rfl
theorem x23 (a b : UInt8) : ((a &&& 3) <<< 4 ||| b >>> 4).toNat = a.toNat % 4 * 16 + b.toNat / 16 := by
  have := b.toNat_lt
  rw [nor _ _ 4 (by rw [x2]; omega) (by rw [x3]; omega), x2, x3]
theorem x45 (a b : UInt8) : ((a &&& 15) <<< 2 ||| b >>> 6).toNat = a.toNat % 16 * 4 + b.toNat / 64 := by
  have := b.toNat_lt
  rw [nor _ _ 2 (by rw [x4]; omega) (by rw [x5]; omega), x4, x5]
theorem i1 (a : UInt8) : (a >>> 2).toNat < letters.length := by rw [x1]; have := a.toNat_lt; simp only [show letters.length = 64 from rfl]; omega
theorem i2 (a : UInt8) : ((a &&& 3) <<< 4).toNat < letters.length := by rw [x2]; have := a.toNat_lt; simp only [show letters.length = 64 from rfl]; omega
theorem i4 (a : UInt8) : ((a &&& 15) <<< 2).toNat < letters.length := by rw [x4]; have := a.toNat_lt; simp only [show letters.length = 64 from rfl]; omega
theorem i6 (a : UInt8) : (a &&& 63).toNat < letters.length := by rw [x6]; have := a.toNat_lt; simp only [show letters.length = 64 from rfl]; omega
theorem i23 (a b : UInt8) : ((a &&& 3) <<< 4 ||| b >>> 4).toNat < letters.length := by rw [x23]; have := a.toNat_lt; have := b.toNat_lt; simp only [show letters.length = 64 from rfl]; omega
theorem i45 (a b : UInt8) : ((a &&& 15) <<< 2 ||| b >>> 6).toNat < letters.length := by rw [x45]; have := a.toNat_lt; have := b.toNat_lt; simp only [show letters.length = 64 from rfl]; omega
/-! one undoes the other -/
theorem val_L_nat : ∀ n, n < 64 → val (letters.getD n 0) = UInt8.ofNat n := by decide
theorem val_L {x : UInt8} (h : x.toNat < letters.length) : val (L x) = x := by
  rw [L, val_L_nat _ h]; simp
theorem lt64 {x : UInt8} (h : x.toNat < letters.length) : ¬ x = 64 ∧ ¬ x = 65 := by
  constructor
  · intro e; subst e; exact absurd h (by decide)
  · intro e; subst e; exact absurd h (by decide)
theorem y1 (a b : UInt8) : (a >>> 2) <<< 2 ||| ((a &&& 3) <<< 4 ||| b >>> 4) >>> 4 = a := by
  apply UInt8.toNat_inj.1
  have := a.toNat_lt; have := b.toNat_lt
  have e : ((a >>> 2) <<< 2).toNat = a.toNat / 4 * 4 := by rw [nshl _ 2 2 rfl (by decide), x1]; omega
  have f : (((a &&& 3) <<< 4 ||| b >>> 4) >>> 4).toNat = a.toNat % 4 := by rw [x3, x23]; omega
  rw [nor _ _ 2 (by rw [e]; omega) (by rw [f]; omega), e, f]; omega
theorem y1' (a : UInt8) : (a >>> 2) <<< 2 ||| ((a &&& 3) <<< 4) >>> 4 = a := by
  apply UInt8.toNat_inj.1
  have := a.toNat_lt
  have e : ((a >>> 2) <<< 2).toNat = a.toNat / 4 * 4 := by rw [nshl _ 2 2 rfl (by decide), x1]; omega
  have f : (((a &&& 3) <<< 4) >>> 4).toNat = a.toNat % 4 := by rw [x3, x2]; omega
  rw [nor _ _ 2 (by rw [e]; omega) (by rw [f]; omega), e, f]; omega
theorem y2 (a b c : UInt8) : ((a &&& 3) <<< 4 ||| b >>> 4) <<< 4 ||| ((b &&& 15) <<< 2 ||| c >>> 6) >>> 2 = b := by
  apply UInt8.toNat_inj.1
  have := a.toNat_lt; have := b.toNat_lt; have := c.toNat_lt
  have e : (((a &&& 3) <<< 4 ||| b >>> 4) <<< 4).toNat = b.toNat / 16 * 16 := by rw [nshl _ 4 4 rfl (by decide), x23]; omega
  have f : (((b &&& 15) <<< 2 ||| c >>> 6) >>> 2).toNat = b.toNat % 16 := by rw [x1, x45]; omega
  rw [nor _ _ 4 (by rw [e]; omega) (by rw [f]; omega), e, f]; omega
theorem y2' (a b : UInt8) : ((a &&& 3) <<< 4 ||| b >>> 4) <<< 4 ||| ((b &&& 15) <<< 2) >>> 2 = b := by
  apply UInt8.toNat_inj.1
  have := a.toNat_lt; have := b.toNat_lt
  have e : (((a &&& 3) <<< 4 ||| b >>> 4) <<< 4).toNat = b.toNat / 16 * 16 := by rw [nshl _ 4 4 rfl (by decide), x23]; omega
  have f : (((b &&& 15) <<< 2) >>> 2).toNat = b.toNat % 16 := by rw [x1, x4]; omega
  rw [nor _ _ 4 (by rw [e]; omega) (by rw [f]; omega), e, f]; omega
theorem y3 (b c : UInt8) : ((b &&& 15) <<< 2 ||| c >>> 6) <<< 6 ||| (c &&& 63) = c := by
  apply UInt8.toNat_inj.1
  have := b.toNat_lt; have := c.toNat_lt
  have e : (((b &&& 15) <<< 2 ||| c >>> 6) <<< 6).toNat = c.toNat / 64 * 64 := by rw [nshl _ 6 6 rfl (by decide), x45]; omega
  rw [nor _ _ 6 (by rw [e]; omega) (by rw [x6]; omega), e, x6]; omega
theorem z1 (a : UInt8) : ((a &&& 3) <<< 4) &&& 15 = 0 := by
  apply UInt8.toNat_inj.1; rw [nand _ 15 4 rfl, x2]; show _ = 0; omega
theorem z2 (a : UInt8) : ((a &&& 15) <<< 2) &&& 3 = 0 := by
  apply UInt8.toNat_inj.1; rw [nand _ 3 2 rfl, x4]; show _ = 0; omega
theorem decGo_enc : ∀ (l o : List UInt8) (k : Nat), decGo [] false o k (enc l) = (o ++ l, 0, 0)
  | [], o, k => by simp [enc, decGo]
  | [a], o, k => by
    simp [enc, decGo, stp, nextF, val_L (i1 a), val_L (i2 a), lt64 (i1 a), lt64 (i2 a), show val 61 = 64 from by decide, z1, grp, y1']
  | [a, b], o, k => by
    simp [enc, decGo, stp, nextF, val_L (i1 a), val_L (i23 a b), lt64 (i1 a), lt64 (i23 a b), val_L (i4 b), lt64 (i4 b), show val 61 = 64 from by decide, z2, grp, y1, y2']
  | a :: b :: c :: r, o, k => by
    simp [enc, decGo, stp, nextF, val_L (i1 a), val_L (i23 a b), lt64 (i1 a), lt64 (i23 a b), val_L (i45 b c), lt64 (i45 b c), val_L (i6 c), lt64 (i6 c), grp, y1, y2, y3]
    rw [show (c &&& 63 == 64) = false from beq_eq_false_iff_ne.2 (lt64 (i6 c)).1, decGo_enc r]; simp
theorem dec_enc (l : List UInt8) : dec (enc l) = (l, 0, 0) := by simpa [dec] using decGo_enc l [] 0
end Go.Kw
