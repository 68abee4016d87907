/-
  BASE64 READ BY DEFINITION: the first byte with which a text does not go on, or its groups; that this is what the reader tells. My own text; no program in sight.
-/
import Derived.Test.YtadiljnfkbbmcaaDoorA0
import Derived.Test.YtadiljnfkbbmcaaDoorKw12
set_option linter.unusedVariables false
set_option linter.unusedSimpArgs false
namespace Go.Kw
def isL (c : UInt8) : Bool := decide (val c < 64)
def numI (c : UInt8) : Int := if val c < 64 then ((val c).toNat : Int) else -1
def numN (c : UInt8) : Nat := if val c < 64 then (val c).toNat else 0
def lowF (c : UInt8) (m : Nat) : Bool := decide (val c < 64) && decide ((val c).toNat % m = 0)
def begF : List UInt8 → Bool
  | [a] => isL a
  | [a, b] => isL a && isL b
  | [a, b, c] => isL a && isL b && (isL c || (c == 61 && lowF b 16))
  | [a, b, c, d] => isL a && isL b && (isL c || (c == 61 && lowF b 16)) && !(c == 61 && d != 61 || c != 61 && !isL d && (d != 61 || !lowF c 4))
  | _ => true
def condF (l : List UInt8) (i : Nat) : Bool := decide (i / 4 * 4 = 0) || l.getD (i / 4 * 4 - 1) 0 != 61
def onF (l : List UInt8) (i : Nat) : Bool := condF l i && begF ((l.take (i + 1)).drop (i / 4 * 4))
def whyF (c : UInt8) : Nat := if val c = 65 then 40 else 41
def bitsN (g : List UInt8) : Nat := ((numN (g.getD 0 0) * 64 + numN (g.getD 1 0)) * 64 + numN (g.getD 2 0)) * 64 + numN (g.getD 3 0)
def manyN (g : List UInt8) : Nat := if g.getD 2 0 = 61 then 1 else if g.getD 3 0 = 61 then 2 else 3
def grpN (g : List UInt8) : List UInt8 := [UInt8.ofNat (bitsN g / 65536), UInt8.ofNat (bitsN g / 256 % 256), UInt8.ofNat (bitsN g % 256)].take (manyN g)
def outF (l : List UInt8) (q : Nat) : List UInt8 := (List.range q).flatMap fun j => grpN ((l.take (4 * j + 4)).drop (4 * j))
theorem all_bytes {p : UInt8 → Prop} [DecidablePred p] (h : ∀ n, n < 256 → p (UInt8.ofNat n)) (c : UInt8) : p c := by
  have := h c.toNat c.toNat_lt
  rwa [UInt8.ofNat_toNat] at this
theorem val61 (c : UInt8) : val c = 64 ↔ c = 61 := all_bytes (p := fun c => val c = 64 ↔ c = 61) (by decide +kernel) c
theorem val_cases (c : UInt8) : (val c < 64 ∧ ¬ val c = 64 ∧ ¬ val c = 65 ∧ ¬ c = 61) ∨ (val c = 64 ∧ ¬ val c < 64 ∧ ¬ val c = 65 ∧ c = 61) ∨ (val c = 65 ∧ ¬ val c < 64 ∧ ¬ val c = 64 ∧ ¬ c = 61) :=
  all_bytes (p := fun c => (val c < 64 ∧ ¬ val c = 64 ∧ ¬ val c = 65 ∧ ¬ c = 61) ∨ (val c = 64 ∧ ¬ val c < 64 ∧ ¬ val c = 65 ∧ c = 61) ∨ (val c = 65 ∧ ¬ val c < 64 ∧ ¬ val c = 64 ∧ ¬ c = 61)) (by decide +kernel) c
theorem v61 : val 61 = 64 := by decide
theorem val_letter (c : UInt8) : val c < 64 → letters.getD (val c).toNat 0 = c := all_bytes (p := fun c => val c < 64 → letters.getD (val c).toNat 0 = c) (by decide +kernel) c
theorem num_at : ∀ k, k < 64 → numI (letters.getD k 0) = (k : Int) := by decide +kernel
theorem num_no {c : UInt8} (h : ∀ j, j < 64 → ¬ letters.getD j 0 = c) : numI c = -1 := by
  unfold numI
  split
  · rename_i hv
    exact absurd (val_letter c hv) (h _ (UInt8.lt_iff_toNat_lt.1 hv))
  · rfl
theorem and15 (c : UInt8) : (c &&& 15 = 0) ↔ c.toNat % 16 = 0 := by
  have : (c &&& 15).toNat = c.toNat % 16 := nand c 15 4 rfl
  rw [← this]
  exact ⟨fun h => by rw [h]; rfl, fun h => UInt8.toNat_inj.1 (by rw [h]; rfl)⟩
theorem and3 (c : UInt8) : (c &&& 3 = 0) ↔ c.toNat % 4 = 0 := by
  have : (c &&& 3).toNat = c.toNat % 4 := nand c 3 2 rfl
  rw [← this]
  exact ⟨fun h => by rw [h]; rfl, fun h => UInt8.toNat_inj.1 (by rw [h]; rfl)⟩
/-- One byte more in a group. -/
theorem next_beg {p : List UInt8} (hp : p = [] ∨ begF p = true) (hl : p.length < 4) (c : UInt8) : nextF (p.map val) false (val c) = if begF (p ++ [c]) = true then 0 else whyF c := by
  match p, hl with
  | [], _ => rcases val_cases c with h | h | h <;> simp [nextF, begF, isL, whyF, h, v61]
  | [a], _ =>
    have ha : val a < 64 := by rcases hp with h | h; cases h; simpa [begF, isL] using h
    rcases val_cases c with h | h | h <;> simp [nextF, begF, isL, whyF, h, ha, v61]
  | [a, b], _ =>
    have hab : val a < 64 ∧ val b < 64 := by rcases hp with h | h; cases h; simpa [begF, isL] using h
    rcases val_cases c with h | h | h <;> simp [nextF, begF, isL, whyF, h, hab, lowF, and15, v61]
  | [a, b, d], _ =>
    have hh : (val a < 64 ∧ val b < 64) ∧ (val d < 64 ∨ (d = 61 ∧ (val b).toNat % 16 = 0)) := by
      rcases hp with h | h
      · cases h
      · simp [begF, isL, lowF] at h
        refine ⟨h.1, ?_⟩
        rcases h.2 with h2 | h2
        · exact .inl h2
        · exact .inr ⟨h2.1, h2.2.2⟩
    have hbeg : (isL d || (d == 61 && lowF b 16)) = true := by
      rcases hh.2 with h2 | ⟨h2, h3⟩
      · simp [isL, h2]
      · subst h2; simp [lowF, hh.1.2, h3]
    rcases val_cases d with h0 | h0 | h0
    · rcases val_cases c with h | h | h <;> simp [nextF, begF, isL, whyF, h, h0, hh.1, lowF, and3, v61]
    · rcases val_cases c with h | h | h <;> simp_all [nextF, begF, isL, whyF, lowF, v61]
    · rcases hh.2 with h2 | ⟨h2, _⟩
      · exact absurd h2 h0.2.1
      · exact absurd h2 h0.2.2.2
  | _ :: _ :: _ :: _ :: _, h => simp at h; omega
/-- A whole group. -/
theorem grp_beg {g : List UInt8} (hl : g.length = 4) (h : begF g = true) : grp (g.map val) = grpN g := by
  match g, hl with
  | [a, b, c, d], _ =>
    simp only [begF, Bool.and_eq_true, isL, decide_eq_true_eq] at h
    obtain ⟨⟨⟨ha, hb⟩, hc⟩, hd⟩ := h
    have la := UInt8.lt_iff_toNat_lt.1 ha
    have lb := UInt8.lt_iff_toNat_lt.1 hb
    have e64 : (64 : UInt8).toNat = 64 := rfl
    have na : numN a = (val a).toNat := by rw [numN, if_pos ha]
    have nb : numN b = (val b).toNat := by rw [numN, if_pos hb]
    have nd : numN d < 64 := by unfold numN; split; (rename_i h; have := UInt8.lt_iff_toNat_lt.1 h; omega); omega
    have key1 : val a <<< 2 ||| val b >>> 4 = UInt8.ofNat (bitsN [a, b, c, d] / 65536) := by
      apply UInt8.toNat_inj.1
      have nc : numN c < 64 := by unfold numN; split; (rename_i h; have := UInt8.lt_iff_toNat_lt.1 h; omega); omega
      have e : (val a <<< 2).toNat = (val a).toNat * 4 := by rw [nshl _ 2 2 rfl (by decide)]; omega
      have f : (val b >>> 4).toNat = (val b).toNat / 16 := x3 _
      rw [nor _ _ 2 (by rw [e]; omega) (by rw [f]; omega), e, f, UInt8.toNat_ofNat']
      simp only [bitsN, List.getD_cons_zero, List.getD_cons_succ, na, nb]
      omega
    rcases val_cases c with h0 | h0 | h0
    · have lc := UInt8.lt_iff_toNat_lt.1 h0.1
      have nc : numN c = (val c).toNat := by rw [numN, if_pos h0.1]
      have key2 : val b <<< 4 ||| val c >>> 2 = UInt8.ofNat (bitsN [a, b, c, d] / 256 % 256) := by
        apply UInt8.toNat_inj.1
        have e : (val b <<< 4).toNat = (val b).toNat % 16 * 16 := by rw [nshl _ 4 4 rfl (by decide)]; omega
        have f : (val c >>> 2).toNat = (val c).toNat / 4 := x1 _
        rw [nor _ _ 4 (by rw [e]; omega) (by rw [f]; omega), e, f, UInt8.toNat_ofNat']
        simp only [bitsN, List.getD_cons_zero, List.getD_cons_succ, na, nb, nc]
        omega
      rcases val_cases d with h1 | h1 | h1
      · have ld := UInt8.lt_iff_toNat_lt.1 h1.1
        have nd' : numN d = (val d).toNat := by rw [numN, if_pos h1.1]
        have key3 : val c <<< 6 ||| val d = UInt8.ofNat (bitsN [a, b, c, d] % 256) := by
          apply UInt8.toNat_inj.1
          have e : (val c <<< 6).toNat = (val c).toNat % 4 * 64 := by rw [nshl _ 6 6 rfl (by decide)]; omega
          rw [nor _ _ 6 (by rw [e]; omega) (by omega), e, UInt8.toNat_ofNat']
          simp only [bitsN, List.getD_cons_zero, List.getD_cons_succ, na, nb, nc, nd']
          omega
        simp [grp, grpN, manyN, h0, h1, key1, key2, key3, v61]
      · simp [grp, grpN, manyN, h0, h1, key1, key2, v61]
      · simp [h0, h1] at hd
    · simp [grp, grpN, manyN, h0, key1, v61]
    · simp [h0] at hc
theorem td_step {l : List UInt8} {k i : Nat} (hk : k ≤ i) (hi : i < l.length) : (l.take (i + 1)).drop k = (l.take i).drop k ++ [l.getD i 0] := by
  rw [List.take_add_one, List.getElem?_eq_getElem hi, List.drop_append_of_le_length (by simp; omega)]
  simp [List.getD_eq_getElem?_getD, List.getElem?_eq_getElem hi]
/-- The reader behind i bytes with each of which the text went on. -/
theorem dec_at {l : List UInt8} : ∀ (i : Nat), i ≤ l.length → (∀ j, j < i → onF l j = true) →
    dec l = decGo (((l.take i).drop (i / 4 * 4)).map val) (!condF l i) (outF l (i / 4)) i (l.drop i)
  | 0, _, _ => by simp [dec, condF, outF]
  | i + 1, hi, hj => by
    have ih := dec_at i (by omega) (fun j h => hj j (by omega))
    have hon := hj i (by omega)
    have hp : (l.take i).drop (i / 4 * 4) = [] ∨ begF ((l.take i).drop (i / 4 * 4)) = true := by
      by_cases h0 : i % 4 = 0
      · left; rw [List.drop_eq_nil_iff]; simp; omega
      · right
        have := hj (i - 1) (by omega)
        simp only [onF, Bool.and_eq_true] at this
        rw [show i - 1 + 1 = i from by omega, show (i - 1) / 4 = i / 4 from by omega] at this
        exact this.2
    have hpl : ((l.take i).drop (i / 4 * 4)).length = i % 4 := by simp; omega
    have hc : condF l i = true := by simp only [onF, Bool.and_eq_true] at hon; exact hon.1
    have hb : begF ((l.take i).drop (i / 4 * 4) ++ [l.getD i 0]) = true := by
      rw [← td_step (by omega) (by omega)]
      simp only [onF, Bool.and_eq_true] at hon; exact hon.2
    have hnx := next_beg hp (by omega) (l.getD i 0)
    rw [if_pos hb] at hnx
    rw [hc] at ih
    by_cases h3 : i % 4 = 3
    · have hs : stp (((l.take i).drop (i / 4 * 4)).map val) (!true) (l.getD i 0) (outF l (i / 4)) = ([], val (l.getD i 0) == 64, outF l (i / 4) ++ grp ((((l.take i).drop (i / 4 * 4)).map val) ++ [val (l.getD i 0)]), 0) := by
        unfold stp
        rw [Bool.not_true, hnx, if_neg (by simp), if_neg (by rw [List.length_map, hpl]; omega)]
      rw [ih, dec_good (by omega) hs rfl]
      have e1 : (l.take (i + 1)).drop ((i + 1) / 4 * 4) = [] := by rw [List.drop_eq_nil_iff]; simp; omega
      have e2 : (!condF l (i + 1)) = (val (l.getD i 0) == 64) := by
        unfold condF
        rw [show (i + 1) / 4 * 4 = i + 1 from by omega, show i + 1 - 1 = i from by omega]
        have := val61 (l.getD i 0)
        by_cases h : l.getD i 0 = 61
        · rw [this.2 h, h]; simp
        · have h' : ¬ val (l.getD i 0) = 64 := fun e => h (this.1 e)
          rw [beq_eq_false_iff_ne.2 h', bne_iff_ne.2 h]; simp
      have e3 : outF l ((i + 1) / 4) = outF l (i / 4) ++ grp ((((l.take i).drop (i / 4 * 4)).map val) ++ [val (l.getD i 0)]) := by
        rw [show (i + 1) / 4 = i / 4 + 1 from by omega]
        unfold outF
        rw [List.range_succ, List.flatMap_append]
        simp only [List.flatMap_cons, List.flatMap_nil, List.append_nil]
        rw [show 4 * (i / 4) + 4 = i + 1 from by omega, show 4 * (i / 4) = i / 4 * 4 from by omega, td_step (by omega) (by omega), ← grp_beg (by simp; omega) hb, List.map_append]
        rfl
      rw [e1, e2, e3]
      rfl
    · have hs : stp (((l.take i).drop (i / 4 * 4)).map val) (!true) (l.getD i 0) (outF l (i / 4)) = ((((l.take i).drop (i / 4 * 4)).map val) ++ [val (l.getD i 0)], !true, outF l (i / 4), 0) := by
        unfold stp
        rw [Bool.not_true, hnx, if_neg (by simp), if_pos (by rw [List.length_map, hpl]; omega)]
      rw [ih, dec_good (by omega) hs rfl]
      have e1 : ((l.take (i + 1)).drop ((i + 1) / 4 * 4)).map val = (((l.take i).drop (i / 4 * 4)).map val) ++ [val (l.getD i 0)] := by
        rw [show (i + 1) / 4 = i / 4 from by omega, td_step (by omega) (by omega), List.map_append]
        rfl
      have e2 : condF l (i + 1) = true := by
        unfold condF at hc ⊢
        rw [show (i + 1) / 4 = i / 4 from by omega]; exact hc
      rw [e1, e2, show (i + 1) / 4 = i / 4 from by omega]
theorem dec_ref1 {l : List UInt8} {k : Nat} (hk : k < l.length) (hj : ∀ j, j < k → onF l j = true) (hn : ¬ onF l k = true) : dec l = ([], whyF (l.getD k 0), k) := by
  have ih := dec_at k (by omega) hj
  have hp : (l.take k).drop (k / 4 * 4) = [] ∨ begF ((l.take k).drop (k / 4 * 4)) = true := by
    by_cases h0 : k % 4 = 0
    · left; rw [List.drop_eq_nil_iff]; simp; omega
    · right
      have := hj (k - 1) (by omega)
      simp only [onF, Bool.and_eq_true] at this
      rw [show k - 1 + 1 = k from by omega, show (k - 1) / 4 = k / 4 from by omega] at this
      exact this.2
  have hpl : ((l.take k).drop (k / 4 * 4)).length = k % 4 := by simp; omega
  have hnx := next_beg hp (by omega) (l.getD k 0)
  have hx : nextF (((l.take k).drop (k / 4 * 4)).map val) (!condF l k) (val (l.getD k 0)) = whyF (l.getD k 0) := by
    by_cases hc : condF l k = true
    · rw [hc, Bool.not_true, hnx, if_neg]
      intro hb
      apply hn
      rw [onF, hc, td_step (by omega) hk, hb]; rfl
    · have hc' : condF l k = false := by simpa using hc
      rw [hc']
      unfold nextF whyF
      split
      · rfl
      · simp
  have hw : ¬ whyF (l.getD k 0) = 0 := by unfold whyF; split <;> decide
  rw [ih]
  have hs : stp (((l.take k).drop (k / 4 * 4)).map val) (!condF l k) (l.getD k 0) (outF l (k / 4)) = (((l.take k).drop (k / 4 * 4)).map val, !condF l k, outF l (k / 4), whyF (l.getD k 0)) := by
    unfold stp
    rw [hx, if_pos hw]
  exact dec_bad hk hs hw
theorem dec_ref2 {l : List UInt8} (hj : ∀ j, j < l.length → onF l j = true) (h : ¬ l.length % 4 = 0) : dec l = ([], 41, l.length) := by
  rw [dec_at l.length (Nat.le_refl _) hj, List.drop_length]
  unfold decGo
  rw [if_pos (by simp; omega)]
theorem dec_ref3 {l : List UInt8} (hj : ∀ j, j < l.length → onF l j = true) (h : l.length % 4 = 0) : dec l = (outF l (l.length / 4), 0, 0) := by
  rw [dec_at l.length (Nat.le_refl _) hj, List.drop_length]
  unfold decGo
  rw [if_neg (by simp; omega)]
end Go.Kw
