-- printed by gw.py (my own program), checked by Lean
import Derived.Test.YtadiljnfkbbmcaaDoorR5
set_option linter.unusedVariables false
set_option linter.unusedSimpArgs false
set_option maxRecDepth 100000
set_option maxHeartbeats 400000
namespace Go.Proofs.YtadiljnfkbbmcaaDoor
open Go.Kw Go.RowKit
def hitF (T : List UInt32) (R : List UInt8) (st nm sec a : List UInt8) (before : Option (List UInt8)) : Bool :=
  (a == (([0] ++ nm) ++ [0]) ++ sec) || (a == (((nm ++ [0]) ++ nm) ++ [0]) ++ sec) || (a == (nm ++ [32]) ++ dgF T R sec st) || (a == sec && match before with
    | some z => (dec z).1 == nm
    | none => false)
def befF (said : List (List UInt8)) (i : Nat) : Option (List UInt8) := if i = 0 then none else some (said.getD (i - 1) [])
def hitA (T : List UInt32) (R : List UInt8) (st nm sec : List UInt8) (said : List (List UInt8)) (i : Nat) : Bool := hitF T R st nm sec (dec (said.getD i [])).1 (befF said i)
def showsF (T : List UInt32) (R : List UInt8) (l : List Str2) (st nm : List UInt8) (said : List (List UInt8)) : Bool :=
  l.any fun u => u.1 == nm && (List.range said.length).any fun i => hitA T R st nm u.2 said i
theorem shows_of {T : List UInt32} {R : List UInt8} {l : List Str2} {st nm : List UInt8} {said : List (List UInt8)} {sec : List UInt8} (hu : (nm, sec) ∈ l) {i : Nat} (hi : i < said.length) (h : hitA T R st nm sec said i = true) : showsF T R l st nm said = true := by
  refine List.any_eq_true.2 ⟨(nm, sec), hu, ?_⟩
  simp only [beq_self_eq_true, Bool.true_and]
  exact List.any_eq_true.2 ⟨i, List.mem_range.2 hi, h⟩
theorem hit_more {T : List UInt32} {R : List UInt8} {st nm sec y : List UInt8} {said : List (List UInt8)} {i : Nat} (hi : i < said.length) : hitA T R st nm sec (said ++ [y]) i = hitA T R st nm sec said i := by
  unfold hitA befF
  have e : ∀ j, j < said.length → (said ++ [y]).getD j [] = said.getD j [] := fun j hj => by
    simp only [List.getD_eq_getElem?_getD, List.getElem?_append_left hj]
  rw [e i hi]
  by_cases h0 : i = 0
  · rw [if_pos h0, if_pos h0]
  · rw [if_neg h0, if_neg h0, e (i - 1) (by omega)]
theorem shows_more {T : List UInt32} {R : List UInt8} {l : List Str2} {st nm y : List UInt8} {said : List (List UInt8)} (h : showsF T R l st nm said = true) : showsF T R l st nm (said ++ [y]) = true := by
  obtain ⟨u, hu, h2⟩ := List.any_eq_true.1 h
  simp only [Bool.and_eq_true, beq_iff_eq] at h2
  obtain ⟨h3, h4⟩ := h2
  obtain ⟨i, hi, h5⟩ := List.any_eq_true.1 h4
  have hi' := List.mem_range.1 hi
  subst h3
  exact shows_of (sec := u.2) hu (i := i) (by simp; omega) (by rw [hit_more hi']; exact h5)
theorem pair_mem {l : List Str2} {n s : List UInt8} (h : pairF l n s = true) : (n, s) ∈ l := by
  obtain ⟨u, hu, h2⟩ := List.any_eq_true.1 h
  simp only [Bool.and_eq_true, beq_iff_eq] at h2
  obtain ⟨rfl, rfl⟩ := h2
  exact hu
theorem split_join {z : UInt8} : ∀ (l : List UInt8) (a b c : List UInt8), splitL z l = [a, b, c] → l = ((((a ++ [z]) ++ b) ++ [z]) ++ c) := by
  have one : ∀ (l a : List UInt8), splitL z l = [a] → l = a := by
    intro l
    induction l with
    | nil => intro a h; simpa [splitL] using h
    | cons x l ih =>
      intro a h
      unfold splitL at h
      split at h
      · have := splitL_ne z l; simp at h; exact absurd h.2 this
      · split at h
        · rename_i hh t e
          simp at h
          obtain ⟨h1, h2⟩ := h
          subst h2
          rw [← h1, ih hh e]
        · rename_i e; exact absurd e (splitL_ne z l)
  have two : ∀ (l a b : List UInt8), splitL z l = [a, b] → l = (a ++ [z]) ++ b := by
    intro l
    induction l with
    | nil => intro a b h; simp [splitL] at h
    | cons x l ih =>
      intro a b h
      unfold splitL at h
      split at h
      · rename_i hx; simp at h; obtain ⟨rfl, h2⟩ := h; subst hx; rw [one l b h2]; rfl
      · split at h
        · rename_i hh t e
          simp at h
          obtain ⟨h1, h2⟩ := h
          subst h2
          rw [← h1, ih hh b e]; rfl
        · rename_i e; exact absurd e (splitL_ne z l)
  intro l
  induction l with
  | nil => intro a b c h; simp [splitL] at h
  | cons x l ih =>
    intro a b c h
    unfold splitL at h
    split at h
    · rename_i hx; simp at h; obtain ⟨rfl, h2⟩ := h; subst hx; rw [two l b c h2]; rfl
    · split at h
      · rename_i hh t e
        simp at h
        obtain ⟨h1, h2⟩ := h
        subst h2
        rw [← h1, ih hh b c e]; rfl
      · rename_i e; exact absurd e (splitL_ne z l)
theorem lastK_hit {s : List UInt8} {c : UInt8} : ∀ (k : Nat) {m : Nat}, lastK s c k = (m : Int) → m < k ∧ s.getD m 0 = c
  | 0, m, h => by exfalso; simp only [lastK] at h; omega
  | k + 1, m, h => by
    unfold lastK at h
    split at h
    · rename_i hk
      have : k = m := by omega
      subst this; exact ⟨by omega, hk⟩
    · have := lastK_hit k h; exact ⟨by omega, this.2⟩
theorem cut_at {s : List UInt8} {c : UInt8} {m : Nat} (hm : m < s.length) (h : s.getD m 0 = c) : s = (s.take m ++ [c]) ++ s.drop (m + 1) := by
  have e : s[m] = c := by simpa [List.getD_eq_getElem?_getD, List.getElem?_eq_getElem hm] using h
  rw [← e, List.append_assoc, List.singleton_append, ← List.drop_eq_getElem_cons hm, List.take_append_drop]
theorem last_at (said : List (List UInt8)) (y : List UInt8) : (said ++ [y]).getD said.length [] = y := by simp [List.getD_eq_getElem?_getD]
/-- What stands behind any lines. -/
def InvS (T : List UInt32) (R : List UInt8) (l : List Str2) (st : List UInt8) (n : Nat) (s : Stp) (nm : List UInt8) (said : List (List UInt8)) : Prop :=
  (n = 1 ∧ (s = .plain ∨ s = .login ∨ s = .cram st ∨ ∃ x, s = .word x ∧ ∃ y pre, said = pre ++ [y] ∧ (dec y).1 = x)) ∨ (n = 2 ∧ showsF T R l st nm said = true) ∨ n = 3 ∨ n = 4
theorem inv_read {T : List UInt32} {R : List UInt8} {l : List Str2} {st nm nm' y : List UInt8} {s s' : Stp} {n' : Nat} {said : List (List UInt8)} (h : InvS T R l st 1 s nm said) (hr : readF T R l 1 s nm y = (0, n', s', nm')) :
    InvS T R l st n' s' nm' (said ++ [y]) := by
  have h1 : s = .plain ∨ s = .login ∨ s = .cram st ∨ ∃ x, s = .word x ∧ ∃ y pre, said = pre ++ [y] ∧ (dec y).1 = x := by
    rcases h with h | h | h | h
    · exact h.2
    · exact absurd h.1 (by decide)
    · exact absurd h (by decide)
    · exact absurd h (by decide)
  unfold readF at hr
  split at hr
  · simp only [Prod.mk.injEq] at hr; exact absurd hr.1 (by decide)
  split at hr
  · rename_i hd; simp only [Prod.mk.injEq] at hr; exact absurd hr.1 hd
  rename_i hd0 hd
  have hlen : said.length < (said ++ [y]).length := by simp
  rcases h1 with rfl | rfl | rfl | ⟨x, rfl, z, pre, hs, hz⟩
  · simp only [takeF] at hr hd
    rcases Bool.eq_false_or_eq_true ((plF l (dec y).1).2.1) with hright | hright
    · simp only [hright, if_true] at hr
      simp only [Prod.mk.injEq] at hr
      obtain ⟨_, rfl, _, hn⟩ := hr
      refine .inr (.inl ⟨rfl, ?_⟩)
      unfold plF at hright hn hd
      split at hright
      · rename_i h3
        rw [if_pos h3] at hn
        simp only at hn hright
        obtain ⟨a, b, c, habc⟩ : ∃ a b c, splitL 0 (dec y).1 = [a, b, c] := by
          match hsp : splitL 0 (dec y).1, h3 with
          | [a, b, c], _ => exact ⟨a, b, c, rfl⟩
          | [], h => exact absurd h (by simp)
          | [_], h => exact absurd h (by simp)
          | [_, _], h => exact absurd h (by simp)
          | _ :: _ :: _ :: _ :: _, h => exact absurd h (by simp)
        rw [habc] at hn hright
        simp only [List.getD_cons_zero, List.getD_cons_succ, Bool.and_eq_true, Bool.or_eq_true, decide_eq_true_eq] at hn hright
        subst hn
        refine shows_of (pair_mem hright.2) hlen ?_
        unfold hitA
        rw [last_at]
        have hj := split_join _ _ _ _ habc
        unfold hitF
        rcases hright.1 with h0 | h0
        · subst h0
          rw [hj]; simp
        · subst h0
          rw [hj]; simp
      · simp at hright
    · simp only [hright, if_false, Bool.false_eq_true] at hr
      simp only [Prod.mk.injEq] at hr
      exact .inr (.inr (.inl hr.2.1.symm))
  · simp only [takeF, Prod.mk.injEq] at hr
    obtain ⟨_, rfl, rfl, _⟩ := hr
    exact .inl ⟨rfl, .inr (.inr (.inr ⟨_, rfl, y, said, rfl, rfl⟩))⟩
  · simp only [takeF] at hr hd
    rcases Bool.eq_false_or_eq_true ((crF T R l st (dec y).1).2.1) with hright | hright
    · simp only [hright, if_true] at hr
      simp only [Prod.mk.injEq] at hr
      obtain ⟨_, rfl, _, hn⟩ := hr
      refine .inr (.inl ⟨rfl, ?_⟩)
      unfold crF at hright hn hd
      split at hright
      · simp at hright
      · rename_i hk
        rw [if_neg hk] at hn
        simp only at hn hright
        obtain ⟨p, hp⟩ : ∃ p : Nat, lastK (dec y).1 32 (dec y).1.length = (p : Int) := ⟨(lastK (dec y).1 32 (dec y).1.length).toNat, by omega⟩
        rw [hp, Int.toNat_natCast] at hn hright
        obtain ⟨hp1, hp2⟩ := lastK_hit _ hp
        obtain ⟨u, hu, h2⟩ := List.any_eq_true.1 hright
        simp only [Bool.and_eq_true, beq_iff_eq] at h2
        subst hn
        have hu' : ((dec y).1.take p, u.2) ∈ l := by rw [← h2.1]; exact hu
        refine shows_of hu' hlen ?_
        unfold hitA
        rw [last_at]
        unfold hitF
        have := cut_at hp1 hp2
        rw [← h2.2] at this
        rw [beq_iff_eq.2 this]
        simp
    · simp only [hright, if_false, Bool.false_eq_true] at hr
      simp only [Prod.mk.injEq] at hr
      exact .inr (.inr (.inl hr.2.1.symm))
  · simp only [takeF] at hr hd
    rcases Bool.eq_false_or_eq_true (pairF l x (dec y).1) with hright | hright
    · simp only [hright, if_true] at hr
      simp only [Prod.mk.injEq] at hr
      obtain ⟨_, rfl, _, hn⟩ := hr
      refine .inr (.inl ⟨rfl, ?_⟩)
      subst hn
      refine shows_of (pair_mem hright) hlen ?_
      have hb : befF (said ++ [y]) said.length = some z := by
        unfold befF
        rw [hs, if_neg (by simp)]
        simp [List.getD_eq_getElem?_getD]
      unfold hitA hitF
      rw [last_at, hb]
      simp [hz]
    · simp only [hright, if_false, Bool.false_eq_true] at hr
      simp only [Prod.mk.injEq] at hr
      exact .inr (.inr (.inl hr.2.1.symm))
theorem read_err {T : List UInt32} {R : List UInt8} {l : List Str2} {s : Stp} {nm y : List UInt8} {n : Nat} (h : ¬ (readF T R l n s nm y).1 = 0) : (readF T R l n s nm y).1 = 221 := by
  unfold readF at h ⊢
  split
  · rfl
  · rename_i h1
    split
    · rename_i h2
      cases s with
      | plain => simp only [takeF] at h2 ⊢; unfold plF at h2 ⊢; split <;> simp_all
      | login => simp [takeF] at h2
      | word x => simp [takeF] at h2
      | cram st => simp only [takeF] at h2 ⊢; unfold crF at h2 ⊢; split <;> simp_all
    · rename_i h2
      rw [if_neg h1, if_neg h2] at h
      split at h
      · exact absurd rfl h
      · split at h <;> exact absurd rfl h

def saidF (y : List UInt8) (has : Bool) : List (List UInt8) := if has = true then [if y = [61] then [] else y] else []
theorem plc0 {m : List UInt8} (h : plcF m = 0) : m.map up = [80, 76, 65, 73, 78] := by
  unfold plcF at h
  split at h
  · assumption
  · split at h <;> (try split at h) <;> exact absurd h (by decide)
theorem plc1 {m : List UInt8} (h : plcF m = 1) : m.map up = [76, 79, 71, 73, 78] := by
  unfold plcF at h
  split at h
  · exact absurd h (by decide)
  · split at h
    · assumption
    · split at h <;> exact absurd h (by decide)
theorem plc2 {m : List UInt8} (h : plcF m = 2) : m.map up = [67, 82, 65, 77, 45, 77, 68, 53] := by
  unfold plcF at h
  split at h
  · exact absurd h (by decide)
  · split at h
    · exact absurd h (by decide)
    · split at h
      · assumption
      · exact absurd h (by decide)
theorem plcN {m : List UInt8} (h : plcF m = -1) : ¬ m.map up = [80, 76, 65, 73, 78] ∧ ¬ m.map up = [76, 79, 71, 73, 78] ∧ ¬ m.map up = [67, 82, 65, 77, 45, 77, 68, 53] := by
  unfold plcF at h
  split at h
  · exact absurd h (by decide)
  · rename_i h1
    split at h
    · exact absurd h (by decide)
    · rename_i h2
      split at h
      · exact absurd h (by decide)
      · rename_i h3; exact ⟨h1, h2, h3⟩
theorem readF_of {T : List UInt32} {R : List UInt8} {l : List Str2} {n : Nat} {s : Stp} {nm y : List UInt8} {o : Option Stp} {a : List UInt8} {r : Bool} {e : Nat} (ht : takeF T R l s (dec y).1 = (o, a, r, e)) :
    readF T R l n s nm y = if (dec y).2.1 ≠ 0 then (221, n, s, nm) else if e ≠ 0 then (e, n, s, nm) else match (generalizing := false) o with
      | some s' => (0, n, s', nm)
      | none => if r = true then (0, 2, s, a) else (0, 3, s, nm) := by
  unfold readF
  generalize takeF T R l s (dec y).1 = t at ht ⊢
  subst ht
  cases o <;> rfl
theorem rd_plain (T : List UInt32) (R : List UInt8) (l : List Str2) (y : List UInt8) : (readF T R l 1 .plain [] y).1 = 0 ↔ ((dec y).2.1 = 0 ∧ cntF (dec y).1 0 = 2) := by
  have hs := split_len 0 (dec y).1
  generalize hp : plF l (dec y).1 = p
  obtain ⟨a, r, e⟩ := p
  rw [readF_of (o := none) (a := a) (r := r) (e := e) (by simp only [takeF, hp])]
  by_cases h1 : (dec y).2.1 = 0
  · rw [if_neg (by simpa using h1)]
    by_cases h2 : cntF (dec y).1 0 = 2
    · have he : e = 0 := by
        unfold plF at hp
        rw [if_pos (by omega)] at hp
        simp only [Prod.mk.injEq] at hp
        exact hp.2.2.symm
      subst he
      simp only [ne_eq, not_true_eq_false, if_false, h1, h2, and_self, iff_true]
      split <;> rfl
    · have he : e = 221 := by
        unfold plF at hp
        rw [if_neg (by omega)] at hp
        simp only [Prod.mk.injEq] at hp
        exact hp.2.2.symm
      subst he
      simp [h2]
  · rw [if_pos h1]; simp [h1]
theorem rd_login (T : List UInt32) (R : List UInt8) (l : List Str2) (y : List UInt8) : (readF T R l 1 .login [] y).1 = 0 ↔ (dec y).2.1 = 0 := by
  unfold readF
  by_cases h1 : (dec y).2.1 = 0
  · rw [if_neg (by simpa using h1)]
    simp [takeF, h1]
  · rw [if_pos h1]; simp [h1]
theorem rd_fits {T : List UInt32} {R : List UInt8} {l : List Str2} {n : Nat} {s : Stp} {nm y : List UInt8} (hs : s.fits) (hy : y.length ≤ 17179869184) : (readF T R l n s nm y).2.2.1.fits := by
  generalize ht : takeF T R l s (dec y).1 = t
  obtain ⟨o, a, r, e⟩ := t
  rw [readF_of ht]
  split
  · exact hs
  · split
    · exact hs
    · cases o with
      | none => simp only; split <;> exact hs
      | some s' =>
        cases s with
        | login =>
          have := dec_len y
          simp only [takeF, Prod.mk.injEq, Option.some.injEq] at ht
          show s'.fits
          rw [← ht.1]
          show (dec y).1.length ≤ 68719476736
          omega
        | plain => simp [takeF] at ht
        | word x => simp [takeF] at ht
        | cram st => simp [takeF] at ht
theorem beg_if (y : List UInt8) (hy : y.length ≤ 16777216) : (if y = [61] then [] else y).length ≤ 16777216 := by split <;> (try simp) <;> omega

def smallS (s : Stp) (nm : List UInt8) : Prop := nm.length ≤ 50331648 ∧ match s with
  | .word x => x.length ≤ 50331648
  | .cram x => x.length ≤ 50331648
  | _ => True
theorem small_fits {s : Stp} {nm : List UInt8} (h : smallS s nm) : s.fits := by
  obtain ⟨_, h⟩ := h
  cases s with
  | plain => trivial
  | login => trivial
  | word x => show x.length ≤ 68719476736; have h : x.length ≤ 50331648 := h; omega
  | cram x => show x.length ≤ 68719476736; have h : x.length ≤ 50331648 := h; omega
theorem split_le (z : UInt8) : ∀ (l p : List UInt8), p ∈ splitL z l → p.length ≤ l.length
  | [], p, h => by simp [splitL] at h; simp [h]
  | c :: l, p, h => by
    unfold splitL at h
    split at h
    · rcases List.mem_cons.1 h with rfl | h
      · simp
      · have := split_le z l p h; simp only [List.length_cons]; omega
    · split at h
      · rename_i hh t e
        rcases List.mem_cons.1 h with rfl | h
        · have := split_le z l hh (by rw [e]; simp); simp only [List.length_cons]; omega
        · have := split_le z l p (by rw [e]; exact List.mem_cons_of_mem _ h); simp only [List.length_cons]; omega
      · rename_i e; exact absurd e (splitL_ne z l)
theorem small_read {T : List UInt32} {R : List UInt8} {l : List Str2} {n : Nat} {s : Stp} {nm y : List UInt8} (h : smallS s nm) (hy : y.length ≤ 16777216) : smallS (readF T R l n s nm y).2.2.1 (readF T R l n s nm y).2.2.2 := by
  have hd := dec_len y
  generalize ht : takeF T R l s (dec y).1 = t
  obtain ⟨o, a, r, e⟩ := t
  rw [readF_of ht]
  obtain ⟨h1, h2⟩ := h
  have ha : a.length ≤ 50331648 := by
    cases s with
    | plain =>
      simp only [takeF, Prod.mk.injEq] at ht
      rw [← ht.2.1]
      unfold plF
      split
      · rename_i h3
        have hm : (splitL 0 (dec y).1).getD 1 [] ∈ splitL 0 (dec y).1 := by
          simp only [List.getD_eq_getElem?_getD, List.getElem?_eq_getElem (show 1 < (splitL 0 (dec y).1).length by omega), Option.getD_some]; exact List.getElem_mem _
        have := split_le 0 _ _ hm
        show ((splitL 0 (dec y).1).getD 1 []).length ≤ 50331648
        omega
      · simp
    | login => simp only [takeF, Prod.mk.injEq] at ht; rw [← ht.2.1]; simp
    | word x => simp only [takeF, Prod.mk.injEq] at ht; rw [← ht.2.1]; exact h2
    | cram st =>
      simp only [takeF, Prod.mk.injEq] at ht
      rw [← ht.2.1]
      unfold crF
      split
      · simp
      · show (List.take _ _).length ≤ 50331648
        rw [List.length_take]; omega
  split
  · exact ⟨h1, h2⟩
  · split
    · exact ⟨h1, h2⟩
    · cases o with
      | none => simp only; split; exact ⟨ha, h2⟩; exact ⟨h1, h2⟩
      | some s' =>
        cases s with
        | login =>
          simp only [takeF, Prod.mk.injEq, Option.some.injEq] at ht
          show smallS s' nm
          rw [← ht.1]
          refine ⟨h1, ?_⟩
          show (dec y).1.length ≤ 50331648
          omega
        | plain => simp [takeF] at ht
        | word x => simp [takeF] at ht
        | cram st => simp [takeF] at ht


theorem c_BeginErr {w0 w : World} {F : List Chunk} (T : List UInt32) (hT : T.length = 64) (gT : Gl w0 0 (u32s T)) (R : List UInt8) (hR : R.length = 16) (gR : Gl w0 1 (bs R)) (l : List Str2) (hl : l.length ≤ 1099511627776) (hU : ∀ u ∈ l, u.1.length ≤ 549755813888 ∧ u.2.length ≤ 549755813888) (m st y : List UInt8) (has : Bool) (hml : m.length ≤ 16777216) (hst : st.length ≤ 16777216) (hy : y.length ≤ 16777216) {e : Nat} (he : begE m y has = e) (hne : ¬ e = 0) {B : Option Addr} {d : Nat} (RU : Rd w0 F (.slice B l.length d) 2 l.length (us l)) (H : Sep w0 w F) : Ret Tryd.prog 7 #[.slice B l.length d, S m, S st, S y, .bool has] w (fun v w' => v = .tuple #[.pointer none, In e] ∧ Sep w0 w' F) := by
  subst he
  rcases plc_cases m with h | h | h | h
  · cases has with
    | false => exact absurd (by simp [begE, h]) hne
    | true =>
      have hq : ¬ (readF T R l 1 Stp.plain [] (if y = [61] then [] else y)).1 = 0 := by
        intro h0
        have h1 := (rd_plain T R l _).1 h0
        exact hne (by simp only [begE, h]; rw [if_neg (by decide), if_neg (by decide), if_pos ⟨h1.1, by decide, by simp [rdbF, h1.2]⟩])
      have e1 : begE m y true = 221 := by
        unfold begE at hne ⊢
        rw [h] at hne ⊢
        rw [if_neg (by decide), if_neg (by decide)] at hne ⊢
        by_cases h2 : (dec (if y = [61] then [] else y)).2.1 = 0 ∧ ¬ (0 : Int) = 2 ∧ rdbF (0 : Int).toNat (dec (if y = [61] then [] else y)).1 = true
        · rw [if_pos h2] at hne; exact absurd rfl hne
        · rw [if_neg h2]
      refine (c_Begin1_plain_no T hT gT R hR gR l hl hU m st y (by omega) (by omega) (by omega) (plc0 h) RU H hq).mono fun v w' h2 => ?_
      rw [read_err hq] at h2
      rw [e1]; exact h2
  · cases has with
    | false => exact absurd (by simp [begE, h]) hne
    | true =>
      have hq : ¬ (readF T R l 1 Stp.login [] (if y = [61] then [] else y)).1 = 0 := by
        intro h0
        have h1 := (rd_login T R l _).1 h0
        exact hne (by simp only [begE, h]; rw [if_neg (by decide), if_neg (by decide), if_pos ⟨h1, by decide, by simp [rdbF]⟩])
      have e1 : begE m y true = 221 := by
        unfold begE at hne ⊢
        rw [h] at hne ⊢
        rw [if_neg (by decide), if_neg (by decide)] at hne ⊢
        by_cases h2 : (dec (if y = [61] then [] else y)).2.1 = 0 ∧ ¬ (1 : Int) = 2 ∧ rdbF (1 : Int).toNat (dec (if y = [61] then [] else y)).1 = true
        · rw [if_pos h2] at hne; exact absurd rfl hne
        · rw [if_neg h2]
      refine (c_Begin1_login_no T hT gT R hR gR l hl hU m st y (by omega) (by omega) (by omega) (plc1 h) RU H hq).mono fun v w' h2 => ?_
      rw [read_err hq] at h2
      rw [e1]; exact h2
  · cases has with
    | false => exact absurd (by simp [begE, h]) hne
    | true =>
      have e1 : begE m y true = 221 := by simp [begE, h]
      rw [e1]
      exact c_Begin1_cram T hT gT R hR gR l hl hU m st y (by omega) (by omega) (by omega) (plc2 h) RU H
  · have e1 : begE m y has = 220 := by simp [begE, h]
    rw [e1]
    exact c_Begin_none has T hT gT R hR gR l hl hU m st y (by omega) (by omega) (by omega) (plcN h) RU H
theorem c_BeginOk {w0 w : World} {F : List Chunk} (T : List UInt32) (hT : T.length = 64) (gT : Gl w0 0 (u32s T)) (R : List UInt8) (hR : R.length = 16) (gR : Gl w0 1 (bs R)) (l : List Str2) (hl : l.length ≤ 1099511627776) (hU : ∀ u ∈ l, u.1.length ≤ 549755813888 ∧ u.2.length ≤ 549755813888) (m st y : List UInt8) (has : Bool) (hml : m.length ≤ 16777216) (hst : st.length ≤ 16777216) (hy : y.length ≤ 16777216) (he : begE m y has = 0) {B : Option Addr} {d : Nat} (RU : Rd w0 F (.slice B l.length d) 2 l.length (us l)) (H : Sep w0 w F) : Ret Tryd.prog 7 #[.slice B l.length d, S m, S st, S y, .bool has] w (fun v w' => ∃ (n : Nat) (s : Stp) (nm : List UInt8) (g c : Nat) (A : Option Addr), smallS s nm ∧ InvS T R l st n s nm (saidF y has) ∧ v = .tuple #[Pt g 0, In 0] ∧ Sep w0 w' (.blk g 58 [.slice A l.length c, In n, s.v, S nm] :: .row (.slice A l.length c) 40 2 l.length (us l) :: F)) := by
  rcases plc_cases m with h | h | h | h
  · cases has with
    | false => exact (c_Begin_plain T hT gT R hR gR l hl hU m st y (by omega) (by omega) (by omega) (plc0 h) RU H).mono fun v w' ⟨g, A, c, hv, H⟩ => ⟨1, .plain, [], g, c, A, ⟨by simp, trivial⟩, .inl ⟨rfl, .inl rfl⟩, hv, H⟩
    | true =>
      have hb := beg_if y hy
      have hq : (readF T R l 1 Stp.plain [] (if y = [61] then [] else y)).1 = 0 := by
        unfold begE at he
        rw [h, if_neg (by decide), if_neg (by decide)] at he
        by_cases h2 : (dec (if y = [61] then [] else y)).2.1 = 0 ∧ ¬ (0 : Int) = 2 ∧ rdbF (0 : Int).toNat (dec (if y = [61] then [] else y)).1 = true
        · exact (rd_plain T R l _).2 ⟨h2.1, by have := h2.2.2; simpa [rdbF] using this⟩
        · rw [if_neg h2] at he; exact absurd he (by decide)
      have hf := small_read (T := T) (R := R) (l := l) (n := 1) (nm := []) (s := .plain) (y := if y = [61] then [] else y) ⟨by simp, trivial⟩ hb
      generalize hr : readF T R l 1 Stp.plain [] (if y = [61] then [] else y) = r at hq hf
      obtain ⟨e, n, s, nm⟩ := r
      simp only at hq hf
      subst hq
      exact (c_Begin1_plain_ok T hT gT R hR gR l hl hU m st y (by omega) (by omega) (by omega) (plc0 h) RU H hr).mono fun v w' ⟨g, A, c, hv, H⟩ => ⟨n, s, nm, g, c, A, hf, inv_read (said := []) (.inl ⟨rfl, .inl rfl⟩) hr, hv, H⟩
  · cases has with
    | false => exact (c_Begin_login T hT gT R hR gR l hl hU m st y (by omega) (by omega) (by omega) (plc1 h) RU H).mono fun v w' ⟨g, A, c, hv, H⟩ => ⟨1, .login, [], g, c, A, ⟨by simp, trivial⟩, .inl ⟨rfl, .inr (.inl rfl)⟩, hv, H⟩
    | true =>
      have hb := beg_if y hy
      have hq : (readF T R l 1 Stp.login [] (if y = [61] then [] else y)).1 = 0 := by
        unfold begE at he
        rw [h, if_neg (by decide), if_neg (by decide)] at he
        by_cases h2 : (dec (if y = [61] then [] else y)).2.1 = 0 ∧ ¬ (1 : Int) = 2 ∧ rdbF (1 : Int).toNat (dec (if y = [61] then [] else y)).1 = true
        · exact (rd_login T R l _).2 h2.1
        · rw [if_neg h2] at he; exact absurd he (by decide)
      have hf := small_read (T := T) (R := R) (l := l) (n := 1) (nm := []) (s := .login) (y := if y = [61] then [] else y) ⟨by simp, trivial⟩ hb
      generalize hr : readF T R l 1 Stp.login [] (if y = [61] then [] else y) = r at hq hf
      obtain ⟨e, n, s, nm⟩ := r
      simp only at hq hf
      subst hq
      exact (c_Begin1_login_ok T hT gT R hR gR l hl hU m st y (by omega) (by omega) (by omega) (plc1 h) RU H hr).mono fun v w' ⟨g, A, c, hv, H⟩ => ⟨n, s, nm, g, c, A, hf, inv_read (said := []) (.inl ⟨rfl, .inr (.inl rfl)⟩) hr, hv, H⟩
  · cases has with
    | false => exact (c_Begin_cram T hT gT R hR gR l hl hU m st y (by omega) (by omega) (by omega) (plc2 h) RU H).mono fun v w' ⟨g, A, c, hv, H⟩ => ⟨1, .cram st, [], g, c, A, ⟨by simp, (show st.length ≤ 50331648 from by omega)⟩, .inl ⟨rfl, .inr (.inr (.inl rfl))⟩, hv, H⟩
    | true => exact absurd he (by simp [begE, h])
  · exact absurd he (by simp [begE, h])
end Go.Proofs.YtadiljnfkbbmcaaDoor
