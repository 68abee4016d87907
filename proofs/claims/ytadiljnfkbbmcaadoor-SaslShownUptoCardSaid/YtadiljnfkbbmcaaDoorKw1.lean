/-
  A SMALL CALCULUS OVER THE KIT's 'Code.wp': temporaries as a function, straight stretches of operations run by the kernel, loops with a parameter, regions that draw.
  It says nothing of any program. My own text.
-/
import Derived.WalkKit
import Derived.OrdersHeld
import Derived.KernelRfl
import Derived.Deep.Draws
import Derived.Below
set_option linter.unusedVariables false
namespace Go.Kw
open Go.RowKit

abbrev Env := Nat → Value
abbrev S (l : List UInt8) : Value := .string ⟨l.toArray⟩
abbrev In (n : Nat) : Value := .int .i64 (n : Int)
abbrev By (b : UInt8) : Value := .int .u8 (b.toNat : Int)
abbrev U (b : UInt32) : Value := .int .u32 (b.toNat : Int)
abbrev Pt (g off : Nat) : Value := .pointer (some ⟨g, off, none⟩)
def upd (ρ : Env) (d : Nat) (v : Value) : Env := fun t => if t = d then v else ρ t
def upds (β : Env) : List (Nat × Value) → Env
  | [] => β
  | (d, v) :: L => upd (upds β L) d v
def put (ρ : Env) (o : Option Nat) (v : Value) : Env :=
  match o with
  | some d => upd ρ d v
  | none => ρ
def ev (ρ : Env) : Operand → Value
  | .tmp t => ρ t
  | .const v => v
  | .global g => .pointer (some ⟨g, 0, none⟩)
  | .func f => .func (.func f) #[] #[]
def okDst (n : Nat) : Option Nat → Bool
  | some d => Nat.blt d n
  | none => true

structure St (n : Nat) (ρ : Env) (a : Act) : Prop where
  size : a.tmps.size = n
  defers : a.defers = []
  get : ∀ t, a.tmps.getD t undef = ρ t

theorem St.eval {n : Nat} {ρ : Env} {a : Act} (h : St n ρ a) : a.eval = ev ρ := by
  funext x
  cases x <;> simp [Act.eval, ev]
  simpa using h.get _

theorem St.put {n : Nat} {ρ : Env} {a : Act} (h : St n ρ a) {o : Option Nat} (ho : okDst n o = true) (v : Value) : St n (put ρ o v) (a.put o v) := by
  cases o with
  | none => exact h
  | some d =>
    have hd : d < a.tmps.size := by rw [h.size]; simpa [okDst, Nat.blt_eq] using ho
    refine ⟨by simp [Act.put, h.size], h.defers, fun t => ?_⟩
    simp only [Act.put, Kw.put, upd]
    by_cases ht : t = d
    · subst ht
      simp [hd]
    · have := h.get t
      simp only [ht, if_false, ← this]
      simp [Array.getElem?_setIfInBounds_ne (Ne.symm ht)]

abbrev PQ := Exit → Env → World → Prop
def lift (n : Nat) (Q : PQ) : Exit → Act → World → Prop := fun e a w => ∃ ρ, St n ρ a ∧ Q e ρ w
def G (P : Program) (n : Nat) (c : Code) (ρ : Env) (w : World) (Q : PQ) : Prop := ∀ a, St n ρ a → c.wp P (lift n Q) a w

def thn (K : Env → World → Prop) (Q : PQ) : PQ
  | .normal, ρ, w => K ρ w
  | .exit i, ρ, w => Q (.exit i) ρ w
  | .goto l, ρ, w => Q (.goto l) ρ w
  | .ret, ρ, w => Q .ret ρ w
  | .panic c, ρ, w => Q (.panic c) ρ w
  | .outgrown, ρ, w => Q .outgrown ρ w
def inb (id : Nat) (Q : PQ) : PQ
  | .normal, ρ, w => Q .normal ρ w
  | .exit i, ρ, w => if i = id then Q .normal ρ w else Q (.exit i) ρ w
  | .goto l, ρ, w => Q (.goto l) ρ w
  | .ret, ρ, w => Q .ret ρ w
  | .panic c, ρ, w => Q (.panic c) ρ w
  | .outgrown, ρ, w => Q .outgrown ρ w

section
variable {P : Program} {n : Nat} {ρ : Env} {w : World} {Q : PQ}

theorem G_mono {c : Code} {Q' : PQ} (hq : ∀ e ρ w, Q e ρ w → Q' e ρ w) (h : G P n c ρ w Q) : G P n c ρ w Q' := fun a ha =>
  wp_mono (h a ha) fun _ _ _ ⟨ρ', h1, h2⟩ => ⟨ρ', h1, hq _ _ _ h2⟩

theorem G_seq {x y : Code} (h : G P n x ρ w (thn (fun ρ w => G P n y ρ w Q) Q)) : G P n (.seq x y) ρ w Q := fun a ha =>
  wp_seq (wp_mono (h a ha) fun e a' w' ⟨ρ', h1, h2⟩ => by
    cases e with
    | normal => exact h2 a' h1
    | exit i => exact ⟨ρ', h1, h2⟩
    | goto l => exact ⟨ρ', h1, h2⟩
    | ret => exact ⟨ρ', h1, h2⟩
    | panic c => exact ⟨ρ', h1, h2⟩
    | outgrown => exact ⟨ρ', h1, h2⟩)
theorem G_block {id : Nat} {c : Code} (h : G P n c ρ w (inb id Q)) : G P n (.block id c) ρ w Q := fun a ha =>
  wp_block (wp_mono (h a ha) fun e a' w' ⟨ρ', h1, h2⟩ => by
    cases e with
    | normal => exact ⟨ρ', h1, h2⟩
    | exit i =>
      by_cases hi : i = id
      · simp only [inb, hi, if_true] at h2
        simp only [Exit.inBlock, hi, if_true]
        exact ⟨ρ', h1, h2⟩
      · simp only [inb, hi, if_false] at h2
        simp only [Exit.inBlock, hi, if_false]
        exact ⟨ρ', h1, h2⟩
    | goto l => exact ⟨ρ', h1, h2⟩
    | ret => exact ⟨ρ', h1, h2⟩
    | panic c => exact ⟨ρ', h1, h2⟩
    | outgrown => exact ⟨ρ', h1, h2⟩)
theorem G_skip (h : Q .normal ρ w) : G P n .skip ρ w Q := fun a ha => wp_skip ⟨ρ, ha, h⟩
theorem G_label {l : Nat} (h : Q .normal ρ w) : G P n (.label l) ρ w Q := fun a ha => wp_label ⟨ρ, ha, h⟩
theorem G_exit {i : Nat} (h : Q (.exit i) ρ w) : G P n (.exit i) ρ w Q := fun a ha => wp_exit ⟨ρ, ha, h⟩
theorem G_ret (h : Q .ret ρ w) : G P n .ret ρ w Q := fun a ha => wp_ret ⟨ρ, ha, h⟩
theorem G_cond {c : Operand} {x y : Code} (b : Bool) (hc : ev ρ c = .bool b) (ht : b = true → G P n x ρ w Q) (hf : b = false → G P n y ρ w Q) : G P n (.cond c x y) ρ w Q := fun a ha => by
  have he : a.eval c = .bool b := by rw [ha.eval]; exact hc
  exact wp_cond_split he (fun h => ht h a ha) (fun h => hf h a ha)
theorem G_true {c : Operand} {x y : Code} (hc : ev ρ c = .bool true) (h : G P n x ρ w Q) : G P n (.cond c x y) ρ w Q := G_cond true hc (fun _ => h) (fun h => by cases h)
theorem G_false {c : Operand} {x y : Code} (hc : ev ρ c = .bool false) (h : G P n y ρ w Q) : G P n (.cond c x y) ρ w Q := G_cond false hc (fun h => by cases h) (fun _ => h)

theorem thn_normal {K : Env → World → Prop} (h : K ρ w) : thn K Q .normal ρ w := h
theorem thn_exit {K : Env → World → Prop} {i : Nat} (h : Q (.exit i) ρ w) : thn K Q (.exit i) ρ w := h
theorem thn_ret {K : Env → World → Prop} (h : Q .ret ρ w) : thn K Q .ret ρ w := h
theorem inb_normal {id : Nat} (h : Q .normal ρ w) : inb id Q .normal ρ w := h
theorem inb_ret {id : Nat} (h : Q .ret ρ w) : inb id Q .ret ρ w := h
/-! exits through what stands around -/
theorem inb_hit {id : Nat} (h : Q .normal ρ w) : inb id Q (.exit id) ρ w := by simpa [inb] using h
theorem inb_miss {id i : Nat} (hi : Nat.beq i id = false) (h : Q (.exit i) ρ w) : inb id Q (.exit i) ρ w := by
  have : i ≠ id := Nat.ne_of_beq_eq_false hi
  simpa [inb, this] using h

/-! ### Agreement: the temporaries that live on -/
def Agr (ρ : Env) (L : List (Nat × Value)) : Prop := ∀ p ∈ L, ρ p.1 = p.2
theorem upds_self : ∀ (L : List (Nat × Value)), Agr ρ L → upds ρ L = ρ
  | [], _ => rfl
  | (d, v) :: L, h => by
    have ih := upds_self L fun p hp => h p (.tail _ hp)
    funext t
    simp only [upds, upd, ih]
    split
    · rename_i ht
      subst ht
      exact (h (t, v) (.head _)).symm
    · rfl
theorem Agr_nil : Agr ρ [] := fun _ h => by cases h
theorem Agr_cons {d : Nat} {v : Value} {L : List (Nat × Value)} (h : ρ d = v) (hL : Agr ρ L) : Agr ρ ((d, v) :: L) := fun p hp => by
  cases hp with
  | head => exact h
  | tail _ hp => exact hL p hp
theorem Agr_of_keys {L : List (Nat × Value)} (h : L.map (fun p => ρ p.1) = L.map (·.2)) : Agr ρ L := by
  intro p hp
  exact (List.map_inj_left.1 h) p hp

theorem G_forget {c : Code} (L : List (Nat × Value)) (h : L.map (fun p => ρ p.1) = L.map (·.2)) (k : ∀ β, G P n c (upds β L) w Q) : G P n c ρ w Q := by
  rw [← upds_self L (Agr_of_keys h)]
  exact k ρ

/-! ### Loops -/
theorem exists_least {p : Nat → Prop} (h : ∃ k, p k) : ∃ k, p k ∧ ∀ j, p j → k ≤ j := by
  obtain ⟨k, hk⟩ := h
  induction k using Nat.strongRecOn with
  | _ k ih =>
    by_cases hx : ∃ j, j < k ∧ p j
    · obtain ⟨j, hj, hp⟩ := hx
      exact ih j hj hp
    · exact ⟨k, hk, fun j hj => Nat.le_of_not_lt fun hlt => hx ⟨j, hlt, hj⟩⟩
/-- A loop with a parameter 'x': what the temporaries hold (L x), what holds of the world (Φ x), what falls (m x). -/
theorem G_loop {X : Type} {c : Code} (L : X → List (Nat × Value)) (Φ : X → World → Prop) (m : X → Nat) (x0 : X)
    (h0 : (L x0).map (fun p => ρ p.1) = (L x0).map (·.2)) (hΦ : Φ x0 w)
    (round : ∀ (x : X) (β : Env) (w : World), Φ x w → G P n c (upds β (L x)) w (thn (fun ρ' w' => ∃ x', Agr ρ' (L x') ∧ Φ x' w' ∧ m x' < m x) Q)) :
    G P n (.loop c) ρ w Q := by
  intro a ha
  let I : Nat → Act → World → Prop := fun k a w => ∃ x ρ, St n ρ a ∧ Agr ρ (L x) ∧ Φ x w ∧ m x = k
  let Inv : Act → World → Prop := fun a w => ∃ k, I k a w
  have hμ : ∃ μ : Act → World → Nat, (∀ a w, Inv a w → I (μ a w) a w) ∧ (∀ k a w, I k a w → μ a w ≤ k) := by
    classical
    refine ⟨fun a w => if h : Inv a w then Classical.choose (exists_least h) else 0, fun a w h => ?_, fun k a w hk => ?_⟩
    · simp only [h, dite_true]
      exact (Classical.choose_spec (exists_least h)).1
    · have h : Inv a w := ⟨k, hk⟩
      simp only [h, dite_true]
      exact (Classical.choose_spec (exists_least h)).2 k hk
  obtain ⟨μ, h1, h2⟩ := hμ
  refine wp_loop Inv μ ⟨_, x0, ρ, ha, Agr_of_keys h0, hΦ, rfl⟩ fun a w hI => ?_
  obtain ⟨x, ρ, hs, hA, hx, hm⟩ := h1 a w hI
  have hr := round x ρ w hx
  rw [upds_self _ hA] at hr
  refine wp_mono (hr a hs) fun e a' w' ⟨ρ', h3, h4⟩ => ?_
  cases e with
  | normal =>
    obtain ⟨x', hA', hx', hlt⟩ := h4
    have hk : I (m x') a' w' := ⟨x', ρ', h3, hA', hx', rfl⟩
    exact ⟨⟨_, hk⟩, Nat.lt_of_le_of_lt (h2 _ _ _ hk) (by rw [← hm]; exact hlt)⟩
  | exit i => exact ⟨ρ', h3, h4⟩
  | goto l => exact ⟨ρ', h3, h4⟩
  | ret => exact ⟨ρ', h3, h4⟩
  | panic c => exact ⟨ρ', h3, h4⟩
  | outgrown => exact ⟨ρ', h3, h4⟩

/-! a loop, round by round -/
def GU (P : Program) (n : Nat) (c : Code) (Q : PQ) : Nat → Env → World → Prop
  | 0, _, _ => False
  | k + 1, ρ, w => G P n c ρ w (thn (GU P n c Q k) Q)
theorem GU_step {c : Code} {k : Nat} (h : G P n c ρ w (thn (GU P n c Q k) Q)) : GU P n c Q (k + 1) ρ w := h
theorem G_un {c : Code} (k : Nat) (h : GU P n c Q k ρ w) : G P n (.loop c) ρ w Q := by
  intro a ha
  let I : Nat → Act → World → Prop := fun k a w => ∃ ρ, St n ρ a ∧ GU P n c Q k ρ w
  let Inv : Act → World → Prop := fun a w => ∃ k, I k a w
  have hμ : ∃ μ : Act → World → Nat, (∀ a w, Inv a w → I (μ a w) a w) ∧ (∀ k a w, I k a w → μ a w ≤ k) := by
    classical
    refine ⟨fun a w => if h : Inv a w then Classical.choose (exists_least h) else 0, fun a w h => ?_, fun k a w hk => ?_⟩
    · simp only [h, dite_true]
      exact (Classical.choose_spec (exists_least h)).1
    · have h : Inv a w := ⟨k, hk⟩
      simp only [h, dite_true]
      exact (Classical.choose_spec (exists_least h)).2 k hk
  obtain ⟨μ, h1, h2⟩ := hμ
  refine wp_loop Inv μ ⟨k, ρ, ha, h⟩ fun a w hI => ?_
  have h3 := h1 a w hI
  generalize hm : μ a w = m at h3
  obtain ⟨ρ, hs, hg⟩ := h3
  cases m with
  | zero => exact hg.elim
  | succ m =>
    refine wp_mono (hg a hs) fun e a' w' ⟨ρ', h3, h4⟩ => ?_
    cases e with
    | normal =>
      have hk : I m a' w' := ⟨ρ', h3, h4⟩
      exact ⟨⟨_, hk⟩, Nat.lt_of_le_of_lt (h2 _ _ _ hk) (by omega)⟩
    | exit i => exact ⟨ρ', h3, h4⟩
    | goto l => exact ⟨ρ', h3, h4⟩
    | ret => exact ⟨ρ', h3, h4⟩
    | panic c => exact ⟨ρ', h3, h4⟩
    | outgrown => exact ⟨ρ', h3, h4⟩

/-- Ways meet again behind 'x': one continuation for all. -/
theorem G_cut {X : Type} {x y : Code} (L : X → List (Nat × Value)) (Φ : X → World → Prop)
    (h : G P n x ρ w (thn (fun ρ' w' => ∃ z, Agr ρ' (L z) ∧ Φ z w') Q)) (k : ∀ (z : X) (β : Env) (w : World), Φ z w → G P n y (upds β (L z)) w Q) : G P n (.seq x y) ρ w Q := by
  refine G_seq (G_mono (fun e ρ' w' h => ?_) h)
  cases e with
  | normal =>
    obtain ⟨z, hA, hz⟩ := h
    show G P n y ρ' w' Q
    rw [← upds_self _ hA]
    exact k z ρ' w' hz
  | exit i => exact h
  | goto l => exact h
  | ret => exact h
  | panic c => exact h
  | outgrown => exact h

/-! ### Regions -/
def wantedE (ops : Array Oper) (ρ : Env) (o : Oper) : Bool :=
  match o.guard with
  | none => true
  | some (j, want) =>
    match (ops[j]?).bind (·.dst) with
    | some t => (match ρ t with | .bool b => b == want | _ => false)
    | none => false
theorem wantedE_iff {ops : Array Oper} {o : Oper} {a : Act} (ha : St n ρ a) : Region.wanted o (yielded ops a.tmps) = wantedE ops ρ o := by
  unfold Region.wanted wantedE
  cases hg : o.guard with
  | none => rfl
  | some gw =>
    obtain ⟨j, want⟩ := gw
    simp only [yielded]
    cases ht : (ops[j]?).bind (·.dst) with
    | none => cases want <;> rfl
    | some t =>
      have := ha.get t
      simp only [Option.bind_some]
      rcases Nat.lt_or_ge t a.tmps.size with hlt | hge
      · simp only [Array.getD_eq_getD_getElem?, Array.getElem?_eq_getElem hlt, Option.getD_some] at this
        rw [Array.getElem?_eq_getElem hlt, this]
        cases ρ t <;> first | rfl | (rename_i b; cases b <;> cases want <;> rfl)
      · rw [Array.getElem?_eq_none hge]
        have : ρ t = undef := by rw [← this]; simp [Array.getElem?_eq_none hge]
        rw [this]
        cases want <;> rfl

/-- The operations from number k on, in the order of the text. -/
def GL (P : Program) (n : Nat) (ops : Array Oper) (Q : PQ) (k : Nat) (ρ : Env) (w : World) : Prop :=
  ∀ a, St n ρ a → wpOps P ops (lift n Q) (List.range' k (ops.size - k)) a w

variable {ops : Array Oper}
theorem G_region {id : Nat} (h : GL P n ops Q 0 ρ w) : G P n (.region id ops false) ρ w Q := fun a ha =>
  wp_region (by rw [List.range_eq_range']; exact h a ha)
theorem GL_end {k : Nat} (hk : Nat.ble ops.size k = true) (h : Q .normal ρ w) : GL P n ops Q k ρ w := fun a ha => by
  have : ops.size - k = 0 := by have : ops.size ≤ k := Nat.le_of_ble_eq_true hk; omega
  rw [this]
  exact ⟨ρ, ha, h⟩

theorem GL_op {k : Nat} {o : Oper} (ho : ops[k]? = some o) (hw : wantedE ops ρ o = true)
    (h : ∀ a, St n ρ a → o.wp P a w (fun a' w' => ∃ ρ', St n ρ' a' ∧ GL P n ops Q (k + 1) ρ' w') (lift n Q)) : GL P n ops Q k ρ w := fun a ha => by
  have hlt : k < ops.size := (Array.getElem?_eq_some_iff.1 ho).1
  obtain ⟨m, hm⟩ : ∃ m, ops.size - k = m + 1 := ⟨ops.size - k - 1, by omega⟩
  rw [hm, List.range'_succ]
  simp only [wpOps, ho, wantedE_iff ha, hw, if_true]
  refine .inl (Oper.wp_mono (fun a' w' ⟨ρ', h1, h2⟩ => ?_) (h a ha))
  have := h2 a' h1
  have e : ops.size - (k + 1) = m := by omega
  rwa [e] at this
theorem GL_skip {k : Nat} {o : Oper} (ho : ops[k]? = some o) (hd : okDst n o.dst = true) (hw : wantedE ops ρ o = false)
    (h : GL P n ops Q (k + 1) (put ρ o.dst undef) w) : GL P n ops Q k ρ w := fun a ha => by
  have hlt : k < ops.size := (Array.getElem?_eq_some_iff.1 ho).1
  obtain ⟨m, hm⟩ : ∃ m, ops.size - k = m + 1 := ⟨ops.size - k - 1, by omega⟩
  rw [hm, List.range'_succ]
  simp only [wpOps, ho, wantedE_iff ha, hw, Bool.false_eq_true, if_false]
  have := h _ (ha.put hd undef)
  have e : ops.size - (k + 1) = m := by omega
  rwa [e] at this
theorem GL_val {k : Nat} {o : Oper} {v : Value} {w' : World} (ho : ops[k]? = some o) (hd : okDst n o.dst = true) (hw : wantedE ops ρ o = true)
    (hr : (execOp (ev ρ) o).run P w = .ok (.value v) w') (h : GL P n ops Q (k + 1) (put ρ o.dst v) w') : GL P n ops Q k ρ w :=
  GL_op ho hw fun a ha => by
    unfold Oper.wp
    rw [ha.eval, hr]
    exact ⟨_, ha.put hd v, h⟩
theorem GL_unit {k : Nat} {o : Oper} {w' : World} (ho : ops[k]? = some o) (hd : okDst n o.dst = true) (hw : wantedE ops ρ o = true)
    (hr : (execOp (ev ρ) o).run P w = .ok .skip w') (h : GL P n ops Q (k + 1) (put ρ o.dst undef) w') : GL P n ops Q k ρ w :=
  GL_op ho hw fun a ha => by
    unfold Oper.wp
    rw [ha.eval, hr]
    exact ⟨_, ha.put hd undef, h⟩

/-- A call returns: what it returns with. -/
def Ret (P : Program) (f : FuncId) (args : Array Value) (w : World) (Φ : Value → World → Prop) : Prop :=
  Calls P f args w fun e w' => ∃ v, e = .returned v ∧ Φ v w'
theorem Ret.mono {f : FuncId} {args : Array Value} {Φ Ψ : Value → World → Prop} (h : Ret P f args w Φ) (k : ∀ v w', Φ v w' → Ψ v w') : Ret P f args w Ψ :=
  Calls.mono h fun _ _ ⟨v, e, hv⟩ => ⟨v, e, k v _ hv⟩
theorem GL_call {k : Nat} {o : Oper} {f : FuncId} {args : Array Value} {Φ : Value → World → Prop} (ho : ops[k]? = some o) (hd : okDst n o.dst = true) (hw : wantedE ops ρ o = true)
    (hr : (execOp (ev ρ) o).run P w = .ok (.enter f args) w) (hc : Ret P f args w Φ) (h : ∀ v w', Φ v w' → GL P n ops Q (k + 1) (put ρ o.dst v) w') : GL P n ops Q k ρ w :=
  GL_op ho hw fun a ha => by
    unfold Oper.wp
    rw [ha.eval, hr]
    refine Calls.mono hc fun e w' ⟨v, he, hv⟩ => ?_
    subst he
    exact ⟨_, ha.put hd v, h v w' hv⟩

/-- A stretch of operations whose run needs no look into memory. -/
def runs (P : Program) (n : Nat) (ops : Array Oper) : Nat → Nat → Env → World → Option (Env × World)
  | 0, _, ρ, w => some (ρ, w)
  | c + 1, k, ρ, w =>
    match ops[k]? with
    | none => none
    | some o =>
      match okDst n o.dst with
      | false => none
      | true =>
        match wantedE ops ρ o with
        | false => runs P n ops c (k + 1) (put ρ o.dst undef) w
        | true =>
          match (execOp (ev ρ) o).run P w with
          | .ok (.value v) w' => runs P n ops c (k + 1) (put ρ o.dst v) w'
          | .ok .skip w' => runs P n ops c (k + 1) (put ρ o.dst undef) w'
          | _ => none
theorem GL_runs : ∀ (c k : Nat) (ρ ρ' : Env) (w w' : World), runs P n ops c k ρ w = some (ρ', w') → GL P n ops Q (k + c) ρ' w' → GL P n ops Q k ρ w
  | 0, k, ρ, ρ', w, w', h, hk => by
    simp only [runs, Option.some.injEq, Prod.mk.injEq] at h
    obtain ⟨rfl, rfl⟩ := h
    exact hk
  | c + 1, k, ρ, ρ', w, w', h, hk => by
    have hk' : GL P n ops Q (k + 1 + c) ρ' w' := by rw [show k + 1 + c = k + (c + 1) by omega]; exact hk
    simp only [runs] at h
    split at h
    · cases h
    · rename_i o ho
      split at h
      · cases h
      · rename_i hd
        split at h
        · rename_i hw
          exact GL_skip ho hd hw (GL_runs c (k + 1) _ _ _ _ h hk')
        · rename_i hw
          split at h
          · rename_i v w1 hr
            exact GL_val ho hd hw hr (GL_runs c (k + 1) _ _ _ _ h hk')
          · rename_i w1 hr
            exact GL_unit ho hd hw hr (GL_runs c (k + 1) _ _ _ _ h hk')
          · cases h
/-- A stretch, and of the temporaries only those that live on. -/
theorem GL_seg (c : Nat) {k : Nat} (k' : Nat) (L : List (Nat × Value)) (w' : World) (hk : k + c = k')
    (h : (runs P n ops c k ρ w).map (fun r => (L.map (fun p => r.1 p.1), r.2)) = some (L.map (·.2), w'))
    (next : ∀ β, GL P n ops Q k' (upds β L) w') : GL P n ops Q k ρ w := by
  cases hr : runs P n ops c k ρ w with
  | none => rw [hr] at h; cases h
  | some r =>
    rw [hr] at h
    simp only [Option.map_some, Option.some.injEq, Prod.mk.injEq] at h
    obtain ⟨h1, h2⟩ := h
    refine GL_runs c k ρ r.1 w r.2 hr ?_
    rw [hk, ← upds_self L (Agr_of_keys h1), h2]
    exact next r.1

/-- .. the world as it was. -/
theorem GL_seg0 (c : Nat) {k : Nat} (k' : Nat) (L : List (Nat × Value)) (hk : k + c = k')
    (h : (runs P n ops c k ρ w).map (fun r => (L.map (fun p => r.1 p.1), r.2)) = some (L.map (·.2), w))
    (next : ∀ β, GL P n ops Q k' (upds β L) w) : GL P n ops Q k ρ w := GL_seg c k' L w hk h next
/-- .. the values in a nicer form. -/
theorem GL_segr (c : Nat) {k : Nat} (k' : Nat) (L : List (Nat × Value)) {raws vals : List Value} (hk : k + c = k')
    (h : (runs P n ops c k ρ w).map (fun r => (L.map (fun p => r.1 p.1), r.2)) = some (raws, w)) (hr : raws = vals) (hv : vals = L.map (·.2))
    (next : ∀ β, GL P n ops Q k' (upds β L) w) : GL P n ops Q k ρ w := GL_seg c k' L w hk (by rw [h, hr, hv]) next
/-! shorter to write -/
theorem GL_et {K : Env → World → Prop} {k : Nat} (h : K ρ w) (hk : Nat.ble ops.size k = true := by kernel_rfl) : GL P n ops (thn K Q) k ρ w := GL_end hk h
theorem G_sr {id : Nat} {y : Code} (h : GL P n ops (thn (fun ρ w => G P n y ρ w Q) Q) 0 ρ w) : G P n (.seq (.region id ops false) y) ρ w Q := G_seq (G_region h)
theorem GL_s (c k' : Nat) {k : Nat} (L : List (Nat × Value)) (next : ∀ β, GL P n ops Q k' (upds β L) w) (hk : k + c = k' := by rfl)
    (h : (runs P n ops c k ρ w).map (fun r => (L.map (fun p => r.1 p.1), r.2)) = some (L.map (·.2), w) := by kernel_rfl) : GL P n ops Q k ρ w := GL_seg c k' L w hk h next
theorem GL_sr (c k' : Nat) {k : Nat} (L : List (Nat × Value)) {raws vals : List Value} (hr : raws = vals) (next : ∀ β, GL P n ops Q k' (upds β L) w) (hk : k + c = k' := by rfl)
    (h : (runs P n ops c k ρ w).map (fun r => (L.map (fun p => r.1 p.1), r.2)) = some (raws, w) := by kernel_rfl) (hv : vals = L.map (·.2) := by rfl) : GL P n ops Q k ρ w := GL_seg c k' L w hk (by rw [h, hr, hv]) next
theorem GL_st {K : Env → World → Prop} (c k' : Nat) {k : Nat} (L : List (Nat × Value)) (next : ∀ β, K (upds β L) w) (hk : k + c = k' := by rfl)
    (h : (runs P n ops c k ρ w).map (fun r => (L.map (fun p => r.1 p.1), r.2)) = some (L.map (·.2), w) := by kernel_rfl) (he : Nat.ble ops.size k' = true := by kernel_rfl) : GL P n ops (thn K Q) k ρ w := GL_seg c k' L w hk h fun β => GL_end he (next β)
theorem GL_srt {K : Env → World → Prop} (c k' : Nat) {k : Nat} (L : List (Nat × Value)) {raws vals : List Value} (hr : raws = vals) (next : ∀ β, K (upds β L) w) (hk : k + c = k' := by rfl)
    (h : (runs P n ops c k ρ w).map (fun r => (L.map (fun p => r.1 p.1), r.2)) = some (raws, w) := by kernel_rfl) (hv : vals = L.map (·.2) := by rfl) (he : Nat.ble ops.size k' = true := by kernel_rfl) : GL P n ops (thn K Q) k ρ w :=
  GL_seg c k' L w hk (by rw [h, hr, hv]) fun β => GL_end he (next β)
theorem GL_C {k : Nat} {o : Oper} {f : FuncId} {args : Array Value} {Φ : Value → World → Prop} (hc : Ret P f args w Φ) (h : ∀ v w', Φ v w' → GL P n ops Q (k + 1) (put ρ o.dst v) w') (ho : ops[k]? = some o := by rfl) (hd : okDst n o.dst = true := by kernel_rfl)
    (hw : wantedE ops ρ o = true := by kernel_rfl) (hr : (execOp (ev ρ) o).run P w = .ok (.enter f args) w := by kernel_rfl) : GL P n ops Q k ρ w := GL_call ho hd hw hr hc h
theorem GL_re {k : Nat} {L' : List (Nat × Value)} (L : List (Nat × Value)) {olds news : List Value} {β : Env} (hr : olds = news) (next : ∀ β, GL P n ops Q k (upds β L) w)
    (h : L.map (fun p => upds β L' p.1) = olds := by kernel_rfl) (hv : news = L.map (·.2) := by rfl) : GL P n ops Q k (upds β L') w := by
  have hA : Agr (upds β L') L := Agr_of_keys (by rw [h, hr, hv])
  rw [← upds_self L hA]
  exact next _

/-! ### Regions that draw their order. S holds behind every operation until number b has come up. -/
def SB (b : Nat) (S : World → Prop) (l : Array Bool) (w : World) : Prop := l.getD b false = true ∨ S w
def wpAnyB (P : Program) (ops : Array Oper) (Q : Exit → Act → World → Prop) (b : Nat) (S : World → Prop) : Nat → Array Bool → Act → World → Prop
  | 0, listed, a, w => Region.ready .any ops listed = [] ∧ Q .normal a w
  | fuel + 1, listed, a, w =>
    (Region.ready .any ops listed = [] → Q .normal a w) ∧
    ∀ i ∈ Region.ready .any ops listed, wpOp P ops Q i (fun a' w' => SB b S (listed.setIfInBounds i true) w' ∧ wpAnyB P ops Q b S fuel (listed.setIfInBounds i true) a' w') a w
section
variable {Q : Exit → Act → World → Prop} {S : World → Prop} {b : Nat}
theorem wpAny_of_B : ∀ (fuel : Nat) (listed : Array Bool) (a : Act) (w : World), wpAnyB P ops Q b S fuel listed a w → wpAny P .any ops Q fuel listed a w
  | 0, _, _, _, h => h
  | fuel + 1, _, _, _, h => ⟨h.1, fun i hi => wpOp_mono (fun a' w' h' => wpAny_of_B fuel _ a' w' h'.2) (h.2 i hi)⟩
/-- Does number b wait for number i (or is there no number b)? -/
def waits (ops : Array Oper) (b i : Nat) : Bool :=
  match ops[b]? with
  | none => true
  | some o => o.after.any fun e => Region.binds .any e && Nat.beq e.on i
theorem wpAnyB_first {i : Nat} {oi : Oper} {v : Value} (hi : ops[i]? = some oi) (hsel : ∀ (j : Nat) (o : Oper) cs b, ops[j]? = some o → o.op ≠ .select cs b)
    (hQ : ∀ c a w, Q (.panic c) (a.put oi.dst v) w → Q (.panic c) a w) (hb : waits ops b i = true) :
    ∀ (fuel : Nat) (listed : Array Bool) (a : Act) (w : World),
      (∀ j oj, ops[j]? = some oj → j ≠ i → listed.getD j true = false → (∀ e ∈ oj.after, Region.binds .any e = true → e.on ≠ i) → oi.apart ops oj = true) →
      i ∈ Region.ready .any ops listed → YieldsIf P ops S oi v a → S w → listed.getD b false = false →
      wpAnyB P ops Q b S fuel (listed.setIfInBounds i true) (a.put oi.dst v) w → wpAnyB P ops Q b S (fuel + 1) listed a w := by
  have hbw : ∀ j oj, ops[j]? = some oj → (∀ e ∈ oj.after, Region.binds .any e = true → e.on ≠ i) → j ≠ b := by
    intro j oj hoj hnot hjb
    subst hjb
    simp only [waits, hoj, Array.any_eq_true] at hb
    obtain ⟨q, hq, he⟩ := hb
    simp only [Bool.and_eq_true] at he
    exact hnot _ (Array.getElem_mem hq) he.1 (Nat.eq_of_beq_eq_true he.2)
  have hnoti : ∀ (listed : Array Bool), i ∈ Region.ready .any ops listed → ∀ j oj, ops[j]? = some oj → j ∈ Region.ready .any ops listed → (∀ e ∈ oj.after, Region.binds .any e = true → e.on ≠ i) := by
    intro listed hr j oj hoj hj e he hb heq
    obtain ⟨_, oj', hoj', hall⟩ := mem_ready.1 hj
    rw [hoj] at hoj'; cases hoj'
    have h1 := hall e he hb
    have h0 := (mem_ready.1 hr).1
    rw [heq] at h1
    rcases Nat.lt_or_ge i listed.size with h' | h'
    · simp [h'] at h0 h1; rw [h0] at h1; cases h1
    · simp [Array.getElem?_eq_none h'] at h1
  intro fuel
  induction fuel with
  | zero =>
    intro listed a w _ hr hy hS hlb H
    have hib : i ≠ b := hbw i oi hi (hnoti listed hr i oi hi hr)
    refine ⟨fun h => (by rw [h] at hr; cases hr), fun j hj => ?_⟩
    by_cases hji : j = i
    · subst hji; exact hy.wpOp hi hS ⟨.inr hS, H⟩
    · have := ready_mono hj hji
      rw [H.1] at this
      cases this
  | succ fuel ih =>
    intro listed a w hfree hr hy hS hlb H
    refine ⟨fun h => (by rw [h] at hr; cases hr), fun j hj => ?_⟩
    by_cases hji : j = i
    · subst hji; exact hy.wpOp hi hS ⟨.inr hS, H⟩
    · have h1 := H.2 j (ready_mono hj hji)
      obtain ⟨hjun, oj, hoj, hall⟩ := mem_ready.1 hj
      have hnot := hnoti listed hr j oj hoj hj
      have hib : i ≠ b := hbw i oi hi (hnoti listed hr i oi hi hr)
      have hjb : j ≠ b := hbw j oj hoj hnot
      have h2 := wpOp_putIf hoj (hfree j oj hoj hji hjun hnot) (fun cs b => hsel i oi cs b hi) (fun cs b => hsel j oj cs b hoj) hQ hy h1
      have hfree' : ∀ k ok, ops[k]? = some ok → k ≠ i → (listed.setIfInBounds j true).getD k true = false →
          (∀ e ∈ ok.after, Region.binds .any e = true → e.on ≠ i) → oi.apart ops ok = true := fun k ok hk hki hun hno => by
        refine hfree k ok hk hki ?_ hno
        by_cases hjk : j = k
        · subst hjk; exact hjun
        · rw [getD_set_ne true hjk] at hun; exact hun
      have hlb' : (listed.setIfInBounds j true).getD b false = false := by rw [getD_set_ne false hjb]; exact hlb
      refine wpOp_mono (fun a' w' h3 => ?_) h2
      have hSw : S w' := by
        rcases h3.2.1 with h4 | h4
        · rw [getD_set_ne false hjb, getD_set_ne false hib, hlb] at h4; cases h4
        · exact h4
      refine ⟨.inr hSw, ih (listed.setIfInBounds j true) a' w' hfree' (ready_mono hr (Ne.symm hji)) h3.1 hSw hlb' ?_⟩
      rw [Array.setIfInBounds_comm _ _ hji]
      exact h3.2.2
theorem wpAnyB_take {i : Nat} {oi : Oper} {v : Value} {fuel : Nat} {listed : Array Bool} {a : Act} {w : World} (hi : ops[i]? = some oi)
    (hs : Region.noSelect ops = true) (hf : Region.free .any ops listed i = true) (hr : (Region.ready .any ops listed).contains i = true)
    (hQ : ∀ c a w, Q (.panic c) (a.put oi.dst v) w → Q (.panic c) a w) (hb : waits ops b i = true) (hl : listed.getD b false = false) (hy : YieldsIf P ops S oi v a) (hS : S w)
    (h : wpAnyB P ops Q b S fuel (listed.setIfInBounds i true) (a.put oi.dst v) w) : wpAnyB P ops Q b S (fuel + 1) listed a w :=
  wpAnyB_first hi (Region.noSelect_spec hs) hQ hb fuel listed a w (Region.free_spec hi hf) (by simpa using hr) hy hS hl h
theorem wpAnyB_all {rs : List Nat} {fuel : Nat} {listed : Array Bool} {a : Act} {w : World} (hr : Region.ready .any ops listed = rs) (hne : rs ≠ [])
    (h : ∀ i ∈ rs, wpOp P ops Q i (fun a' w' => SB b S (listed.setIfInBounds i true) w' ∧ wpAnyB P ops Q b S fuel (listed.setIfInBounds i true) a' w') a w) : wpAnyB P ops Q b S (fuel + 1) listed a w :=
  ⟨fun h0 => absurd (hr ▸ h0) hne, hr ▸ h⟩
theorem wpAnyB_done {listed : Array Bool} {a : Act} {w : World} (hr : Region.ready .any ops listed = []) (h : Q .normal a w) :
    ∀ fuel, wpAnyB P ops Q b S fuel listed a w
  | 0 => ⟨hr, h⟩
  | _ + 1 => ⟨fun _ => h, by rw [hr]; simp⟩
end
def HL (P : Program) (n : Nat) (ops : Array Oper) (Q : PQ) (b : Nat) (S : World → Prop) (fuel : Nat) (listed : Array Bool) (ρ : Env) (w : World) : Prop :=
  ∀ a, St n ρ a → wpAnyB P ops (lift n Q) b S fuel listed a w
/-- May number i be taken ahead, S holding? -/
def okb (ops : Array Oper) (listed : Array Bool) (b i : Nat) : Bool := waits ops b i && !listed.getD b false

/-- No panic is let out: the region's own post. -/
def noP (Q : PQ) : PQ
  | .panic _, _, _ => False
  | e, ρ, w => Q e ρ w
theorem noP_lift {a : Act} {o : Option Nat} {v : Value} : ∀ c a' w', lift n (noP Q) (.panic c) (a'.put o v) w' → lift n (noP Q) (.panic c) a' w' := by
  rintro c a' w' ⟨_, _, h⟩
  exact h.elim

theorem G_draw (b : Nat) (S : World → Prop) {id : Nat} (hm : P.follows .mixedOrders = true)
    (h : HL P n ops (noP Q) b S ops.size (Array.replicate ops.size false) ρ w.drew) : G P n (.region id ops true) ρ w Q := fun a ha =>
  wp_mono (wp_region_any hm (wpAny_of_B _ _ _ _ (h a ha))) fun e a' w' ⟨ρ', h1, h2⟩ => ⟨ρ', h1, by
    cases e with
    | panic c => exact h2.elim
    | normal => exact h2
    | exit i => exact h2
    | goto l => exact h2
    | ret => exact h2
    | outgrown => exact h2⟩

variable {b : Nat} {S : World → Prop} {fuel : Nat} {listed : Array Bool}
theorem HL_done (hr : Region.ready .any ops listed = []) (h : Q .normal ρ w) : HL P n ops Q b S fuel listed ρ w := fun a ha =>
  wpAnyB_done hr ⟨ρ, ha, h⟩ fuel

theorem okb_spec {i : Nat} (h : okb ops listed b i = true) : waits ops b i = true ∧ listed.getD b false = false := by
  simp only [okb, Bool.and_eq_true, Bool.not_eq_true'] at h; exact h
/-- Taken first: number i, which gives v in every world that meets S. -/
theorem HL_take {i : Nat} {o : Oper} {v : Value} (ho : ops[i]? = some o) (hs : Region.noSelect ops = true) (hd : okDst n o.dst = true)
    (hf : Region.free .any ops listed i = true) (hr : (Region.ready .any ops listed).contains i = true) (hw : wantedE ops ρ o = true)
    (hv : ∀ w, S w → (execOp (ev ρ) o).run P w = .ok (.value v) w) (hS : S w)
    (h : HL P n ops (noP Q) b S fuel (listed.setIfInBounds i true) (put ρ o.dst v) w) (hb : okb ops listed b i = true := by kernel_rfl) : HL P n ops (noP Q) b S (fuel + 1) listed ρ w := fun a ha =>
  wpAnyB_take ho hs hf hr (fun c a' w' h' => noP_lift (a := a) c a' w' h') (okb_spec hb).1 (okb_spec hb).2 (.inl ⟨by rw [wantedE_iff ha]; exact hw, by rw [ha.eval]; exact hv⟩) hS (h _ (ha.put hd v))
/-- Taken first: one whose guard is not met. -/
theorem HL_pass {i : Nat} {o : Oper} (ho : ops[i]? = some o) (hs : Region.noSelect ops = true) (hd : okDst n o.dst = true)
    (hf : Region.free .any ops listed i = true) (hr : (Region.ready .any ops listed).contains i = true) (hw : wantedE ops ρ o = false) (hS : S w)
    (h : HL P n ops (noP Q) b S fuel (listed.setIfInBounds i true) (put ρ o.dst undef) w) (hb : okb ops listed b i = true := by kernel_rfl) : HL P n ops (noP Q) b S (fuel + 1) listed ρ w := fun a ha =>
  wpAnyB_take ho hs hf hr (fun c a' w' h' => noP_lift (a := a) c a' w' h') (okb_spec hb).1 (okb_spec hb).2 (.inr ⟨by rw [wantedE_iff ha]; exact hw, rfl⟩) hS (h _ (ha.put hd undef))
/-- It alone may come up now. -/
theorem HL_one {i : Nat} {o : Oper} (ho : ops[i]? = some o) (hr : Region.ready .any ops listed = [i]) (hw : wantedE ops ρ o = true)
    (h : ∀ a, St n ρ a → o.wp P a w (fun a' w' => SB b S (listed.setIfInBounds i true) w' ∧ ∃ ρ', St n ρ' a' ∧ HL P n ops Q b S fuel (listed.setIfInBounds i true) ρ' w') (lift n Q)) : HL P n ops Q b S (fuel + 1) listed ρ w := fun a ha =>
  wpAnyB_all hr (by simp) fun j hj => by
    simp only [List.mem_singleton] at hj
    subst hj
    unfold wpOp
    simp only [ho, wantedE_iff ha, hw, if_true]
    exact .inl (Oper.wp_mono (fun a' w' ⟨h1, ρ', h2, h3⟩ => ⟨h1, h3 a' h2⟩) (h a ha))
theorem HL_val {i : Nat} {o : Oper} {v : Value} {w' : World} (ho : ops[i]? = some o) (hr : Region.ready .any ops listed = [i]) (hd : okDst n o.dst = true) (hw : wantedE ops ρ o = true)
    (hv : (execOp (ev ρ) o).run P w = .ok (.value v) w') (hS : SB b S (listed.setIfInBounds i true) w') (h : HL P n ops Q b S fuel (listed.setIfInBounds i true) (put ρ o.dst v) w') : HL P n ops Q b S (fuel + 1) listed ρ w :=
  HL_one ho hr hw fun a ha => by
    unfold Oper.wp
    rw [ha.eval, hv]
    exact ⟨hS, _, ha.put hd v, h⟩
theorem HL_unit {i : Nat} {o : Oper} {w' : World} (ho : ops[i]? = some o) (hr : Region.ready .any ops listed = [i]) (hd : okDst n o.dst = true) (hw : wantedE ops ρ o = true)
    (hv : (execOp (ev ρ) o).run P w = .ok .skip w') (hS : SB b S (listed.setIfInBounds i true) w') (h : HL P n ops Q b S fuel (listed.setIfInBounds i true) (put ρ o.dst undef) w') : HL P n ops Q b S (fuel + 1) listed ρ w :=
  HL_one ho hr hw fun a ha => by
    unfold Oper.wp
    rw [ha.eval, hv]
    exact ⟨hS, _, ha.put hd undef, h⟩
theorem HL_call {i : Nat} {o : Oper} {f : FuncId} {args : Array Value} {Φ : Value → World → Prop} (ho : ops[i]? = some o) (hr : Region.ready .any ops listed = [i]) (hd : okDst n o.dst = true) (hw : wantedE ops ρ o = true)
    (hv : (execOp (ev ρ) o).run P w = .ok (.enter f args) w) (hc : Ret P f args w Φ)
    (h : ∀ v w', Φ v w' → SB b S (listed.setIfInBounds i true) w' ∧ HL P n ops Q b S fuel (listed.setIfInBounds i true) (put ρ o.dst v) w') : HL P n ops Q b S (fuel + 1) listed ρ w :=
  HL_one ho hr hw fun a ha => by
    unfold Oper.wp
    rw [ha.eval, hv]
    refine Calls.mono hc fun e w' ⟨v, he, hv⟩ => ?_
    subst he
    obtain ⟨h1, h2⟩ := h v w' hv
    exact ⟨h1, _, ha.put hd v, h2⟩

/-! one of several that may come up: what it owes -/
def HI (P : Program) (n : Nat) (ops : Array Oper) (Q : PQ) (b : Nat) (S : World → Prop) (fuel : Nat) (listed : Array Bool) (ρ : Env) (w : World) (i : Nat) : Prop :=
  ∀ a, St n ρ a → wpOp P ops (lift n Q) i (fun a' w' => SB b S (listed.setIfInBounds i true) w' ∧ wpAnyB P ops (lift n Q) b S fuel (listed.setIfInBounds i true) a' w') a w
theorem HL_of2 {i j : Nat} (hr : Region.ready .any ops listed = [i, j]) (h1 : HI P n ops Q b S fuel listed ρ w i) (h2 : HI P n ops Q b S fuel listed ρ w j) : HL P n ops Q b S (fuel + 1) listed ρ w := fun a ha =>
  wpAnyB_all hr (by simp) fun k hk => by
    simp only [List.mem_cons, List.not_mem_nil, or_false] at hk
    rcases hk with rfl | rfl
    · exact h1 a ha
    · exact h2 a ha
theorem HL_of3 {i j l : Nat} (hr : Region.ready .any ops listed = [i, j, l]) (h1 : HI P n ops Q b S fuel listed ρ w i) (h2 : HI P n ops Q b S fuel listed ρ w j) (h3 : HI P n ops Q b S fuel listed ρ w l) : HL P n ops Q b S (fuel + 1) listed ρ w := fun a ha =>
  wpAnyB_all hr (by simp) fun k hk => by
    simp only [List.mem_cons, List.not_mem_nil, or_false] at hk
    rcases hk with rfl | rfl | rfl
    · exact h1 a ha
    · exact h2 a ha
    · exact h3 a ha
theorem HI_one {i : Nat} {o : Oper} (ho : ops[i]? = some o) (hw : wantedE ops ρ o = true)
    (h : ∀ a, St n ρ a → o.wp P a w (fun a' w' => SB b S (listed.setIfInBounds i true) w' ∧ ∃ ρ', St n ρ' a' ∧ HL P n ops Q b S fuel (listed.setIfInBounds i true) ρ' w') (lift n Q)) : HI P n ops Q b S fuel listed ρ w i := fun a ha => by
  unfold wpOp
  simp only [ho, wantedE_iff ha, hw, if_true]
  exact .inl (Oper.wp_mono (fun a' w' ⟨h1, ρ', h2, h3⟩ => ⟨h1, h3 a' h2⟩) (h a ha))
theorem HI_val {i : Nat} {o : Oper} {v : Value} {w' : World} (ho : ops[i]? = some o) (hd : okDst n o.dst = true) (hw : wantedE ops ρ o = true)
    (hv : (execOp (ev ρ) o).run P w = .ok (.value v) w') (hS : SB b S (listed.setIfInBounds i true) w') (h : HL P n ops Q b S fuel (listed.setIfInBounds i true) (put ρ o.dst v) w') : HI P n ops Q b S fuel listed ρ w i :=
  HI_one ho hw fun a ha => by
    unfold Oper.wp
    rw [ha.eval, hv]
    exact ⟨hS, _, ha.put hd v, h⟩
theorem HI_unit {i : Nat} {o : Oper} {w' : World} (ho : ops[i]? = some o) (hd : okDst n o.dst = true) (hw : wantedE ops ρ o = true)
    (hv : (execOp (ev ρ) o).run P w = .ok .skip w') (hS : SB b S (listed.setIfInBounds i true) w') (h : HL P n ops Q b S fuel (listed.setIfInBounds i true) (put ρ o.dst undef) w') : HI P n ops Q b S fuel listed ρ w i :=
  HI_one ho hw fun a ha => by
    unfold Oper.wp
    rw [ha.eval, hv]
    exact ⟨hS, _, ha.put hd undef, h⟩
theorem HI_call {i : Nat} {o : Oper} {f : FuncId} {args : Array Value} {Φ : Value → World → Prop} (ho : ops[i]? = some o) (hd : okDst n o.dst = true) (hw : wantedE ops ρ o = true)
    (hv : (execOp (ev ρ) o).run P w = .ok (.enter f args) w) (hc : Ret P f args w Φ)
    (h : ∀ v w', Φ v w' → SB b S (listed.setIfInBounds i true) w' ∧ HL P n ops Q b S fuel (listed.setIfInBounds i true) (put ρ o.dst v) w') : HI P n ops Q b S fuel listed ρ w i :=
  HI_one ho hw fun a ha => by
    unfold Oper.wp
    rw [ha.eval, hv]
    refine Calls.mono hc fun e w' ⟨v, he, hv⟩ => ?_
    subst he
    obtain ⟨h1, h2⟩ := h v w' hv
    exact ⟨h1, _, ha.put hd v, h2⟩

/-- May number i come up now? -/
def rdy (ops : Array Oper) (l : Array Bool) (i : Nat) (o : Oper) : Bool :=
  Nat.blt i ops.size && !l.getD i true && o.after.all fun e => !Region.binds .any e || l.getD e.on false
theorem rdy_ready {i : Nat} {o : Oper} (ho : ops[i]? = some o) (h : rdy ops listed i o = true) : (Region.ready .any ops listed).contains i = true := by
  simp only [rdy, Bool.and_eq_true] at h
  obtain ⟨⟨h1, h2⟩, h3⟩ := h
  have hi : i < ops.size := by simpa [Nat.blt_eq] using h1
  simp only [Region.ready, List.contains_iff_mem, List.mem_filter, List.mem_range, ho, Option.map_some, Option.getD_some, Bool.and_eq_true]
  exact ⟨hi, h2, h3⟩
/-- Which are listed, by their numbers. -/
def mkL (m : Nat) (is : List Nat) : Array Bool := ((List.range m).map fun i => is.contains i).toArray
/-- Taken first, in this order: a list of operations none of which looks into memory. (The world behind each and its value are told.) -/
def takes (P : Program) (n : Nat) (ops : Array Oper) (b : Nat) : List Nat → Array Bool → Env → World → Option (Array Bool × Env × List (World × Value))
  | [], l, ρ, _ => some (l, ρ, [])
  | i :: is, l, ρ, w =>
    match ops[i]? with
    | none => none
    | some o =>
      match okDst n o.dst && rdy ops l i o && Region.free .any ops l i && okb ops l b i with
      | false => none
      | true =>
        match wantedE ops ρ o with
        | false => (takes P n ops b is (l.setIfInBounds i true) (put ρ o.dst undef) w).map fun r => (r.1, r.2.1, (w, undef) :: r.2.2)
        | true =>
          match (execOp (ev ρ) o).run P w with
          | .ok (.value v) w' => (takes P n ops b is (l.setIfInBounds i true) (put ρ o.dst v) w).map fun r => (r.1, r.2.1, (w', v) :: r.2.2)
          | _ => none
/-- What one step of 'takes' says. -/
theorem takes_cons {i : Nat} {is : List Nat} {l : Array Bool} {r : Array Bool × Env × List (World × Value)} (h : takes P n ops b (i :: is) l ρ w = some r) :
    ∃ o v w1 r', ops[i]? = some o ∧ okDst n o.dst = true ∧ rdy ops l i o = true ∧ Region.free .any ops l i = true ∧ okb ops l b i = true ∧
      ((wantedE ops ρ o = true ∧ (execOp (ev ρ) o).run P w = .ok (.value v) w1) ∨ (wantedE ops ρ o = false ∧ v = undef ∧ w1 = w)) ∧
      takes P n ops b is (l.setIfInBounds i true) (put ρ o.dst v) w = some r' ∧ r = (r'.1, r'.2.1, (w1, v) :: r'.2.2) := by
  simp only [takes] at h
  split at h
  · cases h
  · rename_i o ho
    split at h
    · cases h
    · rename_i hc
      simp only [Bool.and_eq_true] at hc
      obtain ⟨⟨⟨h1, h2⟩, h3⟩, h4⟩ := hc
      split at h
      · rename_i hwt
        simp only [Option.map_eq_some_iff] at h
        obtain ⟨r', hr, he⟩ := h
        exact ⟨o, undef, w, r', ho, h1, h2, h3, h4, .inr ⟨hwt, rfl, rfl⟩, hr, he.symm⟩
      · rename_i hwt
        split at h
        · rename_i v w1 hrun
          simp only [Option.map_eq_some_iff] at h
          obtain ⟨r', hr, he⟩ := h
          exact ⟨o, v, w1, r', ho, h1, h2, h3, h4, .inl ⟨hwt, hrun⟩, hr, he.symm⟩
        · cases h
theorem HL_takes0 (hs : Region.noSelect ops = true) : ∀ (is : List Nat) (l : Array Bool) (ρ : Env) (m : Nat) (r : Array Bool × Env × List (World × Value)),
    takes P n ops b is l ρ w = some r → (∀ w', (takes P n ops b is l ρ w').map (fun r => r.2.2) = some (r.2.2.map fun p => (w', p.2))) → S w →
    HL P n ops (noP Q) b S m r.1 r.2.1 w → HL P n ops (noP Q) b S (m + is.length) l ρ w
  | [], l, ρ, m, r, h, _, hS, k => by
    simp only [takes, Option.some.injEq] at h
    subst h
    exact k
  | i :: is, l, ρ, m, r, h, hw, hS, k => by
    obtain ⟨o, v, w1, r', ho, h1, h2, h3, h4, hv, hr, rfl⟩ := takes_cons h
    have hall : ∀ w', ((wantedE ops ρ o = true ∧ (execOp (ev ρ) o).run P w' = .ok (.value v) w') ∨ (wantedE ops ρ o = false ∧ v = undef)) ∧
        (takes P n ops b is (l.setIfInBounds i true) (put ρ o.dst v) w').map (fun r => r.2.2) = some (r'.2.2.map fun p => (w', p.2)) := by
      intro w'
      have hw' := hw w'
      simp only [Option.map_eq_some_iff] at hw'
      obtain ⟨q, hq, hqe⟩ := hw'
      obtain ⟨o', v', w1', q', ho', _, _, _, _, hv', hr', rfl⟩ := takes_cons hq
      rw [ho] at ho'
      cases ho'
      simp only [List.map_cons, List.cons.injEq, Prod.mk.injEq] at hqe
      obtain ⟨⟨rfl, rfl⟩, hq3⟩ := hqe
      refine ⟨?_, by rw [hr']; simp [hq3]⟩
      rcases hv' with hv' | ⟨hx, hy, _⟩
      · exact .inl hv'
      · exact .inr ⟨hx, hy⟩
    have ih := HL_takes0 hs is _ _ m r' hr (fun w' => (hall w').2) hS k
    rcases (hall w).1 with ⟨hwt, _⟩ | ⟨hwt, rfl⟩
    · exact HL_take ho hs h1 h3 (rdy_ready ho h2) hwt (fun w' _ => by
        rcases (hall w').1 with ⟨_, hx⟩ | ⟨hx, _⟩
        · exact hx
        · rw [hwt] at hx; cases hx) hS ih h4
    · exact HL_pass ho hs h1 h3 (rdy_ready ho h2) hwt hS ih h4
/-- .. and of the temporaries only those that live on. -/
theorem HL_takes (is : List Nat) (L : List (Nat × Value)) (l' : Array Bool) (m : Nat) (hs : Region.noSelect ops = true) (hm : fuel = m + is.length)
    (h : (takes P n ops b is listed ρ w).map (fun r => (r.1, L.map (fun p => r.2.1 p.1))) = some (l', L.map (·.2)))
    (hw : ∀ w', (takes P n ops b is listed ρ w').map (fun r => r.2.2) = (takes P n ops b is listed ρ w).map (fun r => r.2.2.map fun p => (w', p.2))) (hS : S w)
    (next : ∀ β, HL P n ops (noP Q) b S m l' (upds β L) w) : HL P n ops (noP Q) b S fuel listed ρ w := by
  cases hr : takes P n ops b is listed ρ w with
  | none => rw [hr] at h; cases h
  | some r =>
    rw [hr] at h
    simp only [Option.map_some, Option.some.injEq, Prod.mk.injEq] at h
    obtain ⟨rfl, h2⟩ := h
    rw [hm]
    refine HL_takes0 hs is listed ρ m r hr (fun w' => by rw [hw w', hr]; rfl) hS ?_
    rw [← upds_self L (Agr_of_keys h2)]
    exact next r.2.1
end

/-! ### Entering and leaving a function -/
/-- What a function's results come to. -/
def retQ (P : Program) (fn : Func) (Φ : Value → World → Prop) : PQ
  | .normal, ρ, w | .ret, ρ, w => ∀ tm : Array Value, (∀ t, tm.getD t undef = ρ t) → ∃ v, (results fn tm).run P w = .ok v w ∧ Φ v w
  | _, _, _ => False
def envOf (args : List Value) : Env := fun t => args.getD t undef
theorem Ret_enter {P : Program} {f : FuncId} {fn : Func} {c : Code} {args : List Value} {w : World} {Φ : Value → World → Prop} (hf : P.funcs[f]? = some fn) (hb : fn.body = some c)
    (hn : Nat.ble args.length fn.ntmps = true) (h : G P fn.ntmps c (envOf args) w (retQ P fn Φ)) : Ret P f args.toArray w Φ := by
  refine calls_of_wp hf hb ?_
  have hst : St fn.ntmps (envOf args) { tmps := args.toArray ++ Array.replicate (fn.ntmps - args.toArray.size) undef, defers := [] } := by
    have : args.length ≤ fn.ntmps := Nat.le_of_ble_eq_true hn
    refine ⟨by simp; omega, rfl, fun t => ?_⟩
    simp only [envOf, Array.getD_eq_getD_getElem?, List.getD_eq_getElem?_getD]
    rw [Array.getElem?_append]
    split
    · rename_i hlt; simp
    · rename_i hge
      simp only [List.size_toArray, Nat.not_lt] at hge
      rw [List.getElem?_eq_none hge]
      simp only [Option.getD_none]
      rcases Nat.lt_or_ge (t - args.toArray.size) (fn.ntmps - args.toArray.size) with hl | hl
      · rw [Array.getElem?_replicate, if_pos hl]; rfl
      · rw [Array.getElem?_replicate, if_neg (by omega)]; rfl
  refine wp_mono (h _ hst) fun e a w' ⟨ρ', h1, h2⟩ => ?_
  cases e with
  | normal =>
    obtain ⟨v, hv, hΦ⟩ := h2 a.tmps h1.get
    exact ⟨h1.defers, v, hv, v, rfl, hΦ⟩
  | ret =>
    obtain ⟨v, hv, hΦ⟩ := h2 a.tmps h1.get
    exact ⟨h1.defers, v, hv, v, rfl, hΦ⟩
  | exit i => exact h2.elim
  | goto l => exact h2.elim
  | panic c => exact h2.elim
  | outgrown => exact h2.elim
section
variable {P : Program} {fn : Func} {Φ : Value → World → Prop} {ρ : Env} {w : World}
theorem res0 (h : fn.results = #[]) (hΦ : Φ (.tuple #[]) w) : retQ P fn Φ .normal ρ w := fun tm _ => ⟨_, results_none h tm P w, hΦ⟩
theorem res0' (h : fn.results = #[]) (hΦ : Φ (.tuple #[]) w) : retQ P fn Φ .ret ρ w := fun tm _ => ⟨_, results_none h tm P w, hΦ⟩
theorem res1 {t : Nat} {v : Value} (h : fn.results = #[.tmp t]) (hv : ρ t = v) (hΦ : Φ v w) : retQ P fn Φ .ret ρ w := fun tm htm =>
  ⟨_, results_tmp h tm P w, by rw [htm, hv]; exact hΦ⟩
theorem res2 {t u : Nat} {v x : Value} (h : fn.results = #[.tmp t, .tmp u]) (hv : ρ t = v) (hx : ρ u = x) (hΦ : Φ (.tuple #[v, x]) w) : retQ P fn Φ .ret ρ w := fun tm htm =>
  ⟨_, results_tmp2 h tm P w, by rw [htm, htm, hv, hx]; exact hΦ⟩
theorem res3 {t u s : Nat} {v x y : Value} (h : fn.results = #[.tmp t, .tmp u, .tmp s]) (hv : ρ t = v) (hx : ρ u = x) (hy : ρ s = y) (hΦ : Φ (.tuple #[v, x, y]) w) : retQ P fn Φ .ret ρ w := fun tm htm =>
  ⟨.tuple #[tm.getD t undef, tm.getD u undef, tm.getD s undef], by simp [results, h], by rw [htm, htm, htm, hv, hx, hy]; exact hΦ⟩
theorem res4 {t u s r : Nat} {v x y z : Value} (h : fn.results = #[.tmp t, .tmp u, .tmp s, .tmp r]) (hv : ρ t = v) (hx : ρ u = x) (hy : ρ s = y) (hz : ρ r = z) (hΦ : Φ (.tuple #[v, x, y, z]) w) : retQ P fn Φ .ret ρ w := fun tm htm =>
  ⟨.tuple #[tm.getD t undef, tm.getD u undef, tm.getD s undef, tm.getD r undef], by simp [results, h], by rw [htm, htm, htm, htm, hv, hx, hy, hz]; exact hΦ⟩
end
end Go.Kw
