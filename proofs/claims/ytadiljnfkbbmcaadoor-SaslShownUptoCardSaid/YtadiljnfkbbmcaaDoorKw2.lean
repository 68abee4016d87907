/-
  WHAT A CALL OWNS, AS A LIST OF CHUNKS: 'Sep w0 w cs': below w0's heap nothing has turned, and each chunk of cs lies in w, each in a block of its own. My own text; it says nothing of any program.
-/
import Derived.Test.YtadiljnfkbbmcaaDoorKw1
import Derived.Laws.AppendOwn
import Derived.Laws.OwnMore
import Derived.Laws.CopyRow
set_option linter.unusedVariables false
namespace Go.Kw
open Go.RowKit

inductive Chunk where
  /-- a block that is known whole -/
  | blk (g : Nat) (t : TypeId) (cs : List Value)
  /-- a slice that owns its block, from its place on: n elements of sz cells -/
  | row (v : Value) (t : TypeId) (sz n : Nat) (xs : List Value)
  /-- a block that holds an object of another kind (an iterator) -/
  | obj (g : Nat) (o : Obj)

def vblock : Value → Option Nat
  | .slice (some a) _ _ => some a.block
  | _ => none
def Chunk.id : Chunk → Option Nat
  | .blk g _ _ => some g
  | .row v _ _ _ _ => vblock v
  | .obj g _ => some g
def free (fz : Nat × Nat) (m : Nat) : Prop := ∀ i, i < m → ¬ (fz.1 ≤ i ∧ i < fz.2)
def RowOk (w : World) (v : Value) (t : TypeId) (sz n : Nat) (xs : List Value) : Prop :=
  xs.length = n * sz ∧ ((v = .slice none 0 0 ∧ n = 0) ∨
    ∃ g off cap cur fz, v = .slice (some ⟨g, off, none⟩) n cap ∧ w.heap[g]? = some (.cells cur t fz) ∧ n ≤ cap ∧ cap ≤ maxLen ∧ off + cap * sz ≤ cur.size ∧ (cur.toList.drop off).take (n * sz) = xs ∧ free fz cur.size)
def Chunk.ok (c : Chunk) (w : World) : Prop :=
  match c with
  | .blk g t cs => w.heap[g]? = some (.cells cs.toArray t (0, 0))
  | .row v t sz n xs => RowOk w v t sz n xs
  | .obj g o => w.heap[g]? = some o

theorem Chunk.ok_of_block {w w' : World} {c : Chunk} (h : c.ok w) (hb : ∀ g, c.id = some g → w'.heap[g]? = w.heap[g]?) : c.ok w' := by
  cases c with
  | blk g t cs => exact (hb g rfl).trans h
  | row v t sz n xs =>
    refine ⟨h.1, ?_⟩
    rcases h.2 with h | ⟨g, off, cap, cur, fz, rfl, hg, hrest⟩
    · exact .inl h
    · exact .inr ⟨g, off, cap, cur, fz, rfl, (hb g rfl).trans hg, hrest⟩
  | obj g o => exact (hb g rfl).trans h
theorem Chunk.ok_lt {w : World} {c : Chunk} (h : c.ok w) {g : Nat} (hg : c.id = some g) : g < w.heap.size := by
  cases c with
  | blk g' t cs =>
    cases hg
    exact (Array.getElem?_eq_some_iff.1 h).1
  | row v t sz n xs =>
    rcases h.2 with ⟨rfl, _⟩ | ⟨g', off, cap, cur, fz, rfl, hg', _⟩
    · cases hg
    · cases hg
      exact (Array.getElem?_eq_some_iff.1 hg').1
  | obj g' o =>
    cases hg
    exact (Array.getElem?_eq_some_iff.1 h).1

structure Sep (w0 w : World) (cs : List Chunk) : Prop where
  below : Below w0.heap.size w0 w
  ok : ∀ c ∈ cs, c.ok w
  old : ∀ c ∈ cs, ∀ g, c.id = some g → w0.heap.size ≤ g
  apart : cs.Pairwise fun c d => ∀ g, c.id = some g → d.id ≠ some g

section
variable {w0 w w' : World} {cs ds : List Chunk}
theorem Sep.nil (w : World) : Sep w w [] := ⟨Below.refl _ _, fun _ h => (by cases h), fun _ h => (by cases h), .nil⟩
theorem Sep.le (h : Sep w0 w cs) : w0.heap.size ≤ w.heap.size := h.below.size
theorem Sep.sub (h : Sep w0 w cs) (hs : ds.Sublist cs) : Sep w0 w ds :=
  ⟨h.below, fun c hc => h.ok c (hs.subset hc), fun c hc => h.old c (hs.subset hc), h.apart.sublist hs⟩
theorem Sep.perm (h : Sep w0 w cs) (hp : ds.Perm cs) : Sep w0 w ds :=
  ⟨h.below, fun c hc => h.ok c (hp.subset hc), fun c hc => h.old c (hp.subset hc), (hp.pairwise_iff (fun {a b} hab g hb ha => hab g ha hb)).2 h.apart⟩
theorem front_perm {c : Chunk} : ∀ (cs : List Chunk) (i : Nat), cs[i]? = some c → (c :: cs.eraseIdx i).Perm cs
  | d :: cs, 0, h => by
    simp only [List.getElem?_cons_zero, Option.some.injEq] at h
    subst h
    simp
  | d :: cs, i + 1, h => by
    simp only [List.eraseIdx_cons_succ]
    exact (List.Perm.swap _ _ _).trans ((front_perm cs i (by simpa using h)).cons d)
theorem Sep.front (h : Sep w0 w cs) {i : Nat} {c : Chunk} (hc : cs[i]? = some c) : Sep w0 w (c :: cs.eraseIdx i) := by
  exact h.perm (front_perm cs i hc)
theorem Sep.drop (h : Sep w0 w cs) (i : Nat) : Sep w0 w (cs.eraseIdx i) := h.sub (List.eraseIdx_sublist _ _)
theorem Sep.drew (h : Sep w0 w cs) : Sep w0 w.drew cs := ⟨h.below.drew, fun c hc => Chunk.ok_of_block (h.ok c hc) fun _ _ => rfl, h.old, h.apart⟩
theorem Sep.drewN (h : Sep w0 w cs) (k : Nat) : Sep w0 (w.drewN k) cs := ⟨⟨h.below.os, h.below.tape, h.below.output, h.below.size, h.below.block⟩, fun c hc => Chunk.ok_of_block (h.ok c hc) fun _ _ => rfl, h.old, h.apart⟩
theorem Sep.get (h : Sep w0 w cs) {i : Nat} {c : Chunk} (hc : cs[i]? = some c) : c.ok w := h.ok c (List.mem_of_getElem? hc)

/-- A new chunk, in new memory. -/
theorem Sep.add (h : Sep w0 w cs) {c : Chunk} (hg : w.grownBy w' none) (hok : c.ok w') (hid : ∀ g, c.id = some g → w.heap.size ≤ g) : Sep w0 w' (c :: cs) := by
  have hb : ∀ k, k < w.heap.size → w'.heap[k]? = w.heap[k]? := fun k hk => hg.block k hk (by simp)
  refine ⟨h.below.grown hg h.le (fun k hk => by cases hk), fun d hd => ?_, fun d hd g hdg => ?_, .cons (fun d hd g hcg hdg => ?_) h.apart⟩
  · cases hd with
    | head => exact hok
    | tail _ hd => exact Chunk.ok_of_block (h.ok d hd) fun g hg' => hb g (Chunk.ok_lt (h.ok d hd) hg')
  · cases hd with
    | head => exact Nat.le_trans h.le (hid g hdg)
    | tail _ hd => exact h.old d hd g hdg
  · have h1 := hid g hcg
    have h2 := Chunk.ok_lt (h.ok d hd) hdg
    omega
/-- One chunk turns; its block stays, or is a new one. -/
theorem Sep.front_change {c c' : Chunk} (h : Sep w0 w (c :: cs)) (hg : w.grownBy w' c.id) (hok : c'.ok w') (hid : ∀ g, c'.id = some g → c.id = some g ∨ w.heap.size ≤ g) : Sep w0 w' (c' :: cs) := by
  have hc := h.ok c (.head _)
  have hap := List.pairwise_cons.1 h.apart
  refine ⟨h.below.grown hg h.le (fun k hk => h.old c (.head _) k hk), fun d hd => ?_, fun d hd g hdg => ?_, .cons (fun d hd g hcg hdg => ?_) hap.2⟩
  · cases hd with
    | head => exact hok
    | tail _ hd =>
      have hd' := h.ok d (.tail _ hd)
      exact Chunk.ok_of_block hd' fun g hg' => hg.block g (Chunk.ok_lt hd' hg') (fun e => hap.1 d hd g e.symm hg')
  · cases hd with
    | head =>
      rcases hid g hdg with h1 | h1
      · exact h.old c (.head _) g h1
      · exact Nat.le_trans h.le h1
    | tail _ hd => exact h.old d (.tail _ hd) g hdg
  · rcases hid g hcg with h1 | h1
    · exact hap.1 d hd g h1 hdg
    · have h2 := Chunk.ok_lt (h.ok d (.tail _ hd)) hdg
      omega
theorem set_perm {c c' : Chunk} : ∀ (cs : List Chunk) (i : Nat), cs[i]? = some c → (cs.set i c').Perm (c' :: cs.eraseIdx i)
  | d :: cs, 0, h => by simp
  | d :: cs, i + 1, h => by
    simp only [List.set_cons_succ, List.eraseIdx_cons_succ]
    exact ((set_perm cs i (by simpa using h)).cons d).trans (.swap _ _ _)
theorem Sep.change (h : Sep w0 w cs) {i : Nat} {c c' : Chunk} (hc : cs[i]? = some c) (hg : w.grownBy w' c.id) (hok : c'.ok w') (hid : ∀ g, c'.id = some g → c.id = some g ∨ w.heap.size ≤ g) : Sep w0 w' (cs.set i c') :=
  ((h.front hc).front_change hg hok hid).perm (set_perm cs i hc)

/-! ### Cells -/
theorem add_eq (g off j : Nat) : (⟨g, off, none⟩ : Addr).add j = ⟨g, off + j, none⟩ := by
  unfold Addr.add
  split
  · rename_i h; subst h; rfl
  · rfl
theorem add_add (a : Addr) (i j : Nat) : (a.add i).add j = a.add (i + j) := by
  unfold Addr.add
  by_cases hi : i = 0 <;> by_cases hj : j = 0 <;> simp [hi, hj, Nat.add_assoc]
theorem cell_of (w : World) {g : Nat} {cur : Array Value} {t : TypeId} {fz : Nat × Nat} (h : w.heap[g]? = some (.cells cur t fz)) (i : Nat) : w.cell? ⟨g, i, none⟩ = cur[i]? := by
  simp [World.cell?, h]
theorem Sep.blk_cell (h : Sep w0 w cs) {i g : Nat} {t : TypeId} {l : List Value} (hc : cs[i]? = some (.blk g t l)) (off : Nat) : w.cell? ⟨g, off, none⟩ = l[off]? := by
  rw [cell_of w (h.get hc)]
  simp
theorem Sep.blk_cells (h : Sep w0 w cs) {i g : Nat} {t : TypeId} {l : List Value} (hc : cs[i]? = some (.blk g t l)) (off : Nat) (vs : List Value) (hv : vs <+: l.drop off) :
    ∀ j u, vs[j]? = some u → w.cell? ((⟨g, off, none⟩ : Addr).add j) = some u := by
  intro j u hu
  rw [add_eq, h.blk_cell hc, ← List.getElem?_drop]
  obtain ⟨r, hr⟩ := hv
  rw [← hr, List.getElem?_append_left (by exact (List.getElem?_eq_some_iff.1 hu).1)]
  exact hu
end
end Go.Kw
