/-
  ROWS AND STRINGS: make, append, elements, slices, conversions. My own text.
-/
import Derived.Test.YtadiljnfkbbmcaaDoorKw4
import Derived.Laws.BytesArg
import Derived.Lib.ConvBytes
import Derived.Laws.MakeOwn
import Derived.Laws.Append
set_option linter.unusedVariables false
namespace Go.Kw
open Go.RowKit

section
variable {P : Program} {w0 w w' : World} {cs F : List Chunk}

theorem elemT_spec {t e : Nat} {z : Value} {sz by_ : Nat} (h : elemT P t = some (e, z, sz, by_)) : P.underlying t = some (.slice e) ∧ ∃ i, P.info? e = some i ∧ i.zero = some z ∧ i.size = sz ∧ i.bytes = by_ := by
  unfold elemT at h
  split at h
  · rename_i e' hu
    cases hi : P.info? e' with
    | none => rw [hi] at h; cases h
    | some i =>
      rw [hi] at h
      simp only [Option.bind_some, Option.map_eq_some_iff, Prod.mk.injEq] at h
      obtain ⟨z', hz, rfl, rfl, rfl, rfl⟩ := h
      exact ⟨hu, i, hi, hz, rfl, rfl⟩
  · cases h

/-- A new block, whatever the operation that laid it. -/
theorem Sep.new (h : Sep w0 w cs) (l : List Value) (t : Nat) : Sep w0 (w.alloc (.cells l.toArray t)) (.blk w.heap.size t l :: cs) :=
  h.add (World.grownBy_alloc w _ none) (by show (w.alloc _).heap[w.heap.size]? = _; exact heap_alloc_new w _) (fun g hg => by cases hg; exact Nat.le_refl _)
variable {n : Nat} {ρ : Env} {Q : PQ} {ops : Array Oper} {k : Nat} {o : Oper} {b : Nat} {S : World → Prop} {fuel : Nat} {listed : Array Bool}
theorem GL_new {V : Nat → Value} {l : List Value} {t : Nat} (h : Sep w0 w cs) (ho : ops[k]? = some o) (hd : okDst n o.dst = true) (hw : wantedE ops ρ o = true)
    (hr : (execOp (ev ρ) o).run P w = .ok (.value (V w.heap.size)) (w.alloc (.cells l.toArray t))) (next : ∀ g w1, Sep w0 w1 (.blk g t l :: cs) → GL P n ops Q (k + 1) (put ρ o.dst (V g)) w1) : GL P n ops Q k ρ w :=
  GL_val ho hd hw hr (next _ _ (h.new l t))
theorem HL_new {i : Nat} {V : Nat → Value} {l : List Value} {t : Nat} (h : Sep w0 w cs) (ho : ops[i]? = some o) (hrd : Region.ready .any ops listed = [i]) (hd : okDst n o.dst = true) (hw : wantedE ops ρ o = true)
    (hr : (execOp (ev ρ) o).run P w = .ok (.value (V w.heap.size)) (w.alloc (.cells l.toArray t)))
    (next : ∀ g w1, Sep w0 w1 (.blk g t l :: cs) → SB b S (listed.setIfInBounds i true) w1 ∧ HL P n ops Q b S fuel (listed.setIfInBounds i true) (put ρ o.dst (V g)) w1) : HL P n ops Q b S (fuel + 1) listed ρ w :=
  HL_val ho hrd hd hw hr (next _ _ (h.new l t)).1 (next _ _ (h.new l t)).2

theorem HI_new {i : Nat} {V : Nat → Value} {l : List Value} {t : Nat} (h : Sep w0 w cs) (ho : ops[i]? = some o) (hd : okDst n o.dst = true) (hw : wantedE ops ρ o = true)
    (hr : (execOp (ev ρ) o).run P w = .ok (.value (V w.heap.size)) (w.alloc (.cells l.toArray t)))
    (next : ∀ g w1, Sep w0 w1 (.blk g t l :: cs) → SB b S (listed.setIfInBounds i true) w1 ∧ HL P n ops Q b S fuel (listed.setIfInBounds i true) (put ρ o.dst (V g)) w1) : HI P n ops Q b S fuel listed ρ w i :=
  HI_val ho hd hw hr (next _ _ (h.new l t)).1 (next _ _ (h.new l t)).2
theorem R_store {i g T t off : Nat} {l : List Value} {v : Value} (h : Sep w0 w cs) (hi : cs[i]? = some (.blk g T l)) (hs : sizeT P t = some v.cells.size) (hb : Nat.ble (off + v.cells.size) l.length = true)
    (h1 : v.cells.all Value.oneCell' = true) : ∃ w', (Instr.storeAt t (.pointer (some ⟨g, off, none⟩)) v).run P w = .ok () w' ∧ Sep w0 w' (cs.set i (.blk g T (l.take off ++ v.cells.toList ++ l.drop (off + v.cells.size)))) := by
  have hg : w.heap[g]? = some (.cells l.toArray T (0, 0)) := h.get hi
  have hb' : off + v.cells.size ≤ l.length := Nat.le_of_ble_eq_true hb
  obtain ⟨w', hr, hh, hgr, _⟩ := run_storeCells (P := P) g off T (0, 0) v.cells.toList 0 l.toArray w hg (fun i _ => by simp) (by simpa using hb') (fun u hu => by
    simp only [Array.all_eq_true] at h1
    obtain ⟨j, hj, rfl⟩ := List.getElem_of_mem hu
    simpa using h1 j (by simpa using hj))
  refine ⟨w', ?_, h.change hi hgr ?_ (fun g' hg' => .inl hg')⟩
  · simp [Instr.storeAt, Instr.sureAddr, storeVar, sizeT_run (w := w) hs]
    exact hr
  · show w'.heap[g]? = _
    rw [hh]
    simp
theorem row_heap {v : Value} {t sz nn i : Nat} {xs : List Value} (h : Sep w0 w cs) (hi : cs[i]? = some (.row v t sz nn xs)) : RowOk w v t sz nn xs := h.get hi

theorem flatten_replicate_get {α : Type} : ∀ (m : Nat) (l : List α) (j : Nat), j < m * l.length → 0 < l.length → (List.replicate m l).flatten[j]? = l[j % l.length]?
  | 0, l, j, h, _ => by omega
  | m + 1, l, j, h, hl => by
    rw [List.replicate_succ, List.flatten_cons, List.getElem?_append]
    split
    · rename_i hj; rw [Nat.mod_eq_of_lt hj]
    · rename_i hj
      rw [flatten_replicate_get m l _ (by rw [Nat.add_mul, Nat.one_mul] at h; omega) hl]
      congr 1
      exact (Nat.mod_eq_sub_mod (by omega)).symm
/-- make([]T, n, m) -/
theorem R_make {t e sz by_ : Nat} {z : Value} {k1 k2 : IntKind} (nn m : Nat) (h : Sep w0 w cs) (ht : elemT P t = some (e, z, sz, by_)) (hz : z.cells.size = sz) (hsz : 0 < sz) (hnm : nn ≤ m) (hb : by_ * m ≤ 140737488355328) (hm : m ≤ maxLen) :
    ∃ A c w', (Instr.makeSlice t (.int k1 (nn : Int)) (.int k2 (m : Int))).run P w = .ok (.slice A nn c) w' ∧ Sep w0 w' (.row (.slice A nn c) e sz nn ((List.replicate nn z.cells.toList).flatten) :: cs) ∧ (nn = m → c = nn) := by
  obtain ⟨hu, i, hi, hz', rfl, rfl⟩ := elemT_spec ht
  have hm63 : m ≤ 9223372036854775807 := by have := hm; simp only [maxLen] at this; omega
  have hbI : (i.bytes : Int) * (m : Int) ≤ 281474976710656 := by
    have h : ((i.bytes * m : Nat) : Int) ≤ 281474976710656 := by omega
    rwa [Int.natCast_mul] at h
  have hr := run_make (P := P) w t e i z hu hi hz' k1 k2 nn m (by omega) (by omega) hbI (by omega)
  simp only [Int.toNat_natCast] at hr
  have hcells : ∀ a, (List.replicate a z.cells.toList).flatten.length = a * i.size := fun a => by simp [hz]
  have hmk : madeCells z.cells (m * i.size) = ((List.replicate m z.cells.toList).flatten).toArray := by
    apply Array.ext'
    apply List.ext_getElem?
    intro j
    rcases Nat.lt_or_ge j (m * i.size) with hj | hj
    · rw [flatten_replicate_get m z.cells.toList j (by simpa [hz] using hj) (by simpa [hz] using hsz)]
      have hmod : j % z.cells.size < z.cells.size := Nat.mod_lt _ (by omega)
      simp [madeCells, hj, hmod]
    · rw [List.getElem?_eq_none (by simpa [madeCells] using hj), List.getElem?_eq_none (by simpa [hz] using hj)]
  refine ⟨_, m, _, hr, h.add (World.grownBy_alloc w _ none) ?_ (fun g hg => by cases hg; exact Nat.le_refl _), fun h => h.symm⟩
  show RowOk _ _ _ _ _ _
  refine ⟨hcells nn, .inr ⟨w.heap.size, 0, m, _, (0, 0), rfl, heap_alloc_new w _, hnm, hm, ?_, ?_, fun i _ => by simp⟩⟩
  · simp [madeCells]
  · rw [hmk]
    obtain ⟨r, rfl⟩ := Nat.le.dest hnm
    simp only [List.drop_zero]
    rw [← List.replicate_append_replicate, List.flatten_append, List.take_append_of_le_length (by rw [hcells]; exact Nat.le_refl _), List.take_of_length_le (by rw [hcells]; exact Nat.le_refl _)]

/-- What is appended: a slice's m elements, cells 'news'. -/
def Src (w : World) (x : Value) (sz m : Nat) (news : List Value) : Prop :=
  news.length = m * sz ∧ ∃ X c, x = .slice X m c ∧ (0 < m → ∃ ad, X = some ad ∧ ∀ j u, news[j]? = some u → w.cell? (ad.add j) = some u)
theorem Rd.src {x : Value} {sz m : Nat} {xs : List Value} (h : Rd w0 F x sz m xs) (hw : Sep w0 w F) : Src w x sz m xs := by
  obtain ⟨h1, A, c, rfl, _, _, h4⟩ := h
  exact ⟨h1, A, c, rfl, fun hm => by obtain ⟨ad, he, h5⟩ := h4 hm; exact ⟨ad, he, h5 w hw⟩⟩
theorem Src.blk {i g t sz m c : Nat} {l : List Value} (h : Sep w0 w cs) (hi : cs[i]? = some (.blk g t l)) (hl : l.length = m * sz) : Src w (.slice (some ⟨g, 0, none⟩) m c) sz m l :=
  ⟨hl, _, c, rfl, fun _ => ⟨_, rfl, fun j u hu => by rw [add_eq, h.blk_cell hi]; simpa using hu⟩⟩
theorem Src.row {i t sz m : Nat} {x : Value} {l : List Value} (h : Sep w0 w cs) (hi : cs[i]? = some (.row x t sz m l)) : Src w x sz m l := (Rd.of_row h hi).src h
theorem Src.none_ (w : World) (c sz : Nat) : Src w (.slice none 0 c) sz 0 [] := ⟨by simp, none, c, rfl, fun h => absurd h (by omega)⟩
theorem Src.first {x : Value} {sz m : Nat} {news : List Value} (h : Src w x sz m news) : (Builtin.firstCells sz m x).run P w = .ok news.toArray w := by
  obtain ⟨h1, X, c, rfl, h2⟩ := h
  rcases Nat.eq_zero_or_pos m with rfl | hm
  · have hn : news = [] := List.eq_nil_of_length_eq_zero (by simpa using h1)
    subst hn
    cases X <;> simp [Builtin.firstCells, loadCells, loadCellsFrom]
  · obtain ⟨ad, rfl, hc⟩ := h2 hm
    exact run_firstCells_some (P := P) w sz m ad m c news h1 hc
theorem RowOk.first {v : Value} {t sz nn : Nat} {xs : List Value} (h : RowOk w v t sz nn xs) : Src w v sz nn xs := by
  obtain ⟨A, c, rfl, _, _, h3⟩ := h.rd
  exact ⟨h.1, A, c, rfl, h3⟩

theorem zeroCells_size (z : Array Value) (n : Nat) : (Builtin.zeroCells z n).size = n * z.size := by simp [Builtin.zeroCells]
theorem run_append {t ty e sz by_ nn m : Nat} {z v x : Value} {xs news : List Value} (ht : elemT P t = some (e, z, sz, by_)) (hz : z.cells.size = sz)
    (hv : RowOk w v e sz nn xs) (hx : Src w x sz m news) (h1 : ∀ u ∈ news, u.oneCell' = true) (h63 : nn + m ≤ maxLen) (hby : (nn + m) * by_ ≤ 140737488355328) :
    ∃ A c w', (Builtin.append_ #[t, t] ty #[v, x]).run P w = .ok (.slice A (nn + m) c) w' ∧ RowOk w' (.slice A (nn + m) c) e sz (nn + m) (xs ++ news) ∧ w.grownBy w' (vblock v) ∧
      (∀ g, vblock (.slice A (nn + m) c) = some g → vblock v = some g ∨ w.heap.size ≤ g) := by
  obtain ⟨hu, i, hi, hz', rfl, rfl⟩ := elemT_spec ht
  have h63' : nn + m ≤ 9223372036854775807 := by simp only [maxLen] at h63; omega
  have hxl := hx.1
  have hf := hx.first (P := P)
  obtain ⟨X, cx, rfl, hX⟩ := hx.2
  have hlen : (xs ++ news).length = (nn + m) * i.size := by rw [List.length_append, hv.1, hxl, Nat.add_mul]
  have grown : ∀ (old : Nat) (row : Option Nat), old < nn + m →
      RowOk (w.drew.alloc (.cells (xs.toArray ++ news.toArray ++ Builtin.zeroCells z.cells (grownCap w (nn + m) old e - (nn + m))) e)) (.slice (some ⟨w.heap.size, 0, none⟩) (nn + m) (grownCap w (nn + m) old e)) e i.size (nn + m) (xs ++ news) ∧
      w.grownBy (w.drew.alloc (.cells (xs.toArray ++ news.toArray ++ Builtin.zeroCells z.cells (grownCap w (nn + m) old e - (nn + m))) e)) row := by
    intro old row ho
    have hge := grownCap_ge w (nn + m) old e
    have hcm := grownCap_le_maxLen w (nn + m) old e h63
    refine ⟨⟨hlen, .inr ⟨w.heap.size, 0, _, _, (0, 0), rfl, heap_alloc_new w.drew _, hge, hcm, ?_, ?_, fun j _ => by simp⟩⟩, ⟨rfl, rfl, rfl, by simp, fun k hk _ => Below.heap_alloc w.drew _ k hk⟩⟩
    · simp only [Array.size_append, List.size_toArray, zeroCells_size, hz, hv.1, hxl, ← Nat.add_mul]
      rw [Nat.zero_add]
      exact Nat.mul_le_mul_right _ (by omega)
    · simp only [Array.toList_append, List.append_assoc, List.drop_zero]
      rw [← List.append_assoc, ← hlen]
      exact List.take_left
  rcases hv.2 with ⟨rfl, rfl⟩ | ⟨g, off, cap, cur, fz, rfl, hg, hnc, hcm, hcs, hxs, hfz⟩
  · have hx0 : xs = [] := List.eq_nil_of_length_eq_zero (by simpa using hv.1)
    subst hx0
    rcases Nat.eq_zero_or_pos m with rfl | hm
    · have hn : news = [] := List.eq_nil_of_length_eq_zero (by simpa using hxl)
      subst hn
      refine ⟨none, 0, w, ?_, hv, ⟨rfl, rfl, rfl, Nat.le_refl _, fun _ _ _ => rfl⟩, fun g hg => by cases hg⟩
      simp [Builtin.append_, run_underlying hu, sizeOf, typeInfo, hi, Builtin.lenOf, hf]
    · obtain ⟨ad, rfl, hc⟩ := hX hm
      have hr := run_append_nil (P := P) w t ty e i z hu hi hz' ad m cx news hxl hc hm (by omega) (by simp only [Nat.zero_add] at hby; omega)
      have hgr := grown 0 (vblock (.slice none 0 0)) (by omega)
      simp only [Nat.zero_add, List.nil_append] at hgr ⊢
      refine ⟨_, _, _, ?_, hgr.1, hgr.2, fun g hg => by cases hg; exact .inr (Nat.le_refl _)⟩
      rw [hr]
      simp
  · by_cases hroom : nn + m ≤ cap
    · have hfit : off + nn * i.size + news.length ≤ cur.size := by
        have h2 : (nn + m) * i.size ≤ cap * i.size := Nat.mul_le_mul_right _ hroom
        rw [Nat.add_mul] at h2
        omega
      obtain ⟨w', hr, hh, hgr, hsz⟩ := run_storeCells (P := P) g (off + nn * i.size) e fz news 0 cur w hg hfz (by simpa using hfit) h1
      refine ⟨some ⟨g, off, none⟩, cap, w', ?_, ⟨hlen, .inr ⟨g, off, cap, _, fz, rfl, hh, hroom, hcm, ?_, ?_, ?_⟩⟩, hgr, fun g' hg' => .inl hg'⟩
      · simp [Builtin.append_, run_underlying hu, sizeOf, typeInfo, hi, Builtin.lenOf, hf, hroom, add_eq, hr]
      · simp only [List.size_toArray, List.length_append, List.length_take, List.length_drop, Array.length_toList]
        omega
      · rw [← hxs]
        simp only [Nat.add_zero, List.append_assoc]
        rw [List.drop_append_of_le_length (by simp only [List.length_take, Array.length_toList]; omega), List.drop_take]
        have e1 : off + nn * i.size - off = nn * i.size := by omega
        rw [e1, ← List.append_assoc, hxs, ← hlen]
        exact List.take_left
      · simp only [List.size_toArray, List.length_append, List.length_take, List.length_drop, Array.length_toList]
        intro j hj
        exact hfz j (by omega)
    · have hm : 0 < m := by omega
      obtain ⟨ad, rfl, hc⟩ := hX hm
      obtain ⟨_, A', c', he, holds⟩ := hv.first
      cases he
      have holds' : ∀ j u, xs[j]? = some u → w.cell? ((⟨g, off, none⟩ : Addr).add j) = some u := by
        rcases Nat.eq_zero_or_pos nn with h0 | h0
        · subst h0
          have hx0 : xs = [] := List.eq_nil_of_length_eq_zero (by simpa using hv.1)
          subst hx0
          intro j u hu; simp at hu
        · obtain ⟨ad', he, h5⟩ := holds h0
          cases he
          exact h5
      have hr := run_append_grow (P := P) w t ty e i z hu hi hz' ⟨g, off, none⟩ nn cap xs hv.1 holds' ad m cx news hxl hc (by omega) (by omega) (growslice_fits (by omega) hby)
      have hgr := grown cap (vblock (.slice (some ⟨g, off, none⟩) nn cap)) (by omega)
      exact ⟨_, _, _, hr, hgr.1, hgr.2, fun g' hg' => by cases hg'; exact .inr (Nat.le_refl _)⟩
/-- append(xs, ys...), xs a row of one's own -/
theorem R_append {i t ty e sz by_ nn m : Nat} {z v x : Value} {xs news : List Value} (h : Sep w0 w cs) (hi : cs[i]? = some (.row v e sz nn xs)) (ht : elemT P t = some (e, z, sz, by_)) (hz : z.cells.size = sz)
    (hx : Src w x sz m news) (h1 : ∀ u ∈ news, u.oneCell' = true) (h63 : nn + m ≤ maxLen) (hby : (nn + m) * by_ ≤ 140737488355328) :
    ∃ A c w', (Builtin.append_ #[t, t] ty #[v, x]).run P w = .ok (.slice A (nn + m) c) w' ∧ Sep w0 w' (cs.set i (.row (.slice A (nn + m) c) e sz (nn + m) (xs ++ news))) := by
  obtain ⟨A, c, w', hr, hok, hgr, hid⟩ := run_append (ty := ty) ht hz (h.get hi : RowOk w v e sz nn xs) hx h1 h63 hby
  exact ⟨A, c, w', hr, h.change hi hgr hok hid⟩
/-- append(nil, ys...) -/
theorem R_append_nil {t ty e sz by_ m : Nat} {z x : Value} {news : List Value} (h : Sep w0 w cs) (ht : elemT P t = some (e, z, sz, by_)) (hz : z.cells.size = sz)
    (hx : Src w x sz m news) (h1 : ∀ u ∈ news, u.oneCell' = true) (h63 : m ≤ maxLen) (hby : m * by_ ≤ 140737488355328) :
    ∃ A c w', (Builtin.append_ #[t, t] ty #[.slice none 0 0, x]).run P w = .ok (.slice A m c) w' ∧ Sep w0 w' (.row (.slice A m c) e sz m news :: cs) := by
  have hv : RowOk w (.slice none 0 0) e sz 0 [] := ⟨by simp, .inl ⟨rfl, rfl⟩⟩
  obtain ⟨A, c, w', hr, hok, hgr, hid⟩ := run_append (ty := ty) ht hz hv hx h1 (by simpa using h63) (by simpa using hby)
  simp only [Nat.zero_add, List.nil_append] at hr hok hid
  exact ⟨A, c, w', hr, h.add hgr hok (fun g hg => by rcases hid g hg with h' | h'; cases h'; exact h')⟩
/-- A nil slice is a row of one's own. -/
theorem Sep.nilRow (h : Sep w0 w cs) (e sz : Nat) : Sep w0 w (.row (.slice none 0 0) e sz 0 [] :: cs) :=
  h.add ⟨rfl, rfl, rfl, Nat.le_refl _, fun _ _ _ => rfl⟩ ⟨by simp, .inl ⟨rfl, rfl⟩⟩ (fun g hg => by cases hg)
end
end Go.Kw
