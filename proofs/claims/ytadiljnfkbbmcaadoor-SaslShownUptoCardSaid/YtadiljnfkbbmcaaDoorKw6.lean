/-
  STRINGS, ELEMENTS, SLICES OF SLICES; results that lie in memory. My own text.
-/
import Derived.Test.YtadiljnfkbbmcaaDoorKw5
import Derived.Laws.IdiomStrings
set_option linter.unusedVariables false
namespace Go.Kw
open Go.RowKit

section
variable {P : Program} {w0 w w' : World} {cs F : List Chunk} {n : Nat} {ρ : Env} {Q : PQ} {ops : Array Oper} {k : Nat} {o : Oper} {b : Nat} {S : World → Prop} {fuel : Nat} {listed : Array Bool}
/-! regions that draw -/
theorem G_drawS (S : World → Prop) (b m : Nat) {id : Nat} (hs : ops.size = m) (hm : P.follows .mixedOrders = true) (H : Sep w0 w cs)
    (h : ∀ w1, Sep w0 w1 cs → HL P n ops (noP Q) b S m (mkL m []) ρ w1) : G P n (.region id ops true) ρ w Q := by
  subst hs
  refine G_draw b S hm ?_
  have e : Array.replicate ops.size false = mkL ops.size [] := by
    apply Array.ext'
    apply List.ext_getElem?
    intro j
    simp [mkL, List.getElem?_replicate, List.getElem?_map]
    rcases Nat.lt_or_ge j ops.size with h | h
    · simp [h]
    · simp [h]
  rw [e]
  exact h _ H.drew
theorem HL_v {i : Nat} {s : Sem Value} {v : Value} (hr : s.run P w = .ok v w') (ho : ops[i]? = some o) (hrd : Region.ready .any ops listed = [i]) (hd : okDst n o.dst = true) (hw : wantedE ops ρ o = true)
    (he : execOp (ev ρ) o = (do let x ← s; pure (Next.value x))) (hS : SB b S (listed.setIfInBounds i true) w') (h : HL P n ops Q b S fuel (listed.setIfInBounds i true) (put ρ o.dst v) w') : HL P n ops Q b S (fuel + 1) listed ρ w := HL_val ho hrd hd hw (val_run hr he) hS h
theorem HL_u {i : Nat} {s : Sem Unit} (hr : s.run P w = .ok () w') (ho : ops[i]? = some o) (hrd : Region.ready .any ops listed = [i]) (hd : okDst n o.dst = true) (hw : wantedE ops ρ o = true)
    (he : execOp (ev ρ) o = (do s; pure Next.skip)) (hS : SB b S (listed.setIfInBounds i true) w') (h : HL P n ops Q b S fuel (listed.setIfInBounds i true) (put ρ o.dst undef) w') : HL P n ops Q b S (fuel + 1) listed ρ w := HL_unit ho hrd hd hw (unit_run hr he) hS h
theorem HI_v {i : Nat} {s : Sem Value} {v : Value} (hr : s.run P w = .ok v w') (ho : ops[i]? = some o) (hd : okDst n o.dst = true) (hw : wantedE ops ρ o = true)
    (he : execOp (ev ρ) o = (do let x ← s; pure (Next.value x))) (hS : SB b S (listed.setIfInBounds i true) w') (h : HL P n ops Q b S fuel (listed.setIfInBounds i true) (put ρ o.dst v) w') : HI P n ops Q b S fuel listed ρ w i := HI_val ho hd hw (val_run hr he) hS h
theorem HI_u {i : Nat} {s : Sem Unit} (hr : s.run P w = .ok () w') (ho : ops[i]? = some o) (hd : okDst n o.dst = true) (hw : wantedE ops ρ o = true)
    (he : execOp (ev ρ) o = (do s; pure Next.skip)) (hS : SB b S (listed.setIfInBounds i true) w') (h : HL P n ops Q b S fuel (listed.setIfInBounds i true) (put ρ o.dst undef) w') : HI P n ops Q b S fuel listed ρ w i := HI_unit ho hd hw (unit_run hr he) hS h
/-- A value that looks into what S holds still. -/
theorem HL_t {i m : Nat} {s : Sem Value} {v : Value} (hr : ∀ w, S w → s.run P w = .ok v w) (ho : ops[i]? = some o) (hs : Region.noSelect ops = true) (hd : okDst n o.dst = true)
    (hf : Region.free .any ops listed i = true) (hrd : rdy ops listed i o = true) (hw : wantedE ops ρ o = true) (he : execOp (ev ρ) o = (do let x ← s; pure (Next.value x))) (hS : S w) (hm : fuel = m + 1)
    (h : HL P n ops (noP Q) b S m (listed.setIfInBounds i true) (put ρ o.dst v) w) (hb : okb ops listed b i = true := by kernel_rfl) : HL P n ops (noP Q) b S fuel listed ρ w := by
  subst hm
  exact HL_take ho hs hd hf (rdy_ready ho hrd) hw (fun w' h' => val_run (hr w' h') he) hS h hb
theorem HL_fin (hr : Region.ready .any ops listed = []) (h : Q .normal ρ w) : HL P n ops (noP Q) b S fuel listed ρ w := HL_done hr h
/-- .. the temporaries that live on. -/
theorem HL_forget (L : List (Nat × Value)) (h : L.map (fun p => ρ p.1) = L.map (·.2)) (next : ∀ β, HL P n ops Q b S fuel listed (upds β L) w) : HL P n ops Q b S fuel listed ρ w := by
  rw [← upds_self L (Agr_of_keys h)]
  exact next ρ
theorem HL_forgetr (L : List (Nat × Value)) {raws vals : List Value} (hr : raws = vals) (h : L.map (fun p => ρ p.1) = raws) (hv : vals = L.map (·.2)) (next : ∀ β, HL P n ops Q b S fuel listed (upds β L) w) : HL P n ops Q b S fuel listed ρ w :=
  HL_forget L (by rw [h, hr, hv]) next

/-! ### Strings -/
theorem str_size (l : List UInt8) : (ByteArray.mk l.toArray).size = l.length := rfl
theorem R_index {t i : Nat} {ki : IntKind} {l : List UInt8} (ht : P.underlying t = some .string) (hi : i < l.length) : (Instr.index t (.string ⟨l.toArray⟩) (.int ki (i : Int))).run P w = .ok (.int .u8 ((l.getD i 0).toNat : Int)) w := by
  have h0 : (0 ≤ (i : Int)) := by omega
  have hget : (ByteArray.mk l.toArray)[i]? = some (l.getD i 0) := by
    have : i < (ByteArray.mk l.toArray).size := hi
    rw [getElem?_pos (ByteArray.mk l.toArray) i this]
    simp [ByteArray.getElem_eq_getElem_data, hi]
  simp [Instr.index, asIntOf, run_underlying ht, h0, hget]

theorem R_cat {t : Nat} {l m : List UInt8} (h : l.length + m.length ≤ 9223372036854775807) :
    (do eqGuard .add t (.tmp 0) (.tmp 0) (.string ⟨l.toArray⟩) (.string ⟨m.toArray⟩); binOp .add t (.string ⟨l.toArray⟩) (.string ⟨m.toArray⟩)).run P w = .ok (.string ⟨(l ++ m).toArray⟩) w := by
  have h1 : ¬ ((((ByteArray.mk l.toArray).size + (ByteArray.mk m.toArray).size : Nat) : Int) > IntKind.i64.max) := by
    rw [str_size, str_size]
    have : IntKind.i64.max = 9223372036854775807 := rfl
    omega
  have h2 : (ByteArray.mk l.toArray) ++ (ByteArray.mk m.toArray) = ByteArray.mk (l ++ m).toArray := by
    apply ByteArray.ext
    simp
  show (Op.stringOp .add _ _).run P w = _
  simp only [Op.stringOp, if_neg h1, h2]
  rfl
theorem R_streq {t : Nat} {l m : List UInt8} :
    (do eqGuard .eql t (.tmp 0) (.tmp 0) (.string ⟨l.toArray⟩) (.string ⟨m.toArray⟩); binOp .eql t (.string ⟨l.toArray⟩) (.string ⟨m.toArray⟩)).run P w = .ok (.bool (l == m)) w := by
  show (Op.stringOp .eql _ _).run P w = _
  simp only [Op.stringOp, ByteArray.toList_mk]
  rfl
theorem R_strne {t : Nat} {l m : List UInt8} :
    (do eqGuard .neq t (.tmp 0) (.tmp 0) (.string ⟨l.toArray⟩) (.string ⟨m.toArray⟩); binOp .neq t (.string ⟨l.toArray⟩) (.string ⟨m.toArray⟩)).run P w = .ok (.bool (!(l == m))) w := by
  show (Op.stringOp .neq _ _).run P w = _
  simp only [Op.stringOp, ByteArray.toList_mk]
  rfl
theorem strne_T {l m : List UInt8} (h : (!(l == m)) = true) : ¬ l = m := by simpa using h
theorem strne_F {l m : List UInt8} (h : (!(l == m)) = false) : l = m := by simpa using h
theorem extract_list (l : List UInt8) (a b : Nat) : (ByteArray.mk l.toArray).extract a b = ⟨((l.take b).drop a).toArray⟩ := by
  apply ByteArray.ext
  rw [ByteArray.data_extract]
  apply Array.ext'
  simp [List.extract, List.drop_take]
theorem R_strslice {t a b : Nat} {l : List UInt8} {k1 k2 : IntKind} (ht : P.underlying t = some .string) (hab : a ≤ b) (hb : b ≤ l.length) :
    (Instr.sliceAt t (.string ⟨l.toArray⟩) (some (.int k1 (a : Int))) (some (.int k2 (b : Int))) none).run P w = .ok (.string ⟨((l.take b).drop a).toArray⟩) w := by
  have h1 : (0 ≤ (b : Int) ∧ (b : Int) ≤ ((ByteArray.mk l.toArray).size : Nat)) := by rw [str_size]; omega
  have h2 : (0 ≤ (a : Int) ∧ (a : Int) ≤ (b : Nat)) := by omega
  simp [Instr.sliceAt, Instr.slice, Instr.sliceBounds, Instr.sliceBound, asIntOf, run_underlying ht, extract_list, hab, hb, str_size]
theorem R_strslice_lo {t a : Nat} {l : List UInt8} {k1 : IntKind} (ht : P.underlying t = some .string) (ha : a ≤ l.length) :
    (Instr.sliceAt t (.string ⟨l.toArray⟩) (some (.int k1 (a : Int))) none none).run P w = .ok (.string ⟨(l.drop a).toArray⟩) w := by
  simp [Instr.sliceAt, Instr.slice, Instr.sliceBounds, Instr.sliceBound, asIntOf, run_underlying ht, extract_list, ha, str_size]
theorem R_strslice_hi {t b : Nat} {l : List UInt8} {k2 : IntKind} (ht : P.underlying t = some .string) (hb : b ≤ l.length) :
    (Instr.sliceAt t (.string ⟨l.toArray⟩) none (some (.int k2 (b : Int))) none).run P w = .ok (.string ⟨(l.take b).toArray⟩) w := by
  simp [Instr.sliceAt, Instr.slice, Instr.sliceBounds, Instr.sliceBound, asIntOf, run_underlying ht, extract_list, hb, str_size]

/-! ### conversions -/
theorem R_conv_bs {s t e nn c : Nat} {A : Option Addr} {l : List UInt8} (hs : P.underlying s = some (.slice e)) (he : P.underlying e = some (.int .u8)) (ht : P.underlying t = some .string)
    (h : Src w (.slice A nn c) 1 nn (bs l)) : (convert s t (.slice A nn c)).run P w = .ok (.string ⟨l.toArray⟩) w := by
  obtain ⟨h1, X, c', he', h2⟩ := h
  cases he'
  have hl : l.length = nn := by simpa [bs] using h1
  have hb : bs l = (l.map fun b => (b.toNat : Int)).map (Value.int .u8) := by simp [bs, B]
  have fin : ∀ ad, (loadCells ad nn).run P w = .ok (bs l).toArray w → (convert s t (.slice (some ad) nn c)).run P w = .ok (.string ⟨l.toArray⟩) w := by
    intro ad hload
    rw [hb] at hload
    rw [run_convert_bytes_string w s t e _ nn c hs he ht, run_bytesToString w _ nn c _ hload, foldl_push_bytes]
    simp [ByteArray.empty, ByteArray.emptyWithCapacity]
    have hm : l.map ((fun n : Int => UInt8.ofNat n.toNat) ∘ fun b : UInt8 => (b.toNat : Int)) = l := by simp [Function.comp_def]
    exact hm
  rcases Nat.eq_zero_or_pos nn with rfl | hn
  · have : l = [] := List.eq_nil_of_length_eq_zero hl
    subst this
    cases A with
    | none => exact run_convert_bytes_nil w s e hs he 0 c t ht
    | some ad => exact fin ad (by simp [loadCells, loadCellsFrom, bs])
  · obtain ⟨ad, rfl, hc⟩ := h2 hn
    exact fin ad (by rw [← hl, ← bs_length l]; exact run_loadCells_list w ad (bs l) hc)
theorem R_conv_sb {s t e : Nat} {l : List UInt8} {u : TypeDesc} (h : Sep w0 w cs) (hs : P.underlying s = some u) (ht : P.underlying t = some (.slice e)) (he : P.underlying e = some (.int .u8)) (hm : l.length ≤ maxLen) :
    ∃ A c w', (convert s t (.string ⟨l.toArray⟩)).run P w = .ok (.slice A l.length c) w' ∧ Sep w0 w' (.row (.slice A l.length c) e 1 l.length (bs l) :: cs) := by
  have hr := Lib.run_convert_string_bytes (P := P) w s t e ⟨l.toArray⟩ hs ht he
  have hge := grownCap_ge w l.length 0 e
  have hcm := grownCap_le_maxLen w l.length 0 e hm
  refine ⟨some ⟨w.heap.size, 0, none⟩, grownCap w l.length 0 e, _, hr, h.add ⟨rfl, rfl, rfl, by rw [Lib.bytesWorld_size]; omega, fun k hk _ => Lib.bytesWorld_at_old w e _ k hk⟩ ?_ (fun g hg => by cases hg; exact Nat.le_refl _)⟩
  show RowOk _ _ _ _ _ _
  refine ⟨by simp [bs], .inr ⟨w.heap.size, 0, _, _, _, rfl, Lib.bytesWorld_at_new w e _, hge, hcm, ?_, ?_, fun i hi => by simp; omega⟩⟩
  · simp [Lib.bytesCells, str_size]
    omega
  · simp only [List.drop_zero, Nat.mul_one, Lib.bytesCells]
    rw [Array.toList_append, List.take_append_of_le_length (by simp)]
    simp [bs]
    rw [List.take_of_length_le (by simp)]
    rfl

/-! ### A row's elements, in place -/
theorem R_rowplace {i t e sz nn j c : Nat} {A : Option Addr} {ki : IntKind} {xs : List Value} (h : Sep w0 w cs) (hi : cs[i]? = some (.row (.slice A nn c) e sz nn xs)) (hj : j < nn) (ht : P.underlying t = some (.slice e)) (hs : sizeT P e = some sz) :
    ∃ g off, A = some ⟨g, off, none⟩ ∧ ∀ w, (Instr.indexAt t (.slice A nn c) (.int ki (j : Int))).run P w = .ok (.pointer (some ⟨g, off + j * sz, none⟩)) w := by
  have hr : RowOk w (.slice A nn c) e sz nn xs := h.get hi
  rcases hr.2 with ⟨he, h0⟩ | ⟨g, off, cap, cur, fz, he, hg, hrest⟩
  · omega
  · cases he
    refine ⟨g, off, rfl, fun w => ?_⟩
    have hb : (0 ≤ (j : Int) ∧ (j : Int) < (nn : Int)) := by omega
    simp [Instr.indexAt, asIntOf, run_underlying ht, sizeT_run (w := w) hs, add_eq]
    omega
theorem R_rowplace1 {i t e nn j c : Nat} {A : Option Addr} {ki : IntKind} {xs : List Value} (h : Sep w0 w cs) (hi : cs[i]? = some (.row (.slice A nn c) e 1 nn xs)) (hj : j < nn) (ht : P.underlying t = some (.slice e)) (hs : sizeT P e = some 1) :
    ∃ g off, A = some ⟨g, off, none⟩ ∧ ∀ w, (Instr.indexAt t (.slice A nn c) (.int ki (j : Int))).run P w = .ok (.pointer (some ⟨g, off + j, none⟩)) w := by
  have := R_rowplace (ki := ki) h hi hj ht hs
  simpa using this
theorem Sep.row_cells {i e sz nn c g off j : Nat} {xs : List Value} (h : Sep w0 w cs) (hi : cs[i]? = some (.row (.slice (some ⟨g, off, none⟩) nn c) e sz nn xs)) (vs : List Value) (hv : vs <+: xs.drop j) :
    ∀ m u, vs[m]? = some u → w.cell? ((⟨g, off + j, none⟩ : Addr).add m) = some u := by
  have hr : RowOk w (.slice (some ⟨g, off, none⟩) nn c) e sz nn xs := h.get hi
  intro m u hu
  obtain ⟨A, c', he, _, _, h3⟩ := hr.rd
  cases he
  have hx : xs[j + m]? = some u := by
    rw [← List.getElem?_drop]
    obtain ⟨r, hr⟩ := hv
    rw [← hr, List.getElem?_append_left (by exact (List.getElem?_eq_some_iff.1 hu).1)]
    exact hu
  have hn : 0 < nn := by
    rcases Nat.eq_zero_or_pos nn with h0 | h0
    · subst h0
      have : xs = [] := List.eq_nil_of_length_eq_zero (by simpa using hr.1)
      subst this
      simp at hx
    · exact h0
  obtain ⟨ad, he, h4⟩ := h3 hn
  cases he
  have := h4 (j + m) u hx
  rw [add_eq] at this ⊢
  rw [Nat.add_assoc]
  exact this
theorem R_rowstore {i t e sz nn c g off j : Nat} {xs : List Value} {v : Value} (h : Sep w0 w cs) (hi : cs[i]? = some (.row (.slice (some ⟨g, off, none⟩) nn c) e sz nn xs)) (hs : sizeT P t = some v.cells.size) (hb : j + v.cells.size ≤ nn * sz)
    (h1 : v.cells.all Value.oneCell' = true) : ∃ w', (Instr.storeAt t (.pointer (some ⟨g, off + j, none⟩)) v).run P w = .ok () w' ∧
      Sep w0 w' (cs.set i (.row (.slice (some ⟨g, off, none⟩) nn c) e sz nn (xs.take j ++ v.cells.toList ++ xs.drop (j + v.cells.size)))) := by
  have hr : RowOk w (.slice (some ⟨g, off, none⟩) nn c) e sz nn xs := h.get hi
  have hxl := hr.1
  rcases hr.2 with ⟨he, _⟩ | ⟨g', off', cap, cur, fz, he, hg, hnc, hcm, hcs, hxs, hfz⟩
  · cases he
  · cases he
    have hsz : nn * sz ≤ c * sz := Nat.mul_le_mul_right _ hnc
    obtain ⟨w', hrun, hh, hgr, _⟩ := run_storeCells (P := P) g (off + j) e fz v.cells.toList 0 cur w hg hfz (by simp; omega) (fun u hu => by
      simp only [Array.all_eq_true] at h1
      obtain ⟨q, hq, rfl⟩ := List.getElem_of_mem hu
      simpa using h1 q (by simpa using hq))
    refine ⟨w', ?_, h.change hi hgr ?_ (fun g' hg' => .inl hg')⟩
    · simp [Instr.storeAt, Instr.sureAddr, storeVar, sizeT_run (w := w) hs]
      exact hrun
    · show RowOk _ _ _ _ _ _
      have hl0 : v.cells.toList.length = v.cells.size := by simp
      refine ⟨by simp only [List.length_append, List.length_take, List.length_drop, hl0]; omega, .inr ⟨g, off, c, _, fz, rfl, hh, hnc, hcm, ?_, ?_, ?_⟩⟩
      · simp only [List.size_toArray, List.length_append, List.length_take, List.length_drop, Array.length_toList]
        omega
      · subst hxs
        have hcl : cur.toList.length = cur.size := by simp
        simp only [Nat.add_zero, hl0]
        have e1 : (cur.toList.take (off + j) ++ v.cells.toList ++ cur.toList.drop (off + j + v.cells.size)).drop off = (cur.toList.drop off).take j ++ v.cells.toList ++ (cur.toList.drop off).drop (j + v.cells.size) := by
          rw [List.append_assoc, List.drop_append_of_le_length (by simp only [List.length_take, hcl]; omega), List.drop_take]
          rw [show off + j - off = j from by omega, ← List.append_assoc, List.drop_drop]
          congr 2
          omega
        rw [e1]
        generalize hX : cur.toList.drop off = X at *
        have hXl : nn * sz ≤ X.length := by rw [← hX]; simp; omega
        rw [List.take_take, Nat.min_eq_left (by omega), List.drop_take]
        rw [List.take_append, List.take_of_length_le (by simp only [List.length_append, List.length_take, hl0]; omega)]
        congr 1
        simp only [List.length_append, List.length_take, hl0]
        rw [Nat.min_eq_left (by omega)]
      · simp only [List.size_toArray, List.length_append, List.length_take, List.length_drop, Array.length_toList]
        intro q hq
        exact hfz q (by omega)
theorem bs_store (l : List UInt8) (j : Nat) (b : UInt8) (hj : j < l.length) : (bs l).take j ++ (Value.int .u8 (b.toNat : Int)).cells.toList ++ (bs l).drop (j + (Value.int .u8 (b.toNat : Int)).cells.size) = bs (l.set j b) := by
  simp only [bs, Value.cells]
  rw [List.set_eq_take_append_cons_drop, if_pos hj]
  simp [B, List.map_take, List.map_drop]

theorem R_rowstore8 {i t e nn c g off j : Nat} {l : List UInt8} {b : UInt8} {A : Option Addr} (h : Sep w0 w cs) (hi : cs[i]? = some (.row (.slice A nn c) e 1 nn (bs l))) (hA : A = some ⟨g, off, none⟩) (hs : sizeT P t = some 1) (hb : j < l.length) :
    ∃ w', (Instr.storeAt t (.pointer (some ⟨g, off + j, none⟩)) (.int .u8 (b.toNat : Int))).run P w = .ok () w' ∧ Sep w0 w' (cs.set i (.row (.slice A nn c) e 1 nn (bs (l.set j b)))) := by
  subst hA
  have hr : RowOk w (.slice (some ⟨g, off, none⟩) nn c) e 1 nn (bs l) := h.get hi
  have hl : l.length = nn := by have := hr.1; simpa [bs] using this
  obtain ⟨w', h1, h2⟩ := R_rowstore (P := P) (t := t) (v := .int .u8 (b.toNat : Int)) (j := j) h hi hs (by show j + 1 ≤ nn * 1; omega) (by simp [Value.cells, Value.oneCell'])
  rw [bs_store l j b hb] at h2
  exact ⟨w', h1, h2⟩

/-! ### Slices of what is read -/
theorem Rd.cut {A : Option Addr} {nn c sz l h : Nat} {xs : List Value} (hr : Rd w0 F (.slice A nn c) sz nn xs) (hl : l ≤ h) (hh : h ≤ nn) :
    Rd w0 F (.slice (if c = l then A else A.map (·.add (l * sz))) (h - l) (c - l)) sz (h - l) ((xs.drop (l * sz)).take ((h - l) * sz)) := by
  obtain ⟨h1, A', c', he, h2, h3, h4⟩ := hr
  cases he
  refine ⟨?_, _, _, rfl, by omega, by omega, fun hn => ?_⟩
  · rw [List.length_take, List.length_drop, h1, ← Nat.sub_mul, Nat.min_eq_left]
    exact Nat.mul_le_mul_right _ (by omega)
  · obtain ⟨ad, rfl, h5⟩ := h4 (by omega)
    rw [if_neg (by omega)]
    refine ⟨ad.add (l * sz), rfl, fun w hw j u hu => ?_⟩
    rw [Go.Kw.add_add]
    refine h5 w hw _ u ?_
    rw [List.getElem?_take] at hu
    split at hu
    · rwa [List.getElem?_drop] at hu
    · cases hu
/-- xs[l:h] -/
theorem R_slice {A : Option Addr} {nn c sz l h t e : Nat} {k1 k2 : IntKind} {xs : List Value} (hr : Rd w0 F (.slice A nn c) sz nn xs) (ht : P.underlying t = some (.slice e)) (hs : sizeT P e = some sz) (hl : l ≤ h) (hh : h ≤ nn) :
    ∃ A' c', (∀ w, (Instr.sliceAt t (.slice A nn c) (some (.int k1 (l : Int))) (some (.int k2 (h : Int))) none).run P w = .ok (.slice A' (h - l) c') w) ∧ Rd w0 F (.slice A' (h - l) c') sz (h - l) ((xs.drop (l * sz)).take ((h - l) * sz)) := by
  have hc := hr.cut hl hh
  obtain ⟨h1, A', c', he, h2, h3, h4⟩ := hr
  cases he
  refine ⟨_, _, fun w => ?_, hc⟩
  have b1 : h ≤ c := by omega
  simp [Instr.sliceAt, Instr.slice, Instr.sliceBounds, Instr.sliceBound, asIntOf, run_underlying ht, sizeT_run (w := w) hs, b1, hl]
theorem R_slice_lo {A : Option Addr} {nn c sz l t e : Nat} {k1 : IntKind} {xs : List Value} (hr : Rd w0 F (.slice A nn c) sz nn xs) (ht : P.underlying t = some (.slice e)) (hs : sizeT P e = some sz) (hl : l ≤ nn) :
    ∃ A' c', (∀ w, (Instr.sliceAt t (.slice A nn c) (some (.int k1 (l : Int))) none none).run P w = .ok (.slice A' (nn - l) c') w) ∧ Rd w0 F (.slice A' (nn - l) c') sz (nn - l) (xs.drop (l * sz)) := by
  have hc := hr.cut hl (Nat.le_refl nn)
  obtain ⟨h1, A', c', he, h2, h3, h4⟩ := hr
  cases he
  rw [List.take_of_length_le (by rw [List.length_drop, h1, ← Nat.sub_mul]; exact Nat.le_refl _)] at hc
  refine ⟨_, _, fun w => ?_, hc⟩
  simp [Instr.sliceAt, Instr.slice, Instr.sliceBounds, Instr.sliceBound, asIntOf, run_underlying ht, sizeT_run (w := w) hs, hl]
theorem R_slice_hi {A : Option Addr} {nn c sz h t e : Nat} {k2 : IntKind} {xs : List Value} (hr : Rd w0 F (.slice A nn c) sz nn xs) (ht : P.underlying t = some (.slice e)) (hs : sizeT P e = some sz) (hh : h ≤ nn) :
    ∃ A' c', (∀ w, (Instr.sliceAt t (.slice A nn c) none (some (.int k2 (h : Int))) none).run P w = .ok (.slice A' h c') w) ∧ Rd w0 F (.slice A' h c') sz h (xs.take (h * sz)) := by
  have hc := hr.cut (Nat.zero_le h) hh
  obtain ⟨h1, A', c', he, h2, h3, h4⟩ := hr
  cases he
  simp only [Nat.sub_zero, Nat.zero_mul, List.drop_zero] at hc
  refine ⟨_, _, fun w => ?_, hc⟩
  have b1 : h ≤ c := by omega
  simp [Instr.sliceAt, Instr.slice, Instr.sliceBounds, Instr.sliceBound, asIntOf, run_underlying ht, sizeT_run (w := w) hs, b1]

theorem bs_at {l : List UInt8} {i : Nat} {ad : Addr} (h : ∀ w, Sep w0 w F → ∀ j u, j < 1 → (bs l)[i * 1 + j]? = some u → w.cell? (ad.add j) = some u) (hw : Sep w0 w F) (hi : i < l.length) : w.cell? ad = some (.int .u8 ((l.getD i 0).toNat : Int)) := by
  have := h w hw 0 _ (by omega) (by rw [Nat.mul_one, Nat.add_zero]; exact bs_get l i hi)
  simpa [Addr.add] using this
theorem Src.blkp {i g t sz m c off : Nat} {l : List Value} (h : Sep w0 w cs) (hi : cs[i]? = some (.blk g t l)) (vs : List Value) (hl : vs.length = m * sz) (hv : vs <+: l.drop off) : Src w (.slice (some ⟨g, off, none⟩) m c) sz m vs :=
  ⟨hl, _, c, rfl, fun _ => ⟨_, rfl, h.blk_cells hi off vs hv⟩⟩
/-! ### A result that lies in memory -/
theorem resC {fn : Func} {Φ : Value → World → Prop} {a t : Nat} {ad : Addr} {vs : List Value} (h : fn.results = #[.cell a t]) (hp : ρ a = .pointer (some ad)) (ht : aggT P t = true) (hs : sizeT P t = some vs.length)
    (hc : ∀ j u, vs[j]? = some u → w.cell? (ad.add j) = some u) (hΦ : Φ (.agg vs.toArray) w) : retQ P fn Φ .ret ρ w := fun tm htm => by
  refine ⟨.agg vs.toArray, ?_, hΦ⟩
  simp [results, h, htm, hp, asAddr, loadVar, isAgg_agg (w := w) ht, sizeT_run (w := w) hs, run_loadCells_list w ad vs hc]
end
end Go.Kw
