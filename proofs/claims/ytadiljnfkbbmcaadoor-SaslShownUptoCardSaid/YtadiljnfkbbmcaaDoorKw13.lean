/-
  WHAT AN ARGUMENT IS, OUT OF HOW IT READS: strings, numbers, structs, slices of them. My own text; it says nothing of any program.
-/
import Derived.Test.YtadiljnfkbbmcaaDoorKw12
import Derived.Carry
import Derived.ChangeShapes
import Derived.Lib.LaidTab
import Derived.DataReads
import Derived.ChangeArms
set_option linter.unusedVariables false
set_option linter.unusedSimpArgs false
namespace Go.Kw
open Go.RowKit
section
variable {H : Type} {enc : TypeId × Value → H} {P : Program} {w : World} {base : Nat} {sp : Nat → Bool} {held : Bool}
theorem str_eta (s : ByteArray) : (.string s : Value) = S s.data.toList := by
  show Value.string s = Value.string ⟨s.data.toList.toArray⟩
  rw [Array.toArray_toList]
theorem tr_str {fuel t : Nat} {cs : List Value} {x : DataW H × List MemPlace} (ht : P.underlying t = some .string) (h : DataW.trod enc P w base sp held fuel t cs = some x) :
    ∃ l : List UInt8, cs = [S l] ∧ l.length ≤ maxLen ∧ x.1 = .lit (.string l) := by
  obtain ⟨s, h1, h2, h3⟩ := DataW.trod_string ht h
  exact ⟨s.data.toList, by rw [h1, str_eta], by simpa using h3, by rw [h2]⟩
theorem tr_bool {fuel t : Nat} {cs : List Value} {x : DataW H × List MemPlace} (ht : P.underlying t = some .bool) (h : DataW.trod enc P w base sp held fuel t cs = some x) :
    ∃ b : Bool, cs = [.bool b] ∧ x.1 = .lit (.bool b) := by
  obtain ⟨b, h1, h2⟩ := DataW.trod_bool ht h
  exact ⟨b, h1, by rw [h2]⟩
theorem tr_int {fuel t : Nat} {k : IntKind} {cs : List Value} {x : DataW H × List MemPlace} (ht : P.underlying t = some (.int k)) (h : DataW.trod enc P w base sp held fuel t cs = some x) :
    ∃ n : Int, cs = [.int k n] ∧ (Lit.int k n).wf = true ∧ x.1 = .lit (.int k n) := by
  obtain ⟨b, h1, h2, h3⟩ := DataW.trod_int ht h
  exact ⟨b, h1, h3, by rw [h2]⟩
theorem tr_struct {fuel t : Nat} {fs : Array Field} {cs : List Value} {x : DataW H × List MemPlace} (ht : P.underlying t = some (.struct fs)) (h : DataW.trod enc P w base sp held fuel t cs = some x) :
    ∃ (fuel' : Nat) (xs : List (DataW H × List MemPlace)), cs.length = P.cellsOf t ∧ x.1 = .agg (xs.map (·.1)) ∧ xs.length = fs.toList.length ∧
      ∀ (j : Nat) f, fs.toList[j]? = some f → ∃ y, xs[j]? = some y ∧ DataW.trod enc P w base sp held fuel' f.type ((cs.drop f.offset).take (P.cellsOf f.type)) = some y := by
  obtain ⟨xs, n, _, h1, h2, h3, h4⟩ := DataW.trod_struct ht h
  refine ⟨n, xs, h2, by rw [h1], by simpa using h3, fun j f hf => ?_⟩
  have hf' : fs[j]? = some f := by simpa using hf
  have hj : j < xs.length := by have := (Array.getElem?_eq_some_iff.1 hf').1; omega
  exact ⟨xs[j], List.getElem?_eq_getElem hj, by rw [h4 j f hf', List.getElem?_eq_getElem hj]⟩
theorem tr_slice {fuel t e : Nat} {cs : List Value} {x : DataW H × List MemPlace} (ht : P.underlying t = some (.slice e)) (h : DataW.trod enc P w base sp held fuel t cs = some x) :
    (cs = [.slice none 0 0] ∧ x.1 = .nil) ∨ ∃ (a : Addr) (len cap fuel' : Nat) (elems : List (DataW H × List MemPlace)) (rest : List (DataW H)), cs = [.slice (some a) len cap] ∧ len ≤ cap ∧ cap ≤ maxLen ∧ x.1 = .slice (elems.map (·.1)) rest ∧ elems.length = len ∧
      ∀ i, i < len → ∃ y ces, elems[i]? = some y ∧ w.cells? base (a.add (i * P.cellsOf e)) (P.cellsOf e) = some ces ∧ DataW.trod enc P w base sp held fuel' e ces = some y := by
  rcases DataW.trod_slice ht h with ⟨h1, h2⟩ | ⟨a, len, cap, elems, rest, n, _, h1, h2, _, h3, h4, h5, h6, _, _⟩
  · exact .inl ⟨h1, by rw [h2]⟩
  · refine .inr ⟨a, len, cap, n, elems, rest.map (·.1), h1, h3, h4, by rw [h2], h5, fun i hi => ?_⟩
    have := h6 i hi
    rw [List.getElem?_eq_getElem (by omega), Option.bind_eq_some_iff] at this
    obtain ⟨ces, h7, h8⟩ := this
    exact ⟨_, ces, List.getElem?_eq_getElem (by omega), h7, h8⟩
/-- Cells of the old heap, as any later world of this call has them. -/
theorem Rd.of_old {W : World} {F : List Chunk} {a : Addr} {sz n cap : Nat} {xs : List Value} (hl : xs.length = n * sz) (hc : n ≤ cap) (hm : cap ≤ maxLen)
    (h : ∀ j u, xs[j]? = some u → W.cell? (a.add j) = some u) : Rd W F (.slice (some a) n cap) sz n xs :=
  ⟨hl, some a, cap, rfl, hc, hm, fun _ => ⟨a, rfl, fun w hw j u hu => by
    have h1 := h j u hu
    rw [hw.below.cell (World.block_lt_of_cell? _ _ h1)]
    exact h1⟩⟩
theorem Rd.of_nil {W : World} {F : List Chunk} {sz : Nat} : Rd W F (.slice none 0 0) sz 0 [] := ⟨by simp, none, 0, rfl, Nat.le_refl _, Nat.zero_le _, fun h => absurd h (by decide)⟩
theorem cells_at {a : Addr} {n : Nat} {cs : List Value} (h : w.cells? base a n = some cs) : cs.length = n ∧ ∀ i u, cs[i]? = some u → w.cell? (a.add i) = some u := by
  unfold World.cells? at h
  split at h
  · refine ⟨by simpa using Lib.mapM_length h, fun i u hu => ?_⟩
    have hi : i < n := by have := (List.getElem?_eq_some_iff.1 hu).1; have h2 := Lib.mapM_length h; simp at h2; omega
    obtain ⟨b, hb, hf⟩ := Lib.mapM_at h i i (by simp [hi])
    rw [hu] at hb
    cases hb
    exact hf
  · cases h
/-- A slice whose elements read: the list of what they are. 'f' tells an element's cells, 'g' its datum. -/
theorem tr_list {A : Type} {t e sz : Nat} {fuel : Nat} {v : Value} {x : DataW H × List MemPlace} {W : World} (f : A → List Value) (g : A → DataW H) (ht : P.underlying t = some (.slice e)) (hs : P.cellsOf e = sz)
    (one : ∀ (fuel : Nat) (ces : List Value) y, DataW.trod enc P W base sp held fuel e ces = some y → ∃ z : A, ces = f z ∧ y.1 = g z) (h : DataW.trod enc P W base sp held fuel t [v] = some x) :
    ∃ (l : List A) (A' : Option Addr) (c : Nat), v = .slice A' l.length c ∧ l.length ≤ maxLen ∧ (∀ F, Rd W F (.slice A' l.length c) sz l.length (l.flatMap f)) ∧ (x.1 = .nil ∧ l = [] ∨ ∃ rest, x.1 = .slice (l.map g) rest) := by
  rcases tr_slice ht h with ⟨hc, hx⟩ | ⟨a, len, cap, fuel', elems, rest, hc, h1, h2, hx, hl, hat⟩
  · simp only [List.cons.injEq, and_true] at hc
    subst hc
    exact ⟨[], none, 0, rfl, Nat.zero_le _, fun F => by simpa using Rd.of_nil, .inl ⟨hx, rfl⟩⟩
  · simp only [List.cons.injEq, and_true] at hc
    subst hc
    have key : ∀ k, k ≤ len → ∃ l : List A, l.length = k ∧ elems.take k = (elems.take k) ∧ (elems.map (·.1)).take k = l.map g ∧ (l.flatMap f).length = k * sz ∧ ∀ j u, (l.flatMap f)[j]? = some u → W.cell? (a.add j) = some u := by
      intro k
      induction k with
      | zero => intro _; exact ⟨[], rfl, rfl, by simp, by simp, by simp⟩
      | succ k ih =>
        intro hk
        obtain ⟨l, h3, _, h4, h5, h6⟩ := ih (by omega)
        obtain ⟨y, ces, hy, hces, hty⟩ := hat k (by omega)
        obtain ⟨z, rfl, hz⟩ := one _ _ _ hty
        obtain ⟨h7, h8⟩ := cells_at hces
        refine ⟨l ++ [z], by simp [h3], rfl, ?_, ?_, fun j u hu => ?_⟩
        · rw [List.take_add_one, h4]
          simp [hy, hz]
        · simp only [List.flatMap_append, List.length_append, h5, List.flatMap_cons, List.flatMap_nil, List.append_nil, h7, hs]
          rw [Nat.succ_mul]
        · rw [List.flatMap_append, List.getElem?_append] at hu
          split at hu
          · exact h6 j u hu
          · rename_i hj
            have := h8 (j - (l.flatMap f).length) u (by rw [← hu]; simp only [List.flatMap_cons, List.flatMap_nil, List.append_nil])
            rw [h5, hs, Go.Kw.add_add] at this
            rwa [show k * sz + (j - k * sz) = j from by omega] at this
    obtain ⟨l, h3, _, h4, h5, h6⟩ := key len (Nat.le_refl _)
    subst h3
    refine ⟨l, some a, cap, rfl, by omega, fun F => Rd.of_old h5 h1 h2 h6, .inr ⟨rest, ?_⟩⟩
    rw [hx, ← h4, List.take_of_length_le (by simp [hl])]
/-- A struct of two texts. -/
theorem tr_pair {fuel t s : Nat} {fs : Array Field} {cs : List Value} {x : DataW H × List MemPlace} (ht : P.underlying t = some (.struct fs)) (hf : fs.toList.map (fun f => (f.type, f.offset)) = [(s, 0), (s, 1)]) (hs : P.underlying s = some .string)
    (h1 : P.cellsOf s = 1) (h2 : P.cellsOf t = 2) (h : DataW.trod enc P w base sp held fuel t cs = some x) :
    ∃ z : Str2, cs = [S z.1, S z.2] ∧ x.1 = .agg [.lit (.string z.1), .lit (.string z.2)] := by
  obtain ⟨fuel', xs, hl, hx, hxl, hat⟩ := tr_struct ht h
  have e0 : fs.toList[0]?.map (fun f => (f.type, f.offset)) = some (s, 0) := by rw [← List.getElem?_map, hf]; rfl
  have e1 : fs.toList[1]?.map (fun f => (f.type, f.offset)) = some (s, 1) := by rw [← List.getElem?_map, hf]; rfl
  have el : fs.toList.length = 2 := by have := congrArg List.length hf; simpa using this
  obtain ⟨f0, hf0, h0⟩ := Option.map_eq_some_iff.1 e0
  obtain ⟨f1, hf1, h1'⟩ := Option.map_eq_some_iff.1 e1
  simp only [Prod.mk.injEq] at h0 h1'
  obtain ⟨y0, hy0, t0⟩ := hat 0 f0 hf0
  obtain ⟨y1, hy1, t1⟩ := hat 1 f1 hf1
  rw [h0.1, h0.2, h1] at t0
  rw [h1'.1, h1'.2, h1] at t1
  obtain ⟨a, ha, _, da⟩ := tr_str hs t0
  obtain ⟨b, hb, _, db⟩ := tr_str hs t1
  match cs, hl with
  | [], hl => rw [h2] at hl; cases hl
  | [_], hl => rw [h2] at hl; cases hl
  | u :: v :: [], _ =>
    simp at ha hb
    match xs, hxl with
    | [], hxl => rw [el] at hxl; cases hxl
    | [_], hxl => rw [el] at hxl; cases hxl
    | x0 :: x1 :: [], _ =>
      simp at hy0 hy1
      subst hy0 hy1
      exact ⟨(a, b), by rw [ha, hb], by rw [hx]; simp [da, db]⟩
    | _ :: _ :: _ :: _, hxl => rw [el] at hxl; simp at hxl
  | _ :: _ :: _ :: _, hl => rw [h2] at hl; simp at hl
/-- A struct whose fields are of one cell each, in order. -/
theorem tr_cells (ts : List Nat) {fuel t : Nat} {fs : Array Field} {cs : List Value} {x : DataW H × List MemPlace} (ht : P.underlying t = some (.struct fs)) (hf : fs.toList.map (fun f => (f.type, f.offset)) = ts.zipIdx) (h1 : ∀ a ∈ ts, P.cellsOf a = 1)
    (h2 : P.cellsOf t = ts.length) (h : DataW.trod enc P w base sp held fuel t cs = some x) :
    ∃ (fuel' : Nat) (ys : List (Value × (DataW H × List MemPlace))), cs = ys.map (·.1) ∧ x.1 = .agg (ys.map (·.2.1)) ∧ ys.length = ts.length ∧ ∀ (j a : Nat), ts[j]? = some a → ∃ y, ys[j]? = some y ∧ DataW.trod enc P w base sp held fuel' a [y.1] = some y.2 := by
  obtain ⟨fuel', xs, hl, hx, hxl, hat⟩ := tr_struct ht h
  have el : fs.toList.length = ts.length := by have := congrArg List.length hf; simpa using this
  have e1 : cs.length = xs.length := by omega
  refine ⟨fuel', cs.zip xs, by rw [List.map_fst_zip (by omega)], ?_, by rw [List.length_zip]; omega, fun j a ha => ?_⟩
  · rw [hx, show (fun y : Value × (DataW H × List MemPlace) => y.2.1) = (fun y : DataW H × List MemPlace => y.1) ∘ (fun y => y.2) from rfl, ← List.map_map, List.map_snd_zip (by omega)]
  · have hj : j < ts.length := (List.getElem?_eq_some_iff.1 ha).1
    have e0 : fs.toList[j]?.map (fun f => (f.type, f.offset)) = some (a, j) := by rw [← List.getElem?_map, hf, List.getElem?_zipIdx, ha]; simp
    obtain ⟨f, hfj, hp⟩ := Option.map_eq_some_iff.1 e0
    simp only [Prod.mk.injEq] at hp
    obtain ⟨y, hy, ty⟩ := hat j f hfj
    rw [hp.1, hp.2, h1 a (List.mem_of_getElem? ha)] at ty
    have hjc : j < cs.length := by omega
    rw [List.drop_eq_getElem_cons hjc] at ty
    refine ⟨(cs[j], y), by rw [List.getElem?_zip_eq_some]; exact ⟨List.getElem?_eq_getElem hjc, hy⟩, ty⟩
theorem tr_six {a0 a1 a2 a3 a4 a5 : Nat} {fuel t : Nat} {fs : Array Field} {cs : List Value} {x : DataW H × List MemPlace} (ht : P.underlying t = some (.struct fs)) (hf : fs.toList.map (fun f => (f.type, f.offset)) = [(a0, 0), (a1, 1), (a2, 2), (a3, 3), (a4, 4), (a5, 5)])
    (h1 : ∀ a ∈ [a0, a1, a2, a3, a4, a5], P.cellsOf a = 1) (h2 : P.cellsOf t = 6) (h : DataW.trod enc P w base sp held fuel t cs = some x) :
    ∃ (fuel' : Nat) (v0 v1 v2 v3 v4 v5 : Value) (x0 x1 x2 x3 x4 x5 : DataW H × List MemPlace), cs = [v0, v1, v2, v3, v4, v5] ∧ x.1 = .agg [x0.1, x1.1, x2.1, x3.1, x4.1, x5.1] ∧
      DataW.trod enc P w base sp held fuel' a0 [v0] = some x0 ∧ DataW.trod enc P w base sp held fuel' a1 [v1] = some x1 ∧ DataW.trod enc P w base sp held fuel' a2 [v2] = some x2 ∧ DataW.trod enc P w base sp held fuel' a3 [v3] = some x3 ∧ DataW.trod enc P w base sp held fuel' a4 [v4] = some x4 ∧ DataW.trod enc P w base sp held fuel' a5 [v5] = some x5 := by
  obtain ⟨fuel', ys, hc, hx, hl, hat⟩ := tr_cells [a0, a1, a2, a3, a4, a5] ht hf h1 h2 h
  match ys, hl with
  | [y0, y1, y2, y3, y4, y5], _ =>
    obtain ⟨z0, e0, t0⟩ := hat 0 _ rfl
    obtain ⟨z1, e1, t1⟩ := hat 1 _ rfl
    obtain ⟨z2, e2, t2⟩ := hat 2 _ rfl
    obtain ⟨z3, e3, t3⟩ := hat 3 _ rfl
    obtain ⟨z4, e4, t4⟩ := hat 4 _ rfl
    obtain ⟨z5, e5, t5⟩ := hat 5 _ rfl
    simp at e0 e1 e2 e3 e4 e5
    subst e0 e1 e2 e3 e4 e5
    exact ⟨fuel', _, _, _, _, _, _, _, _, _, _, _, _, hc, hx, t0, t1, t2, t3, t4, t5⟩
  | [], hl => simp at hl
  | [_], hl => simp at hl
  | [_, _], hl => simp at hl
  | [_, _, _], hl => simp at hl
  | [_, _, _, _], hl => simp at hl
  | [_, _, _, _, _], hl => simp at hl
  | _ :: _ :: _ :: _ :: _ :: _ :: _ :: _, hl => simp at hl
theorem us_flat (l : List Str2) : l.flatMap (fun u => [S u.1, S u.2]) = us l := rfl
theorem ss_flat (l : List (List UInt8)) : l.flatMap (fun u => [S u]) = ss l := by induction l with
  | nil => rfl
  | cons a l ih => simp only [List.flatMap_cons, ih]; rfl
/-- A table of numbers of the program's, of whatever numbers: what the world's shape tells. -/
theorem shaped_row {W : World} (h : W.ShapedOpen P) {g t e n : Nat} {zero : Array Value} {k : IntKind} (hg : Nat.blt g P.globals.size = true) (hz : ((begin P (fun _ _ => 0) default).world.heap[g]?).bind Obj.row? = some (zero, t)) (hb : P.buildable t = true)
    (he : P.underlying e = some (.int k)) (hc : P.cellTypes P.depth t = some (List.replicate n e)) (hn : zero.size = n) (hp : 0 < n) :
    ∃ zs : List Int, zs.length = n ∧ (∀ z ∈ zs, k.has z) ∧ ∀ j u, (zs.map (Value.int k))[j]? = some u → W.cell? ⟨g, j, none⟩ = some u := by
  obtain ⟨cs, h1, h2, h3⟩ := h.1 g zero t (by simpa [Nat.blt_eq] using hg) hz
  obtain ⟨ts, h4, _, h5⟩ := h3 hb
  rw [hc] at h4
  cases h4
  have key : ∀ m, m ≤ n → ∃ zs : List Int, zs.length = m ∧ (∀ z ∈ zs, k.has z) ∧ ∀ j u, (zs.map (Value.int k))[j]? = some u → W.cell? ⟨g, j, none⟩ = some u := by
    intro m
    induction m with
    | zero => intro _; exact ⟨[], rfl, by simp, by simp⟩
    | succ m ih =>
      intro hm
      obtain ⟨zs, h6, h7, h8⟩ := ih (by omega)
      have hlt : m < cs.size := by omega
      obtain ⟨u, hu, hok⟩ := h5 m cs[m] (by simp [hlt])
      have hue : u = e := by
        rw [List.length_replicate, Nat.mod_eq_of_lt (by omega), List.getElem?_replicate, if_pos (by omega)] at hu
        exact (Option.some.inj hu).symm
      subst hue
      have hz' : ∃ z, cs[m] = .int k z ∧ k.has z := by
        unfold Cell.ok at hok
        rw [he] at hok
        generalize cs[m] = v at hok ⊢
        cases v <;> simp at hok
        obtain ⟨rfl, hh⟩ := hok
        exact ⟨_, rfl, hh⟩
      obtain ⟨z, hz1, hz2⟩ := hz'
      refine ⟨zs ++ [z], by simp [h6], ?_, fun j u hu => ?_⟩
      · intro x hx
        rcases List.mem_append.1 hx with hx | hx
        · exact h7 x hx
        · rw [List.mem_singleton] at hx; subst hx; exact hz2
      · rw [List.map_append, List.getElem?_append] at hu
        split at hu
        · exact h8 j u hu
        · rename_i hj
          rw [List.length_map, h6] at hj hu
          have hje : j = m := by
            have := (List.getElem?_eq_some_iff.1 hu).1
            simp at this; omega
          subst hje
          simp at hu
          rw [cell_of W h1, Array.getElem?_eq_getElem hlt, hz1, hu]
  exact key n (Nat.le_refl n)
theorem has_u32 {z : Int} (h : IntKind.u32.has z) : ((UInt32.ofNat z.toNat).toNat : Int) = z := by
  have h' : 0 ≤ z ∧ z ≤ 4294967295 := by simpa [IntKind.has, IntKind.min, IntKind.max, IntKind.signed, IntKind.bits] using h
  rw [UInt32.toNat_ofNat', Nat.mod_eq_of_lt (by omega)]
  omega
theorem has_u8 {z : Int} (h : IntKind.u8.has z) : ((UInt8.ofNat z.toNat).toNat : Int) = z := by
  have h' : 0 ≤ z ∧ z ≤ 255 := by simpa [IntKind.has, IntKind.min, IntKind.max, IntKind.signed, IntKind.bits] using h
  rw [UInt8.toNat_ofNat', Nat.mod_eq_of_lt (by omega)]
  omega
theorem row_u32 {zs : List Int} (h : ∀ z ∈ zs, IntKind.u32.has z) : zs.map (Value.int .u32) = u32s (zs.map fun z => UInt32.ofNat z.toNat) := by
  rw [u32s, List.map_map]
  exact List.map_congr_left fun z hz => by show Value.int .u32 z = Value.int .u32 ((UInt32.ofNat z.toNat).toNat : Int); rw [has_u32 (h z hz)]
theorem row_u8 {zs : List Int} (h : ∀ z ∈ zs, IntKind.u8.has z) : zs.map (Value.int .u8) = bs (zs.map fun z => UInt8.ofNat z.toNat) := by
  rw [bs, List.map_map]
  exact List.map_congr_left fun z hz => by show Value.int .u8 z = Value.int .u8 ((UInt8.ofNat z.toNat).toNat : Int); rw [has_u8 (h z hz)]
/-- A value of a struct type is an aggregate. -/
theorem agg_of {r : Reach} {b0 t : Nat} {v : Value} (ha : aggT P t = true) (h : Value.okWide P w r b0 t v) : ∃ cs, v = .agg cs := by
  unfold aggT at ha
  unfold Value.okWide at h
  cases hu : P.underlying t with
  | none => rw [hu] at ha; cases ha
  | some d => rw [hu] at ha h; cases d <;> simp at ha <;> exact ⟨_, h.choose_spec.1⟩
end
end Go.Kw
