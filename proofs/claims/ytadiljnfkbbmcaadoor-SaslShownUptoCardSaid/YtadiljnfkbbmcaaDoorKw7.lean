/-
  RESULTS IN MEMORY BESIDE OTHERS; ARRAYS THAT ARE READ AND WRITTEN AT A PLACE; LISTS BEHIND CELLS. My own text.
-/
import Derived.Test.YtadiljnfkbbmcaaDoorKw6
set_option linter.unusedVariables false
set_option linter.unusedSimpArgs false
namespace Go.Kw
open Go.RowKit Go.Code

section
variable {P : Program} {ρ : Env} {w : World} {fn : Func} {Φ : Value → World → Prop}
theorem resTC {a t u : Nat} {v : Value} {ad : Addr} {vs : List Value} (h : fn.results = #[.tmp u, .cell a t]) (hv : ρ u = v) (hp : ρ a = .pointer (some ad)) (ht : aggT P t = true) (hs : sizeT P t = some vs.length)
    (hc : ∀ j u, vs[j]? = some u → w.cell? (ad.add j) = some u) (hΦ : Φ (.tuple #[v, .agg vs.toArray]) w) : retQ P fn Φ .ret ρ w := fun tm htm => by
  refine ⟨.tuple #[v, .agg vs.toArray], ?_, hΦ⟩
  simp [results, h, htm, hv, hp, asAddr, loadVar, isAgg_agg (w := w) ht, sizeT_run (w := w) hs, run_loadCells_list w ad vs hc]
end

section
variable {P : Program} {w0 w w' : World} {cs F : List Chunk}
/-! slices of bytes that may be read -/
theorem R_bslice_lo {A : Option Addr} {c a t e : Nat} {k1 : IntKind} {l : List UInt8} (hr : Rd w0 F (.slice A l.length c) 1 l.length (bs l)) (ht : P.underlying t = some (.slice e)) (hs : sizeT P e = some 1) (ha : a ≤ l.length) :
    ∃ A' c', (∀ w, (Instr.sliceAt t (.slice A l.length c) (some (.int k1 (a : Int))) none none).run P w = .ok (.slice A' (l.drop a).length c') w) ∧ Rd w0 F (.slice A' (l.drop a).length c') 1 (l.drop a).length (bs (l.drop a)) := by
  obtain ⟨A', c', h1, h2⟩ := R_slice_lo (k1 := k1) hr ht hs ha
  rw [bs_drop] at h2
  exact ⟨A', c', by simpa using h1, by simpa using h2⟩
theorem R_bslice_hi {A : Option Addr} {c b t e : Nat} {k2 : IntKind} {l : List UInt8} (hr : Rd w0 F (.slice A l.length c) 1 l.length (bs l)) (ht : P.underlying t = some (.slice e)) (hs : sizeT P e = some 1) (hb : b ≤ l.length) :
    ∃ A' c', (∀ w, (Instr.sliceAt t (.slice A l.length c) none (some (.int k2 (b : Int))) none).run P w = .ok (.slice A' (l.take b).length c') w) ∧ Rd w0 F (.slice A' (l.take b).length c') 1 (l.take b).length (bs (l.take b)) := by
  obtain ⟨A', c', h1, h2⟩ := R_slice_hi (k2 := k2) hr ht hs hb
  rw [bs_take] at h2
  have e : (l.take b).length = b := by simp; omega
  rw [e]
  exact ⟨A', c', h1, h2⟩
theorem R_bslice {A : Option Addr} {c a b t e : Nat} {k1 k2 : IntKind} {l : List UInt8} (hr : Rd w0 F (.slice A l.length c) 1 l.length (bs l)) (ht : P.underlying t = some (.slice e)) (hs : sizeT P e = some 1) (ha : a ≤ b) (hb : b ≤ l.length) :
    ∃ A' c', (∀ w, (Instr.sliceAt t (.slice A l.length c) (some (.int k1 (a : Int))) (some (.int k2 (b : Int))) none).run P w = .ok (.slice A' ((l.take b).drop a).length c') w) ∧ Rd w0 F (.slice A' ((l.take b).drop a).length c') 1 ((l.take b).drop a).length (bs ((l.take b).drop a)) := by
  obtain ⟨A', c', h1, h2⟩ := R_slice (k1 := k1) (k2 := k2) hr ht hs ha hb
  rw [bs_cut] at h2
  have e : ((l.take b).drop a).length = b - a := by simp; omega
  rw [e, List.drop_take]
  exact ⟨A', c', h1, h2⟩
/-! append on bytes: the new text by a name -/
theorem R_append8 {i t ty e m : Nat} {v x : Value} {l news : List UInt8} (h : Sep w0 w cs) (hi : cs[i]? = some (.row v e 1 l.length (bs l))) (ht : elemT P t = some (e, .int .u8 0, 1, 1))
    (hx : Src w x 1 m (bs news)) (hm : m = news.length) (hb : l.length + m ≤ 140737488355328) :
    ∃ A c w' o, o = l ++ news ∧ o.length = l.length + m ∧ (Builtin.append_ #[t, t] ty #[v, x]).run P w = .ok (.slice A o.length c) w' ∧ Sep w0 w' (cs.set i (.row (.slice A o.length c) e 1 o.length (bs o))) := by
  obtain ⟨A, c, w', hr, H⟩ := R_append (ty := ty) h hi ht rfl hx (bs_one _) (by unfold maxLen; omega) (by omega)
  subst hm
  refine ⟨A, c, w', l ++ news, rfl, List.length_append, ?_, ?_⟩
  · rw [List.length_append]; exact hr
  · rw [List.length_append, bs_append]; exact H
theorem R_append8n {t ty e m : Nat} {x : Value} {news : List UInt8} (h : Sep w0 w cs) (ht : elemT P t = some (e, .int .u8 0, 1, 1))
    (hx : Src w x 1 m (bs news)) (hm : m = news.length) (hb : m ≤ 140737488355328) :
    ∃ A c w' o, o = news ∧ o.length = m ∧ (Builtin.append_ #[t, t] ty #[.slice none 0 0, x]).run P w = .ok (.slice A o.length c) w' ∧ Sep w0 w' (.row (.slice A o.length c) e 1 o.length (bs o) :: cs) := by
  obtain ⟨A, c, w', hr, H⟩ := R_append_nil (ty := ty) h ht rfl hx (bs_one _) (by unfold maxLen; omega) (by omega)
  subst hm
  exact ⟨A, c, w', news, rfl, rfl, hr, H⟩
end
section
variable {P : Program} {ρ : Env} {w : World} {n : Nat} {c : Code} {Q : PQ}
/-- Temporaries in another form. -/
theorem G_re (L : List (Nat × Value)) {olds news : List Value} (hr : olds = news) (next : ∀ β, G P n c (upds β L) w Q)
    (h : L.map (fun p => ρ p.1) = olds := by kernel_rfl) (hv : news = L.map (·.2) := by rfl) : G P n c ρ w Q := G_forget L (by rw [h, hr, hv]) next
end
end Go.Kw
