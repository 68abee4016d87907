/-
  CALLS OF FUNCTIONS WITHOUT A BODY (bytealg); lists of texts behind cells. My own text.
-/
import Derived.Test.YtadiljnfkbbmcaaDoorKw10
import Derived.Lib.Bytealg
set_option linter.unusedVariables false
set_option linter.unusedSimpArgs false
namespace Go.Kw
open Go.RowKit Go.Code Go
section
variable {P : Program} {w0 w w' : World} {cs F : List Chunk} {n : Nat} {ρ : Env} {Q : PQ} {ops : Array Oper} {k : Nat} {o : Oper} {b : Nat} {S' : World → Prop} {fuel : Nat} {listed : Array Bool}
def idxK (l : List UInt8) (c : UInt8) : Option Nat := (List.range l.length).find? fun i => l.getD i 0 == c
def idxI (l : List UInt8) (c : UInt8) : Int := match idxK l c with
  | some i => (i : Int)
  | none => -1
def cntF (l : List UInt8) (c : UInt8) : Nat := l.foldl (fun n x => if x == c then n + 1 else n) 0
theorem byte_at (l : List UInt8) (i : Nat) : (ByteArray.mk l.toArray)[i]! = l.getD i 0 := by
  rcases Nat.lt_or_ge i l.length with h | h
  · rw [getElem!_pos (ByteArray.mk l.toArray) i h, List.getD_eq_getElem?_getD, List.getElem?_eq_getElem h]
    rfl
  · rw [getElem!_neg (ByteArray.mk l.toArray) i (by show ¬ i < l.length; omega), List.getD_eq_getElem?_getD, List.getElem?_eq_none h]
    rfl
theorem indexByte_run (l : List UInt8) (c : UInt8) : (Extern.BytealgIndexByte.indexByte #[S l, .int .u8 (c.toNat : Int)]).run P w = .ok (.int .i64 (idxI l c)) w := by
  have h3 : ((c.toNat : Int)).toNat.toUInt8 = c := by simp
  have h1 : (fun i => (ByteArray.mk l.toArray)[i]! == c) = fun i => l.getD i 0 == c := by funext i; rw [byte_at]
  show (match (List.range l.length).find? fun i => (ByteArray.mk l.toArray)[i]! == ((c.toNat : Int)).toNat.toUInt8 with
    | some i => (pure (goInt i) : Sem Value)
    | none => pure (goInt (-1))).run P w = _
  rw [h3, h1, idxI, idxK]
  cases (List.range l.length).find? fun i => l.getD i 0 == c <;> rfl
theorem R_indexByte {f : FuncId} {fn : Func} {l : List UInt8} {c : UInt8} (hf : P.funcs[f]? = some fn) (hname : (fn.name == "runtime.NumGoroutine") = false) (hb : fn.body.isNone = true) (hn : Extern.findNext fn = none)
    (he : Extern.find fn = some Extern.BytealgIndexByte.indexByte) : (callFunc f #[S l, .int .u8 (c.toNat : Int)]).run P w = .ok (.value (.int .i64 (idxI l c))) w := by
  rw [run_callFunc_extern hf hname hb hn he, indexByte_run]; rfl
theorem foldl_int (c : UInt8) : ∀ (l : List UInt8) (k : Nat), l.foldl (fun (n : Int) x => if x == c then n + 1 else n) (k : Int) = ((l.foldl (fun (n : Nat) x => if x == c then n + 1 else n) k : Nat) : Int)
  | [], k => rfl
  | x :: l, k => by
    simp only [List.foldl_cons]
    cases x == c
    · exact foldl_int c l k
    · exact foldl_int c l (k + 1)
theorem count_run (l : List UInt8) (c : UInt8) : (Extern.BytealgCount.count #[S l, .int .u8 (c.toNat : Int)]).run P w = .ok (.int .i64 (cntF l c : Int)) w := by
  have h3 : ((c.toNat : Int)).toNat.toUInt8 = c := by simp
  show Result.ok (goInt ((ByteArray.mk l.toArray).foldl (fun (n : Int) x => if x == ((c.toNat : Int)).toNat.toUInt8 then n + 1 else n) ((0 : Nat) : Int))) w = _
  rw [h3, Go.Lib.foldl_data, foldl_int]
  rfl
theorem R_countByte {f : FuncId} {fn : Func} {l : List UInt8} {c : UInt8} (hf : P.funcs[f]? = some fn) (hname : (fn.name == "runtime.NumGoroutine") = false) (hb : fn.body.isNone = true) (hn : Extern.findNext fn = none)
    (he : Extern.find fn = some Extern.BytealgCount.count) : (callFunc f #[S l, .int .u8 (c.toNat : Int)]).run P w = .ok (.value (.int .i64 (cntF l c : Int))) w := by
  rw [run_callFunc_extern hf hname hb hn he, count_run]; rfl
theorem GL_ext {f : FuncId} {args : Array Value} {v : Value} (hr : (callFunc f args).run P w = .ok (.value v) w) (ho : ops[k]? = some o) (hd : okDst n o.dst = true) (hw : wantedE ops ρ o = true)
    (he : execOp (ev ρ) o = callFunc f args) (h : GL P n ops Q (k + 1) (put ρ o.dst v) w) : GL P n ops Q k ρ w := GL_val ho hd hw (by rw [he]; exact hr) h
/-! lists of texts -/
def ss (l : List (List UInt8)) : List Value := l.map fun x => S x
theorem ss_length (l : List (List UInt8)) : (ss l).length = l.length := by simp [ss]
theorem ss_get (l : List (List UInt8)) (i : Nat) (h : i < l.length) : (ss l)[i]? = some (S (l.getD i [])) := by simp [ss, h]
theorem ss_append (l m : List (List UInt8)) : ss (l ++ m) = ss l ++ ss m := by simp [ss]
theorem ss_one (l : List (List UInt8)) : ∀ u ∈ ss l, u.oneCell' = true := by
  intro u hu
  simp only [ss, List.mem_map] at hu
  obtain ⟨a, _, rfl⟩ := hu
  rfl
theorem ss_zeros (n : Nat) : (List.replicate n [S []]).flatten = ss (List.replicate n []) := by
  induction n with
  | zero => rfl
  | succ n ih => simp only [List.replicate_succ, List.flatten_cons, ih]; rfl
theorem ss_take (l : List (List UInt8)) (i : Nat) : (ss l).take (i * 1) = ss (l.take i) := by simp [ss, List.map_take]
theorem ss_drop (l : List (List UInt8)) (i : Nat) : (ss l).drop (i * 1) = ss (l.drop i) := by simp [ss, List.map_drop]
theorem ss_store (l : List (List UInt8)) (j : Nat) (b : List UInt8) (hj : j < l.length) : (ss l).take j ++ (S b).cells.toList ++ (ss l).drop (j + (S b).cells.size) = ss (l.set j b) := by
  show (ss l).take j ++ [S b] ++ (ss l).drop (j + 1) = _
  unfold ss
  rw [List.map_set, List.set_eq_take_append_cons_drop, if_pos (by simpa using hj)]
  simp
theorem ss_at {l : List (List UInt8)} {i : Nat} {ad : Addr} (h : ∀ w, Sep w0 w F → ∀ j u, j < 1 → (ss l)[i * 1 + j]? = some u → w.cell? (ad.add j) = some u) (hw : Sep w0 w F) (hi : i < l.length) : w.cell? ad = some (S (l.getD i [])) := by
  have := h w hw 0 _ (by omega) (by simpa using ss_get l i hi)
  simpa [Addr.add] using this
theorem R_rowstoreS {i t e nn c g off j : Nat} {l : List (List UInt8)} {b : List UInt8} {A : Option Addr} (h : Sep w0 w cs) (hi : cs[i]? = some (.row (.slice A nn c) e 1 nn (ss l))) (hA : A = some ⟨g, off, none⟩) (hs : sizeT P t = some 1) (hj : j < nn) :
    ∃ w', (Instr.storeAt t (.pointer (some ⟨g, off + j, none⟩)) (S b)).run P w = .ok () w' ∧ Sep w0 w' (cs.set i (.row (.slice A nn c) e 1 nn (ss (l.set j b)))) := by
  subst hA
  have hl : l.length = nn := by have := (h.get hi : RowOk w _ e 1 nn (ss l)).1; rw [ss_length] at this; omega
  obtain ⟨w', hr, H⟩ := R_rowstore (v := S b) (j := j) h hi hs (by show j + 1 ≤ nn * 1; omega) (by kernel_rfl)
  rw [ss_store l j b (by omega)] at H
  exact ⟨w', hr, H⟩
theorem R_streqT {t : Nat} {l m : List UInt8} (h : l = m) : (do eqGuard .eql t (.tmp 0) (.tmp 0) (.string ⟨l.toArray⟩) (.string ⟨m.toArray⟩); binOp .eql t (.string ⟨l.toArray⟩) (.string ⟨m.toArray⟩)).run P w = .ok (.bool true) w := by
  rw [R_streq, h]; simp
theorem R_streqF {t : Nat} {l m : List UInt8} (h : ¬ l = m) : (do eqGuard .eql t (.tmp 0) (.tmp 0) (.string ⟨l.toArray⟩) (.string ⟨m.toArray⟩); binOp .eql t (.string ⟨l.toArray⟩) (.string ⟨m.toArray⟩)).run P w = .ok (.bool false) w := by
  rw [R_streq, beq_eq_false_iff_ne.2 h]
end
end Go.Kw
