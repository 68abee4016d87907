-- printed by gw.py (my own program), checked by Lean
import Derived.Test.YtadiljnfkbbmcaaDoorC4
import Derived.Test.YtadiljnfkbbmcaaDoorB1
set_option linter.unusedVariables false
set_option linter.unusedSimpArgs false
set_option maxRecDepth 100000
set_option maxHeartbeats 400000
namespace Go.Proofs.YtadiljnfkbbmcaaDoor
open Go.Kw Go.RowKit

def lastK (s : List UInt8) (c : UInt8) : Nat → Int
  | 0 => -1
  | k + 1 => if s.getD k 0 = c then (k : Int) else lastK s c k
theorem lastK_ge (s : List UInt8) (c : UInt8) (k : Nat) : -1 ≤ lastK s c k ∧ lastK s c k < (k : Int) := by
  induction k with
  | zero => simp [lastK]
  | succ k ih => unfold lastK; split <;> omega
/-- internal/bytealg.LastIndexByteString -/
theorem c_LIBS (l : List UInt8) (hl : l.length ≤ 1099511627776) (c : UInt8) {w0 w : World} {F : List Chunk} (H : Sep w0 w F) : Ret Tryd.prog 108 #[S l, .int .u8 (c.toNat : Int)] w (fun v w' => v = .int .i64 (lastK l c l.length) ∧ Sep w0 w' F) := by
 refine Ret_enter (args := [S l, By c]) Tryd.func108 rfl (by kernel_rfl) ?_
 refine G_forget [(0, S l), (1, By c)] (by kernel_rfl) (fun β => ?_)
 refine G_sr ?_
 refine GL_st 1 1 [(0, S l), (1, By c)] fun β => ?_
 refine G_seq ?_
 refine G_sr ?_
 refine GL_srt 4 4 [(0, S l), (1, By c), (5, .int .i64 ((l.length : Int) - ((1 : Nat) : Int)))] (show ([S l, .int .u8 (c.toNat : Int), .int .i64 (IntKind.i64.wrap ((l.length : Int) - ((1 : Nat) : Int)))] : List Value) = [S l, By c, .int .i64 ((l.length : Int) - ((1 : Nat) : Int))] by rw [unw64 (e := ((l.length : Int) - ((1 : Nat) : Int))) (by omega)]) fun β => ?_
 refine G_block ?_
 refine G_loop (X := Nat) (fun k => [(0, S l), (1, By c), (5, .int .i64 ((k : Int) - 1))]) (fun k w_ => Sep w0 w_ (F) ∧ (k ≤ l.length ∧ lastK l c l.length = lastK l c k)) (fun k => k) (l.length) (by kernel_rfl) ⟨H, ⟨by omega, rfl⟩⟩ ?_
 rintro k β w1 ⟨H, hI⟩
 refine G_forget [(0, S l), (1, By c), (5, .int .i64 ((k : Int) - 1))] (by kernel_rfl) (fun β => ?_)
 replace H : Sep w0 w1 (F) := H
 replace hI : k ≤ l.length ∧ lastK l c l.length = lastK l c k := hI
 obtain ⟨hI1, hI2⟩ := hI
 refine G_seq ?_
 refine G_sr ?_
 refine GL_st 2 2 [(0, S l), (1, By c), (5, .int .i64 ((k : Int) - 1)), (10, .bool (decide (((k : Int) - 1) ≥ ((0 : Nat) : Int))))] fun β => ?_
 refine G_cond (decide (((k : Int) - 1) ≥ ((0 : Nat) : Int))) (by kernel_rfl) (fun h0 => ?_) (fun h0 => ?_)
 · --yes
  replace h0 : ((k : Int) - 1) ≥ ((0 : Nat) : Int) := of_decide_eq_true h0
  refine G_re [(0, S l), (1, By c), (5, In (k - 1)), (10, .bool (decide (((k : Int) - 1) ≥ ((0 : Nat) : Int))))] (show ([S l, By c, .int .i64 ((k : Int) - 1), .bool (decide (((k : Int) - 1) ≥ ((0 : Nat) : Int)))] : List Value) = [S l, By c, In (k - 1), .bool (decide (((k : Int) - 1) ≥ ((0 : Nat) : Int)))] by rw [show ((k : Int) - 1) = ((k - 1 : Nat) : Int) from by omega]) (fun β => ?_)
  refine G_skip ?_
  refine thn_normal ?_
  refine G_seq ?_
  refine G_block ?_
  refine G_sr ?_
  refine GL_s 2 2 [(0, S l), (1, By c), (5, In (k - 1)), (13, S l), (14, In (k - 1))] fun β => ?_
  refine GL_V (R_index (P := Tryd.prog) (w := _) (t := 9) (ki := .i64) (i := (k - 1)) (l := l) (by kernel_rfl) (by omega)) ?_
  refine GL_srt 2 5 [(0, S l), (1, By c), (5, In (k - 1)), (17, .bool ((l.getD (k - 1) 0) == c))] (show ([S l, .int .u8 (c.toNat : Int), .int .i64 ((k - 1 : Nat) : Int), .bool (((l.getD (k - 1) 0).toNat : Int) == (c.toNat : Int))] : List Value) = [S l, By c, In (k - 1), .bool ((l.getD (k - 1) 0) == c)] by rw [Kw.u8_eql (l.getD (k - 1) 0) c]) fun β => ?_
  refine G_cond ((l.getD (k - 1) 0) == c) (by kernel_rfl) (fun h1 => ?_) (fun h1 => ?_)
  · --yes
   replace h1 : (l.getD (k - 1) 0) = c := eql_T h1
   refine G_sr ?_
   refine GL_st 2 2 [(4, In (k - 1))] fun β => ?_
   refine G_ret ?_
   refine inb_ret (thn_ret (thn_ret (inb_ret (thn_ret (res1 (v := In (k - 1)) rfl (by kernel_rfl) ?_)))))
   replace H : Sep w0 w1 (F) := H
   refine ⟨?_, H⟩
   obtain ⟨j, rfl⟩ : ∃ j, k = j + 1 := ⟨k - 1, by omega⟩
   rw [hI2, lastK, if_pos (by simpa using h1)]
   simp
  · --no
   replace h1 : ¬ ((l.getD (k - 1) 0) = c) := eql_F h1
   refine G_skip ?_
   refine inb_normal ?_
   refine thn_normal ?_
   refine G_region ?_
   refine GL_sr 3 3 [(0, S l), (1, By c), (5, .int .i64 (((k - 1 : Nat) : Int) - ((1 : Nat) : Int)))] (show ([S l, .int .u8 (c.toNat : Int), .int .i64 (IntKind.i64.wrap (((k - 1 : Nat) : Int) - ((1 : Nat) : Int)))] : List Value) = [S l, By c, .int .i64 (((k - 1 : Nat) : Int) - ((1 : Nat) : Int))] by rw [unw64 (e := (((k - 1 : Nat) : Int) - ((1 : Nat) : Int))) (by omega)]) fun β => ?_
   refine GL_end (by kernel_rfl) ?_
   refine thn_normal ⟨(k - 1), Agr_of_keys (by kernel_rfl), ⟨H, ?_⟩, ?_⟩
   · refine ⟨by omega, ?_⟩
     obtain ⟨j, rfl⟩ : ∃ j, k = j + 1 := ⟨k - 1, by omega⟩
     rw [hI2, lastK, if_neg (by simpa using h1)]
     simp
   · first | (dsimp only; omega) | omega
 · --no
  replace h0 : ¬ (((k : Int) - 1) ≥ ((0 : Nat) : Int)) := of_decide_eq_false h0
  refine G_exit (thn_exit (thn_exit (inb_hit ?_)))
  refine thn_normal ?_
  refine G_sr ?_
  refine GL_st 1 1 [(4, .int .i64 (-1 : Int))] fun β => ?_
  refine G_ret ?_
  refine res1 (v := .int .i64 (-1 : Int)) rfl (by kernel_rfl) ?_
  replace H : Sep w0 w1 (F) := H
  refine ⟨?_, H⟩
  have hk : k = 0 := by omega
  subst hk
  rw [hI2]
  rfl
/-- strings.LastIndex -/
theorem c_LastIndex (l : List UInt8) (hl : l.length ≤ 1099511627776) {w0 w : World} {F : List Chunk} (H : Sep w0 w F) : Ret Tryd.prog 106 #[S l, S [32]] w (fun v w' => v = .int .i64 (lastK l 32 l.length) ∧ Sep w0 w' F) := by
 refine Ret_enter (args := [S l, S [32]]) Tryd.func106 rfl (by kernel_rfl) ?_
 refine G_forget [(0, S l), (1, S [32])] (by kernel_rfl) (fun β => ?_)
 refine G_sr ?_
 refine GL_st 1 1 [(0, S l), (1, S [32])] fun β => ?_
 refine G_sr ?_
 refine GL_st 3 3 [(0, S l), (1, S [32]), (5, In 1)] fun β => ?_
 refine G_seq ?_
 refine G_block ?_
 refine G_sr ?_
 refine GL_st 3 3 [(0, S l), (1, S [32]), (5, In 1), (8, .bool false)] fun β => ?_
 refine G_false (by kernel_rfl) ?_
 refine G_sr ?_
 refine GL_st 3 3 [(0, S l), (1, S [32]), (5, In 1), (13, .bool true)] fun β => ?_
 refine G_true (by kernel_rfl) ?_
 refine G_sr ?_
 refine GL_s 3 3 [(16, S l), (18, By (32 : UInt8))] fun β => ?_
 refine GL_C (c_LIBS l (by omega) (32 : UInt8) H) ?_
 rintro _ w1 ⟨rfl, H⟩
 refine GL_st 1 5 [(4, .int .i64 (lastK l (32 : UInt8) l.length))] fun β => ?_
 refine G_ret ?_
 refine inb_ret (thn_ret (res1 (v := .int .i64 (lastK l (32 : UInt8) l.length)) rfl (by kernel_rfl) ?_))
 replace H : Sep w0 w1 (F) := H
 exact ⟨rfl, H⟩

def crP (T : List UInt32) (R : List UInt8) (l : List Str2) (st nm told : List UInt8) : Bool := l.any fun u => u.1 == nm && dgF T R u.2 st == told
def crF (T : List UInt32) (R : List UInt8) (l : List Str2) (st y : List UInt8) : List UInt8 × Bool × Nat :=
  if lastK y 32 y.length < 0 then ([], false, 221)
  else (y.take (lastK y 32 y.length).toNat, crP T R l st (y.take (lastK y 32 y.length).toNat) (y.drop ((lastK y 32 y.length).toNat + 1)), 0)
theorem getD_mem {l : List Str2} {k : Nat} (h : k < l.length) : l.getD k ([], []) ∈ l := by
  simp only [List.getD_eq_getElem?_getD, List.getElem?_eq_getElem h, Option.getD_some]; exact List.getElem_mem h
theorem cr_step {T : List UInt32} {R : List UInt8} {l : List Str2} {st nm told : List UInt8} {k : Nat} (hk : k < l.length) (h : crP T R (l.take k) st nm told = false)
    (e : ((l.getD k ([], [])).1 == nm && dgF T R (l.getD k ([], [])).2 st == told) = false) : crP T R (l.take (k + 1)) st nm told = false := by
  unfold crP at *
  rw [List.take_add_one, List.getElem?_eq_getElem hk, List.any_append, h]
  simp only [List.getD_eq_getElem?_getD, List.getElem?_eq_getElem hk, Option.getD_some] at e
  simp only [Option.toList_some, List.any_cons, List.any_nil, Bool.or_false, Bool.false_or]
  exact e
theorem eqT {x n d t : List UInt8} (h2 : x = n) (h3 : d = t) : (x == n && d == t) = true := by subst h2 h3; simp
theorem eqF1 {x n d t : List UInt8} (h2 : ¬ x = n) : (x == n && d == t) = false := by simp [h2]
theorem eqF2 {x n d t : List UInt8} (h3 : ¬ d = t) : (x == n && d == t) = false := by simp [h3]
theorem cr_yes {T : List UInt32} {R : List UInt8} {l : List Str2} {st nm told : List UInt8} {k : Nat} (hk : k < l.length)
    (e : ((l.getD k ([], [])).1 == nm && dgF T R (l.getD k ([], [])).2 st == told) = true) : crP T R l st nm told = true := by
  simp only [List.getD_eq_getElem?_getD, List.getElem?_eq_getElem hk, Option.getD_some] at e
  exact List.any_eq_true.2 ⟨l[k], List.getElem_mem hk, e⟩
/-- (posthorn/sasl.cram).take -/
theorem c_take_cram {w0 w : World} {F : List Chunk} (T : List UInt32) (hT : T.length = 64) (gT : Gl w0 0 (u32s T)) (R : List UInt8) (hR : R.length = 16) (gR : Gl w0 1 (bs R)) (st y : List UInt8) (hst : st.length ≤ 549755813888) (hy : y.length ≤ 549755813888) (l : List Str2) (hl : l.length ≤ 1099511627776) (hU : ∀ u ∈ l, u.1.length ≤ 549755813888 ∧ u.2.length ≤ 549755813888) {A : Option Addr} {c : Nat} (RU : Rd w0 F (.slice A l.length c) 2 l.length (us l)) (H : Sep w0 w F) : Ret Tryd.prog 105 #[.agg #[S st], .slice A l.length c, S y] w (fun v w' => v = .tuple #[.nilIface, S (crF T R l st y).1, .bool (crF T R l st y).2.1, .int .i64 ((crF T R l st y).2.2 : Int)] ∧ Sep w0 w' F) := by
 refine Ret_enter (args := [.agg #[S st], .slice A l.length c, S y]) Tryd.func105 rfl (by kernel_rfl) ?_
 refine G_forget [(0, .agg #[S st]), (1, .slice A l.length c), (2, S y)] (by kernel_rfl) (fun β => ?_)
 refine G_sr ?_
 refine GL_new (V := fun g => Pt g 0) (l := [S st]) (t := 60) H rfl (by kernel_rfl) (by kernel_rfl) (by kernel_rfl) (fun g1 w2 H => ?_)
 refine GL_st 4 5 [(1, .slice A l.length c), (2, S y), (3, Pt g1 0)] fun β => ?_
 refine G_sr ?_
 refine GL_s 1 1 [(1, .slice A l.length c), (2, S y), (3, Pt g1 0), (15, S y)] fun β => ?_
 refine GL_C (c_LastIndex y (by omega) H) ?_
 rintro _ w3 ⟨rfl, H⟩
 refine GL_st 1 3 [(1, .slice A l.length c), (2, S y), (3, Pt g1 0), (10, .int .i64 (lastK y 32 y.length))] fun β => ?_
 refine G_seq ?_
 refine G_sr ?_
 refine GL_st 2 2 [(1, .slice A l.length c), (2, S y), (3, Pt g1 0), (10, .int .i64 (lastK y 32 y.length)), (18, .bool (decide ((lastK y 32 y.length) < ((0 : Nat) : Int))))] fun β => ?_
 refine G_cond (decide ((lastK y 32 y.length) < ((0 : Nat) : Int))) (by kernel_rfl) (fun h0 => ?_) (fun h0 => ?_)
 · --yes
  replace h0 : (lastK y 32 y.length) < ((0 : Nat) : Int) := of_decide_eq_true h0
  refine G_sr ?_
  refine GL_st 4 4 [(6, .nilIface), (7, S ([] : List UInt8)), (8, .bool false), (9, In 221)] fun β => ?_
  refine G_ret ?_
  refine thn_ret (res4 (v := .nilIface) (x := S ([] : List UInt8)) (y := .bool false) (z := In 221) rfl (by kernel_rfl) (by kernel_rfl) (by kernel_rfl) (by kernel_rfl) ?_)
  replace H := H.drop 0
  replace H : Sep w0 w3 (F) := H
  refine ⟨?_, H⟩
  have e : crF T R l st y = ([], false, 221) := if_pos (by simpa using h0)
  rw [e]
 · --no
  replace h0 : ¬ ((lastK y 32 y.length) < ((0 : Nat) : Int)) := of_decide_eq_false h0
  obtain ⟨p, hp⟩ : ∃ p : Nat, lastK y 32 y.length = (p : Int) := ⟨(lastK y 32 y.length).toNat, by omega⟩
  have hpl := lastK_ge y 32 y.length
  refine G_re [(1, .slice A l.length c), (2, S y), (3, Pt g1 0), (10, In p), (18, .bool (decide ((lastK y 32 y.length) < ((0 : Nat) : Int))))] (show ([.slice A l.length c, S y, Pt g1 0, .int .i64 (lastK y 32 y.length), .bool (decide ((lastK y 32 y.length) < ((0 : Nat) : Int)))] : List Value) = [.slice A l.length c, S y, Pt g1 0, In p, .bool (decide ((lastK y 32 y.length) < ((0 : Nat) : Int)))] by rw [hp]) (fun β => ?_)
  refine G_skip ?_
  refine thn_normal ?_
  refine G_seq ?_
  refine G_drawS (fun w => True) 9 9 (by kernel_rfl) (by kernel_rfl) H (fun w4 H => ?_)
  refine HL_takes [0, 1] [(1, .slice A l.length c), (2, S y), (3, Pt g1 0), (10, .int .i64 (p : Int)), (19, S y), (20, .int .i64 (p : Int))] (mkL 9 [0, 1]) 7 (by kernel_rfl) rfl (by kernel_rfl) (fun _ => by kernel_rfl) trivial (fun β => ?_)
  refine HL_t (i := 2) (m := 6) (fun w _ => (R_strslice_hi (t := 9) (k2 := .i64) (b := p) (l := y) (by kernel_rfl) (by omega))) rfl (by kernel_rfl) (by kernel_rfl) (by kernel_rfl) (by kernel_rfl) (by kernel_rfl) (by kernel_rfl) trivial rfl ?_
  refine HL_takes [3, 4, 5] [(1, .slice A l.length c), (3, Pt g1 0), (21, S (y.take p)), (22, S y), (24, .int .i64 (IntKind.i64.wrap ((p : Int) + ((1 : Nat) : Int))))] (mkL 9 [0, 1, 2, 3, 4, 5]) 3 (by kernel_rfl) rfl (by kernel_rfl) (fun _ => by kernel_rfl) trivial (fun β => ?_)
  refine HL_forgetr [(1, .slice A l.length c), (3, Pt g1 0), (21, S (y.take p)), (22, S y), (24, In (p + 1))] (show ([.slice A l.length c, Pt g1 0, S (y.take p), S y, .int .i64 (IntKind.i64.wrap ((p : Int) + ((1 : Nat) : Int)))] : List Value) = [.slice A l.length c, Pt g1 0, S (y.take p), S y, In (p + 1)] by rw [nadd64 p 1 (by omega)]) (by kernel_rfl) rfl (fun β => ?_)
  refine HL_t (i := 6) (m := 2) (fun w _ => (R_strslice_lo (t := 9) (k1 := .i64) (a := (p + 1)) (l := y) (by kernel_rfl) (by omega))) rfl (by kernel_rfl) (by kernel_rfl) (by kernel_rfl) (by kernel_rfl) (by kernel_rfl) (by kernel_rfl) trivial rfl ?_
  refine HL_takes [7, 8] [(1, .slice A l.length c), (3, Pt g1 0), (11, S (y.take p)), (12, S (y.drop (p + 1)))] (mkL 9 [0, 1, 2, 3, 4, 5, 6, 7, 8]) 0 (by kernel_rfl) rfl (by kernel_rfl) (fun _ => by kernel_rfl) trivial (fun β => ?_)
  refine HL_forget [(1, .slice A l.length c), (3, Pt g1 0), (11, S (y.take p)), (12, S (y.drop (p + 1)))] (by kernel_rfl) (fun β => ?_)
  refine HL_fin (by kernel_rfl) ?_
  refine thn_normal ?_
  refine G_seq ?_
  refine G_sr ?_
  refine GL_st 3 3 [(3, Pt g1 0), (11, S (y.take p)), (12, S (y.drop (p + 1))), (26, .slice A l.length c), (27, In l.length), (28, In 0)] fun β => ?_
  refine G_block ?_
  refine G_loop (X := Nat) (fun k => [(3, Pt g1 0), (11, S (y.take p)), (12, S (y.drop (p + 1))), (26, .slice A l.length c), (27, In l.length), (28, In k)]) (fun k w_ => Sep w0 w_ (.blk g1 60 [S st] :: F) ∧ (k ≤ l.length ∧ crP T R (l.take k) st (y.take p) (y.drop (p + 1)) = false)) (fun k => l.length - k) (0) (by kernel_rfl) ⟨H, ⟨by omega, rfl⟩⟩ ?_
  rintro k β w5 ⟨H, hI⟩
  refine G_forget [(3, Pt g1 0), (11, S (y.take p)), (12, S (y.drop (p + 1))), (26, .slice A l.length c), (27, In l.length), (28, In k)] (by kernel_rfl) (fun β => ?_)
  replace H : Sep w0 w5 (.blk g1 60 [S st] :: F) := H
  replace hI : k ≤ l.length ∧ crP T R (l.take k) st (y.take p) (y.drop (p + 1)) = false := hI
  obtain ⟨hI1, hI2⟩ := hI
  refine G_sr ?_
  refine GL_srt 1 1 [(3, Pt g1 0), (11, S (y.take p)), (12, S (y.drop (p + 1))), (26, .slice A l.length c), (27, In l.length), (28, In k), (29, .bool (decide (k < l.length)))] (show ([Pt g1 0, S (y.take p), S (y.drop (p + 1)), .slice A l.length c, .int .i64 (l.length : Int), .int .i64 (k : Int), .bool (decide ((k : Int) < (l.length : Int)))] : List Value) = [Pt g1 0, S (y.take p), S (y.drop (p + 1)), .slice A l.length c, In l.length, In k, .bool (decide (k < l.length))] by rw [nlss k l.length]) fun β => ?_
  refine G_seq ?_
  refine G_cond (decide (k < l.length)) (by kernel_rfl) (fun h1 => ?_) (fun h1 => ?_)
  · --yes
   replace h1 : k < l.length := of_decide_eq_true h1
   have hu := hU _ (getD_mem (l := l) (k := k) (by omega))
   refine G_skip ?_
   refine thn_normal ?_
   refine G_seq ?_
   refine G_block ?_
   refine G_sr ?_
   obtain ⟨ad7, hr6, hc8⟩ := R_place (P := Tryd.prog) (t := 22) (e := 40) (i := k) (ki := .i64) RU (by omega) (by kernel_rfl) (by kernel_rfl)
   refine GL_V (hr6 _) ?_
   refine GL_V (run_loadN (t := 40) (vs := [S ((l.getD k ([], [])).1), S ((l.getD k ([], [])).2)]) (by kernel_rfl) (by kernel_rfl) (us_at hc8 (H.drop 0) (by omega))) ?_
   refine GL_new (V := fun g => Pt g 0) (l := [S ([] : List UInt8), S ([] : List UInt8)]) (t := 40) H rfl (by kernel_rfl) (by kernel_rfl) (by kernel_rfl) (fun g9 w10 H => ?_)
   obtain ⟨w11, hr12, H⟩ := R_store (P := Tryd.prog) (t := 40) (v := .agg #[S ((l.getD k ([], [])).1), S ((l.getD k ([], [])).2)]) (off := 0) H (i := 0) rfl (by kernel_rfl) (by kernel_rfl) (by kernel_rfl)
   replace H : Sep w0 w11 (.blk g9 40 [S ((l.getD k ([], [])).1), S ((l.getD k ([], [])).2)] :: .blk g1 60 [S st] :: F) := H
   refine GL_U hr12 ?_
   refine GL_et ?_
   refine G_sr ?_
   refine GL_s 1 1 [(3, Pt g1 0), (11, S (y.take p)), (12, S (y.drop (p + 1))), (14, Pt g9 0), (26, .slice A l.length c), (27, In l.length), (28, In k), (32, Pt g9 0)] fun β => ?_
   refine GL_V (run_load1 (t := 9) (by kernel_rfl) ((H.blk_cell (i := 0) rfl 0).trans rfl)) ?_
   refine GL_s 1 3 [(3, Pt g1 0), (11, S (y.take p)), (12, S (y.drop (p + 1))), (14, Pt g9 0), (26, .slice A l.length c), (27, In l.length), (28, In k), (33, S ((l.getD k ([], [])).1)), (34, S (y.take p))] fun β => ?_
   refine GL_V (R_streq (t := 9) (l := (l.getD k ([], [])).1) (m := (y.take p))) ?_
   refine GL_s 1 5 [(3, Pt g1 0), (11, S (y.take p)), (12, S (y.drop (p + 1))), (14, Pt g9 0), (26, .slice A l.length c), (27, In l.length), (28, In k), (36, .bool (((l.getD k ([], [])).1) == (y.take p)))] fun β => ?_
   rcases Bool.eq_false_or_eq_true (((l.getD k ([], [])).1) == (y.take p)) with h2 | h2
   · --yes
    refine GL_re [(3, Pt g1 0), (11, S (y.take p)), (12, S (y.drop (p + 1))), (14, Pt g9 0), (26, .slice A l.length c), (27, In l.length), (28, In k), (36, .bool true)] (show ([Pt g1 0, S (y.take p), S (y.drop (p + 1)), Pt g9 0, .slice A l.length c, In l.length, In k, .bool (((l.getD k ([], [])).1) == (y.take p))] : List Value) = [Pt g1 0, S (y.take p), S (y.drop (p + 1)), Pt g9 0, .slice A l.length c, In l.length, In k, .bool true] by rw [h2]) (fun β => ?_)
    replace h2 : (l.getD k ([], [])).1 = (y.take p) := eql_T h2
    refine GL_s 1 6 [(3, Pt g1 0), (11, S (y.take p)), (12, S (y.drop (p + 1))), (26, .slice A l.length c), (27, In l.length), (28, In k), (36, .bool true), (37, Pt g9 1)] fun β => ?_
    refine GL_V (run_load1 (t := 9) (by kernel_rfl) ((H.blk_cell (i := 0) rfl 1).trans rfl)) ?_
    refine GL_s 1 8 [(3, Pt g1 0), (11, S (y.take p)), (12, S (y.drop (p + 1))), (26, .slice A l.length c), (27, In l.length), (28, In k), (36, .bool true), (38, S ((l.getD k ([], [])).2)), (39, Pt g1 0)] fun β => ?_
    refine GL_V (run_load1 (t := 9) (by kernel_rfl) ((H.blk_cell (i := 1) rfl 0).trans rfl)) ?_
    refine GL_C (c_digest T hT gT R hR gR ((l.getD k ([], [])).2) st (by omega) (by omega) H) ?_
    rintro _ w13 ⟨rfl, H⟩
    refine GL_s 1 11 [(3, Pt g1 0), (11, S (y.take p)), (12, S (y.drop (p + 1))), (26, .slice A l.length c), (27, In l.length), (28, In k), (36, .bool true), (41, S (dgF T R ((l.getD k ([], [])).2) st)), (42, S (y.drop (p + 1)))] fun β => ?_
    refine GL_V (R_streq (t := 9) (l := (dgF T R ((l.getD k ([], [])).2) st)) (m := (y.drop (p + 1)))) ?_
    refine GL_st 1 13 [(3, Pt g1 0), (11, S (y.take p)), (12, S (y.drop (p + 1))), (26, .slice A l.length c), (27, In l.length), (28, In k), (44, .bool ((dgF T R ((l.getD k ([], [])).2) st) == (y.drop (p + 1))))] fun β => ?_
    refine G_cond ((dgF T R ((l.getD k ([], [])).2) st) == (y.drop (p + 1))) (by kernel_rfl) (fun h3 => ?_) (fun h3 => ?_)
    · --yes
     replace h3 : (dgF T R ((l.getD k ([], [])).2) st) = (y.drop (p + 1)) := eql_T h3
     refine G_sr ?_
     refine GL_st 5 5 [(6, .nilIface), (7, S (y.take p)), (8, .bool true), (9, In 0)] fun β => ?_
     refine G_ret ?_
     refine inb_ret (thn_ret (thn_ret (inb_ret (thn_ret (res4 (v := .nilIface) (x := S (y.take p)) (y := .bool true) (z := In 0) rfl (by kernel_rfl) (by kernel_rfl) (by kernel_rfl) (by kernel_rfl) ?_)))))
     replace H := H.drop 1
     replace H := H.drop 0
     replace H : Sep w0 w13 (F) := H
     refine ⟨?_, H⟩
     have hq : crP T R l st (y.take p) (y.drop (p + 1)) = true := cr_yes (k := k) (by omega) (eqT h2 h3)
     have e : crF T R l st y = (y.take p, true, 0) := by rw [crF, if_neg (by simpa using h0), hp, Int.toNat_natCast, hq]
     rw [e]
    · --no
     replace h3 : ¬ ((dgF T R ((l.getD k ([], [])).2) st) = (y.drop (p + 1))) := eql_F h3
     refine G_skip ?_
     refine inb_normal ?_
     refine thn_normal ?_
     refine G_region ?_
     refine GL_sr 2 2 [(3, Pt g1 0), (11, S (y.take p)), (12, S (y.drop (p + 1))), (26, .slice A l.length c), (27, In l.length), (28, In (k + 1))] (show ([Pt g1 0, S (y.take p), S (y.drop (p + 1)), .slice A l.length c, .int .i64 (l.length : Int), .int .i64 (IntKind.i64.wrap ((k : Int) + ((1 : Nat) : Int)))] : List Value) = [Pt g1 0, S (y.take p), S (y.drop (p + 1)), .slice A l.length c, In l.length, In (k + 1)] by rw [nadd64 k 1 (by omega)]) fun β => ?_
     refine GL_end (by kernel_rfl) ?_
     replace H := H.drop 0
     replace H : Sep w0 w13 (.blk g1 60 [S st] :: F) := H
     refine thn_normal ⟨(k + 1), Agr_of_keys (by kernel_rfl), ⟨H, ?_⟩, ?_⟩
     · first | exact ⟨by omega, cr_step (by omega) hI2 (eqF2 h3)⟩ | exact ⟨by omega, cr_step (by omega) hI2 (eqF1 h2)⟩
     · first | (dsimp only; omega) | omega
   · --no
    refine GL_re [(3, Pt g1 0), (11, S (y.take p)), (12, S (y.drop (p + 1))), (14, Pt g9 0), (26, .slice A l.length c), (27, In l.length), (28, In k), (36, .bool false)] (show ([Pt g1 0, S (y.take p), S (y.drop (p + 1)), Pt g9 0, .slice A l.length c, In l.length, In k, .bool (((l.getD k ([], [])).1) == (y.take p))] : List Value) = [Pt g1 0, S (y.take p), S (y.drop (p + 1)), Pt g9 0, .slice A l.length c, In l.length, In k, .bool false] by rw [h2]) (fun β => ?_)
    replace h2 : ¬ ((l.getD k ([], [])).1 = (y.take p)) := eql_F h2
    refine GL_st 8 13 [(3, Pt g1 0), (11, S (y.take p)), (12, S (y.drop (p + 1))), (26, .slice A l.length c), (27, In l.length), (28, In k), (44, .bool false)] fun β => ?_
    refine G_false (by kernel_rfl) ?_
    refine G_skip ?_
    refine inb_normal ?_
    refine thn_normal ?_
    refine G_region ?_
    refine GL_sr 2 2 [(3, Pt g1 0), (11, S (y.take p)), (12, S (y.drop (p + 1))), (26, .slice A l.length c), (27, In l.length), (28, In (k + 1))] (show ([Pt g1 0, S (y.take p), S (y.drop (p + 1)), .slice A l.length c, .int .i64 (l.length : Int), .int .i64 (IntKind.i64.wrap ((k : Int) + ((1 : Nat) : Int)))] : List Value) = [Pt g1 0, S (y.take p), S (y.drop (p + 1)), .slice A l.length c, In l.length, In (k + 1)] by rw [nadd64 k 1 (by omega)]) fun β => ?_
    refine GL_end (by kernel_rfl) ?_
    replace H := H.drop 0
    replace H : Sep w0 w11 (.blk g1 60 [S st] :: F) := H
    refine thn_normal ⟨(k + 1), Agr_of_keys (by kernel_rfl), ⟨H, ?_⟩, ?_⟩
    · first | exact ⟨by omega, cr_step (by omega) hI2 (eqF2 h3)⟩ | exact ⟨by omega, cr_step (by omega) hI2 (eqF1 h2)⟩
    · first | (dsimp only; omega) | omega
  · --no
   replace h1 : ¬ (k < l.length) := of_decide_eq_false h1
   refine G_exit (thn_exit (thn_exit (inb_hit ?_)))
   refine thn_normal ?_
   refine G_sr ?_
   refine GL_st 5 5 [(6, .nilIface), (7, S (y.take p)), (8, .bool false), (9, In 0)] fun β => ?_
   refine G_ret ?_
   refine res4 (v := .nilIface) (x := S (y.take p)) (y := .bool false) (z := In 0) rfl (by kernel_rfl) (by kernel_rfl) (by kernel_rfl) (by kernel_rfl) ?_
   replace H := H.drop 0
   replace H : Sep w0 w5 (F) := H
   refine ⟨?_, H⟩
   have hk : k = l.length := by omega
   have hq : crP T R l st (y.take p) (y.drop (p + 1)) = false := by rw [hk, List.take_length] at hI2; exact hI2
   have e : crF T R l st y = (y.take p, false, 0) := by rw [crF, if_neg (by simpa using h0), hp, Int.toNat_natCast, hq]
   rw [e]
end Go.Proofs.YtadiljnfkbbmcaaDoor
