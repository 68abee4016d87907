-- printed by gw.py (my own program), checked by Lean
import Derived.Test.YtadiljnfkbbmcaaDoorB2
import Derived.Test.YtadiljnfkbbmcaaDoorA5
import Derived.Test.YtadiljnfkbbmcaaDoorE1
set_option linter.unusedVariables false
set_option linter.unusedSimpArgs false
set_option maxRecDepth 100000
set_option maxHeartbeats 400000
namespace Go.Proofs.YtadiljnfkbbmcaaDoor
open Go.Kw Go.RowKit
/-- internal/stringslite.IndexByte -/
theorem c_slIndexByte (l : List UInt8) (hl : l.length ≤ 1099511627776) {w0 w : World} {F : List Chunk} (H : Sep w0 w F) : Ret Tryd.prog 67 #[S l, By (0 : UInt8)] w (fun v w' => v = .int .i64 (idxI l 0) ∧ Sep w0 w' F) := by
 refine Ret_enter (args := [S l, By (0 : UInt8)]) Tryd.func67 rfl (by kernel_rfl) ?_
 refine G_forget [(0, S l), (1, By (0 : UInt8))] (by kernel_rfl) (fun β => ?_)
 refine G_sr ?_
 refine GL_st 1 1 [(0, S l), (1, By (0 : UInt8))] fun β => ?_
 refine G_sr ?_
 refine GL_s 2 2 [(5, S l), (6, By (0 : UInt8))] fun β => ?_
 refine GL_ext (f := 68) (args := #[S l, By (0 : UInt8)]) (R_indexByte (l := l) (c := (0 : UInt8)) Tryd.func68 (by kernel_rfl) (by kernel_rfl) (by kernel_rfl) (by kernel_rfl)) rfl (by kernel_rfl) (by kernel_rfl) (by kernel_rfl) ?_
 refine GL_st 1 4 [(4, .int .i64 (idxI l (0 : UInt8)))] fun β => ?_
 refine G_ret ?_
 refine res1 (v := .int .i64 (idxI l (0 : UInt8))) rfl (by kernel_rfl) ?_
 replace H : Sep w0 w (F) := H
 exact ⟨rfl, H⟩
/-- internal/stringslite.Index -/
theorem c_slIndex (l : List UInt8) (hl : l.length ≤ 1099511627776) {w0 w : World} {F : List Chunk} (H : Sep w0 w F) : Ret Tryd.prog 124 #[S l, S [0]] w (fun v w' => v = .int .i64 (idxI l 0) ∧ Sep w0 w' F) := by
 refine Ret_enter (args := [S l, S [0]]) Tryd.func124 rfl (by kernel_rfl) ?_
 refine G_forget [(0, S l), (1, S [0])] (by kernel_rfl) (fun β => ?_)
 refine G_sr ?_
 refine GL_st 1 1 [(0, S l), (1, S [0])] fun β => ?_
 refine G_sr ?_
 refine GL_st 3 3 [(0, S l), (1, S [0]), (5, In 1)] fun β => ?_
 refine G_seq ?_
 refine G_block ?_
 refine G_sr ?_
 refine GL_s 5 5 [(0, S l), (1, S [0]), (5, In 1), (19, .bool false), (20, S [0]), (21, S l)] fun β => ?_
 refine GL_V (R_streq (t := 9) (l := [0]) (m := l)) ?_
 refine GL_st 2 8 [(0, S l), (1, S [0]), (5, In 1), (16, .bool ([0] == l))] fun β => ?_
 refine G_cond ([0] == l) (by kernel_rfl) (fun h0 => ?_) (fun h0 => ?_)
 · --yes
  replace h0 : [0] = l := eql_T h0
  refine G_sr ?_
  refine GL_st 1 1 [(4, In 0)] fun β => ?_
  refine G_ret ?_
  refine inb_ret (thn_ret (res1 (v := In 0) rfl (by kernel_rfl) ?_))
  replace H : Sep w0 w (F) := H
  have HF := H
  subst h0
  exact ⟨rfl, HF⟩
 · --no
  replace h0 : ¬ ([0] = l) := eql_F h0
  refine G_sr ?_
  refine GL_st 3 3 [(0, S l), (1, S [0]), (5, In 1), (24, .bool true)] fun β => ?_
  refine G_true (by kernel_rfl) ?_
  refine G_sr ?_
  refine GL_s 3 3 [(27, S l), (29, By (0 : UInt8))] fun β => ?_
  refine GL_C (c_slIB l (0 : UInt8) H) ?_
  rintro _ w1 ⟨rfl, H⟩
  refine GL_st 1 5 [(4, .int .i64 (idxI l (0 : UInt8)))] fun β => ?_
  refine G_ret ?_
  refine inb_ret (thn_ret (res1 (v := .int .i64 (idxI l (0 : UInt8))) rfl (by kernel_rfl) ?_))
  replace H : Sep w0 w1 (F) := H
  exact ⟨rfl, H⟩
/-- strings.Index -/
theorem c_sIndex (l : List UInt8) (hl : l.length ≤ 1099511627776) {w0 w : World} {F : List Chunk} (H : Sep w0 w F) : Ret Tryd.prog 120 #[S l, S [0]] w (fun v w' => v = .int .i64 (idxI l 0) ∧ Sep w0 w' F) := by
 refine Ret_enter (args := [S l, S [0]]) Tryd.func120 rfl (by kernel_rfl) ?_
 refine G_forget [(0, S l), (1, S [0])] (by kernel_rfl) (fun β => ?_)
 refine G_sr ?_
 refine GL_st 1 1 [(0, S l), (1, S [0])] fun β => ?_
 refine G_sr ?_
 refine GL_s 2 2 [(5, S l), (6, S [0])] fun β => ?_
 refine GL_C (c_slIndex l (by omega) H) ?_
 rintro _ w1 ⟨rfl, H⟩
 refine GL_st 1 4 [(4, .int .i64 (idxI l 0))] fun β => ?_
 refine G_ret ?_
 refine res1 (v := .int .i64 (idxI l 0)) rfl (by kernel_rfl) ?_
 replace H : Sep w0 w1 (F) := H
 exact ⟨rfl, H⟩
/-- strings.Count -/
theorem c_sCount (l : List UInt8) (hl : l.length ≤ 1099511627776) {w0 w : World} {F : List Chunk} (H : Sep w0 w F) : Ret Tryd.prog 119 #[S l, S [0]] w (fun v w' => v = .int .i64 (cntF l 0 : Int) ∧ Sep w0 w' F) := by
 refine Ret_enter (args := [S l, S [0]]) Tryd.func119 rfl (by kernel_rfl) ?_
 refine G_forget [(0, S l), (1, S [0])] (by kernel_rfl) (fun β => ?_)
 refine G_sr ?_
 refine GL_st 1 1 [(0, S l), (1, S [0])] fun β => ?_
 refine G_seq ?_
 refine G_sr ?_
 refine GL_st 3 3 [(0, S l), (1, S [0]), (9, .bool false)] fun β => ?_
 refine G_false (by kernel_rfl) ?_
 refine G_skip ?_
 refine thn_normal ?_
 refine G_seq ?_
 refine G_sr ?_
 refine GL_st 3 3 [(0, S l), (1, S [0]), (15, .bool true)] fun β => ?_
 refine G_true (by kernel_rfl) ?_
 refine G_sr ?_
 refine GL_s 3 3 [(16, S l), (18, By (0 : UInt8))] fun β => ?_
 refine GL_ext (f := 123) (args := #[S l, By (0 : UInt8)]) (R_countByte (l := l) (c := (0 : UInt8)) Tryd.func123 (by kernel_rfl) (by kernel_rfl) (by kernel_rfl) (by kernel_rfl)) rfl (by kernel_rfl) (by kernel_rfl) (by kernel_rfl) ?_
 refine GL_st 1 5 [(4, In (cntF l (0 : UInt8)))] fun β => ?_
 refine G_ret ?_
 refine thn_ret (res1 (v := In (cntF l (0 : UInt8))) rfl (by kernel_rfl) ?_)
 replace H : Sep w0 w (F) := H
 exact ⟨rfl, H⟩

theorem take_set {a : List (List UInt8)} {i : Nat} (h : i < a.length) (x : List UInt8) (t : List (List UInt8)) : (a.set i x).take (i + 1) ++ t = a.take i ++ (x :: t) := by
  rw [List.take_add_one, List.take_set_of_le (by omega), List.getElem?_set_self h]
  simp
/-- strings.genSplit -/
theorem c_genSplit (l : List UInt8) (hl : l.length ≤ 1099511627776) {w0 w : World} {F : List Chunk} (H : Sep w0 w F) : Ret Tryd.prog 117 #[S l, S [0], .int .i64 ((0 : Nat) : Int), .int .i64 (-1 : Int)] w (fun v w' => ∃ A c B d f, v = .slice B (splitL 0 l).length d ∧ Rd w0 (.row (.slice A f.length c) 9 1 f.length (ss f) :: F) (.slice B (splitL 0 l).length d) 1 (splitL 0 l).length (ss (splitL 0 l)) ∧ Sep w0 w' (.row (.slice A f.length c) 9 1 f.length (ss f) :: F)) := by
 refine Ret_enter (args := [S l, S [0], In 0, .int .i64 (-1 : Int)]) Tryd.func117 rfl (by kernel_rfl) ?_
 refine G_forget [(0, S l), (1, S [0]), (2, In 0), (3, .int .i64 (-1 : Int))] (by kernel_rfl) (fun β => ?_)
 refine G_sr ?_
 refine GL_st 1 1 [(0, S l), (1, S [0]), (2, In 0), (3, .int .i64 (-1 : Int))] fun β => ?_
 refine G_seq ?_
 refine G_sr ?_
 refine GL_st 2 2 [(0, S l), (1, S [0]), (2, In 0), (3, .int .i64 (-1 : Int)), (13, .bool false)] fun β => ?_
 refine G_false (by kernel_rfl) ?_
 refine G_skip ?_
 refine thn_normal ?_
 refine G_seq ?_
 refine G_sr ?_
 refine GL_st 2 2 [(0, S l), (1, S [0]), (2, In 0), (3, .int .i64 (-1 : Int)), (15, .bool false)] fun β => ?_
 refine G_false (by kernel_rfl) ?_
 refine G_skip ?_
 refine thn_normal ?_
 refine G_seq ?_
 refine G_sr ?_
 refine GL_st 2 2 [(0, S l), (1, S [0]), (2, In 0), (3, .int .i64 (-1 : Int)), (20, .bool true)] fun β => ?_
 refine G_true (by kernel_rfl) ?_
 refine G_region ?_
 refine GL_s 2 2 [(0, S l), (1, S [0]), (2, In 0), (21, S l), (22, S [0])] fun β => ?_
 refine GL_C (c_sCount l (by omega) H) ?_
 rintro _ w1 ⟨rfl, H⟩
 have hcl0 := cnt_le 0 l
 refine GL_srt 2 5 [(0, S l), (1, S [0]), (2, In 0), (3, In ((cntF l 0) + 1))] (show ([S l, S [0], .int .i64 ((0 : Nat) : Int), .int .i64 (IntKind.i64.wrap (((cntF l 0 : Nat) : Int) + ((1 : Nat) : Int)))] : List Value) = [S l, S [0], In 0, In ((cntF l 0) + 1)] by rw [nadd64 (cntF l 0) 1 (by omega)]) fun β => ?_
 refine G_sr ?_
 refine GL_srt 6 6 [(0, S l), (1, S [0]), (2, In 0), (3, In (min ((cntF l 0) + 1) (l.length + 1)))] (show ([S l, S [0], .int .i64 ((0 : Nat) : Int), .int .i64 (if IntKind.i64.wrap ((l.length : Int) + ((1 : Nat) : Int)) < (((cntF l 0) + 1 : Nat) : Int) then IntKind.i64.wrap ((l.length : Int) + ((1 : Nat) : Int)) else (((cntF l 0) + 1 : Nat) : Int))] : List Value) = [S l, S [0], In 0, In (min ((cntF l 0) + 1) (l.length + 1))] by rw [nadd64 l.length 1 (by omega), nmin ((cntF l 0) + 1) (l.length + 1)]) fun β => ?_
 refine G_sr ?_
 refine GL_s 1 1 [(0, S l), (1, S [0]), (2, In 0), (3, In (min ((cntF l 0) + 1) (l.length + 1))), (30, In (min ((cntF l 0) + 1) (l.length + 1)))] fun β => ?_
 obtain ⟨A2, c3, w4, hr5, H, hcap6⟩ := R_make (P := Tryd.prog) (t := 23) (e := 9) (z := S ([] : List UInt8)) (sz := 1) (by_ := 16) (k1 := .i64) (k2 := .i64) (min ((cntF l 0) + 1) (l.length + 1)) (min ((cntF l 0) + 1) (l.length + 1)) H (by kernel_rfl) rfl (by decide) (by omega) (by omega) (by unfold maxLen; omega)
 replace H : Sep w0 w4 (.row (.slice A2 (min ((cntF l 0) + 1) (l.length + 1)) c3) 9 1 (min ((cntF l 0) + 1) (l.length + 1)) (ss (List.replicate (min ((cntF l 0) + 1) (l.length + 1)) [])) :: F) := by rw [← ss_zeros]; exact H
 replace H : Sep w0 w4 (.row (.slice A2 (min ((cntF l 0) + 1) (l.length + 1)) c3) 9 1 (min ((cntF l 0) + 1) (l.length + 1)) (ss (List.replicate (min ((cntF l 0) + 1) (l.length + 1)) [])) :: F) := H
 refine GL_V hr5 ?_
 refine GL_st 1 3 [(0, S l), (1, S [0]), (2, In 0), (3, In (min ((cntF l 0) + 1) (l.length + 1))), (9, .slice A2 (min ((cntF l 0) + 1) (l.length + 1)) c3)] fun β => ?_
 refine G_sr ?_
 refine GL_srt 3 3 [(0, S l), (1, S [0]), (2, In 0), (3, In ((min ((cntF l 0) + 1) (l.length + 1)) - 1)), (9, .slice A2 (min ((cntF l 0) + 1) (l.length + 1)) c3)] (show ([S l, S [0], .int .i64 ((0 : Nat) : Int), .int .i64 (IntKind.i64.wrap (((min ((cntF l 0) + 1) (l.length + 1) : Nat) : Int) - ((1 : Nat) : Int))), .slice A2 (min ((cntF l 0) + 1) (l.length + 1)) c3] : List Value) = [S l, S [0], In 0, In ((min ((cntF l 0) + 1) (l.length + 1)) - 1), .slice A2 (min ((cntF l 0) + 1) (l.length + 1)) c3] by rw [nsub64 (min ((cntF l 0) + 1) (l.length + 1)) 1 (by omega)]) fun β => ?_
 refine G_sr ?_
 refine GL_st 1 1 [(0, S l), (1, S [0]), (2, In 0), (3, In ((min ((cntF l 0) + 1) (l.length + 1)) - 1)), (9, .slice A2 (min ((cntF l 0) + 1) (l.length + 1)) c3), (10, In 0)] fun β => ?_
 refine G_seq ?_
 refine G_block ?_
 have hcl := cnt_le 0 l
 have hmin : min (cntF l 0 + 1) (l.length + 1) = cntF l 0 + 1 := by omega
 refine G_loop (X := Nat × (List UInt8) × (List (List UInt8))) (fun ⟨i, q, a⟩ => [(0, S q), (1, S [0]), (2, In 0), (3, In ((min ((cntF l 0) + 1) (l.length + 1)) - 1)), (9, .slice A2 (min ((cntF l 0) + 1) (l.length + 1)) c3), (10, In i)]) (fun ⟨i, q, a⟩ w_ => Sep w0 w_ (.row (.slice A2 (min ((cntF l 0) + 1) (l.length + 1)) c3) 9 1 (min ((cntF l 0) + 1) (l.length + 1)) (ss a) :: F) ∧ (i + cntF q 0 = cntF l 0 ∧ q.length ≤ l.length ∧ a.length = cntF l 0 + 1 ∧ splitL 0 l = a.take i ++ splitL 0 q)) (fun ⟨i, q, a⟩ => cntF q 0) (0, l, List.replicate (min (cntF l 0 + 1) (l.length + 1)) []) (by kernel_rfl) ⟨H, ⟨by omega, by omega, by rw [List.length_replicate]; exact hmin, by simp⟩⟩ ?_
 rintro ⟨i, q, a⟩ β w7 ⟨H, hI⟩
 refine G_forget [(0, S q), (1, S [0]), (2, In 0), (3, In ((min ((cntF l 0) + 1) (l.length + 1)) - 1)), (9, .slice A2 (min ((cntF l 0) + 1) (l.length + 1)) c3), (10, In i)] (by kernel_rfl) (fun β => ?_)
 replace H : Sep w0 w7 (.row (.slice A2 (min ((cntF l 0) + 1) (l.length + 1)) c3) 9 1 (min ((cntF l 0) + 1) (l.length + 1)) (ss a) :: F) := H
 replace hI : i + cntF q 0 = cntF l 0 ∧ q.length ≤ l.length ∧ a.length = cntF l 0 + 1 ∧ splitL 0 l = a.take i ++ splitL 0 q := hI
 obtain ⟨hI1, hI2, hI3, hI4⟩ := hI
 refine G_seq ?_
 refine G_sr ?_
 refine GL_srt 3 3 [(0, S q), (1, S [0]), (2, In 0), (3, In ((min ((cntF l 0) + 1) (l.length + 1)) - 1)), (9, .slice A2 (min ((cntF l 0) + 1) (l.length + 1)) c3), (10, In i), (36, .bool (decide (i < ((min ((cntF l 0) + 1) (l.length + 1)) - 1))))] (show ([S q, S [0], .int .i64 ((0 : Nat) : Int), .int .i64 (((min ((cntF l 0) + 1) (l.length + 1)) - 1 : Nat) : Int), .slice A2 (min ((cntF l 0) + 1) (l.length + 1)) c3, .int .i64 (i : Int), .bool (decide ((i : Int) < (((min ((cntF l 0) + 1) (l.length + 1)) - 1 : Nat) : Int)))] : List Value) = [S q, S [0], In 0, In ((min ((cntF l 0) + 1) (l.length + 1)) - 1), .slice A2 (min ((cntF l 0) + 1) (l.length + 1)) c3, In i, .bool (decide (i < ((min ((cntF l 0) + 1) (l.length + 1)) - 1)))] by rw [nlss i ((min ((cntF l 0) + 1) (l.length + 1)) - 1)]) fun β => ?_
 refine G_cond (decide (i < ((min ((cntF l 0) + 1) (l.length + 1)) - 1))) (by kernel_rfl) (fun h0 => ?_) (fun h0 => ?_)
 · --yes
  replace h0 : i < ((min ((cntF l 0) + 1) (l.length + 1)) - 1) := of_decide_eq_true h0
  obtain ⟨m, hm1, hm2, hm3, hm4⟩ := cnt_pos 0 q (by omega)
  have hmI : idxI q 0 = (m : Int) := by rw [idxI, hm1]
  refine G_skip ?_
  refine thn_normal ?_
  refine G_block ?_
  refine G_sr ?_
  refine GL_s 2 2 [(0, S q), (1, S [0]), (2, In 0), (3, In ((min ((cntF l 0) + 1) (l.length + 1)) - 1)), (9, .slice A2 (min ((cntF l 0) + 1) (l.length + 1)) c3), (10, In i), (37, S q), (38, S [0])] fun β => ?_
  refine GL_C (c_sIndex q (by omega) H) ?_
  rintro _ w8 ⟨rfl, H⟩
  refine GL_st 1 4 [(0, S q), (1, S [0]), (2, In 0), (3, In ((min ((cntF l 0) + 1) (l.length + 1)) - 1)), (9, .slice A2 (min ((cntF l 0) + 1) (l.length + 1)) c3), (10, In i), (11, .int .i64 (idxI q 0))] fun β => ?_
  refine G_seq ?_
  refine G_sr ?_
  refine GL_st 2 2 [(0, S q), (1, S [0]), (2, In 0), (3, In ((min ((cntF l 0) + 1) (l.length + 1)) - 1)), (9, .slice A2 (min ((cntF l 0) + 1) (l.length + 1)) c3), (10, In i), (11, .int .i64 (idxI q 0)), (41, .bool (decide ((idxI q 0) < ((0 : Nat) : Int))))] fun β => ?_
  refine G_cond (decide ((idxI q 0) < ((0 : Nat) : Int))) (by kernel_rfl) (fun h1 => ?_) (fun h1 => ?_)
  · --yes
   replace h1 : (idxI q 0) < ((0 : Nat) : Int) := of_decide_eq_true h1
   omega
  · --no
   replace h1 : ¬ ((idxI q 0) < ((0 : Nat) : Int)) := of_decide_eq_false h1
   refine G_re [(0, S q), (1, S [0]), (2, In 0), (3, In ((min ((cntF l 0) + 1) (l.length + 1)) - 1)), (9, .slice A2 (min ((cntF l 0) + 1) (l.length + 1)) c3), (10, In i), (11, In m), (41, .bool (decide ((idxI q 0) < ((0 : Nat) : Int))))] (show ([S q, S [0], In 0, In ((min ((cntF l 0) + 1) (l.length + 1)) - 1), .slice A2 (min ((cntF l 0) + 1) (l.length + 1)) c3, In i, .int .i64 (idxI q 0), .bool (decide ((idxI q 0) < ((0 : Nat) : Int)))] : List Value) = [S q, S [0], In 0, In ((min ((cntF l 0) + 1) (l.length + 1)) - 1), .slice A2 (min ((cntF l 0) + 1) (l.length + 1)) c3, In i, In m, .bool (decide ((idxI q 0) < ((0 : Nat) : Int)))] by rw [hmI]) (fun β => ?_)
   refine G_skip ?_
   refine thn_normal ?_
   refine G_sr ?_
   refine GL_sr 6 6 [(0, S q), (1, S [0]), (2, In 0), (3, In ((min ((cntF l 0) + 1) (l.length + 1)) - 1)), (9, .slice A2 (min ((cntF l 0) + 1) (l.length + 1)) c3), (10, In i), (11, In m), (42, .slice A2 (min ((cntF l 0) + 1) (l.length + 1)) c3), (43, In i), (44, S q), (47, In (m + 0))] (show ([S q, S [0], .int .i64 ((0 : Nat) : Int), .int .i64 (((min ((cntF l 0) + 1) (l.length + 1)) - 1 : Nat) : Int), .slice A2 (min ((cntF l 0) + 1) (l.length + 1)) c3, .int .i64 (i : Int), .int .i64 (m : Int), .slice A2 (min ((cntF l 0) + 1) (l.length + 1)) c3, .int .i64 (i : Int), S q, .int .i64 (IntKind.i64.wrap ((m : Int) + ((0 : Nat) : Int)))] : List Value) = [S q, S [0], In 0, In ((min ((cntF l 0) + 1) (l.length + 1)) - 1), .slice A2 (min ((cntF l 0) + 1) (l.length + 1)) c3, In i, In m, .slice A2 (min ((cntF l 0) + 1) (l.length + 1)) c3, In i, S q, In (m + 0)] by rw [nadd64 m 0 (by omega)]) fun β => ?_
   refine GL_V (R_strslice_hi (t := 9) (k2 := .i64) (b := (m + 0)) (l := q) (by kernel_rfl) (by omega)) ?_
   obtain ⟨g10, o11, hA12, hr9⟩ := R_rowplace1 (P := Tryd.prog) (t := 23) (j := i) (ki := .i64) H (i := 0) rfl (by omega) (by kernel_rfl) (by kernel_rfl)
   refine GL_V (hr9 _) ?_
   obtain ⟨w13, hr14, H⟩ := R_rowstoreS (P := Tryd.prog) (t := 9) (b := (q.take (m + 0))) (j := i) (off := o11) H (i := 0) rfl hA12 (by kernel_rfl) (by omega)
   replace H : Sep w0 w13 (.row (.slice A2 (min ((cntF l 0) + 1) (l.length + 1)) c3) 9 1 (min ((cntF l 0) + 1) (l.length + 1)) (ss (a.set i (q.take (m + 0)))) :: F) := H
   refine GL_U hr14 ?_
   refine GL_et ?_
   refine G_sr ?_
   refine GL_sr 5 5 [(1, S [0]), (2, In 0), (3, In ((min ((cntF l 0) + 1) (l.length + 1)) - 1)), (9, .slice A2 (min ((cntF l 0) + 1) (l.length + 1)) c3), (10, In i), (50, S q), (54, In (m + 1))] (show ([S [0], .int .i64 ((0 : Nat) : Int), .int .i64 (((min ((cntF l 0) + 1) (l.length + 1)) - 1 : Nat) : Int), .slice A2 (min ((cntF l 0) + 1) (l.length + 1)) c3, .int .i64 (i : Int), S q, .int .i64 (IntKind.i64.wrap ((m : Int) + ((1 : Nat) : Int)))] : List Value) = [S [0], In 0, In ((min ((cntF l 0) + 1) (l.length + 1)) - 1), .slice A2 (min ((cntF l 0) + 1) (l.length + 1)) c3, In i, S q, In (m + 1)] by rw [nadd64 m 1 (by omega)]) fun β => ?_
   refine GL_V (R_strslice_lo (t := 9) (k1 := .i64) (a := (m + 1)) (l := q) (by kernel_rfl) (by omega)) ?_
   refine GL_st 1 7 [(0, S (q.drop (m + 1))), (1, S [0]), (2, In 0), (3, In ((min ((cntF l 0) + 1) (l.length + 1)) - 1)), (9, .slice A2 (min ((cntF l 0) + 1) (l.length + 1)) c3), (10, In i)] fun β => ?_
   refine G_region ?_
   refine GL_sr 3 3 [(0, S (q.drop (m + 1))), (1, S [0]), (2, In 0), (3, In ((min ((cntF l 0) + 1) (l.length + 1)) - 1)), (9, .slice A2 (min ((cntF l 0) + 1) (l.length + 1)) c3), (10, In (i + 1))] (show ([S (q.drop (m + 1)), S [0], .int .i64 ((0 : Nat) : Int), .int .i64 (((min ((cntF l 0) + 1) (l.length + 1)) - 1 : Nat) : Int), .slice A2 (min ((cntF l 0) + 1) (l.length + 1)) c3, .int .i64 (IntKind.i64.wrap ((i : Int) + ((1 : Nat) : Int)))] : List Value) = [S (q.drop (m + 1)), S [0], In 0, In ((min ((cntF l 0) + 1) (l.length + 1)) - 1), .slice A2 (min ((cntF l 0) + 1) (l.length + 1)) c3, In (i + 1)] by rw [nadd64 i 1 (by omega)]) fun β => ?_
   refine GL_end (by kernel_rfl) ?_
   refine inb_normal ?_
   refine thn_normal ⟨(i + 1, (q.drop (m + 1)), a.set i (q.take (m + 0))), Agr_of_keys (by kernel_rfl), ⟨H, ?_⟩, ?_⟩
   · exact ⟨by omega, by simp; omega, by simp [hI3], by rw [hI4, hm3]; exact (take_set (by omega) _ _).symm⟩
   · first | (dsimp only; omega) | omega
 · --no
  replace h0 : ¬ (i < ((min ((cntF l 0) + 1) (l.length + 1)) - 1)) := of_decide_eq_false h0
  refine G_exit (thn_exit (thn_exit (inb_hit ?_)))
  refine thn_normal ?_
  refine G_sr ?_
  refine GL_s 3 3 [(9, .slice A2 (min ((cntF l 0) + 1) (l.length + 1)) c3), (10, In i), (58, .slice A2 (min ((cntF l 0) + 1) (l.length + 1)) c3), (59, In i), (60, S q)] fun β => ?_
  obtain ⟨g16, o17, hA18, hr15⟩ := R_rowplace1 (P := Tryd.prog) (t := 23) (j := i) (ki := .i64) H (i := 0) rfl (by omega) (by kernel_rfl) (by kernel_rfl)
  refine GL_V (hr15 _) ?_
  obtain ⟨w19, hr20, H⟩ := R_rowstoreS (P := Tryd.prog) (t := 9) (b := q) (j := i) (off := o17) H (i := 0) rfl hA18 (by kernel_rfl) (by omega)
  replace H : Sep w0 w19 (.row (.slice A2 (min ((cntF l 0) + 1) (l.length + 1)) c3) 9 1 (min ((cntF l 0) + 1) (l.length + 1)) (ss (a.set i q)) :: F) := H
  refine GL_U hr20 ?_
  refine GL_et ?_
  refine G_sr ?_
  refine GL_sr 3 3 [(62, .slice A2 (min ((cntF l 0) + 1) (l.length + 1)) c3), (64, In (i + 1))] (show ([.slice A2 (min ((cntF l 0) + 1) (l.length + 1)) c3, .int .i64 (IntKind.i64.wrap ((i : Int) + ((1 : Nat) : Int)))] : List Value) = [.slice A2 (min ((cntF l 0) + 1) (l.length + 1)) c3, In (i + 1)] by rw [nadd64 i 1 (by omega)]) fun β => ?_
  obtain ⟨A21, c22, hr23, hR24⟩ := R_slice_hi (P := Tryd.prog) (t := 23) (e := 9) (h := (i + 1)) (k2 := .i64) (Rd.of_row H (i := 0) rfl) (by kernel_rfl) (by kernel_rfl) (by omega)
  rw [ss_take] at hR24
  refine GL_V (hr23 _) ?_
  refine GL_st 1 5 [(8, .slice A21 (i + 1) c22)] fun β => ?_
  refine G_ret ?_
  refine res1 (v := .slice A21 (i + 1) c22) rfl (by kernel_rfl) ?_
  have hc0 : cntF q 0 = 0 := by omega
  have hsp : splitL 0 l = (a.set i q).take (i + 1) := by rw [hI4, cnt_zero 0 q hc0]; have := take_set (a := a) (i := i) (by omega) q []; simpa using this.symm
  have hlen : (splitL 0 l).length = i + 1 := by rw [split_len]; omega
  have hf : (a.set i q).length = (min ((cntF l 0) + 1) (l.length + 1)) := by rw [List.length_set]; omega
  rw [hlen, hsp]
  refine ⟨A2, c3, A21, c22, (a.set i q), rfl, ?_, ?_⟩
  · rw [hf]; exact hR24
  · rw [hf]; exact H
/-- strings.Split -/
theorem c_Split (l : List UInt8) (hl : l.length ≤ 1099511627776) {w0 w : World} {F : List Chunk} (H : Sep w0 w F) : Ret Tryd.prog 115 #[S l, S [0]] w (fun v w' => ∃ A c B d f, v = .slice B (splitL 0 l).length d ∧ Rd w0 (.row (.slice A f.length c) 9 1 f.length (ss f) :: F) (.slice B (splitL 0 l).length d) 1 (splitL 0 l).length (ss (splitL 0 l)) ∧ Sep w0 w' (.row (.slice A f.length c) 9 1 f.length (ss f) :: F)) := by
 refine Ret_enter (args := [S l, S [0]]) Tryd.func115 rfl (by kernel_rfl) ?_
 refine G_forget [(0, S l), (1, S [0])] (by kernel_rfl) (fun β => ?_)
 refine G_sr ?_
 refine GL_st 1 1 [(0, S l), (1, S [0])] fun β => ?_
 refine G_sr ?_
 refine GL_s 2 2 [(5, S l), (6, S [0])] fun β => ?_
 refine GL_C (c_genSplit l (by omega) H) ?_
 rintro _ w7 ⟨A1, c2, B3, d4, f5, rfl, hR6, H⟩
 refine GL_st 1 4 [(4, .slice B3 ((splitL 0 l).length) d4)] fun β => ?_
 refine G_ret ?_
 refine res1 (v := .slice B3 ((splitL 0 l).length) d4) rfl (by kernel_rfl) ?_
 exact ⟨_, _, _, _, _, rfl, hR6, H⟩

def plF (l : List Str2) (y : List UInt8) : List UInt8 × Bool × Nat :=
  if (splitL 0 y).length = 3 then ((splitL 0 y).getD 1 [], (decide ((splitL 0 y).getD 0 [] = []) || decide ((splitL 0 y).getD 0 [] = (splitL 0 y).getD 1 [])) && pairF l ((splitL 0 y).getD 1 []) ((splitL 0 y).getD 2 []), 0)
  else ([], false, 221)
/-- (posthorn/sasl.plain).take -/
theorem c_take_plain (y : List UInt8) (hy : y.length ≤ 1099511627776) (l : List Str2) (hl : l.length ≤ 1099511627776) {A : Option Addr} {c : Nat} {w0 w : World} {F : List Chunk} (R : Rd w0 F (.slice A l.length c) 2 l.length (us l)) (H : Sep w0 w F) : Ret Tryd.prog 114 #[.agg #[], .slice A l.length c, S y] w (fun v w' => v = .tuple #[.nilIface, S (plF l y).1, .bool (plF l y).2.1, .int .i64 ((plF l y).2.2 : Int)] ∧ Sep w0 w' F) := by
 refine Ret_enter (args := [.agg #[], .slice A l.length c, S y]) Tryd.func114 rfl (by kernel_rfl) ?_
 refine G_forget [(0, .agg #[]), (1, .slice A l.length c), (2, S y)] (by kernel_rfl) (fun β => ?_)
 refine G_sr ?_
 refine GL_new (V := fun g => Pt g 0) (l := []) (t := 85) H rfl (by kernel_rfl) (by kernel_rfl) (by kernel_rfl) (fun g1 w2 H => ?_)
 refine GL_st 4 5 [(1, .slice A l.length c), (2, S y)] fun β => ?_
 refine G_sr ?_
 refine GL_s 1 1 [(1, .slice A l.length c), (11, S y)] fun β => ?_
 refine GL_C (c_Split y (by omega) H) ?_
 rintro _ w9 ⟨A3, c4, B5, d6, f7, rfl, hR8, H⟩
 refine GL_st 1 3 [(1, .slice A l.length c), (10, .slice B5 ((splitL 0 y).length) d6)] fun β => ?_
 refine G_seq ?_
 refine G_sr ?_
 refine GL_srt 3 3 [(1, .slice A l.length c), (10, .slice B5 ((splitL 0 y).length) d6), (15, .bool (((splitL 0 y).length) != 3))] (show ([.slice A l.length c, .slice B5 ((splitL 0 y).length) d6, .bool ((((splitL 0 y).length : Nat) : Int) != ((3 : Nat) : Int))] : List Value) = [.slice A l.length c, .slice B5 ((splitL 0 y).length) d6, .bool (((splitL 0 y).length) != 3)] by rw [nneq ((splitL 0 y).length) 3]) fun β => ?_
 refine G_cond (((splitL 0 y).length) != 3) (by kernel_rfl) (fun h0 => ?_) (fun h0 => ?_)
 · --yes
  replace h0 : ¬ ((splitL 0 y).length = 3) := neq_T h0
  refine G_sr ?_
  refine GL_st 4 4 [(6, .nilIface), (7, S ([] : List UInt8)), (8, .bool false), (9, In 221)] fun β => ?_
  refine G_ret ?_
  refine thn_ret (res4 (v := .nilIface) (x := S ([] : List UInt8)) (y := .bool false) (z := In 221) rfl (by kernel_rfl) (by kernel_rfl) (by kernel_rfl) (by kernel_rfl) ?_)
  replace H := H.drop 1
  replace H := H.drop 0
  replace H : Sep w0 w9 (F) := H
  refine ⟨?_, H⟩
  clear H
  simp only [plF, *, eq_self, if_true, if_false, decide_true, decide_false, Bool.true_or, Bool.or_true, Bool.or_false, Bool.false_or, Bool.true_and, Bool.false_and, Bool.or_self]
 · --no
  replace h0 : (splitL 0 y).length = 3 := neq_F h0
  refine G_skip ?_
  refine thn_normal ?_
  refine G_seq ?_
  by_cases hq10 : ((splitL 0 y).getD 0 []) = ([] : List UInt8)
  · --true
   by_cases hq11 : ((splitL 0 y).getD 0 []) = ((splitL 0 y).getD 1 [])
   · --true
    obtain ⟨ad13, hr12, hc14⟩ := R_place (P := Tryd.prog) (t := 23) (e := 9) (i := 1) (ki := .i64) hR8 (by omega) (by kernel_rfl) (by kernel_rfl)
    obtain ⟨ad16, hr15, hc17⟩ := R_place (P := Tryd.prog) (t := 23) (e := 9) (i := 0) (ki := .i64) hR8 (by omega) (by kernel_rfl) (by kernel_rfl)
    obtain ⟨ad19, hr18, hc20⟩ := R_place (P := Tryd.prog) (t := 23) (e := 9) (i := 1) (ki := .i64) hR8 (by omega) (by kernel_rfl) (by kernel_rfl)
    obtain ⟨ad22, hr21, hc23⟩ := R_place (P := Tryd.prog) (t := 23) (e := 9) (i := 2) (ki := .i64) hR8 (by omega) (by kernel_rfl) (by kernel_rfl)
    refine G_drawS (fun w => w.cell? ad13 = some (S ((splitL 0 y).getD 1 [])) ∧ w.cell? ad16 = some (S ((splitL 0 y).getD 0 [])) ∧ w.cell? ad19 = some (S ((splitL 0 y).getD 1 [])) ∧ w.cell? ad22 = some (S ((splitL 0 y).getD 2 [])) ∧ True) 30 30 (by kernel_rfl) (by kernel_rfl) H (fun w24 H => ?_)
    refine HL_takes [0] [(1, .slice A l.length c), (10, .slice B5 ((splitL 0 y).length) d6), (16, .slice B5 ((splitL 0 y).length) d6)] (mkL 30 [0]) 29 (by kernel_rfl) rfl (by kernel_rfl) (fun _ => by kernel_rfl) ⟨(ss_at hc14 H (by omega)), (ss_at hc17 H (by omega)), (ss_at hc20 H (by omega)), (ss_at hc23 H (by omega)), trivial⟩ (fun β => ?_)
    refine HL_t (i := 1) (m := 28) (fun w _ => (hr12 _)) rfl (by kernel_rfl) (by kernel_rfl) (by kernel_rfl) (by kernel_rfl) (by kernel_rfl) (by kernel_rfl) ⟨(ss_at hc14 H (by omega)), (ss_at hc17 H (by omega)), (ss_at hc20 H (by omega)), (ss_at hc23 H (by omega)), trivial⟩ rfl ?_
    refine HL_t (i := 2) (m := 27) (fun w hS => run_load1 (t := 9) (by kernel_rfl) hS.1) rfl (by kernel_rfl) (by kernel_rfl) (by kernel_rfl) (by kernel_rfl) (by kernel_rfl) (by kernel_rfl) ⟨(ss_at hc14 H (by omega)), (ss_at hc17 H (by omega)), (ss_at hc20 H (by omega)), (ss_at hc23 H (by omega)), trivial⟩ rfl ?_
    refine HL_takes [3] [(1, .slice A l.length c), (10, .slice B5 ((splitL 0 y).length) d6), (18, S ((splitL 0 y).getD 1 [])), (19, .slice B5 ((splitL 0 y).length) d6)] (mkL 30 [0, 1, 2, 3]) 26 (by kernel_rfl) rfl (by kernel_rfl) (fun _ => by kernel_rfl) ⟨(ss_at hc14 H (by omega)), (ss_at hc17 H (by omega)), (ss_at hc20 H (by omega)), (ss_at hc23 H (by omega)), trivial⟩ (fun β => ?_)
    refine HL_t (i := 4) (m := 25) (fun w _ => (hr15 _)) rfl (by kernel_rfl) (by kernel_rfl) (by kernel_rfl) (by kernel_rfl) (by kernel_rfl) (by kernel_rfl) ⟨(ss_at hc14 H (by omega)), (ss_at hc17 H (by omega)), (ss_at hc20 H (by omega)), (ss_at hc23 H (by omega)), trivial⟩ rfl ?_
    refine HL_t (i := 5) (m := 24) (fun w hS => run_load1 (t := 9) (by kernel_rfl) hS.2.1) rfl (by kernel_rfl) (by kernel_rfl) (by kernel_rfl) (by kernel_rfl) (by kernel_rfl) (by kernel_rfl) ⟨(ss_at hc14 H (by omega)), (ss_at hc17 H (by omega)), (ss_at hc20 H (by omega)), (ss_at hc23 H (by omega)), trivial⟩ rfl ?_
    refine HL_t (i := 6) (m := 23) (fun w _ => (R_streqT (t := 9) (l := ((splitL 0 y).getD 0 [])) (m := ([] : List UInt8)) hq10)) rfl (by kernel_rfl) (by kernel_rfl) (by kernel_rfl) (by kernel_rfl) (by kernel_rfl) (by kernel_rfl) ⟨(ss_at hc14 H (by omega)), (ss_at hc17 H (by omega)), (ss_at hc20 H (by omega)), (ss_at hc23 H (by omega)), trivial⟩ rfl ?_
    refine HL_takes [7, 8, 9, 10, 11, 12, 13, 14, 15, 16, 17, 18] [(10, .slice B5 ((splitL 0 y).length) d6), (18, S ((splitL 0 y).getD 1 [])), (32, .bool true), (33, .slice A l.length c), (34, .slice B5 ((splitL 0 y).length) d6)] (mkL 30 [0, 1, 2, 3, 4, 5, 6, 7, 8, 9, 10, 11, 12, 13, 14, 15, 16, 17, 18]) 11 (by kernel_rfl) rfl (by kernel_rfl) (fun _ => by kernel_rfl) ⟨(ss_at hc14 H (by omega)), (ss_at hc17 H (by omega)), (ss_at hc20 H (by omega)), (ss_at hc23 H (by omega)), trivial⟩ (fun β => ?_)
    refine HL_t (i := 19) (m := 10) (fun w _ => (hr18 _)) rfl (by kernel_rfl) (by kernel_rfl) (by kernel_rfl) (by kernel_rfl) (by kernel_rfl) (by kernel_rfl) ⟨(ss_at hc14 H (by omega)), (ss_at hc17 H (by omega)), (ss_at hc20 H (by omega)), (ss_at hc23 H (by omega)), trivial⟩ rfl ?_
    refine HL_t (i := 20) (m := 9) (fun w hS => run_load1 (t := 9) (by kernel_rfl) hS.2.2.1) rfl (by kernel_rfl) (by kernel_rfl) (by kernel_rfl) (by kernel_rfl) (by kernel_rfl) (by kernel_rfl) ⟨(ss_at hc14 H (by omega)), (ss_at hc17 H (by omega)), (ss_at hc20 H (by omega)), (ss_at hc23 H (by omega)), trivial⟩ rfl ?_
    refine HL_takes [21] [(18, S ((splitL 0 y).getD 1 [])), (32, .bool true), (33, .slice A l.length c), (36, S ((splitL 0 y).getD 1 [])), (37, .slice B5 ((splitL 0 y).length) d6)] (mkL 30 [0, 1, 2, 3, 4, 5, 6, 7, 8, 9, 10, 11, 12, 13, 14, 15, 16, 17, 18, 19, 20, 21]) 8 (by kernel_rfl) rfl (by kernel_rfl) (fun _ => by kernel_rfl) ⟨(ss_at hc14 H (by omega)), (ss_at hc17 H (by omega)), (ss_at hc20 H (by omega)), (ss_at hc23 H (by omega)), trivial⟩ (fun β => ?_)
    refine HL_t (i := 22) (m := 7) (fun w _ => (hr21 _)) rfl (by kernel_rfl) (by kernel_rfl) (by kernel_rfl) (by kernel_rfl) (by kernel_rfl) (by kernel_rfl) ⟨(ss_at hc14 H (by omega)), (ss_at hc17 H (by omega)), (ss_at hc20 H (by omega)), (ss_at hc23 H (by omega)), trivial⟩ rfl ?_
    refine HL_t (i := 23) (m := 6) (fun w hS => run_load1 (t := 9) (by kernel_rfl) hS.2.2.2.1) rfl (by kernel_rfl) (by kernel_rfl) (by kernel_rfl) (by kernel_rfl) (by kernel_rfl) (by kernel_rfl) ⟨(ss_at hc14 H (by omega)), (ss_at hc17 H (by omega)), (ss_at hc20 H (by omega)), (ss_at hc23 H (by omega)), trivial⟩ rfl ?_
    refine HL_call (i := 24) (f := 116) (args := #[.slice A l.length c, S ((splitL 0 y).getD 1 []), S ((splitL 0 y).getD 2 [])]) rfl (by kernel_rfl) (by kernel_rfl) (by kernel_rfl) (by kernel_rfl) (c_paired ((splitL 0 y).getD 1 []) ((splitL 0 y).getD 2 []) l (by omega) (Rd.more R (.cons _ (.cons _ (.refl _)))) H) ?_
    rintro _ w25 ⟨rfl, H⟩
    refine ⟨(.inr ⟨(ss_at hc14 H (by omega)), (ss_at hc17 H (by omega)), (ss_at hc20 H (by omega)), (ss_at hc23 H (by omega)), trivial⟩), ?_⟩
    refine HL_takes [25, 26, 27, 28, 29] [(6, .nilIface), (7, S ((splitL 0 y).getD 1 [])), (8, .bool (pairF l ((splitL 0 y).getD 1 []) ((splitL 0 y).getD 2 []))), (9, .int .i64 ((0 : Nat) : Int))] (mkL 30 [0, 1, 2, 3, 4, 5, 6, 7, 8, 9, 10, 11, 12, 13, 14, 15, 16, 17, 18, 19, 20, 21, 22, 23, 24, 25, 26, 27, 28, 29]) 0 (by kernel_rfl) rfl (by kernel_rfl) (fun _ => by kernel_rfl) ⟨(ss_at hc14 H (by omega)), (ss_at hc17 H (by omega)), (ss_at hc20 H (by omega)), (ss_at hc23 H (by omega)), trivial⟩ (fun β => ?_)
    refine HL_forget [(6, .nilIface), (7, S ((splitL 0 y).getD 1 [])), (8, .bool (pairF l ((splitL 0 y).getD 1 []) ((splitL 0 y).getD 2 []))), (9, In 0)] (by kernel_rfl) (fun β => ?_)
    refine HL_fin (by kernel_rfl) ?_
    refine thn_normal ?_
    refine G_ret ?_
    refine res4 (v := .nilIface) (x := S ((splitL 0 y).getD 1 [])) (y := .bool (pairF l ((splitL 0 y).getD 1 []) ((splitL 0 y).getD 2 []))) (z := In 0) rfl (by kernel_rfl) (by kernel_rfl) (by kernel_rfl) (by kernel_rfl) ?_
    replace H := H.drop 1
    replace H := H.drop 0
    replace H : Sep w0 w25 (F) := H
    refine ⟨?_, H⟩
    clear H
    simp only [plF, *, eq_self, if_true, if_false, decide_true, decide_false, Bool.true_or, Bool.or_true, Bool.or_false, Bool.false_or, Bool.true_and, Bool.false_and, Bool.or_self]
   · --false
    obtain ⟨ad27, hr26, hc28⟩ := R_place (P := Tryd.prog) (t := 23) (e := 9) (i := 1) (ki := .i64) hR8 (by omega) (by kernel_rfl) (by kernel_rfl)
    obtain ⟨ad30, hr29, hc31⟩ := R_place (P := Tryd.prog) (t := 23) (e := 9) (i := 0) (ki := .i64) hR8 (by omega) (by kernel_rfl) (by kernel_rfl)
    obtain ⟨ad33, hr32, hc34⟩ := R_place (P := Tryd.prog) (t := 23) (e := 9) (i := 1) (ki := .i64) hR8 (by omega) (by kernel_rfl) (by kernel_rfl)
    obtain ⟨ad36, hr35, hc37⟩ := R_place (P := Tryd.prog) (t := 23) (e := 9) (i := 2) (ki := .i64) hR8 (by omega) (by kernel_rfl) (by kernel_rfl)
    refine G_drawS (fun w => w.cell? ad27 = some (S ((splitL 0 y).getD 1 [])) ∧ w.cell? ad30 = some (S ((splitL 0 y).getD 0 [])) ∧ w.cell? ad33 = some (S ((splitL 0 y).getD 1 [])) ∧ w.cell? ad36 = some (S ((splitL 0 y).getD 2 [])) ∧ True) 30 30 (by kernel_rfl) (by kernel_rfl) H (fun w38 H => ?_)
    refine HL_takes [0] [(1, .slice A l.length c), (10, .slice B5 ((splitL 0 y).length) d6), (16, .slice B5 ((splitL 0 y).length) d6)] (mkL 30 [0]) 29 (by kernel_rfl) rfl (by kernel_rfl) (fun _ => by kernel_rfl) ⟨(ss_at hc28 H (by omega)), (ss_at hc31 H (by omega)), (ss_at hc34 H (by omega)), (ss_at hc37 H (by omega)), trivial⟩ (fun β => ?_)
    refine HL_t (i := 1) (m := 28) (fun w _ => (hr26 _)) rfl (by kernel_rfl) (by kernel_rfl) (by kernel_rfl) (by kernel_rfl) (by kernel_rfl) (by kernel_rfl) ⟨(ss_at hc28 H (by omega)), (ss_at hc31 H (by omega)), (ss_at hc34 H (by omega)), (ss_at hc37 H (by omega)), trivial⟩ rfl ?_
    refine HL_t (i := 2) (m := 27) (fun w hS => run_load1 (t := 9) (by kernel_rfl) hS.1) rfl (by kernel_rfl) (by kernel_rfl) (by kernel_rfl) (by kernel_rfl) (by kernel_rfl) (by kernel_rfl) ⟨(ss_at hc28 H (by omega)), (ss_at hc31 H (by omega)), (ss_at hc34 H (by omega)), (ss_at hc37 H (by omega)), trivial⟩ rfl ?_
    refine HL_takes [3] [(1, .slice A l.length c), (10, .slice B5 ((splitL 0 y).length) d6), (18, S ((splitL 0 y).getD 1 [])), (19, .slice B5 ((splitL 0 y).length) d6)] (mkL 30 [0, 1, 2, 3]) 26 (by kernel_rfl) rfl (by kernel_rfl) (fun _ => by kernel_rfl) ⟨(ss_at hc28 H (by omega)), (ss_at hc31 H (by omega)), (ss_at hc34 H (by omega)), (ss_at hc37 H (by omega)), trivial⟩ (fun β => ?_)
    refine HL_t (i := 4) (m := 25) (fun w _ => (hr29 _)) rfl (by kernel_rfl) (by kernel_rfl) (by kernel_rfl) (by kernel_rfl) (by kernel_rfl) (by kernel_rfl) ⟨(ss_at hc28 H (by omega)), (ss_at hc31 H (by omega)), (ss_at hc34 H (by omega)), (ss_at hc37 H (by omega)), trivial⟩ rfl ?_
    refine HL_t (i := 5) (m := 24) (fun w hS => run_load1 (t := 9) (by kernel_rfl) hS.2.1) rfl (by kernel_rfl) (by kernel_rfl) (by kernel_rfl) (by kernel_rfl) (by kernel_rfl) (by kernel_rfl) ⟨(ss_at hc28 H (by omega)), (ss_at hc31 H (by omega)), (ss_at hc34 H (by omega)), (ss_at hc37 H (by omega)), trivial⟩ rfl ?_
    refine HL_t (i := 6) (m := 23) (fun w _ => (R_streqT (t := 9) (l := ((splitL 0 y).getD 0 [])) (m := ([] : List UInt8)) hq10)) rfl (by kernel_rfl) (by kernel_rfl) (by kernel_rfl) (by kernel_rfl) (by kernel_rfl) (by kernel_rfl) ⟨(ss_at hc28 H (by omega)), (ss_at hc31 H (by omega)), (ss_at hc34 H (by omega)), (ss_at hc37 H (by omega)), trivial⟩ rfl ?_
    refine HL_takes [7, 8, 9, 10, 11, 12, 13, 14, 15, 16, 17, 18] [(10, .slice B5 ((splitL 0 y).length) d6), (18, S ((splitL 0 y).getD 1 [])), (32, .bool true), (33, .slice A l.length c), (34, .slice B5 ((splitL 0 y).length) d6)] (mkL 30 [0, 1, 2, 3, 4, 5, 6, 7, 8, 9, 10, 11, 12, 13, 14, 15, 16, 17, 18]) 11 (by kernel_rfl) rfl (by kernel_rfl) (fun _ => by kernel_rfl) ⟨(ss_at hc28 H (by omega)), (ss_at hc31 H (by omega)), (ss_at hc34 H (by omega)), (ss_at hc37 H (by omega)), trivial⟩ (fun β => ?_)
    refine HL_t (i := 19) (m := 10) (fun w _ => (hr32 _)) rfl (by kernel_rfl) (by kernel_rfl) (by kernel_rfl) (by kernel_rfl) (by kernel_rfl) (by kernel_rfl) ⟨(ss_at hc28 H (by omega)), (ss_at hc31 H (by omega)), (ss_at hc34 H (by omega)), (ss_at hc37 H (by omega)), trivial⟩ rfl ?_
    refine HL_t (i := 20) (m := 9) (fun w hS => run_load1 (t := 9) (by kernel_rfl) hS.2.2.1) rfl (by kernel_rfl) (by kernel_rfl) (by kernel_rfl) (by kernel_rfl) (by kernel_rfl) (by kernel_rfl) ⟨(ss_at hc28 H (by omega)), (ss_at hc31 H (by omega)), (ss_at hc34 H (by omega)), (ss_at hc37 H (by omega)), trivial⟩ rfl ?_
    refine HL_takes [21] [(18, S ((splitL 0 y).getD 1 [])), (32, .bool true), (33, .slice A l.length c), (36, S ((splitL 0 y).getD 1 [])), (37, .slice B5 ((splitL 0 y).length) d6)] (mkL 30 [0, 1, 2, 3, 4, 5, 6, 7, 8, 9, 10, 11, 12, 13, 14, 15, 16, 17, 18, 19, 20, 21]) 8 (by kernel_rfl) rfl (by kernel_rfl) (fun _ => by kernel_rfl) ⟨(ss_at hc28 H (by omega)), (ss_at hc31 H (by omega)), (ss_at hc34 H (by omega)), (ss_at hc37 H (by omega)), trivial⟩ (fun β => ?_)
    refine HL_t (i := 22) (m := 7) (fun w _ => (hr35 _)) rfl (by kernel_rfl) (by kernel_rfl) (by kernel_rfl) (by kernel_rfl) (by kernel_rfl) (by kernel_rfl) ⟨(ss_at hc28 H (by omega)), (ss_at hc31 H (by omega)), (ss_at hc34 H (by omega)), (ss_at hc37 H (by omega)), trivial⟩ rfl ?_
    refine HL_t (i := 23) (m := 6) (fun w hS => run_load1 (t := 9) (by kernel_rfl) hS.2.2.2.1) rfl (by kernel_rfl) (by kernel_rfl) (by kernel_rfl) (by kernel_rfl) (by kernel_rfl) (by kernel_rfl) ⟨(ss_at hc28 H (by omega)), (ss_at hc31 H (by omega)), (ss_at hc34 H (by omega)), (ss_at hc37 H (by omega)), trivial⟩ rfl ?_
    refine HL_call (i := 24) (f := 116) (args := #[.slice A l.length c, S ((splitL 0 y).getD 1 []), S ((splitL 0 y).getD 2 [])]) rfl (by kernel_rfl) (by kernel_rfl) (by kernel_rfl) (by kernel_rfl) (c_paired ((splitL 0 y).getD 1 []) ((splitL 0 y).getD 2 []) l (by omega) (Rd.more R (.cons _ (.cons _ (.refl _)))) H) ?_
    rintro _ w39 ⟨rfl, H⟩
    refine ⟨(.inr ⟨(ss_at hc28 H (by omega)), (ss_at hc31 H (by omega)), (ss_at hc34 H (by omega)), (ss_at hc37 H (by omega)), trivial⟩), ?_⟩
    refine HL_takes [25, 26, 27, 28, 29] [(6, .nilIface), (7, S ((splitL 0 y).getD 1 [])), (8, .bool (pairF l ((splitL 0 y).getD 1 []) ((splitL 0 y).getD 2 []))), (9, .int .i64 ((0 : Nat) : Int))] (mkL 30 [0, 1, 2, 3, 4, 5, 6, 7, 8, 9, 10, 11, 12, 13, 14, 15, 16, 17, 18, 19, 20, 21, 22, 23, 24, 25, 26, 27, 28, 29]) 0 (by kernel_rfl) rfl (by kernel_rfl) (fun _ => by kernel_rfl) ⟨(ss_at hc28 H (by omega)), (ss_at hc31 H (by omega)), (ss_at hc34 H (by omega)), (ss_at hc37 H (by omega)), trivial⟩ (fun β => ?_)
    refine HL_forget [(6, .nilIface), (7, S ((splitL 0 y).getD 1 [])), (8, .bool (pairF l ((splitL 0 y).getD 1 []) ((splitL 0 y).getD 2 []))), (9, In 0)] (by kernel_rfl) (fun β => ?_)
    refine HL_fin (by kernel_rfl) ?_
    refine thn_normal ?_
    refine G_ret ?_
    refine res4 (v := .nilIface) (x := S ((splitL 0 y).getD 1 [])) (y := .bool (pairF l ((splitL 0 y).getD 1 []) ((splitL 0 y).getD 2 []))) (z := In 0) rfl (by kernel_rfl) (by kernel_rfl) (by kernel_rfl) (by kernel_rfl) ?_
    replace H := H.drop 1
    replace H := H.drop 0
    replace H : Sep w0 w39 (F) := H
    refine ⟨?_, H⟩
    clear H
    simp only [plF, *, eq_self, if_true, if_false, decide_true, decide_false, Bool.true_or, Bool.or_true, Bool.or_false, Bool.false_or, Bool.true_and, Bool.false_and, Bool.or_self]
  · --false
   by_cases hq40 : ((splitL 0 y).getD 0 []) = ((splitL 0 y).getD 1 [])
   · --true
    obtain ⟨ad42, hr41, hc43⟩ := R_place (P := Tryd.prog) (t := 23) (e := 9) (i := 1) (ki := .i64) hR8 (by omega) (by kernel_rfl) (by kernel_rfl)
    obtain ⟨ad45, hr44, hc46⟩ := R_place (P := Tryd.prog) (t := 23) (e := 9) (i := 0) (ki := .i64) hR8 (by omega) (by kernel_rfl) (by kernel_rfl)
    obtain ⟨ad48, hr47, hc49⟩ := R_place (P := Tryd.prog) (t := 23) (e := 9) (i := 0) (ki := .i64) hR8 (by omega) (by kernel_rfl) (by kernel_rfl)
    obtain ⟨ad51, hr50, hc52⟩ := R_place (P := Tryd.prog) (t := 23) (e := 9) (i := 1) (ki := .i64) hR8 (by omega) (by kernel_rfl) (by kernel_rfl)
    obtain ⟨ad54, hr53, hc55⟩ := R_place (P := Tryd.prog) (t := 23) (e := 9) (i := 1) (ki := .i64) hR8 (by omega) (by kernel_rfl) (by kernel_rfl)
    obtain ⟨ad57, hr56, hc58⟩ := R_place (P := Tryd.prog) (t := 23) (e := 9) (i := 2) (ki := .i64) hR8 (by omega) (by kernel_rfl) (by kernel_rfl)
    refine G_drawS (fun w => w.cell? ad42 = some (S ((splitL 0 y).getD 1 [])) ∧ w.cell? ad45 = some (S ((splitL 0 y).getD 0 [])) ∧ w.cell? ad48 = some (S ((splitL 0 y).getD 0 [])) ∧ w.cell? ad51 = some (S ((splitL 0 y).getD 1 [])) ∧ w.cell? ad54 = some (S ((splitL 0 y).getD 1 [])) ∧ w.cell? ad57 = some (S ((splitL 0 y).getD 2 [])) ∧ True) 30 30 (by kernel_rfl) (by kernel_rfl) H (fun w59 H => ?_)
    refine HL_takes [0] [(1, .slice A l.length c), (10, .slice B5 ((splitL 0 y).length) d6), (16, .slice B5 ((splitL 0 y).length) d6)] (mkL 30 [0]) 29 (by kernel_rfl) rfl (by kernel_rfl) (fun _ => by kernel_rfl) ⟨(ss_at hc43 H (by omega)), (ss_at hc46 H (by omega)), (ss_at hc49 H (by omega)), (ss_at hc52 H (by omega)), (ss_at hc55 H (by omega)), (ss_at hc58 H (by omega)), trivial⟩ (fun β => ?_)
    refine HL_t (i := 1) (m := 28) (fun w _ => (hr41 _)) rfl (by kernel_rfl) (by kernel_rfl) (by kernel_rfl) (by kernel_rfl) (by kernel_rfl) (by kernel_rfl) ⟨(ss_at hc43 H (by omega)), (ss_at hc46 H (by omega)), (ss_at hc49 H (by omega)), (ss_at hc52 H (by omega)), (ss_at hc55 H (by omega)), (ss_at hc58 H (by omega)), trivial⟩ rfl ?_
    refine HL_t (i := 2) (m := 27) (fun w hS => run_load1 (t := 9) (by kernel_rfl) hS.1) rfl (by kernel_rfl) (by kernel_rfl) (by kernel_rfl) (by kernel_rfl) (by kernel_rfl) (by kernel_rfl) ⟨(ss_at hc43 H (by omega)), (ss_at hc46 H (by omega)), (ss_at hc49 H (by omega)), (ss_at hc52 H (by omega)), (ss_at hc55 H (by omega)), (ss_at hc58 H (by omega)), trivial⟩ rfl ?_
    refine HL_takes [3] [(1, .slice A l.length c), (10, .slice B5 ((splitL 0 y).length) d6), (18, S ((splitL 0 y).getD 1 [])), (19, .slice B5 ((splitL 0 y).length) d6)] (mkL 30 [0, 1, 2, 3]) 26 (by kernel_rfl) rfl (by kernel_rfl) (fun _ => by kernel_rfl) ⟨(ss_at hc43 H (by omega)), (ss_at hc46 H (by omega)), (ss_at hc49 H (by omega)), (ss_at hc52 H (by omega)), (ss_at hc55 H (by omega)), (ss_at hc58 H (by omega)), trivial⟩ (fun β => ?_)
    refine HL_t (i := 4) (m := 25) (fun w _ => (hr44 _)) rfl (by kernel_rfl) (by kernel_rfl) (by kernel_rfl) (by kernel_rfl) (by kernel_rfl) (by kernel_rfl) ⟨(ss_at hc43 H (by omega)), (ss_at hc46 H (by omega)), (ss_at hc49 H (by omega)), (ss_at hc52 H (by omega)), (ss_at hc55 H (by omega)), (ss_at hc58 H (by omega)), trivial⟩ rfl ?_
    refine HL_t (i := 5) (m := 24) (fun w hS => run_load1 (t := 9) (by kernel_rfl) hS.2.1) rfl (by kernel_rfl) (by kernel_rfl) (by kernel_rfl) (by kernel_rfl) (by kernel_rfl) (by kernel_rfl) ⟨(ss_at hc43 H (by omega)), (ss_at hc46 H (by omega)), (ss_at hc49 H (by omega)), (ss_at hc52 H (by omega)), (ss_at hc55 H (by omega)), (ss_at hc58 H (by omega)), trivial⟩ rfl ?_
    refine HL_t (i := 6) (m := 23) (fun w _ => (R_streqF (t := 9) (l := ((splitL 0 y).getD 0 [])) (m := ([] : List UInt8)) hq10)) rfl (by kernel_rfl) (by kernel_rfl) (by kernel_rfl) (by kernel_rfl) (by kernel_rfl) (by kernel_rfl) ⟨(ss_at hc43 H (by omega)), (ss_at hc46 H (by omega)), (ss_at hc49 H (by omega)), (ss_at hc52 H (by omega)), (ss_at hc55 H (by omega)), (ss_at hc58 H (by omega)), trivial⟩ rfl ?_
    refine HL_takes [7, 8] [(1, .slice A l.length c), (10, .slice B5 ((splitL 0 y).length) d6), (18, S ((splitL 0 y).getD 1 [])), (23, .bool false), (24, .slice B5 ((splitL 0 y).length) d6)] (mkL 30 [0, 1, 2, 3, 4, 5, 6, 7, 8]) 21 (by kernel_rfl) rfl (by kernel_rfl) (fun _ => by kernel_rfl) ⟨(ss_at hc43 H (by omega)), (ss_at hc46 H (by omega)), (ss_at hc49 H (by omega)), (ss_at hc52 H (by omega)), (ss_at hc55 H (by omega)), (ss_at hc58 H (by omega)), trivial⟩ (fun β => ?_)
    refine HL_t (i := 9) (m := 20) (fun w _ => (hr47 _)) rfl (by kernel_rfl) (by kernel_rfl) (by kernel_rfl) (by kernel_rfl) (by kernel_rfl) (by kernel_rfl) ⟨(ss_at hc43 H (by omega)), (ss_at hc46 H (by omega)), (ss_at hc49 H (by omega)), (ss_at hc52 H (by omega)), (ss_at hc55 H (by omega)), (ss_at hc58 H (by omega)), trivial⟩ rfl ?_
    refine HL_t (i := 10) (m := 19) (fun w hS => run_load1 (t := 9) (by kernel_rfl) hS.2.2.1) rfl (by kernel_rfl) (by kernel_rfl) (by kernel_rfl) (by kernel_rfl) (by kernel_rfl) (by kernel_rfl) ⟨(ss_at hc43 H (by omega)), (ss_at hc46 H (by omega)), (ss_at hc49 H (by omega)), (ss_at hc52 H (by omega)), (ss_at hc55 H (by omega)), (ss_at hc58 H (by omega)), trivial⟩ rfl ?_
    refine HL_takes [11] [(1, .slice A l.length c), (10, .slice B5 ((splitL 0 y).length) d6), (18, S ((splitL 0 y).getD 1 [])), (23, .bool false), (26, S ((splitL 0 y).getD 0 [])), (27, .slice B5 ((splitL 0 y).length) d6)] (mkL 30 [0, 1, 2, 3, 4, 5, 6, 7, 8, 9, 10, 11]) 18 (by kernel_rfl) rfl (by kernel_rfl) (fun _ => by kernel_rfl) ⟨(ss_at hc43 H (by omega)), (ss_at hc46 H (by omega)), (ss_at hc49 H (by omega)), (ss_at hc52 H (by omega)), (ss_at hc55 H (by omega)), (ss_at hc58 H (by omega)), trivial⟩ (fun β => ?_)
    refine HL_t (i := 12) (m := 17) (fun w _ => (hr50 _)) rfl (by kernel_rfl) (by kernel_rfl) (by kernel_rfl) (by kernel_rfl) (by kernel_rfl) (by kernel_rfl) ⟨(ss_at hc43 H (by omega)), (ss_at hc46 H (by omega)), (ss_at hc49 H (by omega)), (ss_at hc52 H (by omega)), (ss_at hc55 H (by omega)), (ss_at hc58 H (by omega)), trivial⟩ rfl ?_
    refine HL_t (i := 13) (m := 16) (fun w hS => run_load1 (t := 9) (by kernel_rfl) hS.2.2.2.1) rfl (by kernel_rfl) (by kernel_rfl) (by kernel_rfl) (by kernel_rfl) (by kernel_rfl) (by kernel_rfl) ⟨(ss_at hc43 H (by omega)), (ss_at hc46 H (by omega)), (ss_at hc49 H (by omega)), (ss_at hc52 H (by omega)), (ss_at hc55 H (by omega)), (ss_at hc58 H (by omega)), trivial⟩ rfl ?_
    refine HL_t (i := 14) (m := 15) (fun w _ => (R_streqT (t := 9) (l := ((splitL 0 y).getD 0 [])) (m := ((splitL 0 y).getD 1 [])) hq40)) rfl (by kernel_rfl) (by kernel_rfl) (by kernel_rfl) (by kernel_rfl) (by kernel_rfl) (by kernel_rfl) ⟨(ss_at hc43 H (by omega)), (ss_at hc46 H (by omega)), (ss_at hc49 H (by omega)), (ss_at hc52 H (by omega)), (ss_at hc55 H (by omega)), (ss_at hc58 H (by omega)), trivial⟩ rfl ?_
    refine HL_takes [15, 16, 17, 18] [(10, .slice B5 ((splitL 0 y).length) d6), (18, S ((splitL 0 y).getD 1 [])), (32, .bool true), (33, .slice A l.length c), (34, .slice B5 ((splitL 0 y).length) d6)] (mkL 30 [0, 1, 2, 3, 4, 5, 6, 7, 8, 9, 10, 11, 12, 13, 14, 15, 16, 17, 18]) 11 (by kernel_rfl) rfl (by kernel_rfl) (fun _ => by kernel_rfl) ⟨(ss_at hc43 H (by omega)), (ss_at hc46 H (by omega)), (ss_at hc49 H (by omega)), (ss_at hc52 H (by omega)), (ss_at hc55 H (by omega)), (ss_at hc58 H (by omega)), trivial⟩ (fun β => ?_)
    refine HL_t (i := 19) (m := 10) (fun w _ => (hr53 _)) rfl (by kernel_rfl) (by kernel_rfl) (by kernel_rfl) (by kernel_rfl) (by kernel_rfl) (by kernel_rfl) ⟨(ss_at hc43 H (by omega)), (ss_at hc46 H (by omega)), (ss_at hc49 H (by omega)), (ss_at hc52 H (by omega)), (ss_at hc55 H (by omega)), (ss_at hc58 H (by omega)), trivial⟩ rfl ?_
    refine HL_t (i := 20) (m := 9) (fun w hS => run_load1 (t := 9) (by kernel_rfl) hS.2.2.2.2.1) rfl (by kernel_rfl) (by kernel_rfl) (by kernel_rfl) (by kernel_rfl) (by kernel_rfl) (by kernel_rfl) ⟨(ss_at hc43 H (by omega)), (ss_at hc46 H (by omega)), (ss_at hc49 H (by omega)), (ss_at hc52 H (by omega)), (ss_at hc55 H (by omega)), (ss_at hc58 H (by omega)), trivial⟩ rfl ?_
    refine HL_takes [21] [(18, S ((splitL 0 y).getD 1 [])), (32, .bool true), (33, .slice A l.length c), (36, S ((splitL 0 y).getD 1 [])), (37, .slice B5 ((splitL 0 y).length) d6)] (mkL 30 [0, 1, 2, 3, 4, 5, 6, 7, 8, 9, 10, 11, 12, 13, 14, 15, 16, 17, 18, 19, 20, 21]) 8 (by kernel_rfl) rfl (by kernel_rfl) (fun _ => by kernel_rfl) ⟨(ss_at hc43 H (by omega)), (ss_at hc46 H (by omega)), (ss_at hc49 H (by omega)), (ss_at hc52 H (by omega)), (ss_at hc55 H (by omega)), (ss_at hc58 H (by omega)), trivial⟩ (fun β => ?_)
    refine HL_t (i := 22) (m := 7) (fun w _ => (hr56 _)) rfl (by kernel_rfl) (by kernel_rfl) (by kernel_rfl) (by kernel_rfl) (by kernel_rfl) (by kernel_rfl) ⟨(ss_at hc43 H (by omega)), (ss_at hc46 H (by omega)), (ss_at hc49 H (by omega)), (ss_at hc52 H (by omega)), (ss_at hc55 H (by omega)), (ss_at hc58 H (by omega)), trivial⟩ rfl ?_
    refine HL_t (i := 23) (m := 6) (fun w hS => run_load1 (t := 9) (by kernel_rfl) hS.2.2.2.2.2.1) rfl (by kernel_rfl) (by kernel_rfl) (by kernel_rfl) (by kernel_rfl) (by kernel_rfl) (by kernel_rfl) ⟨(ss_at hc43 H (by omega)), (ss_at hc46 H (by omega)), (ss_at hc49 H (by omega)), (ss_at hc52 H (by omega)), (ss_at hc55 H (by omega)), (ss_at hc58 H (by omega)), trivial⟩ rfl ?_
    refine HL_call (i := 24) (f := 116) (args := #[.slice A l.length c, S ((splitL 0 y).getD 1 []), S ((splitL 0 y).getD 2 [])]) rfl (by kernel_rfl) (by kernel_rfl) (by kernel_rfl) (by kernel_rfl) (c_paired ((splitL 0 y).getD 1 []) ((splitL 0 y).getD 2 []) l (by omega) (Rd.more R (.cons _ (.cons _ (.refl _)))) H) ?_
    rintro _ w60 ⟨rfl, H⟩
    refine ⟨(.inr ⟨(ss_at hc43 H (by omega)), (ss_at hc46 H (by omega)), (ss_at hc49 H (by omega)), (ss_at hc52 H (by omega)), (ss_at hc55 H (by omega)), (ss_at hc58 H (by omega)), trivial⟩), ?_⟩
    refine HL_takes [25, 26, 27, 28, 29] [(6, .nilIface), (7, S ((splitL 0 y).getD 1 [])), (8, .bool (pairF l ((splitL 0 y).getD 1 []) ((splitL 0 y).getD 2 []))), (9, .int .i64 ((0 : Nat) : Int))] (mkL 30 [0, 1, 2, 3, 4, 5, 6, 7, 8, 9, 10, 11, 12, 13, 14, 15, 16, 17, 18, 19, 20, 21, 22, 23, 24, 25, 26, 27, 28, 29]) 0 (by kernel_rfl) rfl (by kernel_rfl) (fun _ => by kernel_rfl) ⟨(ss_at hc43 H (by omega)), (ss_at hc46 H (by omega)), (ss_at hc49 H (by omega)), (ss_at hc52 H (by omega)), (ss_at hc55 H (by omega)), (ss_at hc58 H (by omega)), trivial⟩ (fun β => ?_)
    refine HL_forget [(6, .nilIface), (7, S ((splitL 0 y).getD 1 [])), (8, .bool (pairF l ((splitL 0 y).getD 1 []) ((splitL 0 y).getD 2 []))), (9, In 0)] (by kernel_rfl) (fun β => ?_)
    refine HL_fin (by kernel_rfl) ?_
    refine thn_normal ?_
    refine G_ret ?_
    refine res4 (v := .nilIface) (x := S ((splitL 0 y).getD 1 [])) (y := .bool (pairF l ((splitL 0 y).getD 1 []) ((splitL 0 y).getD 2 []))) (z := In 0) rfl (by kernel_rfl) (by kernel_rfl) (by kernel_rfl) (by kernel_rfl) ?_
    replace H := H.drop 1
    replace H := H.drop 0
    replace H : Sep w0 w60 (F) := H
    refine ⟨?_, H⟩
    clear H
    simp only [plF, *, eq_self, if_true, if_false, decide_true, decide_false, Bool.true_or, Bool.or_true, Bool.or_false, Bool.false_or, Bool.true_and, Bool.false_and, Bool.or_self]
   · --false
    obtain ⟨ad62, hr61, hc63⟩ := R_place (P := Tryd.prog) (t := 23) (e := 9) (i := 1) (ki := .i64) hR8 (by omega) (by kernel_rfl) (by kernel_rfl)
    obtain ⟨ad65, hr64, hc66⟩ := R_place (P := Tryd.prog) (t := 23) (e := 9) (i := 0) (ki := .i64) hR8 (by omega) (by kernel_rfl) (by kernel_rfl)
    obtain ⟨ad68, hr67, hc69⟩ := R_place (P := Tryd.prog) (t := 23) (e := 9) (i := 0) (ki := .i64) hR8 (by omega) (by kernel_rfl) (by kernel_rfl)
    obtain ⟨ad71, hr70, hc72⟩ := R_place (P := Tryd.prog) (t := 23) (e := 9) (i := 1) (ki := .i64) hR8 (by omega) (by kernel_rfl) (by kernel_rfl)
    refine G_drawS (fun w => w.cell? ad62 = some (S ((splitL 0 y).getD 1 [])) ∧ w.cell? ad65 = some (S ((splitL 0 y).getD 0 [])) ∧ w.cell? ad68 = some (S ((splitL 0 y).getD 0 [])) ∧ w.cell? ad71 = some (S ((splitL 0 y).getD 1 [])) ∧ True) 30 30 (by kernel_rfl) (by kernel_rfl) H (fun w73 H => ?_)
    refine HL_takes [0] [(1, .slice A l.length c), (10, .slice B5 ((splitL 0 y).length) d6), (16, .slice B5 ((splitL 0 y).length) d6)] (mkL 30 [0]) 29 (by kernel_rfl) rfl (by kernel_rfl) (fun _ => by kernel_rfl) ⟨(ss_at hc63 H (by omega)), (ss_at hc66 H (by omega)), (ss_at hc69 H (by omega)), (ss_at hc72 H (by omega)), trivial⟩ (fun β => ?_)
    refine HL_t (i := 1) (m := 28) (fun w _ => (hr61 _)) rfl (by kernel_rfl) (by kernel_rfl) (by kernel_rfl) (by kernel_rfl) (by kernel_rfl) (by kernel_rfl) ⟨(ss_at hc63 H (by omega)), (ss_at hc66 H (by omega)), (ss_at hc69 H (by omega)), (ss_at hc72 H (by omega)), trivial⟩ rfl ?_
    refine HL_t (i := 2) (m := 27) (fun w hS => run_load1 (t := 9) (by kernel_rfl) hS.1) rfl (by kernel_rfl) (by kernel_rfl) (by kernel_rfl) (by kernel_rfl) (by kernel_rfl) (by kernel_rfl) ⟨(ss_at hc63 H (by omega)), (ss_at hc66 H (by omega)), (ss_at hc69 H (by omega)), (ss_at hc72 H (by omega)), trivial⟩ rfl ?_
    refine HL_takes [3] [(1, .slice A l.length c), (10, .slice B5 ((splitL 0 y).length) d6), (18, S ((splitL 0 y).getD 1 [])), (19, .slice B5 ((splitL 0 y).length) d6)] (mkL 30 [0, 1, 2, 3]) 26 (by kernel_rfl) rfl (by kernel_rfl) (fun _ => by kernel_rfl) ⟨(ss_at hc63 H (by omega)), (ss_at hc66 H (by omega)), (ss_at hc69 H (by omega)), (ss_at hc72 H (by omega)), trivial⟩ (fun β => ?_)
    refine HL_t (i := 4) (m := 25) (fun w _ => (hr64 _)) rfl (by kernel_rfl) (by kernel_rfl) (by kernel_rfl) (by kernel_rfl) (by kernel_rfl) (by kernel_rfl) ⟨(ss_at hc63 H (by omega)), (ss_at hc66 H (by omega)), (ss_at hc69 H (by omega)), (ss_at hc72 H (by omega)), trivial⟩ rfl ?_
    refine HL_t (i := 5) (m := 24) (fun w hS => run_load1 (t := 9) (by kernel_rfl) hS.2.1) rfl (by kernel_rfl) (by kernel_rfl) (by kernel_rfl) (by kernel_rfl) (by kernel_rfl) (by kernel_rfl) ⟨(ss_at hc63 H (by omega)), (ss_at hc66 H (by omega)), (ss_at hc69 H (by omega)), (ss_at hc72 H (by omega)), trivial⟩ rfl ?_
    refine HL_t (i := 6) (m := 23) (fun w _ => (R_streqF (t := 9) (l := ((splitL 0 y).getD 0 [])) (m := ([] : List UInt8)) hq10)) rfl (by kernel_rfl) (by kernel_rfl) (by kernel_rfl) (by kernel_rfl) (by kernel_rfl) (by kernel_rfl) ⟨(ss_at hc63 H (by omega)), (ss_at hc66 H (by omega)), (ss_at hc69 H (by omega)), (ss_at hc72 H (by omega)), trivial⟩ rfl ?_
    refine HL_takes [7, 8] [(1, .slice A l.length c), (10, .slice B5 ((splitL 0 y).length) d6), (18, S ((splitL 0 y).getD 1 [])), (23, .bool false), (24, .slice B5 ((splitL 0 y).length) d6)] (mkL 30 [0, 1, 2, 3, 4, 5, 6, 7, 8]) 21 (by kernel_rfl) rfl (by kernel_rfl) (fun _ => by kernel_rfl) ⟨(ss_at hc63 H (by omega)), (ss_at hc66 H (by omega)), (ss_at hc69 H (by omega)), (ss_at hc72 H (by omega)), trivial⟩ (fun β => ?_)
    refine HL_t (i := 9) (m := 20) (fun w _ => (hr67 _)) rfl (by kernel_rfl) (by kernel_rfl) (by kernel_rfl) (by kernel_rfl) (by kernel_rfl) (by kernel_rfl) ⟨(ss_at hc63 H (by omega)), (ss_at hc66 H (by omega)), (ss_at hc69 H (by omega)), (ss_at hc72 H (by omega)), trivial⟩ rfl ?_
    refine HL_t (i := 10) (m := 19) (fun w hS => run_load1 (t := 9) (by kernel_rfl) hS.2.2.1) rfl (by kernel_rfl) (by kernel_rfl) (by kernel_rfl) (by kernel_rfl) (by kernel_rfl) (by kernel_rfl) ⟨(ss_at hc63 H (by omega)), (ss_at hc66 H (by omega)), (ss_at hc69 H (by omega)), (ss_at hc72 H (by omega)), trivial⟩ rfl ?_
    refine HL_takes [11] [(1, .slice A l.length c), (10, .slice B5 ((splitL 0 y).length) d6), (18, S ((splitL 0 y).getD 1 [])), (23, .bool false), (26, S ((splitL 0 y).getD 0 [])), (27, .slice B5 ((splitL 0 y).length) d6)] (mkL 30 [0, 1, 2, 3, 4, 5, 6, 7, 8, 9, 10, 11]) 18 (by kernel_rfl) rfl (by kernel_rfl) (fun _ => by kernel_rfl) ⟨(ss_at hc63 H (by omega)), (ss_at hc66 H (by omega)), (ss_at hc69 H (by omega)), (ss_at hc72 H (by omega)), trivial⟩ (fun β => ?_)
    refine HL_t (i := 12) (m := 17) (fun w _ => (hr70 _)) rfl (by kernel_rfl) (by kernel_rfl) (by kernel_rfl) (by kernel_rfl) (by kernel_rfl) (by kernel_rfl) ⟨(ss_at hc63 H (by omega)), (ss_at hc66 H (by omega)), (ss_at hc69 H (by omega)), (ss_at hc72 H (by omega)), trivial⟩ rfl ?_
    refine HL_t (i := 13) (m := 16) (fun w hS => run_load1 (t := 9) (by kernel_rfl) hS.2.2.2.1) rfl (by kernel_rfl) (by kernel_rfl) (by kernel_rfl) (by kernel_rfl) (by kernel_rfl) (by kernel_rfl) ⟨(ss_at hc63 H (by omega)), (ss_at hc66 H (by omega)), (ss_at hc69 H (by omega)), (ss_at hc72 H (by omega)), trivial⟩ rfl ?_
    refine HL_t (i := 14) (m := 15) (fun w _ => (R_streqF (t := 9) (l := ((splitL 0 y).getD 0 [])) (m := ((splitL 0 y).getD 1 [])) hq40)) rfl (by kernel_rfl) (by kernel_rfl) (by kernel_rfl) (by kernel_rfl) (by kernel_rfl) (by kernel_rfl) ⟨(ss_at hc63 H (by omega)), (ss_at hc66 H (by omega)), (ss_at hc69 H (by omega)), (ss_at hc72 H (by omega)), trivial⟩ rfl ?_
    refine HL_takes [15, 16, 17, 18, 19, 20, 21, 22, 23, 24, 25, 26, 27, 28, 29] [(6, .nilIface), (7, S ((splitL 0 y).getD 1 [])), (8, .bool false), (9, .int .i64 ((0 : Nat) : Int))] (mkL 30 [0, 1, 2, 3, 4, 5, 6, 7, 8, 9, 10, 11, 12, 13, 14, 15, 16, 17, 18, 19, 20, 21, 22, 23, 24, 25, 26, 27, 28, 29]) 0 (by kernel_rfl) rfl (by kernel_rfl) (fun _ => by kernel_rfl) ⟨(ss_at hc63 H (by omega)), (ss_at hc66 H (by omega)), (ss_at hc69 H (by omega)), (ss_at hc72 H (by omega)), trivial⟩ (fun β => ?_)
    refine HL_forget [(6, .nilIface), (7, S ((splitL 0 y).getD 1 [])), (8, .bool false), (9, In 0)] (by kernel_rfl) (fun β => ?_)
    refine HL_fin (by kernel_rfl) ?_
    refine thn_normal ?_
    refine G_ret ?_
    refine res4 (v := .nilIface) (x := S ((splitL 0 y).getD 1 [])) (y := .bool false) (z := In 0) rfl (by kernel_rfl) (by kernel_rfl) (by kernel_rfl) (by kernel_rfl) ?_
    replace H := H.drop 1
    replace H := H.drop 0
    replace H : Sep w0 w73 (F) := H
    refine ⟨?_, H⟩
    clear H
    simp only [plF, *, eq_self, if_true, if_false, decide_true, decide_false, Bool.true_or, Bool.or_true, Bool.or_false, Bool.false_or, Bool.true_and, Bool.false_and, Bool.or_self]
end Go.Proofs.YtadiljnfkbbmcaaDoor
