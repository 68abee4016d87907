-- printed by gw.py (my own program), checked by Lean
import Derived.Test.YtadiljnfkbbmcaaDoorProg
import Derived.Test.YtadiljnfkbbmcaaDoorKw12
set_option linter.unusedVariables false
set_option linter.unusedSimpArgs false
set_option maxRecDepth 100000
set_option maxHeartbeats 400000
namespace Go.Proofs.YtadiljnfkbbmcaaDoor
open Go.Kw Go.RowKit

theorem idx_none {l : List UInt8} {c : UInt8} (h : ∀ b ∈ l, b ≠ c) : idxI l c = -1 := by
  have e : idxK l c = none := by
    unfold idxK
    rw [List.find?_eq_none]
    intro i hi
    have hi' : i < l.length := List.mem_range.1 hi
    simp only [List.getD_eq_getElem?_getD, List.getElem?_eq_getElem hi', Option.getD_some, beq_iff_eq]
    exact h _ (List.getElem_mem hi')
  unfold idxI; rw [e]
theorem idx_ge (l : List UInt8) (c : UInt8) : -1 ≤ idxI l c := by unfold idxI; split <;> omega
/-- internal/stringslite.IndexByte -/
theorem c_slIB (l : List UInt8) (c : UInt8) {w0 w : World} {F : List Chunk} (H : Sep w0 w F) : Ret Tryd.prog 67 #[S l, .int .u8 (c.toNat : Int)] w (fun v w' => v = .int .i64 (idxI l c) ∧ Sep w0 w' F) := by
 refine Ret_enter (args := [S l, By c]) Tryd.func67 rfl (by kernel_rfl) ?_
 refine G_forget [(0, S l), (1, By c)] (by kernel_rfl) (fun β => ?_)
 refine G_sr ?_
 refine GL_st 1 1 [(0, S l), (1, By c)] fun β => ?_
 refine G_sr ?_
 refine GL_s 2 2 [(5, S l), (6, By c)] fun β => ?_
 refine GL_ext (f := 68) (args := #[S l, By c]) (R_indexByte (l := l) (c := c) Tryd.func68 (by kernel_rfl) (by kernel_rfl) (by kernel_rfl) (by kernel_rfl)) rfl (by kernel_rfl) (by kernel_rfl) (by kernel_rfl) ?_
 refine GL_st 1 4 [(4, .int .i64 (idxI l c))] fun β => ?_
 refine G_ret ?_
 refine res1 (v := .int .i64 (idxI l c)) rfl (by kernel_rfl) ?_
 replace H : Sep w0 w (F) := H
 exact ⟨rfl, H⟩
/-- strings.IndexByte -/
theorem c_sIB (l : List UInt8) (c : UInt8) {w0 w : World} {F : List Chunk} (H : Sep w0 w F) : Ret Tryd.prog 63 #[S l, .int .u8 (c.toNat : Int)] w (fun v w' => v = .int .i64 (idxI l c) ∧ Sep w0 w' F) := by
 refine Ret_enter (args := [S l, By c]) Tryd.func63 rfl (by kernel_rfl) ?_
 refine G_forget [(0, S l), (1, By c)] (by kernel_rfl) (fun β => ?_)
 refine G_sr ?_
 refine GL_st 1 1 [(0, S l), (1, By c)] fun β => ?_
 refine G_sr ?_
 refine GL_s 2 2 [(5, S l), (6, By c)] fun β => ?_
 refine GL_C (c_slIB l c H) ?_
 rintro _ w1 ⟨rfl, H⟩
 refine GL_st 1 4 [(4, .int .i64 (idxI l c))] fun β => ?_
 refine G_ret ?_
 refine res1 (v := .int .i64 (idxI l c)) rfl (by kernel_rfl) ?_
 replace H : Sep w0 w1 (F) := H
 exact ⟨rfl, H⟩
/-- unicode/utf8.ValidRune -/
theorem c_ValidRune (c : Nat) (hv : c < 55296 ∨ (57344 ≤ c ∧ c ≤ 1114111)) {w0 w : World} {F : List Chunk} (H : Sep w0 w F) : Ret Tryd.prog 64 #[.int .i32 (c : Int)] w (fun v w' => v = .bool true ∧ Sep w0 w' F) := by
 refine Ret_enter (args := [.int .i32 (c : Int)]) Tryd.func64 rfl (by kernel_rfl) ?_
 refine G_forget [(0, .int .i32 (c : Int))] (by kernel_rfl) (fun β => ?_)
 refine G_sr ?_
 refine GL_st 1 1 [(0, .int .i32 (c : Int))] fun β => ?_
 refine G_seq ?_
 refine G_block ?_
 refine G_sr ?_
 refine GL_s 3 3 [(0, .int .i32 (c : Int)), (6, .bool (decide ((0 : Int) ≤ (c : Int))))] fun β => ?_
 rcases Bool.eq_false_or_eq_true (decide ((0 : Int) ≤ (c : Int))) with h0 | h0
 · --yes
  refine GL_re [(0, .int .i32 (c : Int)), (6, .bool true)] (show ([.int .i32 (c : Int), .bool (decide ((0 : Int) ≤ (c : Int)))] : List Value) = [.int .i32 (c : Int), .bool true] by rw [h0]) (fun β => ?_)
  replace h0 : (0 : Int) ≤ (c : Int) := of_decide_eq_true h0
  refine GL_st 4 7 [(0, .int .i32 (c : Int)), (3, .bool (decide ((c : Int) < (55296 : Int))))] fun β => ?_
  refine G_cond (decide ((c : Int) < (55296 : Int))) (by kernel_rfl) (fun h1 => ?_) (fun h1 => ?_)
  · --yes
   replace h1 : (c : Int) < (55296 : Int) := of_decide_eq_true h1
   refine G_sr ?_
   refine GL_st 1 1 [(2, .bool true)] fun β => ?_
   refine G_ret ?_
   refine inb_ret (thn_ret (res1 (v := .bool true) rfl (by kernel_rfl) ?_))
   replace H : Sep w0 w (F) := H
   first | exact ⟨rfl, H⟩ | (exfalso; omega)
  · --no
   replace h1 : ¬ ((c : Int) < (55296 : Int)) := of_decide_eq_false h1
   refine G_sr ?_
   refine GL_s 3 3 [(0, .int .i32 (c : Int)), (13, .bool (decide ((57343 : Int) < (c : Int))))] fun β => ?_
   rcases Bool.eq_false_or_eq_true (decide ((57343 : Int) < (c : Int))) with h2 | h2
   · --yes
    refine GL_re [(0, .int .i32 (c : Int)), (13, .bool true)] (show ([.int .i32 (c : Int), .bool (decide ((57343 : Int) < (c : Int)))] : List Value) = [.int .i32 (c : Int), .bool true] by rw [h2]) (fun β => ?_)
    replace h2 : (57343 : Int) < (c : Int) := of_decide_eq_true h2
    refine GL_st 4 7 [(10, .bool (decide ((c : Int) ≤ (1114111 : Int))))] fun β => ?_
    refine G_cond (decide ((c : Int) ≤ (1114111 : Int))) (by kernel_rfl) (fun h3 => ?_) (fun h3 => ?_)
    · --yes
     replace h3 : (c : Int) ≤ (1114111 : Int) := of_decide_eq_true h3
     refine G_sr ?_
     refine GL_st 1 1 [(2, .bool true)] fun β => ?_
     refine G_ret ?_
     refine inb_ret (thn_ret (res1 (v := .bool true) rfl (by kernel_rfl) ?_))
     replace H : Sep w0 w (F) := H
     first | exact ⟨rfl, H⟩ | (exfalso; omega)
    · --no
     replace h3 : ¬ ((c : Int) ≤ (1114111 : Int)) := of_decide_eq_false h3
     refine G_skip ?_
     refine inb_normal ?_
     refine thn_normal ?_
     refine G_sr ?_
     refine GL_st 1 1 [(2, .bool false)] fun β => ?_
     refine G_ret ?_
     refine res1 (v := .bool false) rfl (by kernel_rfl) ?_
     replace H : Sep w0 w (F) := H
     first | exact ⟨rfl, H⟩ | (exfalso; omega)
   · --no
    refine GL_re [(0, .int .i32 (c : Int)), (13, .bool false)] (show ([.int .i32 (c : Int), .bool (decide ((57343 : Int) < (c : Int)))] : List Value) = [.int .i32 (c : Int), .bool false] by rw [h2]) (fun β => ?_)
    replace h2 : ¬ ((57343 : Int) < (c : Int)) := of_decide_eq_false h2
    refine GL_st 4 7 [(10, .bool false)] fun β => ?_
    refine G_false (by kernel_rfl) ?_
    refine G_skip ?_
    refine inb_normal ?_
    refine thn_normal ?_
    refine G_sr ?_
    refine GL_st 1 1 [(2, .bool false)] fun β => ?_
    refine G_ret ?_
    refine res1 (v := .bool false) rfl (by kernel_rfl) ?_
    replace H : Sep w0 w (F) := H
    first | exact ⟨rfl, H⟩ | (exfalso; omega)
 · --no
  refine GL_re [(0, .int .i32 (c : Int)), (6, .bool false)] (show ([.int .i32 (c : Int), .bool (decide ((0 : Int) ≤ (c : Int)))] : List Value) = [.int .i32 (c : Int), .bool false] by rw [h0]) (fun β => ?_)
  replace h0 : ¬ ((0 : Int) ≤ (c : Int)) := of_decide_eq_false h0
  refine GL_st 4 7 [(0, .int .i32 (c : Int)), (3, .bool false)] fun β => ?_
  refine G_false (by kernel_rfl) ?_
  refine G_sr ?_
  refine GL_s 3 3 [(0, .int .i32 (c : Int)), (13, .bool (decide ((57343 : Int) < (c : Int))))] fun β => ?_
  rcases Bool.eq_false_or_eq_true (decide ((57343 : Int) < (c : Int))) with h4 | h4
  · --yes
   refine GL_re [(0, .int .i32 (c : Int)), (13, .bool true)] (show ([.int .i32 (c : Int), .bool (decide ((57343 : Int) < (c : Int)))] : List Value) = [.int .i32 (c : Int), .bool true] by rw [h4]) (fun β => ?_)
   replace h4 : (57343 : Int) < (c : Int) := of_decide_eq_true h4
   refine GL_st 4 7 [(10, .bool (decide ((c : Int) ≤ (1114111 : Int))))] fun β => ?_
   refine G_cond (decide ((c : Int) ≤ (1114111 : Int))) (by kernel_rfl) (fun h5 => ?_) (fun h5 => ?_)
   · --yes
    replace h5 : (c : Int) ≤ (1114111 : Int) := of_decide_eq_true h5
    refine G_sr ?_
    refine GL_st 1 1 [(2, .bool true)] fun β => ?_
    refine G_ret ?_
    refine inb_ret (thn_ret (res1 (v := .bool true) rfl (by kernel_rfl) ?_))
    replace H : Sep w0 w (F) := H
    first | exact ⟨rfl, H⟩ | (exfalso; omega)
   · --no
    replace h5 : ¬ ((c : Int) ≤ (1114111 : Int)) := of_decide_eq_false h5
    refine G_skip ?_
    refine inb_normal ?_
    refine thn_normal ?_
    refine G_sr ?_
    refine GL_st 1 1 [(2, .bool false)] fun β => ?_
    refine G_ret ?_
    refine res1 (v := .bool false) rfl (by kernel_rfl) ?_
    replace H : Sep w0 w (F) := H
    first | exact ⟨rfl, H⟩ | (exfalso; omega)
  · --no
   refine GL_re [(0, .int .i32 (c : Int)), (13, .bool false)] (show ([.int .i32 (c : Int), .bool (decide ((57343 : Int) < (c : Int)))] : List Value) = [.int .i32 (c : Int), .bool false] by rw [h4]) (fun β => ?_)
   replace h4 : ¬ ((57343 : Int) < (c : Int)) := of_decide_eq_false h4
   refine GL_st 4 7 [(10, .bool false)] fun β => ?_
   refine G_false (by kernel_rfl) ?_
   refine G_skip ?_
   refine inb_normal ?_
   refine thn_normal ?_
   refine G_sr ?_
   refine GL_st 1 1 [(2, .bool false)] fun β => ?_
   refine G_ret ?_
   refine res1 (v := .bool false) rfl (by kernel_rfl) ?_
   replace H : Sep w0 w (F) := H
   first | exact ⟨rfl, H⟩ | (exfalso; omega)
/-- strings.IndexRune -/
theorem c_IndexRune3_ascii (c : Nat) (hc : c < 128) {w0 w : World} {F : List Chunk} (H : Sep w0 w F) : Ret Tryd.prog 56 #[S ([0, 13, 10] : List UInt8), .int .i32 (c : Int)] w (fun v w' => v = .int .i64 (idxI ([0, 13, 10] : List UInt8) (UInt8.ofNat c)) ∧ Sep w0 w' F) := by
 refine Ret_enter (args := [S ([0, 13, 10] : List UInt8), .int .i32 (c : Int)]) Tryd.func56 rfl (by kernel_rfl) ?_
 refine G_forget [(0, S ([0, 13, 10] : List UInt8)), (1, .int .i32 (c : Int))] (by kernel_rfl) (fun β => ?_)
 refine G_sr ?_
 refine GL_st 1 1 [(0, S ([0, 13, 10] : List UInt8)), (1, .int .i32 (c : Int))] fun β => ?_
 refine G_block ?_
 refine G_sr ?_
 refine GL_s 3 3 [(0, S ([0, 13, 10] : List UInt8)), (1, .int .i32 (c : Int)), (163, .bool (decide ((0 : Int) ≤ (c : Int))))] fun β => ?_
 rcases Bool.eq_false_or_eq_true (decide ((0 : Int) ≤ (c : Int))) with h0 | h0
 · --yes
  refine GL_re [(0, S ([0, 13, 10] : List UInt8)), (1, .int .i32 (c : Int)), (163, .bool true)] (show ([S ([0, 13, 10] : List UInt8), .int .i32 (c : Int), .bool (decide ((0 : Int) ≤ (c : Int)))] : List Value) = [S ([0, 13, 10] : List UInt8), .int .i32 (c : Int), .bool true] by rw [h0]) (fun β => ?_)
  replace h0 : (0 : Int) ≤ (c : Int) := of_decide_eq_true h0
  refine GL_st 4 7 [(0, S ([0, 13, 10] : List UInt8)), (1, .int .i32 (c : Int)), (160, .bool (decide ((c : Int) < (128 : Int))))] fun β => ?_
  refine G_cond (decide ((c : Int) < (128 : Int))) (by kernel_rfl) (fun h1 => ?_) (fun h1 => ?_)
  · --yes
   replace h1 : (c : Int) < (128 : Int) := of_decide_eq_true h1
   refine G_sr ?_
   refine GL_sr 3 3 [(167, S ([0, 13, 10] : List UInt8)), (169, By (UInt8.ofNat c))] (show ([S ([0, 13, 10] : List UInt8), .int .u8 (IntKind.u8.wrap (c : Int))] : List Value) = [S ([0, 13, 10] : List UInt8), By (UInt8.ofNat c)] by rw [Kw.u8_ofNat c]) fun β => ?_
   refine GL_C (c_sIB ([0, 13, 10] : List UInt8) (UInt8.ofNat c) H) ?_
   rintro _ w1 ⟨rfl, H⟩
   refine GL_st 1 5 [(4, .int .i64 (idxI ([0, 13, 10] : List UInt8) (UInt8.ofNat c)))] fun β => ?_
   refine G_ret ?_
   refine inb_ret (res1 (v := .int .i64 (idxI ([0, 13, 10] : List UInt8) (UInt8.ofNat c))) rfl (by kernel_rfl) ?_)
   replace H : Sep w0 w1 (F) := H
   exact ⟨rfl, H⟩
  · --no
   replace h1 : ¬ ((c : Int) < (128 : Int)) := of_decide_eq_false h1
   exfalso; omega
 · --no
  refine GL_re [(0, S ([0, 13, 10] : List UInt8)), (1, .int .i32 (c : Int)), (163, .bool false)] (show ([S ([0, 13, 10] : List UInt8), .int .i32 (c : Int), .bool (decide ((0 : Int) ≤ (c : Int)))] : List Value) = [S ([0, 13, 10] : List UInt8), .int .i32 (c : Int), .bool false] by rw [h0]) (fun β => ?_)
  replace h0 : ¬ ((0 : Int) ≤ (c : Int)) := of_decide_eq_false h0
  exfalso; omega
/-- strings.IndexRune -/
theorem c_IndexRune3_bad {w0 w : World} {F : List Chunk} (H : Sep w0 w F) : Ret Tryd.prog 56 #[S ([0, 13, 10] : List UInt8), .int .i32 (65533 : Int)] w (fun v w' => v = .int .i64 (-1 : Int) ∧ Sep w0 w' F) := by
 refine Ret_enter (args := [S ([0, 13, 10] : List UInt8), .int .i32 (65533 : Int)]) Tryd.func56 rfl (by kernel_rfl) ?_
 refine G_forget [(0, S ([0, 13, 10] : List UInt8)), (1, .int .i32 (65533 : Int))] (by kernel_rfl) (fun β => ?_)
 refine G_sr ?_
 refine GL_st 1 1 [(0, S ([0, 13, 10] : List UInt8)), (1, .int .i32 (65533 : Int))] fun β => ?_
 refine G_block ?_
 refine G_sr ?_
 refine GL_st 7 7 [(0, S ([0, 13, 10] : List UInt8)), (1, .int .i32 (65533 : Int)), (160, .bool false)] fun β => ?_
 refine G_false (by kernel_rfl) ?_
 refine G_sr ?_
 refine GL_st 3 3 [(0, S ([0, 13, 10] : List UInt8)), (1, .int .i32 (65533 : Int)), (171, .bool true)] fun β => ?_
 refine G_true (by kernel_rfl) ?_
 refine G_seq ?_
 refine G_sr ?_
 refine GL_s 1 1 [(174, S ([0, 13, 10] : List UInt8))] fun β => ?_
 obtain ⟨g1, w2, hr3, H⟩ := R_range (P := Tryd.prog) (t := 9) (l := ([0, 13, 10] : List UInt8)) H (by kernel_rfl)
 replace H : Sep w0 w2 (.obj g1 (.stringIter ⟨([0, 13, 10] : List UInt8).toArray⟩ 0) :: F) := H
 refine GL_V hr3 ?_
 refine GL_et ?_
 refine G_block ?_
 refine G_loop (X := Nat) (fun p => [(175, Pt g1 0)]) (fun p w_ => Sep w0 w_ (.obj g1 (.stringIter ⟨([0, 13, 10] : List UInt8).toArray⟩ p) :: F) ∧ (p ≤ 3)) (fun p => 3 - p) (0) (by kernel_rfl) ⟨H, by omega⟩ ?_
 rintro p β w4 ⟨H, hI⟩
 refine G_forget [(175, Pt g1 0)] (by kernel_rfl) (fun β => ?_)
 replace H : Sep w0 w4 (.obj g1 (.stringIter ⟨([0, 13, 10] : List UInt8).toArray⟩ p) :: F) := H
 replace hI : p ≤ 3 := hI
 refine G_sr ?_
 by_cases hn5 : p < ([0, 13, 10] : List UInt8).length
 · --more
  obtain ⟨w6, hr7, H⟩ := R_next (P := Tryd.prog) (T := 0) (l := ([0, 13, 10] : List UInt8)) H (i := 0) rfl hn5
  replace H : Sep w0 w6 (.obj g1 (.stringIter ⟨([0, 13, 10] : List UInt8).toArray⟩ (p + dcW ([0, 13, 10] : List UInt8) p)) :: F) := H
  refine GL_V hr7 ?_
  have hp3 : p = 0 ∨ p = 1 ∨ p = 2 := by have : p < 3 := hn5; omega
  have hd3 : dcR ([0, 13, 10] : List UInt8) p < 128 ∧ dcW ([0, 13, 10] : List UInt8) p = 1 := by rcases hp3 with rfl | rfl | rfl <;> exact ⟨by rw [(dc_ascii (by decide)).1]; decide, (dc_ascii (by decide)).2⟩
  refine GL_st 1 2 [(175, Pt g1 0), (176, .tuple #[.bool true, In p, .int .i32 ((dcR ([0, 13, 10] : List UInt8) p : Nat) : Int)]), (177, .bool true)] fun β => ?_
  refine G_seq ?_
  refine G_true (by kernel_rfl) ?_
  refine G_skip ?_
  refine thn_normal ?_
  refine G_block ?_
  refine G_sr ?_
  refine GL_st 4 4 [(5, In p), (6, .int .i32 ((dcR ([0, 13, 10] : List UInt8) p : Nat) : Int)), (175, Pt g1 0)] fun β => ?_
  refine G_sr ?_
  refine GL_st 2 2 [(5, In p), (175, Pt g1 0), (181, .bool (((dcR ([0, 13, 10] : List UInt8) p : Nat) : Int) == (65533 : Int)))] fun β => ?_
  refine G_cond (((dcR ([0, 13, 10] : List UInt8) p : Nat) : Int) == (65533 : Int)) (by kernel_rfl) (fun h0 => ?_) (fun h0 => ?_)
  · --yes
   replace h0 : ((dcR ([0, 13, 10] : List UInt8) p : Nat) : Int) = (65533 : Int) := eql_T h0
   exfalso; omega
  · --no
   replace h0 : ¬ (((dcR ([0, 13, 10] : List UInt8) p : Nat) : Int) = (65533 : Int)) := eql_F h0
   refine G_skip ?_
   refine inb_normal ?_
   refine thn_normal ⟨(p + dcW ([0, 13, 10] : List UInt8) p), Agr_of_keys (by kernel_rfl), ⟨H, ?_⟩, ?_⟩
   · (have h3 : p < 3 := by assumption); omega
   · (have h3 : p < 3 := by assumption); omega
 · --over
  refine GL_V (R_next_over (P := Tryd.prog) (T := 0) (l := ([0, 13, 10] : List UInt8)) H (i := 0) rfl hn5) ?_
  refine GL_st 1 2 [(175, Pt g1 0), (176, .tuple #[.bool false]), (177, .bool false)] fun β => ?_
  refine G_seq ?_
  refine G_false (by kernel_rfl) ?_
  refine G_exit (thn_exit (thn_exit (inb_hit ?_)))
  refine thn_normal ?_
  refine G_sr ?_
  refine GL_st 1 1 [(4, .int .i64 (-1 : Int))] fun β => ?_
  refine G_ret ?_
  refine inb_ret (res1 (v := .int .i64 (-1 : Int)) rfl (by kernel_rfl) ?_)
  replace H := H.drop 0
  replace H : Sep w0 w4 (F) := H
  exact ⟨rfl, H⟩

theorem far_last {c : Nat} (h : 128 ≤ c) (hv : Utf8.valid (c : Int) = true) : ∃ q : List UInt8, encL (c : Int) = q ∧ 2 ≤ q.length ∧ q.length ≤ 4 ∧ 128 ≤ (q.getD (q.length - 1) 0).toNat := by
  obtain ⟨h1, h2, h3⟩ := encL_far h hv
  refine ⟨_, rfl, h1, h2, h3 _ ?_⟩
  rw [List.getD_eq_getElem?_getD, List.getElem?_eq_getElem (by omega)]
  exact List.getElem_mem _
theorem lit_lt (i : Nat) : (([0, 13, 10] : List UInt8).getD i 0).toNat < 128 := by
  rcases i with _ | _ | _ | i
  · decide
  · decide
  · decide
  · show (0 : UInt8).toNat < 128; decide
theorem lit_mem : ∀ b ∈ ([0, 13, 10] : List UInt8), b.toNat < 128 := by decide
theorem valid_nat {c : Nat} (hv : Utf8.valid (c : Int) = true) : c < 55296 ∨ (57344 ≤ c ∧ c ≤ 1114111) := by
  simp only [Utf8.valid, Bool.or_eq_true, Bool.and_eq_true, decide_eq_true_eq] at hv
  omega
/-- strings.IndexRune -/
theorem c_IndexRune3_far (c : Nat) (hc : 128 ≤ c) (hn : ¬ c = 65533) (hv : Utf8.valid (c : Int) = true) {w0 w : World} {F : List Chunk} (H : Sep w0 w F) : Ret Tryd.prog 56 #[S ([0, 13, 10] : List UInt8), .int .i32 (c : Int)] w (fun v w' => v = .int .i64 (-1 : Int) ∧ Sep w0 w' F) := by
 have hvn := valid_nat hv
 have hl3 : ([0, 13, 10] : List UInt8).length = 3 := rfl
 refine Ret_enter (args := [S ([0, 13, 10] : List UInt8), .int .i32 (c : Int)]) Tryd.func56 rfl (by kernel_rfl) ?_
 refine G_forget [(0, S ([0, 13, 10] : List UInt8)), (1, .int .i32 (c : Int))] (by kernel_rfl) (fun β => ?_)
 refine G_sr ?_
 refine GL_st 1 1 [(0, S ([0, 13, 10] : List UInt8)), (1, .int .i32 (c : Int))] fun β => ?_
 refine G_block ?_
 refine G_sr ?_
 refine GL_s 3 3 [(0, S ([0, 13, 10] : List UInt8)), (1, .int .i32 (c : Int)), (163, .bool (decide ((0 : Int) ≤ (c : Int))))] fun β => ?_
 rcases Bool.eq_false_or_eq_true (decide ((0 : Int) ≤ (c : Int))) with h0 | h0
 · --yes
  refine GL_re [(0, S ([0, 13, 10] : List UInt8)), (1, .int .i32 (c : Int)), (163, .bool true)] (show ([S ([0, 13, 10] : List UInt8), .int .i32 (c : Int), .bool (decide ((0 : Int) ≤ (c : Int)))] : List Value) = [S ([0, 13, 10] : List UInt8), .int .i32 (c : Int), .bool true] by rw [h0]) (fun β => ?_)
  replace h0 : (0 : Int) ≤ (c : Int) := of_decide_eq_true h0
  refine GL_st 4 7 [(0, S ([0, 13, 10] : List UInt8)), (1, .int .i32 (c : Int)), (160, .bool (decide ((c : Int) < (128 : Int))))] fun β => ?_
  refine G_cond (decide ((c : Int) < (128 : Int))) (by kernel_rfl) (fun h1 => ?_) (fun h1 => ?_)
  · --yes
   replace h1 : (c : Int) < (128 : Int) := of_decide_eq_true h1
   exfalso; omega
  · --no
   replace h1 : ¬ ((c : Int) < (128 : Int)) := of_decide_eq_false h1
   refine G_sr ?_
   refine GL_st 3 3 [(0, S ([0, 13, 10] : List UInt8)), (1, .int .i32 (c : Int)), (171, .bool ((c : Int) == (65533 : Int)))] fun β => ?_
   refine G_cond ((c : Int) == (65533 : Int)) (by kernel_rfl) (fun h2 => ?_) (fun h2 => ?_)
   · --yes
    replace h2 : (c : Int) = (65533 : Int) := eql_T h2
    exfalso; omega
   · --no
    replace h2 : ¬ ((c : Int) = (65533 : Int)) := eql_F h2
    refine G_sr ?_
    refine GL_s 1 1 [(0, S ([0, 13, 10] : List UInt8)), (1, .int .i32 (c : Int)), (184, .int .i32 (c : Int))] fun β => ?_
    refine GL_C (c_ValidRune c (by assumption) H) ?_
    rintro _ w1 ⟨rfl, H⟩
    refine GL_st 2 4 [(0, S ([0, 13, 10] : List UInt8)), (1, .int .i32 (c : Int)), (183, .bool false)] fun β => ?_
    refine G_false (by kernel_rfl) ?_
    refine G_scope ?_
    refine G_sr ?_
    refine GL_s 1 1 [(0, S ([0, 13, 10] : List UInt8)), (17, .int .i32 (c : Int))] fun β => ?_
    refine GL_V (R_runestr (s := 21) (t := 9) (k := .i32) (c := (c : Int)) (by kernel_rfl) (by kernel_rfl)) ?_
    refine GL_st 1 3 [(0, S ([0, 13, 10] : List UInt8)), (7, S (encL (c : Int)))] fun β => ?_
    obtain ⟨q, hq, hq1, hq2, hq3⟩ := far_last hc hv
    refine G_re [(0, S ([0, 13, 10] : List UInt8)), (7, S q)] (show ([S ([0, 13, 10] : List UInt8), S (encL (c : Int))] : List Value) = [S ([0, 13, 10] : List UInt8), S q] by rw [hq]) (fun β => ?_)
    refine G_sr ?_
    refine GL_srt 4 4 [(0, S ([0, 13, 10] : List UInt8)), (7, S q), (8, In (q.length - 1))] (show ([S ([0, 13, 10] : List UInt8), S q, .int .i64 (IntKind.i64.wrap ((q.length : Int) - ((1 : Nat) : Int)))] : List Value) = [S ([0, 13, 10] : List UInt8), S q, In (q.length - 1)] by rw [nsub64 q.length 1 (by omega)]) fun β => ?_
    refine G_sr ?_
    refine GL_st 2 2 [(0, S ([0, 13, 10] : List UInt8)), (7, S q), (8, In (q.length - 1)), (9, In (q.length - 1))] fun β => ?_
    refine G_sr ?_
    refine GL_st 1 1 [(0, S ([0, 13, 10] : List UInt8)), (7, S q), (8, In (q.length - 1)), (9, In (q.length - 1))] fun β => ?_
    refine G_seq ?_
    refine G_block ?_
    refine G_loop (X := Unit) (fun z => [(0, S ([0, 13, 10] : List UInt8)), (7, S q), (8, In (q.length - 1)), (9, In (q.length - 1))]) (fun z w_ => Sep w0 w_ (F) ∧ (True)) (fun z => 0) (()) (by kernel_rfl) ⟨H, trivial⟩ ?_
    rintro z β w2 ⟨H, hI⟩
    refine G_forget [(0, S ([0, 13, 10] : List UInt8)), (7, S q), (8, In (q.length - 1)), (9, In (q.length - 1))] (by kernel_rfl) (fun β => ?_)
    replace H : Sep w0 w2 (F) := H
    replace hI : True := hI
    refine G_seq ?_
    refine G_sr ?_
    refine GL_srt 4 4 [(0, S ([0, 13, 10] : List UInt8)), (7, S q), (8, In (q.length - 1)), (9, In (q.length - 1)), (26, .bool (decide ((q.length - 1) < 3)))] (show ([S ([0, 13, 10] : List UInt8), S q, .int .i64 ((q.length - 1 : Nat) : Int), .int .i64 ((q.length - 1 : Nat) : Int), .bool (decide (((q.length - 1 : Nat) : Int) < ((3 : Nat) : Int)))] : List Value) = [S ([0, 13, 10] : List UInt8), S q, In (q.length - 1), In (q.length - 1), .bool (decide ((q.length - 1) < 3))] by rw [nlss (q.length - 1) 3]) fun β => ?_
    refine G_cond (decide ((q.length - 1) < 3)) (by kernel_rfl) (fun h3 => ?_) (fun h3 => ?_)
    · --yes
     replace h3 : (q.length - 1) < 3 := of_decide_eq_true h3
     refine G_skip ?_
     refine thn_normal ?_
     refine G_block ?_
     refine G_scope ?_
     refine G_seq ?_
     refine G_seq ?_
     refine G_drawS (fun w => True) 7 7 (by kernel_rfl) (by kernel_rfl) H (fun w3 H => ?_)
     refine HL_takes [0, 1] [(0, S ([0, 13, 10] : List UInt8)), (7, S q), (8, .int .i64 ((q.length - 1 : Nat) : Int)), (9, .int .i64 ((q.length - 1 : Nat) : Int)), (27, S ([0, 13, 10] : List UInt8)), (28, .int .i64 ((q.length - 1 : Nat) : Int))] (mkL 7 [0, 1]) 5 (by kernel_rfl) rfl (by kernel_rfl) (fun _ => by kernel_rfl) trivial (fun β => ?_)
     refine HL_t (i := 2) (m := 4) (fun w _ => (R_index (P := Tryd.prog) (w := _) (t := 9) (ki := .i64) (i := (q.length - 1)) (l := ([0, 13, 10] : List UInt8)) (by kernel_rfl) (by show q.length - 1 < 3; omega))) rfl (by kernel_rfl) (by kernel_rfl) (by kernel_rfl) (by kernel_rfl) (by kernel_rfl) (by kernel_rfl) trivial rfl ?_
     refine HL_takes [3, 4] [(0, S ([0, 13, 10] : List UInt8)), (7, S q), (8, .int .i64 ((q.length - 1 : Nat) : Int)), (9, .int .i64 ((q.length - 1 : Nat) : Int)), (29, .int .u8 ((([0, 13, 10] : List UInt8).getD (q.length - 1) 0).toNat : Int)), (30, S q), (31, .int .i64 ((q.length - 1 : Nat) : Int))] (mkL 7 [0, 1, 2, 3, 4]) 2 (by kernel_rfl) rfl (by kernel_rfl) (fun _ => by kernel_rfl) trivial (fun β => ?_)
     refine HL_t (i := 5) (m := 1) (fun w _ => (R_index (P := Tryd.prog) (w := _) (t := 9) (ki := .i64) (i := (q.length - 1)) (l := q) (by kernel_rfl) (by omega))) rfl (by kernel_rfl) (by kernel_rfl) (by kernel_rfl) (by kernel_rfl) (by kernel_rfl) (by kernel_rfl) trivial rfl ?_
     refine HL_takes [6] [(0, S ([0, 13, 10] : List UInt8)), (7, S q), (8, .int .i64 ((q.length - 1 : Nat) : Int)), (9, .int .i64 ((q.length - 1 : Nat) : Int)), (33, .bool (((([0, 13, 10] : List UInt8).getD (q.length - 1) 0).toNat : Int) != ((q.getD (q.length - 1) 0).toNat : Int)))] (mkL 7 [0, 1, 2, 3, 4, 5, 6]) 0 (by kernel_rfl) rfl (by kernel_rfl) (fun _ => by kernel_rfl) trivial (fun β => ?_)
     refine HL_forgetr [(0, S ([0, 13, 10] : List UInt8)), (7, S q), (8, In (q.length - 1)), (9, In (q.length - 1)), (33, .bool ((([0, 13, 10] : List UInt8).getD (q.length - 1) 0) != (q.getD (q.length - 1) 0)))] (show ([S ([0, 13, 10] : List UInt8), S q, .int .i64 ((q.length - 1 : Nat) : Int), .int .i64 ((q.length - 1 : Nat) : Int), .bool (((([0, 13, 10] : List UInt8).getD (q.length - 1) 0).toNat : Int) != ((q.getD (q.length - 1) 0).toNat : Int))] : List Value) = [S ([0, 13, 10] : List UInt8), S q, In (q.length - 1), In (q.length - 1), .bool ((([0, 13, 10] : List UInt8).getD (q.length - 1) 0) != (q.getD (q.length - 1) 0))] by rw [Kw.u8_neq (([0, 13, 10] : List UInt8).getD (q.length - 1) 0) (q.getD (q.length - 1) 0)]) (by kernel_rfl) rfl (fun β => ?_)
     refine HL_forget [(0, S ([0, 13, 10] : List UInt8)), (7, S q), (8, In (q.length - 1)), (9, In (q.length - 1)), (33, .bool ((([0, 13, 10] : List UInt8).getD (q.length - 1) 0) != (q.getD (q.length - 1) 0)))] (by kernel_rfl) (fun β => ?_)
     refine HL_fin (by kernel_rfl) ?_
     refine thn_normal ?_
     refine G_cond ((([0, 13, 10] : List UInt8).getD (q.length - 1) 0) != (q.getD (q.length - 1) 0)) (by kernel_rfl) (fun h4 => ?_) (fun h4 => ?_)
     · --yes
      replace h4 : ¬ ((([0, 13, 10] : List UInt8).getD (q.length - 1) 0) = (q.getD (q.length - 1) 0)) := neq_T h4
      refine G_seq ?_
      refine G_drawS (fun w => True) 9 9 (by kernel_rfl) (by kernel_rfl) H (fun w4 H => ?_)
      refine HL_takes [0, 1, 2] [(0, S ([0, 13, 10] : List UInt8)), (7, S q), (8, .int .i64 ((q.length - 1 : Nat) : Int)), (9, .int .i64 ((q.length - 1 : Nat) : Int)), (34, S ([0, 13, 10] : List UInt8)), (36, .int .i64 (IntKind.i64.wrap (((q.length - 1 : Nat) : Int) + ((1 : Nat) : Int))))] (mkL 9 [0, 1, 2]) 6 (by kernel_rfl) rfl (by kernel_rfl) (fun _ => by kernel_rfl) trivial (fun β => ?_)
      refine HL_forgetr [(0, S ([0, 13, 10] : List UInt8)), (7, S q), (8, In (q.length - 1)), (9, In (q.length - 1)), (34, S ([0, 13, 10] : List UInt8)), (36, In ((q.length - 1) + 1))] (show ([S ([0, 13, 10] : List UInt8), S q, .int .i64 ((q.length - 1 : Nat) : Int), .int .i64 ((q.length - 1 : Nat) : Int), S ([0, 13, 10] : List UInt8), .int .i64 (IntKind.i64.wrap (((q.length - 1 : Nat) : Int) + ((1 : Nat) : Int)))] : List Value) = [S ([0, 13, 10] : List UInt8), S q, In (q.length - 1), In (q.length - 1), S ([0, 13, 10] : List UInt8), In ((q.length - 1) + 1)] by rw [nadd64 (q.length - 1) 1 (by omega)]) (by kernel_rfl) rfl (fun β => ?_)
      refine HL_t (i := 3) (m := 5) (fun w _ => (R_strslice_lo (t := 9) (k1 := .i64) (a := ((q.length - 1) + 1)) (l := ([0, 13, 10] : List UInt8)) (by kernel_rfl) (by show q.length - 1 + 1 ≤ 3; omega))) rfl (by kernel_rfl) (by kernel_rfl) (by kernel_rfl) (by kernel_rfl) (by kernel_rfl) (by kernel_rfl) trivial rfl ?_
      refine HL_takes [4, 5] [(0, S ([0, 13, 10] : List UInt8)), (7, S q), (8, .int .i64 ((q.length - 1 : Nat) : Int)), (9, .int .i64 ((q.length - 1 : Nat) : Int)), (37, S (([0, 13, 10] : List UInt8).drop ((q.length - 1) + 1))), (38, S q), (39, .int .i64 ((q.length - 1 : Nat) : Int))] (mkL 9 [0, 1, 2, 3, 4, 5]) 3 (by kernel_rfl) rfl (by kernel_rfl) (fun _ => by kernel_rfl) trivial (fun β => ?_)
      refine HL_t (i := 6) (m := 2) (fun w _ => (R_index (P := Tryd.prog) (w := _) (t := 9) (ki := .i64) (i := (q.length - 1)) (l := q) (by kernel_rfl) (by omega))) rfl (by kernel_rfl) (by kernel_rfl) (by kernel_rfl) (by kernel_rfl) (by kernel_rfl) (by kernel_rfl) trivial rfl ?_
      refine HL_call (i := 7) (f := 63) (args := #[S (([0, 13, 10] : List UInt8).drop ((q.length - 1) + 1)), By (q.getD (q.length - 1) 0)]) rfl (by kernel_rfl) (by kernel_rfl) (by kernel_rfl) (by kernel_rfl) (c_sIB (([0, 13, 10] : List UInt8).drop ((q.length - 1) + 1)) (q.getD (q.length - 1) 0) H) ?_
      rintro _ w5 ⟨rfl, H⟩
      refine ⟨(.inr trivial), ?_⟩
      refine HL_takes [8] [(0, S ([0, 13, 10] : List UInt8)), (7, S q), (8, .int .i64 ((q.length - 1 : Nat) : Int)), (9, .int .i64 ((q.length - 1 : Nat) : Int)), (11, .int .i64 (idxI (([0, 13, 10] : List UInt8).drop ((q.length - 1) + 1)) (q.getD (q.length - 1) 0)))] (mkL 9 [0, 1, 2, 3, 4, 5, 6, 7, 8]) 0 (by kernel_rfl) rfl (by kernel_rfl) (fun _ => by kernel_rfl) trivial (fun β => ?_)
      refine HL_forget [(0, S ([0, 13, 10] : List UInt8)), (7, S q), (8, In (q.length - 1)), (9, In (q.length - 1)), (11, .int .i64 (idxI (([0, 13, 10] : List UInt8).drop ((q.length - 1) + 1)) (q.getD (q.length - 1) 0)))] (by kernel_rfl) (fun β => ?_)
      refine HL_fin (by kernel_rfl) ?_
      refine thn_normal ?_
      refine G_seq ?_
      have hi0 : idxI (([0, 13, 10] : List UInt8).drop (q.length - 1 + 1)) (q.getD (q.length - 1) 0) = -1 := idx_none (fun b hb e => by have := lit_mem b (List.mem_of_mem_drop hb); rw [e] at this; omega)
      refine G_re [(0, S ([0, 13, 10] : List UInt8)), (7, S q), (8, In (q.length - 1)), (9, In (q.length - 1)), (11, .int .i64 (-1 : Int))] (show ([S ([0, 13, 10] : List UInt8), S q, In (q.length - 1), In (q.length - 1), .int .i64 (idxI (([0, 13, 10] : List UInt8).drop ((q.length - 1) + 1)) (q.getD (q.length - 1) 0))] : List Value) = [S ([0, 13, 10] : List UInt8), S q, In (q.length - 1), In (q.length - 1), .int .i64 (-1 : Int)] by rw [hi0]) (fun β => ?_)
      refine G_sr ?_
      refine GL_st 2 2 [(0, S ([0, 13, 10] : List UInt8)), (7, S q), (8, In (q.length - 1)), (9, In (q.length - 1)), (11, .int .i64 (-1 : Int)), (43, .bool true)] fun β => ?_
      refine G_true (by kernel_rfl) ?_
      refine G_sr ?_
      refine GL_st 1 1 [(4, .int .i64 (-1 : Int))] fun β => ?_
      refine G_ret ?_
      refine thn_ret (thn_ret (nog_ret (inb_ret (thn_ret (inb_ret (thn_ret (nog_ret (inb_ret (res1 (v := .int .i64 (-1 : Int)) rfl (by kernel_rfl) ?_)))))))))
      replace H : Sep w0 w5 (F) := H
      exact ⟨rfl, H⟩
     · --no
      replace h4 : (([0, 13, 10] : List UInt8).getD (q.length - 1) 0) = (q.getD (q.length - 1) 0) := neq_F h4
      exfalso; have e1 := lit_lt (q.length - 1); rw [h4] at e1; omega
    · --no
     replace h3 : ¬ ((q.length - 1) < 3) := of_decide_eq_false h3
     refine G_exit (thn_exit (thn_exit (inb_hit ?_)))
     refine thn_normal ?_
     refine G_seq ?_
     refine G_sr ?_
     refine GL_st 1 1 [(4, .int .i64 (-1 : Int))] fun β => ?_
     refine G_ret ?_
     refine thn_ret (nog_ret (inb_ret (res1 (v := .int .i64 (-1 : Int)) rfl (by kernel_rfl) ?_)))
     replace H : Sep w0 w2 (F) := H
     exact ⟨rfl, H⟩
 · --no
  refine GL_re [(0, S ([0, 13, 10] : List UInt8)), (1, .int .i32 (c : Int)), (163, .bool false)] (show ([S ([0, 13, 10] : List UInt8), .int .i32 (c : Int), .bool (decide ((0 : Int) ≤ (c : Int)))] : List Value) = [S ([0, 13, 10] : List UInt8), .int .i32 (c : Int), .bool false] by rw [h0]) (fun β => ?_)
  replace h0 : ¬ ((0 : Int) ≤ (c : Int)) := of_decide_eq_false h0
  exfalso; omega

theorem c_IndexRune3 (c : Nat) (hc : c < 128 ∨ (128 ≤ c ∧ (c = 65533 ∨ Utf8.valid (c : Int) = true))) {w0 w : World} {F : List Chunk} (H : Sep w0 w F) : Ret Tryd.prog 56 #[S ([0, 13, 10] : List UInt8), .int .i32 (c : Int)] w (fun v w' => v = .int .i64 (if c < 128 then idxI ([0, 13, 10] : List UInt8) (UInt8.ofNat c) else -1) ∧ Sep w0 w' F) := by
  by_cases h : c < 128
  · rw [if_pos h]; exact c_IndexRune3_ascii c h H
  · rw [if_neg h]
    by_cases hb : c = 65533
    · subst hb; exact c_IndexRune3_bad H
    · rcases hc with hc | ⟨hc, hv | hv⟩
      · omega
      · omega
      · exact c_IndexRune3_far c hc hb hv H
/-- strings.shouldUseASCIISet -/
theorem c_shouldUse (n : Nat) {w0 w : World} {F : List Chunk} (H : Sep w0 w F) : Ret Tryd.prog 57 #[.int .i64 (n : Int)] w (fun v w' => v = .bool (decide (n > 8)) ∧ Sep w0 w' F) := by
 refine Ret_enter (args := [In n]) Tryd.func57 rfl (by kernel_rfl) ?_
 refine G_forget [(0, In n)] (by kernel_rfl) (fun β => ?_)
 refine G_sr ?_
 refine GL_st 1 1 [(0, In n)] fun β => ?_
 refine G_sr ?_
 refine GL_srt 3 3 [(2, .bool (decide (n > 8)))] (show ([.bool (decide ((n : Int) > ((8 : Nat) : Int)))] : List Value) = [.bool (decide (n > 8))] by rw [ngtr n 8]) fun β => ?_
 refine G_ret ?_
 refine res1 (v := .bool (decide (n > 8))) rfl (by kernel_rfl) ?_
 replace H : Sep w0 w (F) := H
 exact ⟨rfl, H⟩

def setK : Nat → List Bool
  | 0 => List.replicate 256 false
  | k + 1 => (setK k).set (([0, 13, 10] : List UInt8).getD k 0).toNat true
theorem setK_len (k : Nat) : (setK k).length = 256 := by induction k <;> simp_all [setK]
def badB (c : UInt8) : Bool := c == 0 || c == 10 || c == 13
theorem setK_bad (c : UInt8) : (setK 3).getD c.toNat false = badB c := by
  have h : ∀ n, n < 256 → (setK 3).getD n false = badB (UInt8.ofNat n) := by decide +kernel
  have := h c.toNat c.toNat_lt
  rwa [UInt8.ofNat_toNat] at this
theorem any_step {l : List UInt8} {k : Nat} (hk : k < l.length) (h : (l.take k).any badB = false) (e : badB (l.getD k 0) = false) : (l.take (k + 1)).any badB = false := by
  simp only [List.getD_eq_getElem?_getD, List.getElem?_eq_getElem hk, Option.getD_some] at e
  rw [List.take_add_one, List.getElem?_eq_getElem hk, List.any_append, h]
  simp [e]
theorem any_more {l : List UInt8} {k : Nat} : ∀ (n : Nat), k + n ≤ l.length → (l.take k).any badB = false → (∀ j, k ≤ j → j < k + n → 128 ≤ (l.getD j 0).toNat) → (l.take (k + n)).any badB = false
  | 0, _, h, _ => h
  | n + 1, hl, h, hj => by
    refine any_step (k := k + n) (by omega) (any_more n (by omega) h (fun j h1 h2 => hj j h1 (by omega))) ?_
    have := hj (k + n) (by omega) (by omega)
    generalize l.getD (k + n) 0 = c at *
    simp only [badB, Bool.or_eq_false_iff, beq_eq_false_iff_ne, ne_eq]
    refine ⟨⟨?_, ?_⟩, ?_⟩ <;> (rintro rfl; revert this; decide)
theorem any_yes {l : List UInt8} {k : Nat} (hk : k < l.length) (e : badB (l.getD k 0) = true) : l.any badB = true := by
  simp only [List.getD_eq_getElem?_getD, List.getElem?_eq_getElem hk, Option.getD_some] at e
  exact List.any_eq_true.2 ⟨l[k], List.getElem_mem hk, e⟩
theorem idx_bad (c : UInt8) : (0 ≤ idxI ([0, 13, 10] : List UInt8) c) ↔ badB c = true := by
  have h : ∀ n, n < 256 → decide (0 ≤ idxI ([0, 13, 10] : List UInt8) (UInt8.ofNat n)) = badB (UInt8.ofNat n) := by decide +kernel
  have := h c.toNat c.toNat_lt
  rw [UInt8.ofNat_toNat] at this
  rw [← this, decide_eq_true_iff]
/-- strings.makeASCIISet -/
theorem c_makeSet {w0 w : World} {F : List Chunk} (H : Sep w0 w F) : Ret Tryd.prog 58 #[S ([0, 13, 10] : List UInt8)] w (fun v w' => v = .tuple #[.agg (bls (setK 3)).toArray, .bool true] ∧ Sep w0 w' F) := by
 have hl3 : ([0, 13, 10] : List UInt8).length = 3 := rfl
 refine Ret_enter (args := [S ([0, 13, 10] : List UInt8)]) Tryd.func58 rfl (by kernel_rfl) ?_
 refine G_forget [(0, S ([0, 13, 10] : List UInt8))] (by kernel_rfl) (fun β => ?_)
 refine G_sr ?_
 refine GL_new (V := fun g => Pt g 0) (l := bls (List.replicate 256 false)) (t := 124) H rfl (by kernel_rfl) (by kernel_rfl) (by kernel_rfl) (fun g1 w2 H => ?_)
 refine GL_st 1 2 [(0, S ([0, 13, 10] : List UInt8)), (2, Pt g1 0)] fun β => ?_
 refine G_seq ?_
 refine G_sr ?_
 refine GL_st 1 1 [(0, S ([0, 13, 10] : List UInt8)), (2, Pt g1 0), (4, In 0)] fun β => ?_
 refine G_block ?_
 refine G_loop (X := Nat × (List Bool)) (fun ⟨k, o⟩ => [(0, S ([0, 13, 10] : List UInt8)), (2, Pt g1 0), (4, In k)]) (fun ⟨k, o⟩ w_ => Sep w0 w_ (.blk g1 124 (bls o) :: F) ∧ (k ≤ 3 ∧ o = setK k)) (fun ⟨k, o⟩ => 3 - k) (0, List.replicate 256 false) (by kernel_rfl) ⟨H, ⟨by omega, rfl⟩⟩ ?_
 rintro ⟨k, o⟩ β w3 ⟨H, hI⟩
 refine G_forget [(0, S ([0, 13, 10] : List UInt8)), (2, Pt g1 0), (4, In k)] (by kernel_rfl) (fun β => ?_)
 replace H : Sep w0 w3 (.blk g1 124 (bls o) :: F) := H
 replace hI : k ≤ 3 ∧ o = setK k := hI
 obtain ⟨hI1, hI2⟩ := hI
 have hol : o.length = 256 := by rw [hI2, setK_len]
 refine G_seq ?_
 refine G_sr ?_
 refine GL_srt 4 4 [(0, S ([0, 13, 10] : List UInt8)), (2, Pt g1 0), (4, In k), (9, .bool (decide (k < 3)))] (show ([S ([0, 13, 10] : List UInt8), Pt g1 0, .int .i64 (k : Int), .bool (decide ((k : Int) < ((3 : Nat) : Int)))] : List Value) = [S ([0, 13, 10] : List UInt8), Pt g1 0, In k, .bool (decide (k < 3))] by rw [nlss k 3]) fun β => ?_
 refine G_cond (decide (k < 3)) (by kernel_rfl) (fun h0 => ?_) (fun h0 => ?_)
 · --yes
  replace h0 : k < 3 := of_decide_eq_true h0
  refine G_skip ?_
  refine thn_normal ?_
  refine G_seq ?_
  refine G_block ?_
  refine G_sr ?_
  refine GL_s 2 2 [(0, S ([0, 13, 10] : List UInt8)), (2, Pt g1 0), (4, In k), (12, S ([0, 13, 10] : List UInt8)), (13, In k)] fun β => ?_
  refine GL_V (R_index (P := Tryd.prog) (w := _) (t := 9) (ki := .i64) (i := k) (l := ([0, 13, 10] : List UInt8)) (by kernel_rfl) (by omega)) ?_
  refine GL_st 1 4 [(0, S ([0, 13, 10] : List UInt8)), (2, Pt g1 0), (4, In k), (5, By (([0, 13, 10] : List UInt8).getD k 0))] fun β => ?_
  refine G_seq ?_
  refine G_sr ?_
  refine GL_srt 2 2 [(0, S ([0, 13, 10] : List UInt8)), (2, Pt g1 0), (4, In k), (5, By (([0, 13, 10] : List UInt8).getD k 0)), (16, .bool (decide ((([0, 13, 10] : List UInt8).getD k 0) ≥ (128 : UInt8))))] (show ([S ([0, 13, 10] : List UInt8), Pt g1 0, .int .i64 (k : Int), .int .u8 ((([0, 13, 10] : List UInt8).getD k 0).toNat : Int), .bool (decide (((([0, 13, 10] : List UInt8).getD k 0).toNat : Int) ≥ ((128 : UInt8).toNat : Int)))] : List Value) = [S ([0, 13, 10] : List UInt8), Pt g1 0, In k, By (([0, 13, 10] : List UInt8).getD k 0), .bool (decide ((([0, 13, 10] : List UInt8).getD k 0) ≥ (128 : UInt8)))] by rw [Kw.u8_geq (([0, 13, 10] : List UInt8).getD k 0) (128 : UInt8)]) fun β => ?_
  refine G_cond (decide ((([0, 13, 10] : List UInt8).getD k 0) ≥ (128 : UInt8))) (by kernel_rfl) (fun h1 => ?_) (fun h1 => ?_)
  · --yes
   replace h1 : (([0, 13, 10] : List UInt8).getD k 0) ≥ (128 : UInt8) := of_decide_eq_true h1
   exfalso; have e1 := lit_lt k; have e2 := UInt8.le_iff_toNat_le.1 h1; have e3 : (128 : UInt8).toNat = 128 := rfl; omega
  · --no
   replace h1 : ¬ ((([0, 13, 10] : List UInt8).getD k 0) ≥ (128 : UInt8)) := of_decide_eq_false h1
   refine G_skip ?_
   refine thn_normal ?_
   refine G_region ?_
   refine GL_s 1 1 [(0, S ([0, 13, 10] : List UInt8)), (2, Pt g1 0), (4, In k), (18, By (([0, 13, 10] : List UInt8).getD k 0))] fun β => ?_
   refine GL_V (R_arrplace1 (t := 124) (e := 4) (n := 256) (g := g1) (i := (([0, 13, 10] : List UInt8).getD k 0).toNat) (ki := .u8) (by kernel_rfl) (by kernel_rfl) (by exact UInt8.toNat_lt _)) ?_
   obtain ⟨w4, hr5, H⟩ := R_bstoreB (P := Tryd.prog) (t := 4) (j := (([0, 13, 10] : List UInt8).getD k 0).toNat) (b := true) H (i := 0) rfl (by kernel_rfl) (by rw [hol]; exact UInt8.toNat_lt _)
   replace H : Sep w0 w4 (.blk g1 124 (bls (o.set ((([0, 13, 10] : List UInt8).getD k 0).toNat) true)) :: F) := H
   refine GL_U hr5 ?_
   refine GL_end (by kernel_rfl) ?_
   refine inb_normal ?_
   refine thn_normal ?_
   refine G_region ?_
   refine GL_sr 3 3 [(0, S ([0, 13, 10] : List UInt8)), (2, Pt g1 0), (4, In (k + 1))] (show ([S ([0, 13, 10] : List UInt8), Pt g1 0, .int .i64 (IntKind.i64.wrap ((k : Int) + ((1 : Nat) : Int)))] : List Value) = [S ([0, 13, 10] : List UInt8), Pt g1 0, In (k + 1)] by rw [nadd64 k 1 (by omega)]) fun β => ?_
   refine GL_end (by kernel_rfl) ?_
   refine thn_normal ⟨(k + 1, o.set ((([0, 13, 10] : List UInt8).getD k 0).toNat) true), Agr_of_keys (by kernel_rfl), ⟨H, ?_⟩, ?_⟩
   · exact ⟨by omega, by rw [hI2]; rfl⟩
   · first | (dsimp only; omega) | omega
 · --no
  replace h0 : ¬ (k < 3) := of_decide_eq_false h0
  refine G_exit (thn_exit (thn_exit (inb_hit ?_)))
  refine thn_normal ?_
  refine G_sr ?_
  refine GL_V (run_loadN (t := 124) (vs := bls o) (by kernel_rfl) (by rw [bls_length, show (o).length = 256 from by first | (simp; done) | (simp [*]; done) | assumption | (simp; omega) | rfl]; kernel_rfl) (H.blk_cells (i := 0) rfl 0 _ ⟨[], List.append_nil _⟩)) ?_
  obtain ⟨w6, hr7, H⟩ := R_storeL (P := Tryd.prog) (t := 124) (xs := bls o) H (i := 0) rfl (by rw [bls_length, show (o).length = 256 from by first | (simp; done) | (simp [*]; done) | assumption | (simp; omega) | rfl]; kernel_rfl) rfl (bls_one _)
  replace H : Sep w0 w6 (.blk g1 124 (bls o) :: F) := H
  refine GL_U hr7 ?_
  refine GL_st 1 3 [(2, Pt g1 0), (3, .bool true)] fun β => ?_
  refine G_ret ?_
  refine resCT (v := .bool true) (t := 124) (vs := bls o) rfl (by kernel_rfl) (by kernel_rfl) (by kernel_rfl) (by rw [bls_length, show (o).length = 256 from by first | (simp; done) | (simp [*]; done) | assumption | (simp; omega) | rfl]; kernel_rfl) (H.blk_cells (i := 0) rfl 0 _ ⟨_, List.append_nil _⟩) ?_
  replace H := H.drop 0
  replace H : Sep w0 w6 (F) := H
  have HF := H
  have hk : k = 3 := by omega
  subst hk
  subst hI2
  exact ⟨rfl, HF⟩
/-- (*strings.asciiSet).contains -/
theorem c_contains (o : List Bool) (ho : o.length = 256) (c : UInt8) {g : Nat} {w0 w : World} {F : List Chunk} (H : Sep w0 w (.blk g 124 (bls o) :: F)) : Ret Tryd.prog 59 #[.pointer (some ⟨g, 0, none⟩), .int .u8 (c.toNat : Int)] w (fun v w' => v = .bool (o.getD c.toNat false) ∧ Sep w0 w' (.blk g 124 (bls o) :: F)) := by
 have hcl := c.toNat_lt
 refine Ret_enter (args := [Pt g 0, By c]) Tryd.func59 rfl (by kernel_rfl) ?_
 refine G_forget [(0, Pt g 0), (1, By c)] (by kernel_rfl) (fun β => ?_)
 refine G_sr ?_
 refine GL_st 1 1 [(0, Pt g 0), (1, By c)] fun β => ?_
 refine G_sr ?_
 refine GL_s 3 3 [(6, By c), (7, Pt g 0)] fun β => ?_
 refine GL_V (R_arrplace1 (t := 124) (e := 4) (n := 256) (g := g) (i := c.toNat) (ki := .u8) (by kernel_rfl) (by kernel_rfl) (by omega)) ?_
 refine GL_V (run_load1 (t := 4) (by kernel_rfl) ((H.blk_cell (i := 0) rfl c.toNat).trans (bls_get o c.toNat (by omega)))) ?_
 refine GL_st 1 6 [(4, .bool (o.getD c.toNat false))] fun β => ?_
 refine G_ret ?_
 refine res1 (v := .bool (o.getD c.toNat false)) rfl (by kernel_rfl) ?_
 exact ⟨rfl, H⟩

/-- what a step over a rune shows -/
theorem rune_step {l : List UInt8} {k : Nat} (hk : k < l.length) (h : (l.take k).any badB = false) :
    k + dcW l k ≤ l.length ∧ 1 ≤ dcW l k ∧ (dcR l k < 128 ∨ (128 ≤ dcR l k ∧ (dcR l k = 65533 ∨ Utf8.valid (dcR l k : Int) = true))) ∧
      (0 ≤ (if dcR l k < 128 then idxI ([0, 13, 10] : List UInt8) (UInt8.ofNat (dcR l k)) else -1) → badB (l.getD k 0) = true) ∧
      (¬ 0 ≤ (if dcR l k < 128 then idxI ([0, 13, 10] : List UInt8) (UInt8.ofNat (dcR l k)) else -1) → (l.take (k + dcW l k)).any badB = false) := by
  by_cases ha : (l.getD k 0).toNat < 128
  · obtain ⟨h1, h2⟩ := dc_ascii ha
    rw [h1, h2, if_pos ha, UInt8.ofNat_toNat, idx_bad]
    exact ⟨by omega, by omega, .inl ha, id, fun hb => any_step hk h (by simpa using hb)⟩
  · obtain ⟨h1, h2, h3, h4, h5, _⟩ := dc_far hk ha
    rw [if_neg (by omega)]
    exact ⟨h3, h2, .inr ⟨h1, h5⟩, fun hh => absurd hh (by decide), fun _ => any_more _ h3 h h4⟩
/-- strings.IndexAny -/
theorem c_IndexAny3 (l : List UInt8) (hl : l.length ≤ 1099511627776) {w0 w : World} {F : List Chunk} (H : Sep w0 w F) : Ret Tryd.prog 50 #[S l, S ([0, 13, 10] : List UInt8)] w (fun v w' => ∃ r : Int, v = .int .i64 r ∧ decide (0 ≤ r) = l.any badB ∧ Sep w0 w' F) := by
 have hl3 : ([0, 13, 10] : List UInt8).length = 3 := rfl
 refine Ret_enter (args := [S l, S ([0, 13, 10] : List UInt8)]) Tryd.func50 rfl (by kernel_rfl) ?_
 refine G_forget [(0, S l), (1, S ([0, 13, 10] : List UInt8))] (by kernel_rfl) (fun β => ?_)
 refine G_sr ?_
 refine GL_st 1 1 [(0, S l), (1, S ([0, 13, 10] : List UInt8))] fun β => ?_
 refine G_seq ?_
 refine G_sr ?_
 refine GL_st 2 2 [(0, S l), (1, S ([0, 13, 10] : List UInt8)), (12, .bool false)] fun β => ?_
 refine G_false (by kernel_rfl) ?_
 refine G_skip ?_
 refine thn_normal ?_
 refine G_seq ?_
 refine G_sr ?_
 refine GL_st 3 3 [(0, S l), (1, S ([0, 13, 10] : List UInt8)), (15, .bool false)] fun β => ?_
 refine G_false (by kernel_rfl) ?_
 refine G_skip ?_
 refine thn_normal ?_
 refine G_seq ?_
 refine G_sr ?_
 refine GL_s 2 2 [(0, S l), (1, S ([0, 13, 10] : List UInt8)), (25, In l.length)] fun β => ?_
 refine GL_C (c_shouldUse l.length H) ?_
 rintro _ w1 ⟨rfl, H⟩
 refine GL_et ?_
 refine G_cond (decide (l.length > 8)) (by kernel_rfl) (fun h0 => ?_) (fun h0 => ?_)
 · --yes
  replace h0 : l.length > 8 := of_decide_eq_true h0
  refine G_sr ?_
  refine GL_s 1 1 [(0, S l), (1, S ([0, 13, 10] : List UInt8)), (28, S ([0, 13, 10] : List UInt8))] fun β => ?_
  refine GL_C (c_makeSet H) ?_
  rintro _ w2 ⟨rfl, H⟩
  refine GL_s 3 5 [(0, S l), (1, S ([0, 13, 10] : List UInt8)), (30, .agg (bls (setK 3)).toArray), (31, .bool true)] fun β => ?_
  refine GL_new (V := fun g => Pt g 0) (l := bls (List.replicate 256 false)) (t := 124) H rfl (by kernel_rfl) (by kernel_rfl) (by kernel_rfl) (fun g3 w4 H => ?_)
  obtain ⟨w5, hr6, H⟩ := R_storeL (P := Tryd.prog) (t := 124) (xs := bls (setK 3)) H (i := 0) rfl (by rw [bls_length, show (setK 3).length = 256 from by exact setK_len 3]; kernel_rfl) (by rw [bls_length, bls_length, show (List.replicate 256 false).length = 256 from by exact setK_len 3, show (setK 3).length = 256 from by exact setK_len 3]) (bls_one _)
  replace H : Sep w0 w5 (.blk g3 124 (bls (setK 3)) :: F) := H
  refine GL_U hr6 ?_
  refine GL_st 1 8 [(0, S l), (1, S ([0, 13, 10] : List UInt8)), (6, Pt g3 0), (7, .bool true)] fun β => ?_
  refine G_sr ?_
  refine GL_st 1 1 [(0, S l), (1, S ([0, 13, 10] : List UInt8)), (6, Pt g3 0), (32, .bool true)] fun β => ?_
  refine G_true (by kernel_rfl) ?_
  refine G_seq ?_
  refine G_sr ?_
  refine GL_st 1 1 [(0, S l), (6, Pt g3 0), (8, In 0)] fun β => ?_
  refine G_block ?_
  refine G_loop (X := Nat) (fun k => [(0, S l), (6, Pt g3 0), (8, In k)]) (fun k w_ => Sep w0 w_ (.blk g3 124 (bls (setK 3)) :: F) ∧ (k ≤ l.length ∧ (l.take k).any badB = false)) (fun k => l.length - k) (0) (by kernel_rfl) ⟨H, ⟨by omega, rfl⟩⟩ ?_
  rintro k β w7 ⟨H, hI⟩
  refine G_forget [(0, S l), (6, Pt g3 0), (8, In k)] (by kernel_rfl) (fun β => ?_)
  replace H : Sep w0 w7 (.blk g3 124 (bls (setK 3)) :: F) := H
  replace hI : k ≤ l.length ∧ (l.take k).any badB = false := hI
  obtain ⟨hI1, hI2⟩ := hI
  refine G_seq ?_
  refine G_sr ?_
  refine GL_srt 4 4 [(0, S l), (6, Pt g3 0), (8, In k), (36, .bool (decide (k < l.length)))] (show ([S l, Pt g3 0, .int .i64 (k : Int), .bool (decide ((k : Int) < (l.length : Int)))] : List Value) = [S l, Pt g3 0, In k, .bool (decide (k < l.length))] by rw [nlss k l.length]) fun β => ?_
  refine G_cond (decide (k < l.length)) (by kernel_rfl) (fun h1 => ?_) (fun h1 => ?_)
  · --yes
   replace h1 : k < l.length := of_decide_eq_true h1
   refine G_skip ?_
   refine thn_normal ?_
   refine G_seq ?_
   refine G_block ?_
   refine G_sr ?_
   refine GL_s 2 2 [(0, S l), (6, Pt g3 0), (8, In k), (39, S l), (40, In k)] fun β => ?_
   refine GL_V (R_index (P := Tryd.prog) (w := _) (t := 9) (ki := .i64) (i := k) (l := l) (by kernel_rfl) (by omega)) ?_
   replace H : Sep w0 w7 (.blk g3 124 (bls (setK 3)) :: F) := H
   refine GL_C (c_contains (setK 3) (setK_len 3) (l.getD k 0) H) ?_
   rintro _ w8 ⟨rfl, H⟩
   rw [setK_bad]
   refine GL_et ?_
   refine G_cond (badB (l.getD k 0)) (by kernel_rfl) (fun h2 => ?_) (fun h2 => ?_)
   · --yes
    have hbad : badB (l.getD k 0) = true := h2
    refine G_sr ?_
    refine GL_st 2 2 [(4, In k)] fun β => ?_
    refine G_ret ?_
    refine inb_ret (thn_ret (thn_ret (inb_ret (thn_ret (thn_ret (res1 (v := In k) rfl (by kernel_rfl) ?_))))))
    replace H := H.drop 0
    replace H : Sep w0 w8 (F) := H
    exact ⟨_, rfl, by rw [any_yes (k := k) (by omega) hbad]; exact decide_eq_true (by omega), H⟩
   · --no
    have hbad : badB (l.getD k 0) = false := h2
    refine G_skip ?_
    refine inb_normal ?_
    refine thn_normal ?_
    refine G_region ?_
    refine GL_sr 3 3 [(0, S l), (6, Pt g3 0), (8, In (k + 1))] (show ([S l, Pt g3 0, .int .i64 (IntKind.i64.wrap ((k : Int) + ((1 : Nat) : Int)))] : List Value) = [S l, Pt g3 0, In (k + 1)] by rw [nadd64 k 1 (by omega)]) fun β => ?_
    refine GL_end (by kernel_rfl) ?_
    refine thn_normal ⟨(k + 1), Agr_of_keys (by kernel_rfl), ⟨H, ?_⟩, ?_⟩
    · exact ⟨by omega, any_step (by omega) hI2 hbad⟩
    · omega
  · --no
   replace h1 : ¬ (k < l.length) := of_decide_eq_false h1
   refine G_exit (thn_exit (thn_exit (inb_hit ?_)))
   refine thn_normal ?_
   refine G_sr ?_
   refine GL_st 1 1 [(4, .int .i64 (-1 : Int))] fun β => ?_
   refine G_ret ?_
   refine thn_ret (res1 (v := .int .i64 (-1 : Int)) rfl (by kernel_rfl) ?_)
   replace H := H.drop 0
   replace H : Sep w0 w7 (F) := H
   first | exact ⟨_, rfl, by have hk : k = l.length := (by omega); rw [hk, List.take_length] at hI2; rw [hI2]; decide, H⟩
 · --no
  replace h0 : ¬ (l.length > 8) := of_decide_eq_false h0
  refine G_skip ?_
  refine thn_normal ?_
  refine G_seq ?_
  refine G_sr ?_
  refine GL_s 1 1 [(1, S ([0, 13, 10] : List UInt8)), (44, S l)] fun β => ?_
  obtain ⟨g9, w10, hr11, H⟩ := R_range (P := Tryd.prog) (t := 9) (l := l) H (by kernel_rfl)
  replace H : Sep w0 w10 (.obj g9 (.stringIter ⟨l.toArray⟩ 0) :: F) := H
  refine GL_V hr11 ?_
  refine GL_et ?_
  refine G_block ?_
  refine G_loop (X := Nat) (fun k => [(1, S ([0, 13, 10] : List UInt8)), (45, Pt g9 0)]) (fun k w_ => Sep w0 w_ (.obj g9 (.stringIter ⟨l.toArray⟩ k) :: F) ∧ (k ≤ l.length ∧ (l.take k).any badB = false)) (fun k => l.length - k) (0) (by kernel_rfl) ⟨H, ⟨by omega, rfl⟩⟩ ?_
  rintro k β w12 ⟨H, hI⟩
  refine G_forget [(1, S ([0, 13, 10] : List UInt8)), (45, Pt g9 0)] (by kernel_rfl) (fun β => ?_)
  replace H : Sep w0 w12 (.obj g9 (.stringIter ⟨l.toArray⟩ k) :: F) := H
  replace hI : k ≤ l.length ∧ (l.take k).any badB = false := hI
  obtain ⟨hI1, hI2⟩ := hI
  refine G_sr ?_
  by_cases hn13 : k < l.length
  · --more
   obtain ⟨w14, hr15, H⟩ := R_next (P := Tryd.prog) (T := 0) (l := l) H (i := 0) rfl hn13
   replace H : Sep w0 w14 (.obj g9 (.stringIter ⟨l.toArray⟩ (k + dcW l k)) :: F) := H
   refine GL_V hr15 ?_
   obtain ⟨hw1, hw2, hrune, hyes, hnot⟩ := rune_step hn13 hI2
   refine GL_st 1 2 [(1, S ([0, 13, 10] : List UInt8)), (45, Pt g9 0), (46, .tuple #[.bool true, In k, .int .i32 ((dcR l k : Nat) : Int)]), (47, .bool true)] fun β => ?_
   refine G_seq ?_
   refine G_true (by kernel_rfl) ?_
   refine G_skip ?_
   refine thn_normal ?_
   refine G_block ?_
   refine G_sr ?_
   refine GL_st 4 4 [(1, S ([0, 13, 10] : List UInt8)), (9, In k), (10, .int .i32 ((dcR l k : Nat) : Int)), (45, Pt g9 0)] fun β => ?_
   refine G_sr ?_
   refine GL_s 2 2 [(1, S ([0, 13, 10] : List UInt8)), (9, In k), (45, Pt g9 0), (50, S ([0, 13, 10] : List UInt8)), (51, .int .i32 ((dcR l k : Nat) : Int))] fun β => ?_
   refine GL_C (c_IndexRune3 (dcR l k) (by exact hrune) H) ?_
   rintro _ w16 ⟨rfl, H⟩
   refine GL_st 1 4 [(1, S ([0, 13, 10] : List UInt8)), (9, In k), (45, Pt g9 0), (53, .bool (decide ((if (dcR l k) < 128 then idxI ([0, 13, 10] : List UInt8) (UInt8.ofNat (dcR l k)) else -1) ≥ ((0 : Nat) : Int))))] fun β => ?_
   refine G_cond (decide ((if (dcR l k) < 128 then idxI ([0, 13, 10] : List UInt8) (UInt8.ofNat (dcR l k)) else -1) ≥ ((0 : Nat) : Int))) (by kernel_rfl) (fun h3 => ?_) (fun h3 => ?_)
   · --yes
    replace h3 : (if (dcR l k) < 128 then idxI ([0, 13, 10] : List UInt8) (UInt8.ofNat (dcR l k)) else -1) ≥ ((0 : Nat) : Int) := of_decide_eq_true h3
    have hbad := hyes (by omega)
    refine G_sr ?_
    refine GL_st 2 2 [(4, In k)] fun β => ?_
    refine G_ret ?_
    refine inb_ret (thn_ret (inb_ret (thn_ret (res1 (v := In k) rfl (by kernel_rfl) ?_))))
    replace H := H.drop 0
    replace H : Sep w0 w16 (F) := H
    exact ⟨_, rfl, by rw [any_yes (k := k) (by omega) hbad]; exact decide_eq_true (by omega), H⟩
   · --no
    replace h3 : ¬ ((if (dcR l k) < 128 then idxI ([0, 13, 10] : List UInt8) (UInt8.ofNat (dcR l k)) else -1) ≥ ((0 : Nat) : Int)) := of_decide_eq_false h3
    have hnext := hnot (by omega)
    refine G_skip ?_
    refine inb_normal ?_
    refine thn_normal ⟨(k + dcW l k), Agr_of_keys (by kernel_rfl), ⟨H, ?_⟩, ?_⟩
    · exact ⟨by omega, hnext⟩
    · omega
  · --over
   refine GL_V (R_next_over (P := Tryd.prog) (T := 0) (l := l) H (i := 0) rfl hn13) ?_
   refine GL_st 1 2 [(1, S ([0, 13, 10] : List UInt8)), (45, Pt g9 0), (46, .tuple #[.bool false]), (47, .bool false)] fun β => ?_
   refine G_seq ?_
   refine G_false (by kernel_rfl) ?_
   refine G_exit (thn_exit (thn_exit (inb_hit ?_)))
   refine thn_normal ?_
   refine G_sr ?_
   refine GL_st 1 1 [(4, .int .i64 (-1 : Int))] fun β => ?_
   refine G_ret ?_
   refine res1 (v := .int .i64 (-1 : Int)) rfl (by kernel_rfl) ?_
   replace H := H.drop 0
   replace H : Sep w0 w12 (F) := H
   first | exact ⟨_, rfl, by have hk : k = l.length := (by omega); rw [hk, List.take_length] at hI2; rw [hI2]; decide, H⟩
end Go.Proofs.YtadiljnfkbbmcaaDoor
