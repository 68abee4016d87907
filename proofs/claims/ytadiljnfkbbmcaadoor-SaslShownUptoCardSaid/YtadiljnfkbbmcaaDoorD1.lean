-- printed by gw.py (my own program), checked by Lean
import Derived.Test.YtadiljnfkbbmcaaDoorB6
import Derived.Test.YtadiljnfkbbmcaaDoorE1
set_option linter.unusedVariables false
set_option linter.unusedSimpArgs false
set_option maxRecDepth 100000
set_option maxHeartbeats 400000
namespace Go.Proofs.YtadiljnfkbbmcaaDoor
open Go.Kw Go.RowKit
/-- posthorn/posthornlaw22.line -/
theorem c_line (l : List UInt8) (hl : l.length ≤ 68719476736) {w0 w : World} {F : List Chunk} (H : Sep w0 w F) : Ret Tryd.prog 16 #[S l] w (fun v w' => v = S (enc l) ∧ Sep w0 w' F) := by
 refine Ret_enter (args := [S l]) Tryd.func16 rfl (by kernel_rfl) ?_
 refine G_forget [(0, S l)] (by kernel_rfl) (fun β => ?_)
 refine G_sr ?_
 refine GL_st 1 1 [(0, S l)] fun β => ?_
 refine G_sr ?_
 refine GL_s 1 1 [(3, S l)] fun β => ?_
 obtain ⟨A1, c2, w3, hr4, H⟩ := R_conv_sb (P := Tryd.prog) (s := 9) (t := 68) (e := 5) (u := .string) (l := l) H (by kernel_rfl) (by kernel_rfl) (by kernel_rfl) (by unfold maxLen; (try simp only [List.length_append, List.length_cons, List.length_nil]); omega)
 replace H : Sep w0 w3 (.row (.slice A1 l.length c2) 5 1 l.length (bs l) :: F) := H
 refine GL_V hr4 ?_
 refine GL_C (c_Base64 (l := l) (hl := by first | omega | (simp; done)) (R := (Rd.of_row H (i := 0) rfl)) (H := H)) ?_
 rintro _ w5 ⟨rfl, H⟩
 refine GL_st 1 4 [(2, S (enc l))] fun β => ?_
 refine G_ret ?_
 refine res1 (v := S (enc l)) rfl (by kernel_rfl) ?_
 replace H := H.drop 0
 replace H : Sep w0 w5 (F) := H
 exact ⟨rfl, H⟩
/-- posthorn/posthornlaw22.digest -/
theorem c_ldigest {w0 w : World} {F : List Chunk} (T : List UInt32) (hT : T.length = 64) (gT : Gl w0 0 (u32s T)) (R : List UInt8) (hR : R.length = 16) (gR : Gl w0 1 (bs R)) (x y : List UInt8) (hx : x.length ≤ 549755813888) (hy : y.length ≤ 549755813888) (H : Sep w0 w F) : Ret Tryd.prog 17 #[S x, S y] w (fun v w' => v = S (dgF T R x y) ∧ Sep w0 w' F) := by
 refine Ret_enter (args := [S x, S y]) Tryd.func17 rfl (by kernel_rfl) ?_
 refine G_forget [(0, S x), (1, S y)] (by kernel_rfl) (fun β => ?_)
 refine G_sr ?_
 refine GL_st 1 1 [(0, S x), (1, S y)] fun β => ?_
 refine G_sr ?_
 refine GL_s 1 1 [(1, S y), (5, S x)] fun β => ?_
 obtain ⟨A1, c2, w3, hr4, H⟩ := R_conv_sb (P := Tryd.prog) (s := 9) (t := 68) (e := 5) (u := .string) (l := x) H (by kernel_rfl) (by kernel_rfl) (by kernel_rfl) (by unfold maxLen; (try simp only [List.length_append, List.length_cons, List.length_nil]); omega)
 replace H : Sep w0 w3 (.row (.slice A1 x.length c2) 5 1 x.length (bs x) :: F) := H
 refine GL_V hr4 ?_
 refine GL_s 1 3 [(6, .slice A1 x.length c2), (7, S y)] fun β => ?_
 obtain ⟨A5, c6, w7, hr8, H⟩ := R_conv_sb (P := Tryd.prog) (s := 9) (t := 68) (e := 5) (u := .string) (l := y) H (by kernel_rfl) (by kernel_rfl) (by kernel_rfl) (by unfold maxLen; (try simp only [List.length_append, List.length_cons, List.length_nil]); omega)
 replace H : Sep w0 w7 (.row (.slice A5 y.length c6) 5 1 y.length (bs y) :: .row (.slice A1 x.length c2) 5 1 x.length (bs x) :: F) := H
 refine GL_V hr8 ?_
 refine GL_C (c_Mac T hT gT R hR gR x y (by omega) (by omega) (Rd.of_row H (i := 1) rfl) (Rd.of_row H (i := 0) rfl) H) ?_
 rintro _ w9 ⟨rfl, H⟩
 refine GL_C (c_Tell (macF T R x y) (by exact macF_len _ _ _ _) H) ?_
 rintro _ w10 ⟨rfl, H⟩
 refine GL_st 1 7 [(4, S (tellF (macF T R x y)))] fun β => ?_
 refine G_ret ?_
 refine res1 (v := S (tellF (macF T R x y))) rfl (by kernel_rfl) ?_
 replace H := H.drop 1
 replace H := H.drop 0
 replace H : Sep w0 w10 (F) := H
 exact ⟨rfl, H⟩

def mayF (a b : List UInt8) : Bool := decide (1 ≤ a.length ∧ a.length ≤ 64 ∧ 1 ≤ b.length ∧ b.length ≤ 256) && !(a ++ b).any badB
theorem mayF_no {a b : List UInt8} (h : ¬ (1 ≤ a.length ∧ a.length ≤ 64 ∧ 1 ≤ b.length ∧ b.length ≤ 256)) : mayF a b = false := by
  rw [mayF, decide_eq_false h, Bool.false_and]
theorem mayF_bad {a b : List UInt8} {k : Nat} (hk : k < (a ++ b).length) (h : badB ((a ++ b).getD k 0) = true) : mayF a b = false := by
  have : (a ++ b).any badB = true := by
    simp only [List.getD_eq_getElem?_getD, List.getElem?_eq_getElem hk, Option.getD_some] at h
    exact List.any_eq_true.2 ⟨(a ++ b)[k], List.getElem_mem hk, h⟩
  rw [mayF, this]; simp
theorem mayF_yes {a b : List UInt8} (h : 1 ≤ a.length ∧ a.length ≤ 64 ∧ 1 ≤ b.length ∧ b.length ≤ 256) (h2 : (a ++ b).any badB = false) : mayF a b = true := by
  rw [mayF, decide_eq_true h, h2]; rfl
theorem bad_step {l : List UInt8} {k : Nat} (hk : k < l.length) (h : (l.take k).any badB = false) (e : ¬ l.getD k 0 = 0 ∧ ¬ l.getD k 0 = 10 ∧ ¬ l.getD k 0 = 13) : (l.take (k + 1)).any badB = false := by
  simp only [List.getD_eq_getElem?_getD, List.getElem?_eq_getElem hk, Option.getD_some] at e
  rw [List.take_add_one, List.getElem?_eq_getElem hk, List.any_append, h]
  simp only [Option.toList_some, List.any_cons, List.any_nil, Bool.or_false, Bool.false_or, badB]
  simp [e]
theorem bad_of {c : UInt8} (h : c = 0 ∨ c = 10 ∨ c = 13) : badB c = true := by rcases h with rfl | rfl | rfl <;> rfl
/-- posthorn/posthornlaw22.may -/
theorem c_lmay (a b : List UInt8) (ha : a.length ≤ 68719476736) (hb : b.length ≤ 68719476736) {w0 w : World} {F : List Chunk} (H : Sep w0 w F) : Ret Tryd.prog 15 #[.agg #[S a, S b]] w (fun v w' => v = .bool (mayF a b) ∧ Sep w0 w' F) := by
 refine Ret_enter (args := [.agg #[S a, S b]]) Tryd.func15 rfl (by kernel_rfl) ?_
 refine G_forget [(0, .agg #[S a, S b])] (by kernel_rfl) (fun β => ?_)
 refine G_sr ?_
 refine GL_new (V := fun g => Pt g 0) (l := [S a, S b]) (t := 40) H rfl (by kernel_rfl) (by kernel_rfl) (by kernel_rfl) (fun g1 w2 H => ?_)
 refine GL_st 1 2 [(1, Pt g1 0)] fun β => ?_
 refine G_seq ?_
 refine G_sr ?_
 refine GL_s 1 1 [(1, Pt g1 0), (5, Pt g1 0)] fun β => ?_
 refine GL_V (run_load1 (t := 9) (by kernel_rfl) ((H.blk_cell (i := 0) rfl 0).trans rfl)) ?_
 refine GL_sr 3 5 [(1, Pt g1 0), (9, .bool (decide (a.length < 1)))] (show ([Pt g1 0, .bool (decide ((a.length : Int) < ((1 : Nat) : Int)))] : List Value) = [Pt g1 0, .bool (decide (a.length < 1))] by rw [nlss a.length 1]) fun β => ?_
 rcases Bool.eq_false_or_eq_true (decide (a.length < 1)) with h0 | h0
 · --yes
  refine GL_re [(1, Pt g1 0), (9, .bool true)] (show ([Pt g1 0, .bool (decide (a.length < 1))] : List Value) = [Pt g1 0, .bool true] by rw [h0]) (fun β => ?_)
  replace h0 : a.length < 1 := of_decide_eq_true h0
  refine GL_st 17 22 [(1, Pt g1 0), (26, .bool true)] fun β => ?_
  refine G_true (by kernel_rfl) ?_
  refine G_sr ?_
  refine GL_st 1 1 [(2, .bool false)] fun β => ?_
  refine G_ret ?_
  refine thn_ret (res1 (v := .bool false) rfl (by kernel_rfl) ?_)
  replace H := H.drop 0
  replace H : Sep w0 w2 (F) := H
  first | exact ⟨by rw [mayF_no (by omega)], H⟩ | exact ⟨by rw [mayF_bad (k := k) (by omega) (bad_of (by first | exact .inl (by assumption) | exact .inr (.inl (by assumption)) | exact .inr (.inr (by assumption))))], H⟩ | exact ⟨by rw [mayF_yes (by omega) (by have hk : k = (a ++ b).length := (by omega); rw [hk, List.take_length] at hI2; exact hI2)], H⟩
 · --no
  refine GL_re [(1, Pt g1 0), (9, .bool false)] (show ([Pt g1 0, .bool (decide (a.length < 1))] : List Value) = [Pt g1 0, .bool false] by rw [h0]) (fun β => ?_)
  replace h0 : ¬ (a.length < 1) := of_decide_eq_false h0
  refine GL_s 1 6 [(1, Pt g1 0), (9, .bool false), (10, Pt g1 0)] fun β => ?_
  refine GL_V (run_load1 (t := 9) (by kernel_rfl) ((H.blk_cell (i := 0) rfl 0).trans rfl)) ?_
  refine GL_sr 4 11 [(1, Pt g1 0), (15, .bool (decide (a.length > 64)))] (show ([Pt g1 0, .bool (decide ((a.length : Int) > ((64 : Nat) : Int)))] : List Value) = [Pt g1 0, .bool (decide (a.length > 64))] by rw [ngtr a.length 64]) fun β => ?_
  rcases Bool.eq_false_or_eq_true (decide (a.length > 64)) with h1 | h1
  · --yes
   refine GL_re [(1, Pt g1 0), (15, .bool true)] (show ([Pt g1 0, .bool (decide (a.length > 64))] : List Value) = [Pt g1 0, .bool true] by rw [h1]) (fun β => ?_)
   replace h1 : a.length > 64 := of_decide_eq_true h1
   refine GL_st 11 22 [(1, Pt g1 0), (26, .bool true)] fun β => ?_
   refine G_true (by kernel_rfl) ?_
   refine G_sr ?_
   refine GL_st 1 1 [(2, .bool false)] fun β => ?_
   refine G_ret ?_
   refine thn_ret (res1 (v := .bool false) rfl (by kernel_rfl) ?_)
   replace H := H.drop 0
   replace H : Sep w0 w2 (F) := H
   first | exact ⟨by rw [mayF_no (by omega)], H⟩ | exact ⟨by rw [mayF_bad (k := k) (by omega) (bad_of (by first | exact .inl (by assumption) | exact .inr (.inl (by assumption)) | exact .inr (.inr (by assumption))))], H⟩ | exact ⟨by rw [mayF_yes (by omega) (by have hk : k = (a ++ b).length := (by omega); rw [hk, List.take_length] at hI2; exact hI2)], H⟩
  · --no
   refine GL_re [(1, Pt g1 0), (15, .bool false)] (show ([Pt g1 0, .bool (decide (a.length > 64))] : List Value) = [Pt g1 0, .bool false] by rw [h1]) (fun β => ?_)
   replace h1 : ¬ (a.length > 64) := of_decide_eq_false h1
   refine GL_s 1 12 [(1, Pt g1 0), (15, .bool false), (16, Pt g1 1)] fun β => ?_
   refine GL_V (run_load1 (t := 9) (by kernel_rfl) ((H.blk_cell (i := 0) rfl 1).trans rfl)) ?_
   refine GL_sr 4 17 [(1, Pt g1 0), (21, .bool (decide (b.length < 1)))] (show ([Pt g1 0, .bool (decide ((b.length : Int) < ((1 : Nat) : Int)))] : List Value) = [Pt g1 0, .bool (decide (b.length < 1))] by rw [nlss b.length 1]) fun β => ?_
   rcases Bool.eq_false_or_eq_true (decide (b.length < 1)) with h2 | h2
   · --yes
    refine GL_re [(1, Pt g1 0), (21, .bool true)] (show ([Pt g1 0, .bool (decide (b.length < 1))] : List Value) = [Pt g1 0, .bool true] by rw [h2]) (fun β => ?_)
    replace h2 : b.length < 1 := of_decide_eq_true h2
    refine GL_st 5 22 [(1, Pt g1 0), (26, .bool true)] fun β => ?_
    refine G_true (by kernel_rfl) ?_
    refine G_sr ?_
    refine GL_st 1 1 [(2, .bool false)] fun β => ?_
    refine G_ret ?_
    refine thn_ret (res1 (v := .bool false) rfl (by kernel_rfl) ?_)
    replace H := H.drop 0
    replace H : Sep w0 w2 (F) := H
    first | exact ⟨by rw [mayF_no (by omega)], H⟩ | exact ⟨by rw [mayF_bad (k := k) (by omega) (bad_of (by first | exact .inl (by assumption) | exact .inr (.inl (by assumption)) | exact .inr (.inr (by assumption))))], H⟩ | exact ⟨by rw [mayF_yes (by omega) (by have hk : k = (a ++ b).length := (by omega); rw [hk, List.take_length] at hI2; exact hI2)], H⟩
   · --no
    refine GL_re [(1, Pt g1 0), (21, .bool false)] (show ([Pt g1 0, .bool (decide (b.length < 1))] : List Value) = [Pt g1 0, .bool false] by rw [h2]) (fun β => ?_)
    replace h2 : ¬ (b.length < 1) := of_decide_eq_false h2
    refine GL_s 1 18 [(1, Pt g1 0), (21, .bool false), (22, Pt g1 1)] fun β => ?_
    refine GL_V (run_load1 (t := 9) (by kernel_rfl) ((H.blk_cell (i := 0) rfl 1).trans rfl)) ?_
    refine GL_srt 3 22 [(1, Pt g1 0), (26, .bool (decide (b.length > 256)))] (show ([Pt g1 0, .bool (decide ((b.length : Int) > ((256 : Nat) : Int)))] : List Value) = [Pt g1 0, .bool (decide (b.length > 256))] by rw [ngtr b.length 256]) fun β => ?_
    refine G_cond (decide (b.length > 256)) (by kernel_rfl) (fun h3 => ?_) (fun h3 => ?_)
    · --yes
     replace h3 : b.length > 256 := of_decide_eq_true h3
     refine G_sr ?_
     refine GL_st 1 1 [(2, .bool false)] fun β => ?_
     refine G_ret ?_
     refine thn_ret (res1 (v := .bool false) rfl (by kernel_rfl) ?_)
     replace H := H.drop 0
     replace H : Sep w0 w2 (F) := H
     first | exact ⟨by rw [mayF_no (by omega)], H⟩ | exact ⟨by rw [mayF_bad (k := k) (by omega) (bad_of (by first | exact .inl (by assumption) | exact .inr (.inl (by assumption)) | exact .inr (.inr (by assumption))))], H⟩ | exact ⟨by rw [mayF_yes (by omega) (by have hk : k = (a ++ b).length := (by omega); rw [hk, List.take_length] at hI2; exact hI2)], H⟩
    · --no
     replace h3 : ¬ (b.length > 256) := of_decide_eq_false h3
     refine G_skip ?_
     refine thn_normal ?_
     refine G_sr ?_
     refine GL_s 1 1 [(1, Pt g1 0), (27, Pt g1 0)] fun β => ?_
     refine GL_V (run_load1 (t := 9) (by kernel_rfl) ((H.blk_cell (i := 0) rfl 0).trans rfl)) ?_
     refine GL_s 1 3 [(28, S a), (29, Pt g1 1)] fun β => ?_
     refine GL_V (run_load1 (t := 9) (by kernel_rfl) ((H.blk_cell (i := 0) rfl 1).trans rfl)) ?_
     refine GL_V (R_cat (t := 9) (l := a) (m := b) (by (try simp only [List.length_append, List.length_cons, List.length_nil]); omega)) ?_
     refine GL_st 1 6 [(3, S (a ++ b))] fun β => ?_
     refine G_seq ?_
     refine G_sr ?_
     refine GL_st 1 1 [(3, S (a ++ b)), (4, In 0)] fun β => ?_
     refine G_block ?_
     refine G_loop (X := Nat) (fun k => [(3, S (a ++ b)), (4, In k)]) (fun k w_ => Sep w0 w_ (.blk g1 40 [S a, S b] :: F) ∧ (k ≤ (a ++ b).length ∧ ((a ++ b).take k).any badB = false)) (fun k => (a ++ b).length - k) (0) (by kernel_rfl) ⟨H, ⟨by omega, rfl⟩⟩ ?_
     rintro k β w3 ⟨H, hI⟩
     refine G_forget [(3, S (a ++ b)), (4, In k)] (by kernel_rfl) (fun β => ?_)
     replace H : Sep w0 w3 (.blk g1 40 [S a, S b] :: F) := H
     replace hI : k ≤ (a ++ b).length ∧ ((a ++ b).take k).any badB = false := hI
     obtain ⟨hI1, hI2⟩ := hI
     have hab : (a ++ b).length = a.length + b.length := List.length_append
     refine G_seq ?_
     refine G_sr ?_
     refine GL_srt 4 4 [(3, S (a ++ b)), (4, In k), (35, .bool (decide (k < (a ++ b).length)))] (show ([S (a ++ b), .int .i64 (k : Int), .bool (decide ((k : Int) < (((a ++ b).length : Nat) : Int)))] : List Value) = [S (a ++ b), In k, .bool (decide (k < (a ++ b).length))] by rw [nlss k ((a ++ b).length)]) fun β => ?_
     refine G_cond (decide (k < (a ++ b).length)) (by kernel_rfl) (fun h4 => ?_) (fun h4 => ?_)
     · --yes
      replace h4 : k < (a ++ b).length := of_decide_eq_true h4
      refine G_skip ?_
      refine thn_normal ?_
      refine G_seq ?_
      refine G_block ?_
      refine G_sr ?_
      refine GL_s 2 2 [(3, S (a ++ b)), (4, In k), (38, S (a ++ b)), (39, In k)] fun β => ?_
      refine GL_V (R_index (P := Tryd.prog) (w := _) (t := 9) (ki := .i64) (i := k) (l := (a ++ b)) (by kernel_rfl) (by omega)) ?_
      refine GL_sr 2 5 [(3, S (a ++ b)), (4, In k), (42, .bool (((a ++ b).getD k 0) == (0 : UInt8)))] (show ([S (a ++ b), .int .i64 (k : Int), .bool ((((a ++ b).getD k 0).toNat : Int) == ((0 : UInt8).toNat : Int))] : List Value) = [S (a ++ b), In k, .bool (((a ++ b).getD k 0) == (0 : UInt8))] by rw [Kw.u8_eql ((a ++ b).getD k 0) (0 : UInt8)]) fun β => ?_
      rcases Bool.eq_false_or_eq_true (((a ++ b).getD k 0) == (0 : UInt8)) with h5 | h5
      · --yes
       refine GL_re [(3, S (a ++ b)), (4, In k), (42, .bool true)] (show ([S (a ++ b), In k, .bool (((a ++ b).getD k 0) == (0 : UInt8))] : List Value) = [S (a ++ b), In k, .bool true] by rw [h5]) (fun β => ?_)
       replace h5 : ((a ++ b).getD k 0) = (0 : UInt8) := eql_T h5
       refine GL_st 11 16 [(3, S (a ++ b)), (4, In k), (53, .bool true)] fun β => ?_
       refine G_true (by kernel_rfl) ?_
       refine G_sr ?_
       refine GL_st 1 1 [(2, .bool false)] fun β => ?_
       refine G_ret ?_
       refine inb_ret (thn_ret (thn_ret (inb_ret (thn_ret (res1 (v := .bool false) rfl (by kernel_rfl) ?_)))))
       replace H := H.drop 0
       replace H : Sep w0 w3 (F) := H
       first | exact ⟨by rw [mayF_no (by omega)], H⟩ | exact ⟨by rw [mayF_bad (k := k) (by omega) (bad_of (by first | exact .inl (by assumption) | exact .inr (.inl (by assumption)) | exact .inr (.inr (by assumption))))], H⟩ | exact ⟨by rw [mayF_yes (by omega) (by have hk : k = (a ++ b).length := (by omega); rw [hk, List.take_length] at hI2; exact hI2)], H⟩
      · --no
       refine GL_re [(3, S (a ++ b)), (4, In k), (42, .bool false)] (show ([S (a ++ b), In k, .bool (((a ++ b).getD k 0) == (0 : UInt8))] : List Value) = [S (a ++ b), In k, .bool false] by rw [h5]) (fun β => ?_)
       replace h5 : ¬ (((a ++ b).getD k 0) = (0 : UInt8)) := eql_F h5
       refine GL_s 2 7 [(3, S (a ++ b)), (4, In k), (42, .bool false), (43, S (a ++ b)), (44, In k)] fun β => ?_
       refine GL_V (R_index (P := Tryd.prog) (w := _) (t := 9) (ki := .i64) (i := k) (l := (a ++ b)) (by kernel_rfl) (by omega)) ?_
       refine GL_sr 3 11 [(3, S (a ++ b)), (4, In k), (48, .bool (((a ++ b).getD k 0) == (10 : UInt8)))] (show ([S (a ++ b), .int .i64 (k : Int), .bool ((((a ++ b).getD k 0).toNat : Int) == ((10 : UInt8).toNat : Int))] : List Value) = [S (a ++ b), In k, .bool (((a ++ b).getD k 0) == (10 : UInt8))] by rw [Kw.u8_eql ((a ++ b).getD k 0) (10 : UInt8)]) fun β => ?_
       rcases Bool.eq_false_or_eq_true (((a ++ b).getD k 0) == (10 : UInt8)) with h6 | h6
       · --yes
        refine GL_re [(3, S (a ++ b)), (4, In k), (48, .bool true)] (show ([S (a ++ b), In k, .bool (((a ++ b).getD k 0) == (10 : UInt8))] : List Value) = [S (a ++ b), In k, .bool true] by rw [h6]) (fun β => ?_)
        replace h6 : ((a ++ b).getD k 0) = (10 : UInt8) := eql_T h6
        refine GL_st 5 16 [(3, S (a ++ b)), (4, In k), (53, .bool true)] fun β => ?_
        refine G_true (by kernel_rfl) ?_
        refine G_sr ?_
        refine GL_st 1 1 [(2, .bool false)] fun β => ?_
        refine G_ret ?_
        refine inb_ret (thn_ret (thn_ret (inb_ret (thn_ret (res1 (v := .bool false) rfl (by kernel_rfl) ?_)))))
        replace H := H.drop 0
        replace H : Sep w0 w3 (F) := H
        first | exact ⟨by rw [mayF_no (by omega)], H⟩ | exact ⟨by rw [mayF_bad (k := k) (by omega) (bad_of (by first | exact .inl (by assumption) | exact .inr (.inl (by assumption)) | exact .inr (.inr (by assumption))))], H⟩ | exact ⟨by rw [mayF_yes (by omega) (by have hk : k = (a ++ b).length := (by omega); rw [hk, List.take_length] at hI2; exact hI2)], H⟩
       · --no
        refine GL_re [(3, S (a ++ b)), (4, In k), (48, .bool false)] (show ([S (a ++ b), In k, .bool (((a ++ b).getD k 0) == (10 : UInt8))] : List Value) = [S (a ++ b), In k, .bool false] by rw [h6]) (fun β => ?_)
        replace h6 : ¬ (((a ++ b).getD k 0) = (10 : UInt8)) := eql_F h6
        refine GL_s 2 13 [(3, S (a ++ b)), (4, In k), (48, .bool false), (49, S (a ++ b)), (50, In k)] fun β => ?_
        refine GL_V (R_index (P := Tryd.prog) (w := _) (t := 9) (ki := .i64) (i := k) (l := (a ++ b)) (by kernel_rfl) (by omega)) ?_
        refine GL_srt 2 16 [(3, S (a ++ b)), (4, In k), (53, .bool (((a ++ b).getD k 0) == (13 : UInt8)))] (show ([S (a ++ b), .int .i64 (k : Int), .bool ((((a ++ b).getD k 0).toNat : Int) == ((13 : UInt8).toNat : Int))] : List Value) = [S (a ++ b), In k, .bool (((a ++ b).getD k 0) == (13 : UInt8))] by rw [Kw.u8_eql ((a ++ b).getD k 0) (13 : UInt8)]) fun β => ?_
        refine G_cond (((a ++ b).getD k 0) == (13 : UInt8)) (by kernel_rfl) (fun h7 => ?_) (fun h7 => ?_)
        · --yes
         replace h7 : ((a ++ b).getD k 0) = (13 : UInt8) := eql_T h7
         refine G_sr ?_
         refine GL_st 1 1 [(2, .bool false)] fun β => ?_
         refine G_ret ?_
         refine inb_ret (thn_ret (thn_ret (inb_ret (thn_ret (res1 (v := .bool false) rfl (by kernel_rfl) ?_)))))
         replace H := H.drop 0
         replace H : Sep w0 w3 (F) := H
         first | exact ⟨by rw [mayF_no (by omega)], H⟩ | exact ⟨by rw [mayF_bad (k := k) (by omega) (bad_of (by first | exact .inl (by assumption) | exact .inr (.inl (by assumption)) | exact .inr (.inr (by assumption))))], H⟩ | exact ⟨by rw [mayF_yes (by omega) (by have hk : k = (a ++ b).length := (by omega); rw [hk, List.take_length] at hI2; exact hI2)], H⟩
        · --no
         replace h7 : ¬ (((a ++ b).getD k 0) = (13 : UInt8)) := eql_F h7
         refine G_skip ?_
         refine inb_normal ?_
         refine thn_normal ?_
         refine G_region ?_
         refine GL_sr 3 3 [(3, S (a ++ b)), (4, In (k + 1))] (show ([S (a ++ b), .int .i64 (IntKind.i64.wrap ((k : Int) + ((1 : Nat) : Int)))] : List Value) = [S (a ++ b), In (k + 1)] by rw [nadd64 k 1 (by omega)]) fun β => ?_
         refine GL_end (by kernel_rfl) ?_
         refine thn_normal ⟨(k + 1), Agr_of_keys (by kernel_rfl), ⟨H, ?_⟩, ?_⟩
         · exact ⟨by omega, bad_step (by omega) hI2 ⟨by assumption, by assumption, by assumption⟩⟩
         · first | (dsimp only; omega) | omega
     · --no
      replace h4 : ¬ (k < (a ++ b).length) := of_decide_eq_false h4
      refine G_exit (thn_exit (thn_exit (inb_hit ?_)))
      refine thn_normal ?_
      refine G_sr ?_
      refine GL_st 1 1 [(2, .bool true)] fun β => ?_
      refine G_ret ?_
      refine res1 (v := .bool true) rfl (by kernel_rfl) ?_
      replace H := H.drop 0
      replace H : Sep w0 w3 (F) := H
      first | exact ⟨by rw [mayF_no (by omega)], H⟩ | exact ⟨by rw [mayF_bad (k := k) (by omega) (bad_of (by first | exact .inl (by assumption) | exact .inr (.inl (by assumption)) | exact .inr (.inr (by assumption))))], H⟩ | exact ⟨by rw [mayF_yes (by omega) (by have hk : k = (a ++ b).length := (by omega); rw [hk, List.take_length] at hI2; exact hI2)], H⟩
end Go.Proofs.YtadiljnfkbbmcaaDoor
