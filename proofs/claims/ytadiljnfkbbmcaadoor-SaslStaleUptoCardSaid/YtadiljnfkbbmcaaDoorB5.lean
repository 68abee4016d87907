-- printed by gw.py (my own program), checked by Lean
import Derived.Test.YtadiljnfkbbmcaaDoorB3
set_option linter.unusedVariables false
set_option linter.unusedSimpArgs false
set_option maxRecDepth 100000
set_option maxHeartbeats 400000
namespace Go.Proofs.YtadiljnfkbbmcaaDoor
open Go.Kw Go.RowKit

def Stp.fits : Stp → Prop
  | .plain => True
  | .login => True
  | .word x => x.length ≤ 68719476736
  | .cram x => x.length ≤ 68719476736
theorem c_read {w0 w : World} {F : List Chunk} (T : List UInt32) (hT : T.length = 64) (gT : Gl w0 0 (u32s T)) (R : List UInt8) (hR : R.length = 16) (gR : Gl w0 1 (bs R)) (n : Nat) (s : Stp) (hs : s.fits) (nm y : List UInt8) (hy : y.length ≤ 68719476736) (l : List Str2) (hl : l.length ≤ 1099511627776) (hU : ∀ u ∈ l, u.1.length ≤ 549755813888 ∧ u.2.length ≤ 549755813888) {g c : Nat} {A : Option Addr} (H : Sep w0 w (.blk g 58 [.slice A l.length c, .int .i64 (n : Int), s.v, .string ⟨nm.toArray⟩] :: .row (.slice A l.length c) 40 2 l.length (us l) :: F)) : Ret Tryd.prog 21 #[.pointer (some ⟨g, 0, none⟩), S y] w (fun v w' => v = .int .i64 ((readF T R l n s nm y).1 : Int) ∧ Sep w0 w' (.blk g 58 [.slice A l.length c, .int .i64 (((readF T R l n s nm y).2.1 : Nat) : Int), (readF T R l n s nm y).2.2.1.v, .string ⟨((readF T R l n s nm y).2.2.2).toArray⟩] :: .row (.slice A l.length c) 40 2 l.length (us l) :: F)) :=
  match s, hs, H with
  | .plain, _, H => c_read_plain T hT gT R hR gR n nm y hy l hl hU H
  | .login, _, H => c_read_login T hT gT R hR gR n nm y hy l hl hU H
  | .word x, hx, H => c_read_word T hT gT R hR gR n x hx nm y hy l hl hU H
  | .cram x, hx, H => c_read_cram T hT gT R hR gR n x hx nm y hy l hl hU H
theorem c_Ask (n : Nat) (v1 v4 : Value) (s : Stp) (hs : s.fits) {g : Nat} {w0 w : World} {F : List Chunk} (H : Sep w0 w (.blk g 58 [v1, .int .i64 (n : Int), s.v, v4] :: F)) : Ret Tryd.prog 12 #[.pointer (some ⟨g, 0, none⟩)] w (fun v w' => v = S (if n = 1 then enc s.ask else []) ∧ Sep w0 w' (.blk g 58 [v1, .int .i64 (n : Int), s.v, v4] :: F)) :=
  match s, hs, H with
  | .plain, _, H => c_Ask_plain n v1 v4 H
  | .login, _, H => c_Ask_login n v1 v4 H
  | .word x, hx, H => c_Ask_word n v1 v4 x hx H
  | .cram x, hx, H => c_Ask_cram n v1 v4 x hx H
def ansF (T : List UInt32) (R : List UInt8) (l : List Str2) (n : Nat) (s : Stp) (nm y : List UInt8) : Nat × Nat × Stp × List UInt8 :=
  if n = 0 then (1, n, s, nm) else if ¬ n = 1 then (6, n, s, nm) else if y = [42] then (0, 4, s, nm)
  else if (readF T R l n s nm y).1 = 0 then readF T R l n s nm y else ((readF T R l n s nm y).1, 3, (readF T R l n s nm y).2.2.1, (readF T R l n s nm y).2.2.2)
/-- (*posthorn/sasl.Exchange).Answer -/
theorem c_Answer {w0 w : World} {F : List Chunk} (T : List UInt32) (hT : T.length = 64) (gT : Gl w0 0 (u32s T)) (R : List UInt8) (hR : R.length = 16) (gR : Gl w0 1 (bs R)) (n : Nat) (s : Stp) (hs : s.fits) (nm y : List UInt8) (hy : y.length ≤ 68719476736) (l : List Str2) (hl : l.length ≤ 1099511627776) (hU : ∀ u ∈ l, u.1.length ≤ 549755813888 ∧ u.2.length ≤ 549755813888) {g c : Nat} {A : Option Addr} (H : Sep w0 w (.blk g 58 [.slice A l.length c, .int .i64 (n : Int), s.v, .string ⟨nm.toArray⟩] :: .row (.slice A l.length c) 40 2 l.length (us l) :: F)) : Ret Tryd.prog 13 #[.pointer (some ⟨g, 0, none⟩), S y] w (fun v w' => v = .int .i64 ((ansF T R l n s nm y).1 : Int) ∧ Sep w0 w' (.blk g 58 [.slice A l.length c, .int .i64 (((ansF T R l n s nm y).2.1 : Nat) : Int), (ansF T R l n s nm y).2.2.1.v, .string ⟨((ansF T R l n s nm y).2.2.2).toArray⟩] :: .row (.slice A l.length c) 40 2 l.length (us l) :: F)) := by
  refine Ret_enter (args := [.pointer (some ⟨g, 0, none⟩), .string ⟨y.toArray⟩]) Tryd.func13 rfl (by kernel_rfl) ?_
  refine G_forget [(0, .pointer (some ⟨g, 0, none⟩)), (1, .string ⟨y.toArray⟩)] (by kernel_rfl) (fun β => ?_)
  refine G_seq ?_
  refine G_region ?_
  refine GL_seg0 1 1 [(0, .pointer (some ⟨g, 0, none⟩)), (1, .string ⟨y.toArray⟩)] rfl (by kernel_rfl) (fun β => ?_)
  refine GL_end (by kernel_rfl) ?_
  refine thn_normal ?_
  refine G_seq ?_
  refine G_seq ?_
  refine G_region ?_
  refine GL_seg0 1 1 [(0, .pointer (some ⟨g, 0, none⟩)), (1, .string ⟨y.toArray⟩), (6, .pointer (some ⟨g, 0, none⟩))] rfl (by kernel_rfl) (fun β => ?_)
  replace H : Sep w0 w (.blk g 58 [.slice A l.length c, .int .i64 (n : Int), s.v, .string ⟨nm.toArray⟩] :: .row (.slice A l.length c) 40 2 l.length (us l) :: F) := H
  refine GL_call (f := 9) (args := #[.pointer (some ⟨g, 0, none⟩)]) rfl (by kernel_rfl) (by kernel_rfl) (by kernel_rfl) (c_State n (.slice A l.length c) s.v (.string ⟨nm.toArray⟩) H) ?_
  rintro _ w1 ⟨rfl, H⟩
  refine GL_end (by kernel_rfl) ?_
  refine thn_normal ?_
  refine G_block ?_
  refine G_seq ?_
  refine G_region ?_
  refine GL_segr 2 2 [(0, .pointer (some ⟨g, 0, none⟩)), (1, .string ⟨y.toArray⟩), (7, .int .i64 (n : Int)), (8, .bool (n == 0))] rfl (by kernel_rfl) (show ([.pointer (some ⟨g, 0, none⟩), .string ⟨y.toArray⟩, .int .i64 (n : Int), .bool ((n : Int) == ((0 : Nat) : Int))] : List Value) = [.pointer (some ⟨g, 0, none⟩), .string ⟨y.toArray⟩, .int .i64 (n : Int), .bool (n == 0)] by rw [neql n 0]) rfl (fun β => ?_)
  refine GL_end (by kernel_rfl) ?_
  refine thn_normal ?_
  refine G_cond (n == 0) (by kernel_rfl) (fun h0 => ?_) (fun h0 => ?_)
  · --yes
    replace h0 : n = 0 := eql_T h0
    refine G_seq ?_
    refine G_region ?_
    refine GL_seg0 1 1 [(4, .int .i64 ((1 : Nat) : Int))] rfl (by kernel_rfl) (fun β => ?_)
    refine GL_end (by kernel_rfl) ?_
    refine thn_normal ?_
    refine G_ret ?_
    refine inb_ret (thn_ret (res1 (v := .int .i64 ((1 : Nat) : Int)) rfl (by kernel_rfl) ?_))
    replace H := H.front (i := 1) rfl
    replace H := H.front (i := 1) rfl
    replace H : Sep w0 w1 (.blk g 58 [.slice A l.length c, .int .i64 (n : Int), s.v, .string ⟨nm.toArray⟩] :: .row (.slice A l.length c) 40 2 l.length (us l) :: F) := H
    have e : (ansF T R l n s nm y) = (1, n, s, nm) := by first | (simp [ansF, *]; done) | rw [ansF, if_neg h0, if_neg (not_not_intro h1), if_neg h2, if_neg h3] | rw [ansF, if_neg h0, if_neg (not_not_intro h1), if_neg h2, if_pos h3]
    rw [e]
    exact ⟨rfl, H⟩
  · --no
    replace h0 : ¬ (n = 0) := eql_F h0
    refine G_seq ?_
    refine G_region ?_
    refine GL_segr 2 2 [(0, .pointer (some ⟨g, 0, none⟩)), (1, .string ⟨y.toArray⟩), (10, .bool (n == 1))] rfl (by kernel_rfl) (show ([.pointer (some ⟨g, 0, none⟩), .string ⟨y.toArray⟩, .bool ((n : Int) == ((1 : Nat) : Int))] : List Value) = [.pointer (some ⟨g, 0, none⟩), .string ⟨y.toArray⟩, .bool (n == 1)] by rw [neql n 1]) rfl (fun β => ?_)
    refine GL_end (by kernel_rfl) ?_
    refine thn_normal ?_
    refine G_cond (n == 1) (by kernel_rfl) (fun h1 => ?_) (fun h1 => ?_)
    · --yes
      replace h1 : n = 1 := eql_T h1
      refine G_skip ?_
      refine inb_normal ?_
      refine thn_normal ?_
      refine G_seq ?_
      refine G_seq ?_
      refine G_region ?_
      refine GL_seg0 1 1 [(0, .pointer (some ⟨g, 0, none⟩)), (1, .string ⟨y.toArray⟩), (12, .string ⟨y.toArray⟩)] rfl (by kernel_rfl) (fun β => ?_)
      refine GL_v (R_streq (t := 9) (l := y) (m := [42])) rfl (by kernel_rfl) (by kernel_rfl) (by kernel_rfl) ?_
      refine GL_end (by kernel_rfl) ?_
      refine thn_normal ?_
      refine G_cond (y == [42]) (by kernel_rfl) (fun h2 => ?_) (fun h2 => ?_)
      · --yes
        replace h2 : y = [42] := eql_T h2
        refine G_seq ?_
        refine G_region ?_
        refine GL_seg0 3 3 [(16, .pointer (some ⟨g, 1, none⟩))] rfl (by kernel_rfl) (fun β => ?_)
        obtain ⟨w2, hr3, H⟩ := R_store (P := Tryd.prog) (t := 3) (v := .int .i64 ((4 : Nat) : Int)) (off := 1) H (i := 0) rfl (by kernel_rfl) (by kernel_rfl) (by kernel_rfl)
        replace H : Sep w0 w2 (.blk g 58 [.slice A l.length c, .int .i64 ((4 : Nat) : Int), s.v, .string ⟨nm.toArray⟩] :: .row (.slice A l.length c) 40 2 l.length (us l) :: F) := H
        refine GL_u hr3 rfl (by kernel_rfl) (by kernel_rfl) (by kernel_rfl) ?_
        refine GL_end (by kernel_rfl) ?_
        refine thn_normal ?_
        refine G_seq ?_
        refine G_region ?_
        refine GL_seg0 1 1 [(4, .int .i64 ((0 : Nat) : Int))] rfl (by kernel_rfl) (fun β => ?_)
        refine GL_end (by kernel_rfl) ?_
        refine thn_normal ?_
        refine G_ret ?_
        refine thn_ret (res1 (v := .int .i64 ((0 : Nat) : Int)) rfl (by kernel_rfl) ?_)
        replace H := H.front (i := 1) rfl
        replace H := H.front (i := 1) rfl
        replace H : Sep w0 w2 (.blk g 58 [.slice A l.length c, .int .i64 ((4 : Nat) : Int), s.v, .string ⟨nm.toArray⟩] :: .row (.slice A l.length c) 40 2 l.length (us l) :: F) := H
        have e : (ansF T R l n s nm y) = (0, 4, s, nm) := by first | (simp [ansF, *]; done) | rw [ansF, if_neg h0, if_neg (not_not_intro h1), if_neg h2, if_neg h3] | rw [ansF, if_neg h0, if_neg (not_not_intro h1), if_neg h2, if_pos h3]
        rw [e]
        exact ⟨rfl, H⟩
      · --no
        replace h2 : ¬ (y = [42]) := eql_F h2
        refine G_skip ?_
        refine thn_normal ?_
        refine G_seq ?_
        refine G_region ?_
        refine GL_seg0 2 2 [(0, .pointer (some ⟨g, 0, none⟩)), (17, .pointer (some ⟨g, 0, none⟩)), (18, .string ⟨y.toArray⟩)] rfl (by kernel_rfl) (fun β => ?_)
        replace H := H.front (i := 1) rfl
        replace H := H.front (i := 1) rfl
        replace H : Sep w0 w1 (.blk g 58 [.slice A l.length c, .int .i64 (n : Int), s.v, .string ⟨nm.toArray⟩] :: .row (.slice A l.length c) 40 2 l.length (us l) :: F) := H
        refine GL_call (f := 21) (args := #[.pointer (some ⟨g, 0, none⟩), .string ⟨y.toArray⟩]) rfl (by kernel_rfl) (by kernel_rfl) (by kernel_rfl) (c_read T hT gT R hR gR n s (by assumption) nm y (by first | omega | (simp only [List.length_nil]; omega)) l (by omega) hU H) ?_
        rintro _ w4 ⟨rfl, H⟩
        refine GL_seg0 1 4 [(0, .pointer (some ⟨g, 0, none⟩)), (5, .int .i64 (((readF T R l n s nm y).1 : Nat) : Int))] rfl (by kernel_rfl) (fun β => ?_)
        refine GL_end (by kernel_rfl) ?_
        refine thn_normal ?_
        refine G_seq ?_
        refine G_seq ?_
        refine G_region ?_
        refine GL_segr 2 2 [(0, .pointer (some ⟨g, 0, none⟩)), (5, .int .i64 (((readF T R l n s nm y).1 : Nat) : Int)), (21, .bool (((readF T R l n s nm y).1) != 0))] rfl (by kernel_rfl) (show ([.pointer (some ⟨g, 0, none⟩), .int .i64 (((readF T R l n s nm y).1 : Nat) : Int), .bool ((((readF T R l n s nm y).1 : Nat) : Int) != ((0 : Nat) : Int))] : List Value) = [.pointer (some ⟨g, 0, none⟩), .int .i64 (((readF T R l n s nm y).1 : Nat) : Int), .bool (((readF T R l n s nm y).1) != 0)] by rw [nneq ((readF T R l n s nm y).1) 0]) rfl (fun β => ?_)
        refine GL_end (by kernel_rfl) ?_
        refine thn_normal ?_
        refine G_cond (((readF T R l n s nm y).1) != 0) (by kernel_rfl) (fun h3 => ?_) (fun h3 => ?_)
        · --yes
          replace h3 : ¬ ((readF T R l n s nm y).1 = 0) := neq_T h3
          refine G_region ?_
          refine GL_seg0 3 3 [(5, .int .i64 (((readF T R l n s nm y).1 : Nat) : Int)), (24, .pointer (some ⟨g, 1, none⟩))] rfl (by kernel_rfl) (fun β => ?_)
          obtain ⟨w5, hr6, H⟩ := R_store (P := Tryd.prog) (t := 3) (v := .int .i64 ((3 : Nat) : Int)) (off := 1) H (i := 0) rfl (by kernel_rfl) (by kernel_rfl) (by kernel_rfl)
          replace H : Sep w0 w5 (.blk g 58 [.slice A l.length c, .int .i64 ((3 : Nat) : Int), (readF T R l n s nm y).2.2.1.v, .string ⟨((readF T R l n s nm y).2.2.2).toArray⟩] :: .row (.slice A l.length c) 40 2 l.length (us l) :: F) := H
          refine GL_u hr6 rfl (by kernel_rfl) (by kernel_rfl) (by kernel_rfl) ?_
          refine GL_end (by kernel_rfl) ?_
          refine thn_normal ?_
          refine G_seq ?_
          refine G_region ?_
          refine GL_seg0 2 2 [(4, .int .i64 (((readF T R l n s nm y).1 : Nat) : Int))] rfl (by kernel_rfl) (fun β => ?_)
          refine GL_end (by kernel_rfl) ?_
          refine thn_normal ?_
          refine G_ret ?_
          refine res1 (v := .int .i64 (((readF T R l n s nm y).1 : Nat) : Int)) rfl (by kernel_rfl) ?_
          replace H := H.front (i := 1) rfl
          replace H := H.front (i := 1) rfl
          replace H : Sep w0 w5 (.blk g 58 [.slice A l.length c, .int .i64 ((3 : Nat) : Int), (readF T R l n s nm y).2.2.1.v, .string ⟨((readF T R l n s nm y).2.2.2).toArray⟩] :: .row (.slice A l.length c) 40 2 l.length (us l) :: F) := H
          have e : (ansF T R l n s nm y) = ((readF T R l n s nm y).1, 3, (readF T R l n s nm y).2.2.1, (readF T R l n s nm y).2.2.2) := by first | (simp [ansF, *]; done) | rw [ansF, if_neg h0, if_neg (not_not_intro h1), if_neg h2, if_neg h3] | rw [ansF, if_neg h0, if_neg (not_not_intro h1), if_neg h2, if_pos h3]
          rw [e]
          exact ⟨rfl, H⟩
        · --no
          replace h3 : (readF T R l n s nm y).1 = 0 := neq_F h3
          refine G_skip ?_
          refine thn_normal ?_
          refine G_seq ?_
          refine G_region ?_
          refine GL_seg0 2 2 [(4, .int .i64 (((readF T R l n s nm y).1 : Nat) : Int))] rfl (by kernel_rfl) (fun β => ?_)
          refine GL_end (by kernel_rfl) ?_
          refine thn_normal ?_
          refine G_ret ?_
          refine res1 (v := .int .i64 (((readF T R l n s nm y).1 : Nat) : Int)) rfl (by kernel_rfl) ?_
          replace H := H.front (i := 1) rfl
          replace H := H.front (i := 1) rfl
          replace H : Sep w0 w4 (.blk g 58 [.slice A l.length c, .int .i64 (((readF T R l n s nm y).2.1 : Nat) : Int), (readF T R l n s nm y).2.2.1.v, .string ⟨((readF T R l n s nm y).2.2.2).toArray⟩] :: .row (.slice A l.length c) 40 2 l.length (us l) :: F) := H
          have e : (ansF T R l n s nm y) = ((readF T R l n s nm y).1, (readF T R l n s nm y).2.1, (readF T R l n s nm y).2.2.1, (readF T R l n s nm y).2.2.2) := by first | (simp [ansF, *]; done) | rw [ansF, if_neg h0, if_neg (not_not_intro h1), if_neg h2, if_neg h3] | rw [ansF, if_neg h0, if_neg (not_not_intro h1), if_neg h2, if_pos h3]
          rw [e]
          exact ⟨rfl, H⟩
    · --no
      replace h1 : ¬ (n = 1) := eql_F h1
      refine G_seq ?_
      refine G_region ?_
      refine GL_seg0 1 1 [(4, .int .i64 ((6 : Nat) : Int))] rfl (by kernel_rfl) (fun β => ?_)
      refine GL_end (by kernel_rfl) ?_
      refine thn_normal ?_
      refine G_ret ?_
      refine inb_ret (thn_ret (res1 (v := .int .i64 ((6 : Nat) : Int)) rfl (by kernel_rfl) ?_))
      replace H := H.front (i := 1) rfl
      replace H := H.front (i := 1) rfl
      replace H : Sep w0 w1 (.blk g 58 [.slice A l.length c, .int .i64 (n : Int), s.v, .string ⟨nm.toArray⟩] :: .row (.slice A l.length c) 40 2 l.length (us l) :: F) := H
      have e : (ansF T R l n s nm y) = (6, n, s, nm) := by first | (simp [ansF, *]; done) | rw [ansF, if_neg h0, if_neg (not_not_intro h1), if_neg h2, if_neg h3] | rw [ansF, if_neg h0, if_neg (not_not_intro h1), if_neg h2, if_pos h3]
      rw [e]
      exact ⟨rfl, H⟩
end Go.Proofs.YtadiljnfkbbmcaaDoor
