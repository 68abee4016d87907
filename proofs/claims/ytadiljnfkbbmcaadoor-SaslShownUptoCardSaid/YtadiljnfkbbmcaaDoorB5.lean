-- printed by gw.py (my own program), checked by Lean
import Derived.Test.YtadiljnfkbbmcaaDoorB3
set_option linter.unusedVariables false
set_option linter.unusedSimpArgs false
set_option maxRecDepth 100000
set_option maxHeartbeats 400000
namespace Go.Proofs.YtadiljnfkbbmcaaDoor
open Go.Kw Go.RowKit

def Stp.fits : Stp → Prop
  | .plain => True
  | .login => True
  | .word x => x.length ≤ 68719476736
  | .cram x => x.length ≤ 68719476736
theorem c_read {w0 w : World} {F : List Chunk} (T : List UInt32) (hT : T.length = 64) (gT : Gl w0 0 (u32s T)) (R : List UInt8) (hR : R.length = 16) (gR : Gl w0 1 (bs R)) (n : Nat) (s : Stp) (hs : s.fits) (nm y : List UInt8) (hy : y.length ≤ 68719476736) (l : List Str2) (hl : l.length ≤ 1099511627776) (hU : ∀ u ∈ l, u.1.length ≤ 549755813888 ∧ u.2.length ≤ 549755813888) {g c : Nat} {A : Option Addr} (H : Sep w0 w (.blk g 58 [.slice A l.length c, In n, s.v, S nm] :: .row (.slice A l.length c) 40 2 l.length (us l) :: F)) : Ret Tryd.prog 21 #[.pointer (some ⟨g, 0, none⟩), S y] w (fun v w' => v = .int .i64 ((readF T R l n s nm y).1 : Int) ∧ Sep w0 w' (.blk g 58 [.slice A l.length c, In ((readF T R l n s nm y).2.1), (readF T R l n s nm y).2.2.1.v, S ((readF T R l n s nm y).2.2.2)] :: .row (.slice A l.length c) 40 2 l.length (us l) :: F)) :=
  match s, hs, H with
  | .plain, _, H => c_read_plain T hT gT R hR gR n nm y hy l hl hU H
  | .login, _, H => c_read_login T hT gT R hR gR n nm y hy l hl hU H
  | .word x, hx, H => c_read_word T hT gT R hR gR n x hx nm y hy l hl hU H
  | .cram x, hx, H => c_read_cram T hT gT R hR gR n x hx nm y hy l hl hU H
theorem c_Ask (n : Nat) (v1 v4 : Value) (s : Stp) (hs : s.fits) {g : Nat} {w0 w : World} {F : List Chunk} (H : Sep w0 w (.blk g 58 [v1, .int .i64 (n : Int), s.v, v4] :: F)) : Ret Tryd.prog 12 #[.pointer (some ⟨g, 0, none⟩)] w (fun v w' => v = S (if n = 1 then enc s.ask else []) ∧ Sep w0 w' (.blk g 58 [v1, .int .i64 (n : Int), s.v, v4] :: F)) :=
  match s, hs, H with
  | .plain, _, H => c_Ask_plain n v1 v4 H
  | .login, _, H => c_Ask_login n v1 v4 H
  | .word x, hx, H => c_Ask_word n v1 v4 x hx H
  | .cram x, hx, H => c_Ask_cram n v1 v4 x hx H
def ansF (T : List UInt32) (R : List UInt8) (l : List Str2) (n : Nat) (s : Stp) (nm y : List UInt8) : Nat × Nat × Stp × List UInt8 :=
  if n = 0 then (1, n, s, nm) else if ¬ n = 1 then (6, n, s, nm) else if y = [42] then (0, 4, s, nm)
  else if (readF T R l n s nm y).1 = 0 then readF T R l n s nm y else ((readF T R l n s nm y).1, 3, (readF T R l n s nm y).2.2.1, (readF T R l n s nm y).2.2.2)
/-- (*posthorn/sasl.Exchange).Answer -/
theorem c_Answer {w0 w : World} {F : List Chunk} (T : List UInt32) (hT : T.length = 64) (gT : Gl w0 0 (u32s T)) (R : List UInt8) (hR : R.length = 16) (gR : Gl w0 1 (bs R)) (n : Nat) (s : Stp) (hs : s.fits) (nm y : List UInt8) (hy : y.length ≤ 68719476736) (l : List Str2) (hl : l.length ≤ 1099511627776) (hU : ∀ u ∈ l, u.1.length ≤ 549755813888 ∧ u.2.length ≤ 549755813888) {g c : Nat} {A : Option Addr} (H : Sep w0 w (.blk g 58 [.slice A l.length c, In n, s.v, S nm] :: .row (.slice A l.length c) 40 2 l.length (us l) :: F)) : Ret Tryd.prog 13 #[.pointer (some ⟨g, 0, none⟩), S y] w (fun v w' => v = .int .i64 ((ansF T R l n s nm y).1 : Int) ∧ Sep w0 w' (.blk g 58 [.slice A l.length c, In ((ansF T R l n s nm y).2.1), (ansF T R l n s nm y).2.2.1.v, S ((ansF T R l n s nm y).2.2.2)] :: .row (.slice A l.length c) 40 2 l.length (us l) :: F)) := by
 refine Ret_enter (args := [Pt g 0, S y]) Tryd.func13 rfl (by kernel_rfl) ?_
 refine G_forget [(0, Pt g 0), (1, S y)] (by kernel_rfl) (fun β => ?_)
 refine G_sr ?_
 refine GL_st 1 1 [(0, Pt g 0), (1, S y)] fun β => ?_
 refine G_seq ?_
 refine G_sr ?_
 refine GL_s 1 1 [(0, Pt g 0), (1, S y), (6, Pt g 0)] fun β => ?_
 replace H : Sep w0 w (.blk g 58 [.slice A l.length c, In n, s.v, S nm] :: .row (.slice A l.length c) 40 2 l.length (us l) :: F) := H
 refine GL_C (c_State n (.slice A l.length c) s.v (S nm) H) ?_
 rintro _ w1 ⟨rfl, H⟩
 refine GL_et ?_
 refine G_block ?_
 refine G_sr ?_
 refine GL_srt 2 2 [(0, Pt g 0), (1, S y), (7, In n), (8, .bool (n == 0))] (show ([Pt g 0, S y, .int .i64 (n : Int), .bool ((n : Int) == ((0 : Nat) : Int))] : List Value) = [Pt g 0, S y, In n, .bool (n == 0)] by rw [neql n 0]) fun β => ?_
 refine G_cond (n == 0) (by kernel_rfl) (fun h0 => ?_) (fun h0 => ?_)
 · --yes
  replace h0 : n = 0 := eql_T h0
  refine G_sr ?_
  refine GL_st 1 1 [(4, In 1)] fun β => ?_
  refine G_ret ?_
  refine inb_ret (thn_ret (res1 (v := In 1) rfl (by kernel_rfl) ?_))
  replace H := H.front (i := 1) rfl
  replace H := H.front (i := 1) rfl
  replace H : Sep w0 w1 (.blk g 58 [.slice A l.length c, In n, s.v, S nm] :: .row (.slice A l.length c) 40 2 l.length (us l) :: F) := H
  have e : (ansF T R l n s nm y) = (1, n, s, nm) := by first | (simp [ansF, *]; done) | rw [ansF, if_neg h0, if_neg (not_not_intro h1), if_neg h2, if_neg h3] | rw [ansF, if_neg h0, if_neg (not_not_intro h1), if_neg h2, if_pos h3]
  rw [e]
  exact ⟨rfl, H⟩
 · --no
  replace h0 : ¬ (n = 0) := eql_F h0
  refine G_sr ?_
  refine GL_srt 2 2 [(0, Pt g 0), (1, S y), (10, .bool (n == 1))] (show ([Pt g 0, S y, .bool ((n : Int) == ((1 : Nat) : Int))] : List Value) = [Pt g 0, S y, .bool (n == 1)] by rw [neql n 1]) fun β => ?_
  refine G_cond (n == 1) (by kernel_rfl) (fun h1 => ?_) (fun h1 => ?_)
  · --yes
   replace h1 : n = 1 := eql_T h1
   refine G_skip ?_
   refine inb_normal ?_
   refine thn_normal ?_
   refine G_seq ?_
   refine G_sr ?_
   refine GL_s 1 1 [(0, Pt g 0), (1, S y), (12, S y)] fun β => ?_
   refine GL_V (R_streq (t := 9) (l := y) (m := [42])) ?_
   refine GL_et ?_
   refine G_cond (y == [42]) (by kernel_rfl) (fun h2 => ?_) (fun h2 => ?_)
   · --yes
    replace h2 : y = [42] := eql_T h2
    refine G_sr ?_
    refine GL_s 3 3 [(16, Pt g 1)] fun β => ?_
    obtain ⟨w2, hr3, H⟩ := R_store (P := Tryd.prog) (t := 3) (v := In 4) (off := 1) H (i := 0) rfl (by kernel_rfl) (by kernel_rfl) (by kernel_rfl)
    replace H : Sep w0 w2 (.blk g 58 [.slice A l.length c, In 4, s.v, S nm] :: .row (.slice A l.length c) 40 2 l.length (us l) :: F) := H
    refine GL_U hr3 ?_
    refine GL_et ?_
    refine G_sr ?_
    refine GL_st 1 1 [(4, In 0)] fun β => ?_
    refine G_ret ?_
    refine thn_ret (res1 (v := In 0) rfl (by kernel_rfl) ?_)
    replace H := H.front (i := 1) rfl
    replace H := H.front (i := 1) rfl
    replace H : Sep w0 w2 (.blk g 58 [.slice A l.length c, In 4, s.v, S nm] :: .row (.slice A l.length c) 40 2 l.length (us l) :: F) := H
    have e : (ansF T R l n s nm y) = (0, 4, s, nm) := by first | (simp [ansF, *]; done) | rw [ansF, if_neg h0, if_neg (not_not_intro h1), if_neg h2, if_neg h3] | rw [ansF, if_neg h0, if_neg (not_not_intro h1), if_neg h2, if_pos h3]
    rw [e]
    exact ⟨rfl, H⟩
   · --no
    replace h2 : ¬ (y = [42]) := eql_F h2
    refine G_skip ?_
    refine thn_normal ?_
    refine G_sr ?_
    refine GL_s 2 2 [(0, Pt g 0), (17, Pt g 0), (18, S y)] fun β => ?_
    replace H := H.front (i := 1) rfl
    replace H := H.front (i := 1) rfl
    replace H : Sep w0 w1 (.blk g 58 [.slice A l.length c, In n, s.v, S nm] :: .row (.slice A l.length c) 40 2 l.length (us l) :: F) := H
    refine GL_C (c_read T hT gT R hR gR n s (by assumption) nm y (by first | omega | (simp only [List.length_nil]; omega)) l (by omega) hU H) ?_
    rintro _ w4 ⟨rfl, H⟩
    refine GL_st 1 4 [(0, Pt g 0), (5, In ((readF T R l n s nm y).1))] fun β => ?_
    refine G_seq ?_
    refine G_sr ?_
    refine GL_srt 2 2 [(0, Pt g 0), (5, In ((readF T R l n s nm y).1)), (21, .bool (((readF T R l n s nm y).1) != 0))] (show ([Pt g 0, .int .i64 (((readF T R l n s nm y).1 : Nat) : Int), .bool ((((readF T R l n s nm y).1 : Nat) : Int) != ((0 : Nat) : Int))] : List Value) = [Pt g 0, In ((readF T R l n s nm y).1), .bool (((readF T R l n s nm y).1) != 0)] by rw [nneq ((readF T R l n s nm y).1) 0]) fun β => ?_
    refine G_cond (((readF T R l n s nm y).1) != 0) (by kernel_rfl) (fun h3 => ?_) (fun h3 => ?_)
    · --yes
     replace h3 : ¬ ((readF T R l n s nm y).1 = 0) := neq_T h3
     refine G_region ?_
     refine GL_s 3 3 [(5, In ((readF T R l n s nm y).1)), (24, Pt g 1)] fun β => ?_
     obtain ⟨w5, hr6, H⟩ := R_store (P := Tryd.prog) (t := 3) (v := In 3) (off := 1) H (i := 0) rfl (by kernel_rfl) (by kernel_rfl) (by kernel_rfl)
     replace H : Sep w0 w5 (.blk g 58 [.slice A l.length c, In 3, (readF T R l n s nm y).2.2.1.v, S ((readF T R l n s nm y).2.2.2)] :: .row (.slice A l.length c) 40 2 l.length (us l) :: F) := H
     refine GL_U hr6 ?_
     refine GL_et ?_
     refine G_sr ?_
     refine GL_st 2 2 [(4, In ((readF T R l n s nm y).1))] fun β => ?_
     refine G_ret ?_
     refine res1 (v := In ((readF T R l n s nm y).1)) rfl (by kernel_rfl) ?_
     replace H := H.front (i := 1) rfl
     replace H := H.front (i := 1) rfl
     replace H : Sep w0 w5 (.blk g 58 [.slice A l.length c, In 3, (readF T R l n s nm y).2.2.1.v, S ((readF T R l n s nm y).2.2.2)] :: .row (.slice A l.length c) 40 2 l.length (us l) :: F) := H
     have e : (ansF T R l n s nm y) = ((readF T R l n s nm y).1, 3, (readF T R l n s nm y).2.2.1, (readF T R l n s nm y).2.2.2) := by first | (simp [ansF, *]; done) | rw [ansF, if_neg h0, if_neg (not_not_intro h1), if_neg h2, if_neg h3] | rw [ansF, if_neg h0, if_neg (not_not_intro h1), if_neg h2, if_pos h3]
     rw [e]
     exact ⟨rfl, H⟩
    · --no
     replace h3 : (readF T R l n s nm y).1 = 0 := neq_F h3
     refine G_skip ?_
     refine thn_normal ?_
     refine G_sr ?_
     refine GL_st 2 2 [(4, In ((readF T R l n s nm y).1))] fun β => ?_
     refine G_ret ?_
     refine res1 (v := In ((readF T R l n s nm y).1)) rfl (by kernel_rfl) ?_
     replace H := H.front (i := 1) rfl
     replace H := H.front (i := 1) rfl
     replace H : Sep w0 w4 (.blk g 58 [.slice A l.length c, In ((readF T R l n s nm y).2.1), (readF T R l n s nm y).2.2.1.v, S ((readF T R l n s nm y).2.2.2)] :: .row (.slice A l.length c) 40 2 l.length (us l) :: F) := H
     have e : (ansF T R l n s nm y) = ((readF T R l n s nm y).1, (readF T R l n s nm y).2.1, (readF T R l n s nm y).2.2.1, (readF T R l n s nm y).2.2.2) := by first | (simp [ansF, *]; done) | rw [ansF, if_neg h0, if_neg (not_not_intro h1), if_neg h2, if_neg h3] | rw [ansF, if_neg h0, if_neg (not_not_intro h1), if_neg h2, if_pos h3]
     rw [e]
     exact ⟨rfl, H⟩
  · --no
   replace h1 : ¬ (n = 1) := eql_F h1
   refine G_sr ?_
   refine GL_st 1 1 [(4, In 6)] fun β => ?_
   refine G_ret ?_
   refine inb_ret (thn_ret (res1 (v := In 6) rfl (by kernel_rfl) ?_))
   replace H := H.front (i := 1) rfl
   replace H := H.front (i := 1) rfl
   replace H : Sep w0 w1 (.blk g 58 [.slice A l.length c, In n, s.v, S nm] :: .row (.slice A l.length c) 40 2 l.length (us l) :: F) := H
   have e : (ansF T R l n s nm y) = (6, n, s, nm) := by first | (simp [ansF, *]; done) | rw [ansF, if_neg h0, if_neg (not_not_intro h1), if_neg h2, if_neg h3] | rw [ansF, if_neg h0, if_neg (not_not_intro h1), if_neg h2, if_pos h3]
   rw [e]
   exact ⟨rfl, H⟩
end Go.Proofs.YtadiljnfkbbmcaaDoor
