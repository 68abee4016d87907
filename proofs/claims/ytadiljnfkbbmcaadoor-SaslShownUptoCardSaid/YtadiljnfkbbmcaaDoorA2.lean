-- printed by gw.py (my own program), checked by Lean
import Derived.Test.YtadiljnfkbbmcaaDoorA1
set_option linter.unusedVariables false
set_option linter.unusedSimpArgs false
set_option maxRecDepth 100000
set_option maxHeartbeats 400000
namespace Go.Proofs.YtadiljnfkbbmcaaDoor
open Go.Kw Go.RowKit

def rdr (b : List UInt8) (n : Nat) (ov : Bool) : List Value := [.bool true] ++ bs b ++ [.int .i64 (n : Int), .bool ov, .int .i64 ((0 : Nat) : Int)]
def TakePost (w0 : World) (F : List Chunk) (g : Nat) (a : List UInt8) (n : Nat) (over : Bool) (c : UInt8) (o : List UInt8) (r : Value) (w' : World) : Prop :=
  ∃ (b0 b1 b2 b3 : UInt8) (n' : Nat) (ov : Bool) (o' : List UInt8) (e : Nat) (A : Option Addr) (cp : Nat), r = .tuple #[.slice A o'.length cp, .int .i64 (e : Int)] ∧ n' < 4 ∧ stp (a.take n) over c o = ([b0, b1, b2, b3].take n', ov, o', e) ∧
    Sep w0 w' (.blk g 97 (rdr [b0, b1, b2, b3] n' ov) :: .row (.slice A o'.length cp) 5 1 o'.length (bs o') :: F)
/-- (*posthorn/code.Reader).next -/
theorem c_next_0 (a0 a1 a2 a3 : UInt8) (over : Bool) (v : UInt8) {g : Nat} {w0 w : World} {F : List Chunk} (H : Sep w0 w (.blk g 97 [.bool true, By a0, By a1, By a2, By a3, In 0, .bool over, In 0] :: F)) : Ret Tryd.prog 49 #[.pointer (some ⟨g, 0, none⟩), .int .u8 (v.toNat : Int)] w (fun r w' => r = .int .i64 ((nextF [] over v : Nat) : Int) ∧ Sep w0 w' (.blk g 97 [.bool true, By a0, By a1, By a2, By a3, In 0, .bool over, In 0] :: F)) := by
 refine Ret_enter (args := [Pt g 0, By v]) Tryd.func49 rfl (by kernel_rfl) ?_
 refine G_forget [(0, Pt g 0), (1, By v)] (by kernel_rfl) (fun β => ?_)
 refine G_sr ?_
 refine GL_st 1 1 [(0, Pt g 0), (1, By v)] fun β => ?_
 refine G_seq ?_
 refine G_drawS (fun w => w.cell? ⟨g, 5, none⟩ = some (In 0) ∧ True) 13 13 (by kernel_rfl) (by kernel_rfl) H (fun w1 H => ?_)
 refine HL_takes [0, 1, 2, 3, 4, 5] [(0, Pt g 0), (1, .int .u8 (v.toNat : Int)), (8, Pt g 1), (11, Pt g 5)] (mkL 13 [0, 1, 2, 3, 4, 5]) 7 (by kernel_rfl) rfl (by kernel_rfl) (fun _ => by kernel_rfl) ⟨((H.blk_cell (i := 0) rfl 5).trans rfl), trivial⟩ (fun β => ?_)
 refine HL_t (i := 6) (m := 6) (fun w hS => run_load1 (t := 3) (by kernel_rfl) hS.1) rfl (by kernel_rfl) (by kernel_rfl) (by kernel_rfl) (by kernel_rfl) (by kernel_rfl) (by kernel_rfl) ⟨((H.blk_cell (i := 0) rfl 5).trans rfl), trivial⟩ rfl ?_
 refine HL_takes [7, 8, 9] [(0, Pt g 0), (1, .int .u8 (v.toNat : Int)), (8, Pt g 1), (12, .int .i64 ((0 : Nat) : Int)), (15, Pt g 5)] (mkL 13 [0, 1, 2, 3, 4, 5, 6, 7, 8, 9]) 3 (by kernel_rfl) rfl (by kernel_rfl) (fun _ => by kernel_rfl) ⟨((H.blk_cell (i := 0) rfl 5).trans rfl), trivial⟩ (fun β => ?_)
 refine HL_t (i := 10) (m := 2) (fun w hS => run_load1 (t := 3) (by kernel_rfl) hS.1) rfl (by kernel_rfl) (by kernel_rfl) (by kernel_rfl) (by kernel_rfl) (by kernel_rfl) (by kernel_rfl) ⟨((H.blk_cell (i := 0) rfl 5).trans rfl), trivial⟩ rfl ?_
 refine HL_takes [11, 12] [(0, Pt g 0), (1, .int .u8 (v.toNat : Int)), (5, .slice (some ⟨g, 1, none⟩) 0 0)] (mkL 13 [0, 1, 2, 3, 4, 5, 6, 7, 8, 9, 10, 11, 12]) 0 (by kernel_rfl) rfl (by kernel_rfl) (fun _ => by kernel_rfl) ⟨((H.blk_cell (i := 0) rfl 5).trans rfl), trivial⟩ (fun β => ?_)
 refine HL_forget [(0, Pt g 0), (1, By v), (5, .slice (some ⟨g, 1, none⟩) 0 0)] (by kernel_rfl) (fun β => ?_)
 refine HL_fin (by kernel_rfl) ?_
 refine thn_normal ?_
 refine G_seq ?_
 refine G_block ?_
 refine G_sr ?_
 refine GL_srt 3 3 [(0, Pt g 0), (1, By v), (5, .slice (some ⟨g, 1, none⟩) 0 0), (18, .bool (v == (65 : UInt8)))] (show ([Pt g 0, .int .u8 (v.toNat : Int), .slice (some ⟨g, 1, none⟩) 0 0, .bool ((v.toNat : Int) == ((65 : UInt8).toNat : Int))] : List Value) = [Pt g 0, By v, .slice (some ⟨g, 1, none⟩) 0 0, .bool (v == (65 : UInt8))] by rw [Kw.u8_eql v (65 : UInt8)]) fun β => ?_
 refine G_cond (v == (65 : UInt8)) (by kernel_rfl) (fun h0 => ?_) (fun h0 => ?_)
 · --yes
  replace h0 : v = (65 : UInt8) := eql_T h0
  refine G_sr ?_
  refine GL_st 1 1 [(4, In 40)] fun β => ?_
  refine G_ret ?_
  refine inb_ret (thn_ret (res1 (v := In 40) rfl (by kernel_rfl) ?_))
  exact ⟨by simp [nextF, *], H⟩
 · --no
  replace h0 : ¬ (v = (65 : UInt8)) := eql_F h0
  refine G_sr ?_
  refine GL_s 3 3 [(1, By v), (5, .slice (some ⟨g, 1, none⟩) 0 0), (24, Pt g 6)] fun β => ?_
  refine GL_V (run_load1 (t := 4) (by kernel_rfl) ((H.blk_cell (i := 0) rfl 6).trans rfl)) ?_
  refine GL_st 1 5 [(1, By v), (5, .slice (some ⟨g, 1, none⟩) 0 0), (21, .bool over)] fun β => ?_
  refine G_cond (over) (by kernel_rfl) (fun h1 => ?_) (fun h1 => ?_)
  · --yes
   refine G_sr ?_
   refine GL_st 1 1 [(4, In 41)] fun β => ?_
   refine G_ret ?_
   refine inb_ret (thn_ret (res1 (v := In 41) rfl (by kernel_rfl) ?_))
   exact ⟨by simp [nextF, *], H⟩
  · --no
   refine G_sr ?_
   refine GL_st 10 10 [(1, By v), (5, .slice (some ⟨g, 1, none⟩) 0 0), (26, .bool false)] fun β => ?_
   refine G_false (by kernel_rfl) ?_
   refine G_sr ?_
   refine GL_srt 3 3 [(5, .slice (some ⟨g, 1, none⟩) 0 0), (38, .bool (v != (64 : UInt8)))] (show ([.slice (some ⟨g, 1, none⟩) 0 0, .bool ((v.toNat : Int) != ((64 : UInt8).toNat : Int))] : List Value) = [.slice (some ⟨g, 1, none⟩) 0 0, .bool (v != (64 : UInt8))] by rw [Kw.u8_neq v (64 : UInt8)]) fun β => ?_
   refine G_cond (v != (64 : UInt8)) (by kernel_rfl) (fun h2 => ?_) (fun h2 => ?_)
   · --yes
    replace h2 : ¬ (v = (64 : UInt8)) := neq_T h2
    refine G_skip ?_
    refine inb_normal ?_
    refine thn_normal ?_
    refine G_sr ?_
    refine GL_st 1 1 [(4, In 0)] fun β => ?_
    refine G_ret ?_
    refine res1 (v := In 0) rfl (by kernel_rfl) ?_
    exact ⟨by simp [nextF, *], H⟩
   · --no
    replace h2 : v = (64 : UInt8) := neq_F h2
    refine G_seq ?_
    refine G_sr ?_
    refine GL_st 4 4 [(5, .slice (some ⟨g, 1, none⟩) 0 0), (41, .bool true)] fun β => ?_
    refine G_true (by kernel_rfl) ?_
    refine G_skip ?_
    refine thn_normal ?_
    refine G_true (by kernel_rfl) ?_
    refine G_sr ?_
    refine GL_st 1 1 [(4, In 41)] fun β => ?_
    refine G_ret ?_
    refine inb_ret (thn_ret (res1 (v := In 41) rfl (by kernel_rfl) ?_))
    exact ⟨by simp [nextF, *], H⟩
/-- (*posthorn/code.Reader).next -/
theorem c_next_1 (a0 a1 a2 a3 : UInt8) (over : Bool) (v : UInt8) {g : Nat} {w0 w : World} {F : List Chunk} (H : Sep w0 w (.blk g 97 [.bool true, By a0, By a1, By a2, By a3, In 1, .bool over, In 0] :: F)) : Ret Tryd.prog 49 #[.pointer (some ⟨g, 0, none⟩), .int .u8 (v.toNat : Int)] w (fun r w' => r = .int .i64 ((nextF [a0] over v : Nat) : Int) ∧ Sep w0 w' (.blk g 97 [.bool true, By a0, By a1, By a2, By a3, In 1, .bool over, In 0] :: F)) := by
 refine Ret_enter (args := [Pt g 0, By v]) Tryd.func49 rfl (by kernel_rfl) ?_
 refine G_forget [(0, Pt g 0), (1, By v)] (by kernel_rfl) (fun β => ?_)
 refine G_sr ?_
 refine GL_st 1 1 [(0, Pt g 0), (1, By v)] fun β => ?_
 refine G_seq ?_
 refine G_drawS (fun w => w.cell? ⟨g, 5, none⟩ = some (In 1) ∧ True) 13 13 (by kernel_rfl) (by kernel_rfl) H (fun w1 H => ?_)
 refine HL_takes [0, 1, 2, 3, 4, 5] [(0, Pt g 0), (1, .int .u8 (v.toNat : Int)), (8, Pt g 1), (11, Pt g 5)] (mkL 13 [0, 1, 2, 3, 4, 5]) 7 (by kernel_rfl) rfl (by kernel_rfl) (fun _ => by kernel_rfl) ⟨((H.blk_cell (i := 0) rfl 5).trans rfl), trivial⟩ (fun β => ?_)
 refine HL_t (i := 6) (m := 6) (fun w hS => run_load1 (t := 3) (by kernel_rfl) hS.1) rfl (by kernel_rfl) (by kernel_rfl) (by kernel_rfl) (by kernel_rfl) (by kernel_rfl) (by kernel_rfl) ⟨((H.blk_cell (i := 0) rfl 5).trans rfl), trivial⟩ rfl ?_
 refine HL_takes [7, 8, 9] [(0, Pt g 0), (1, .int .u8 (v.toNat : Int)), (8, Pt g 1), (12, .int .i64 ((1 : Nat) : Int)), (15, Pt g 5)] (mkL 13 [0, 1, 2, 3, 4, 5, 6, 7, 8, 9]) 3 (by kernel_rfl) rfl (by kernel_rfl) (fun _ => by kernel_rfl) ⟨((H.blk_cell (i := 0) rfl 5).trans rfl), trivial⟩ (fun β => ?_)
 refine HL_t (i := 10) (m := 2) (fun w hS => run_load1 (t := 3) (by kernel_rfl) hS.1) rfl (by kernel_rfl) (by kernel_rfl) (by kernel_rfl) (by kernel_rfl) (by kernel_rfl) (by kernel_rfl) ⟨((H.blk_cell (i := 0) rfl 5).trans rfl), trivial⟩ rfl ?_
 refine HL_takes [11, 12] [(0, Pt g 0), (1, .int .u8 (v.toNat : Int)), (5, .slice (some ⟨g, 1, none⟩) 1 1)] (mkL 13 [0, 1, 2, 3, 4, 5, 6, 7, 8, 9, 10, 11, 12]) 0 (by kernel_rfl) rfl (by kernel_rfl) (fun _ => by kernel_rfl) ⟨((H.blk_cell (i := 0) rfl 5).trans rfl), trivial⟩ (fun β => ?_)
 refine HL_forget [(0, Pt g 0), (1, By v), (5, .slice (some ⟨g, 1, none⟩) 1 1)] (by kernel_rfl) (fun β => ?_)
 refine HL_fin (by kernel_rfl) ?_
 refine thn_normal ?_
 refine G_seq ?_
 refine G_block ?_
 refine G_sr ?_
 refine GL_srt 3 3 [(0, Pt g 0), (1, By v), (5, .slice (some ⟨g, 1, none⟩) 1 1), (18, .bool (v == (65 : UInt8)))] (show ([Pt g 0, .int .u8 (v.toNat : Int), .slice (some ⟨g, 1, none⟩) 1 1, .bool ((v.toNat : Int) == ((65 : UInt8).toNat : Int))] : List Value) = [Pt g 0, By v, .slice (some ⟨g, 1, none⟩) 1 1, .bool (v == (65 : UInt8))] by rw [Kw.u8_eql v (65 : UInt8)]) fun β => ?_
 refine G_cond (v == (65 : UInt8)) (by kernel_rfl) (fun h0 => ?_) (fun h0 => ?_)
 · --yes
  replace h0 : v = (65 : UInt8) := eql_T h0
  refine G_sr ?_
  refine GL_st 1 1 [(4, In 40)] fun β => ?_
  refine G_ret ?_
  refine inb_ret (thn_ret (res1 (v := In 40) rfl (by kernel_rfl) ?_))
  exact ⟨by simp [nextF, *], H⟩
 · --no
  replace h0 : ¬ (v = (65 : UInt8)) := eql_F h0
  refine G_sr ?_
  refine GL_s 3 3 [(1, By v), (5, .slice (some ⟨g, 1, none⟩) 1 1), (24, Pt g 6)] fun β => ?_
  refine GL_V (run_load1 (t := 4) (by kernel_rfl) ((H.blk_cell (i := 0) rfl 6).trans rfl)) ?_
  refine GL_st 1 5 [(1, By v), (5, .slice (some ⟨g, 1, none⟩) 1 1), (21, .bool over)] fun β => ?_
  refine G_cond (over) (by kernel_rfl) (fun h1 => ?_) (fun h1 => ?_)
  · --yes
   refine G_sr ?_
   refine GL_st 1 1 [(4, In 41)] fun β => ?_
   refine G_ret ?_
   refine inb_ret (thn_ret (res1 (v := In 41) rfl (by kernel_rfl) ?_))
   exact ⟨by simp [nextF, *], H⟩
  · --no
   refine G_sr ?_
   refine GL_st 10 10 [(1, By v), (5, .slice (some ⟨g, 1, none⟩) 1 1), (26, .bool false)] fun β => ?_
   refine G_false (by kernel_rfl) ?_
   refine G_sr ?_
   refine GL_srt 3 3 [(5, .slice (some ⟨g, 1, none⟩) 1 1), (38, .bool (v != (64 : UInt8)))] (show ([.slice (some ⟨g, 1, none⟩) 1 1, .bool ((v.toNat : Int) != ((64 : UInt8).toNat : Int))] : List Value) = [.slice (some ⟨g, 1, none⟩) 1 1, .bool (v != (64 : UInt8))] by rw [Kw.u8_neq v (64 : UInt8)]) fun β => ?_
   refine G_cond (v != (64 : UInt8)) (by kernel_rfl) (fun h2 => ?_) (fun h2 => ?_)
   · --yes
    replace h2 : ¬ (v = (64 : UInt8)) := neq_T h2
    refine G_skip ?_
    refine inb_normal ?_
    refine thn_normal ?_
    refine G_sr ?_
    refine GL_st 1 1 [(4, In 0)] fun β => ?_
    refine G_ret ?_
    refine res1 (v := In 0) rfl (by kernel_rfl) ?_
    exact ⟨by simp [nextF, *], H⟩
   · --no
    replace h2 : v = (64 : UInt8) := neq_F h2
    refine G_seq ?_
    refine G_sr ?_
    refine GL_st 4 4 [(5, .slice (some ⟨g, 1, none⟩) 1 1), (41, .bool true)] fun β => ?_
    refine G_true (by kernel_rfl) ?_
    refine G_skip ?_
    refine thn_normal ?_
    refine G_true (by kernel_rfl) ?_
    refine G_sr ?_
    refine GL_st 1 1 [(4, In 41)] fun β => ?_
    refine G_ret ?_
    refine inb_ret (thn_ret (res1 (v := In 41) rfl (by kernel_rfl) ?_))
    exact ⟨by simp [nextF, *], H⟩
/-- (*posthorn/code.Reader).next -/
theorem c_next_2 (a0 a1 a2 a3 : UInt8) (over : Bool) (v : UInt8) {g : Nat} {w0 w : World} {F : List Chunk} (H : Sep w0 w (.blk g 97 [.bool true, By a0, By a1, By a2, By a3, In 2, .bool over, In 0] :: F)) : Ret Tryd.prog 49 #[.pointer (some ⟨g, 0, none⟩), .int .u8 (v.toNat : Int)] w (fun r w' => r = .int .i64 ((nextF [a0, a1] over v : Nat) : Int) ∧ Sep w0 w' (.blk g 97 [.bool true, By a0, By a1, By a2, By a3, In 2, .bool over, In 0] :: F)) := by
 refine Ret_enter (args := [Pt g 0, By v]) Tryd.func49 rfl (by kernel_rfl) ?_
 refine G_forget [(0, Pt g 0), (1, By v)] (by kernel_rfl) (fun β => ?_)
 refine G_sr ?_
 refine GL_st 1 1 [(0, Pt g 0), (1, By v)] fun β => ?_
 refine G_seq ?_
 refine G_drawS (fun w => w.cell? ⟨g, 5, none⟩ = some (In 2) ∧ True) 13 13 (by kernel_rfl) (by kernel_rfl) H (fun w1 H => ?_)
 refine HL_takes [0, 1, 2, 3, 4, 5] [(0, Pt g 0), (1, .int .u8 (v.toNat : Int)), (8, Pt g 1), (11, Pt g 5)] (mkL 13 [0, 1, 2, 3, 4, 5]) 7 (by kernel_rfl) rfl (by kernel_rfl) (fun _ => by kernel_rfl) ⟨((H.blk_cell (i := 0) rfl 5).trans rfl), trivial⟩ (fun β => ?_)
 refine HL_t (i := 6) (m := 6) (fun w hS => run_load1 (t := 3) (by kernel_rfl) hS.1) rfl (by kernel_rfl) (by kernel_rfl) (by kernel_rfl) (by kernel_rfl) (by kernel_rfl) (by kernel_rfl) ⟨((H.blk_cell (i := 0) rfl 5).trans rfl), trivial⟩ rfl ?_
 refine HL_takes [7, 8, 9] [(0, Pt g 0), (1, .int .u8 (v.toNat : Int)), (8, Pt g 1), (12, .int .i64 ((2 : Nat) : Int)), (15, Pt g 5)] (mkL 13 [0, 1, 2, 3, 4, 5, 6, 7, 8, 9]) 3 (by kernel_rfl) rfl (by kernel_rfl) (fun _ => by kernel_rfl) ⟨((H.blk_cell (i := 0) rfl 5).trans rfl), trivial⟩ (fun β => ?_)
 refine HL_t (i := 10) (m := 2) (fun w hS => run_load1 (t := 3) (by kernel_rfl) hS.1) rfl (by kernel_rfl) (by kernel_rfl) (by kernel_rfl) (by kernel_rfl) (by kernel_rfl) (by kernel_rfl) ⟨((H.blk_cell (i := 0) rfl 5).trans rfl), trivial⟩ rfl ?_
 refine HL_takes [11, 12] [(0, Pt g 0), (1, .int .u8 (v.toNat : Int)), (5, .slice (some ⟨g, 1, none⟩) 2 2)] (mkL 13 [0, 1, 2, 3, 4, 5, 6, 7, 8, 9, 10, 11, 12]) 0 (by kernel_rfl) rfl (by kernel_rfl) (fun _ => by kernel_rfl) ⟨((H.blk_cell (i := 0) rfl 5).trans rfl), trivial⟩ (fun β => ?_)
 refine HL_forget [(0, Pt g 0), (1, By v), (5, .slice (some ⟨g, 1, none⟩) 2 2)] (by kernel_rfl) (fun β => ?_)
 refine HL_fin (by kernel_rfl) ?_
 refine thn_normal ?_
 refine G_seq ?_
 refine G_block ?_
 refine G_sr ?_
 refine GL_srt 3 3 [(0, Pt g 0), (1, By v), (5, .slice (some ⟨g, 1, none⟩) 2 2), (18, .bool (v == (65 : UInt8)))] (show ([Pt g 0, .int .u8 (v.toNat : Int), .slice (some ⟨g, 1, none⟩) 2 2, .bool ((v.toNat : Int) == ((65 : UInt8).toNat : Int))] : List Value) = [Pt g 0, By v, .slice (some ⟨g, 1, none⟩) 2 2, .bool (v == (65 : UInt8))] by rw [Kw.u8_eql v (65 : UInt8)]) fun β => ?_
 refine G_cond (v == (65 : UInt8)) (by kernel_rfl) (fun h0 => ?_) (fun h0 => ?_)
 · --yes
  replace h0 : v = (65 : UInt8) := eql_T h0
  refine G_sr ?_
  refine GL_st 1 1 [(4, In 40)] fun β => ?_
  refine G_ret ?_
  refine inb_ret (thn_ret (res1 (v := In 40) rfl (by kernel_rfl) ?_))
  exact ⟨by simp [nextF, *], H⟩
 · --no
  replace h0 : ¬ (v = (65 : UInt8)) := eql_F h0
  refine G_sr ?_
  refine GL_s 3 3 [(1, By v), (5, .slice (some ⟨g, 1, none⟩) 2 2), (24, Pt g 6)] fun β => ?_
  refine GL_V (run_load1 (t := 4) (by kernel_rfl) ((H.blk_cell (i := 0) rfl 6).trans rfl)) ?_
  refine GL_st 1 5 [(1, By v), (5, .slice (some ⟨g, 1, none⟩) 2 2), (21, .bool over)] fun β => ?_
  refine G_cond (over) (by kernel_rfl) (fun h1 => ?_) (fun h1 => ?_)
  · --yes
   refine G_sr ?_
   refine GL_st 1 1 [(4, In 41)] fun β => ?_
   refine G_ret ?_
   refine inb_ret (thn_ret (res1 (v := In 41) rfl (by kernel_rfl) ?_))
   exact ⟨by simp [nextF, *], H⟩
  · --no
   refine G_sr ?_
   refine GL_st 10 10 [(1, By v), (5, .slice (some ⟨g, 1, none⟩) 2 2), (26, .bool false)] fun β => ?_
   refine G_false (by kernel_rfl) ?_
   refine G_sr ?_
   refine GL_srt 3 3 [(5, .slice (some ⟨g, 1, none⟩) 2 2), (38, .bool (v != (64 : UInt8)))] (show ([.slice (some ⟨g, 1, none⟩) 2 2, .bool ((v.toNat : Int) != ((64 : UInt8).toNat : Int))] : List Value) = [.slice (some ⟨g, 1, none⟩) 2 2, .bool (v != (64 : UInt8))] by rw [Kw.u8_neq v (64 : UInt8)]) fun β => ?_
   refine G_cond (v != (64 : UInt8)) (by kernel_rfl) (fun h2 => ?_) (fun h2 => ?_)
   · --yes
    replace h2 : ¬ (v = (64 : UInt8)) := neq_T h2
    refine G_skip ?_
    refine inb_normal ?_
    refine thn_normal ?_
    refine G_sr ?_
    refine GL_st 1 1 [(4, In 0)] fun β => ?_
    refine G_ret ?_
    refine res1 (v := In 0) rfl (by kernel_rfl) ?_
    exact ⟨by simp [nextF, *], H⟩
   · --no
    replace h2 : v = (64 : UInt8) := neq_F h2
    refine G_seq ?_
    refine G_sr ?_
    refine GL_st 4 4 [(5, .slice (some ⟨g, 1, none⟩) 2 2), (41, .bool false)] fun β => ?_
    refine G_false (by kernel_rfl) ?_
    refine G_sr ?_
    refine GL_s 6 6 [(5, .slice (some ⟨g, 1, none⟩) 2 2), (48, .bool true), (50, Pt g 2)] fun β => ?_
    refine GL_V (run_load1 (t := 5) (by kernel_rfl) ((H.blk_cell (i := 0) rfl 2).trans rfl)) ?_
    refine GL_srt 4 11 [(5, .slice (some ⟨g, 1, none⟩) 2 2), (41, .bool ((a1 &&& (15 : UInt8)) != (0 : UInt8)))] (show ([.slice (some ⟨g, 1, none⟩) 2 2, .bool ((band .u8 (a1.toNat : Int) ((15 : UInt8).toNat : Int)) != ((0 : UInt8).toNat : Int))] : List Value) = [.slice (some ⟨g, 1, none⟩) 2 2, .bool ((a1 &&& (15 : UInt8)) != (0 : UInt8))] by rw [Kw.u8_and a1 (15 : UInt8), Kw.u8_neq (a1 &&& (15 : UInt8)) (0 : UInt8)]) fun β => ?_
    refine G_cond ((a1 &&& (15 : UInt8)) != (0 : UInt8)) (by kernel_rfl) (fun h3 => ?_) (fun h3 => ?_)
    · --yes
     replace h3 : ¬ ((a1 &&& (15 : UInt8)) = (0 : UInt8)) := neq_T h3
     refine G_skip ?_
     refine thn_normal ?_
     refine G_cond ((a1 &&& (15 : UInt8)) != (0 : UInt8)) (by kernel_rfl) (fun h4 => ?_) (fun h4 => ?_)
     · --yes
      replace h4 : ¬ ((a1 &&& (15 : UInt8)) = (0 : UInt8)) := neq_T h4
      refine G_sr ?_
      refine GL_st 1 1 [(4, In 41)] fun β => ?_
      refine G_ret ?_
      refine inb_ret (thn_ret (res1 (v := In 41) rfl (by kernel_rfl) ?_))
      exact ⟨by simp [nextF, *], H⟩
     · --no
      replace h4 : (a1 &&& (15 : UInt8)) = (0 : UInt8) := neq_F h4
      refine G_skip ?_
      refine inb_normal ?_
      refine thn_normal ?_
      refine G_sr ?_
      refine GL_st 1 1 [(4, In 0)] fun β => ?_
      refine G_ret ?_
      refine res1 (v := In 0) rfl (by kernel_rfl) ?_
      exact ⟨by simp [nextF, *], H⟩
    · --no
     replace h3 : (a1 &&& (15 : UInt8)) = (0 : UInt8) := neq_F h3
     refine G_region ?_
     refine GL_st 11 11 [(41, .bool false)] fun β => ?_
     refine G_false (by kernel_rfl) ?_
     refine G_skip ?_
     refine inb_normal ?_
     refine thn_normal ?_
     refine G_sr ?_
     refine GL_st 1 1 [(4, In 0)] fun β => ?_
     refine G_ret ?_
     refine res1 (v := In 0) rfl (by kernel_rfl) ?_
     exact ⟨by simp [nextF, *], H⟩
/-- (*posthorn/code.Reader).next -/
theorem c_next_3 (a0 a1 a2 a3 : UInt8) (over : Bool) (v : UInt8) {g : Nat} {w0 w : World} {F : List Chunk} (H : Sep w0 w (.blk g 97 [.bool true, By a0, By a1, By a2, By a3, In 3, .bool over, In 0] :: F)) : Ret Tryd.prog 49 #[.pointer (some ⟨g, 0, none⟩), .int .u8 (v.toNat : Int)] w (fun r w' => r = .int .i64 ((nextF [a0, a1, a2] over v : Nat) : Int) ∧ Sep w0 w' (.blk g 97 [.bool true, By a0, By a1, By a2, By a3, In 3, .bool over, In 0] :: F)) := by
 refine Ret_enter (args := [Pt g 0, By v]) Tryd.func49 rfl (by kernel_rfl) ?_
 refine G_forget [(0, Pt g 0), (1, By v)] (by kernel_rfl) (fun β => ?_)
 refine G_sr ?_
 refine GL_st 1 1 [(0, Pt g 0), (1, By v)] fun β => ?_
 refine G_seq ?_
 refine G_drawS (fun w => w.cell? ⟨g, 5, none⟩ = some (In 3) ∧ True) 13 13 (by kernel_rfl) (by kernel_rfl) H (fun w1 H => ?_)
 refine HL_takes [0, 1, 2, 3, 4, 5] [(0, Pt g 0), (1, .int .u8 (v.toNat : Int)), (8, Pt g 1), (11, Pt g 5)] (mkL 13 [0, 1, 2, 3, 4, 5]) 7 (by kernel_rfl) rfl (by kernel_rfl) (fun _ => by kernel_rfl) ⟨((H.blk_cell (i := 0) rfl 5).trans rfl), trivial⟩ (fun β => ?_)
 refine HL_t (i := 6) (m := 6) (fun w hS => run_load1 (t := 3) (by kernel_rfl) hS.1) rfl (by kernel_rfl) (by kernel_rfl) (by kernel_rfl) (by kernel_rfl) (by kernel_rfl) (by kernel_rfl) ⟨((H.blk_cell (i := 0) rfl 5).trans rfl), trivial⟩ rfl ?_
 refine HL_takes [7, 8, 9] [(0, Pt g 0), (1, .int .u8 (v.toNat : Int)), (8, Pt g 1), (12, .int .i64 ((3 : Nat) : Int)), (15, Pt g 5)] (mkL 13 [0, 1, 2, 3, 4, 5, 6, 7, 8, 9]) 3 (by kernel_rfl) rfl (by kernel_rfl) (fun _ => by kernel_rfl) ⟨((H.blk_cell (i := 0) rfl 5).trans rfl), trivial⟩ (fun β => ?_)
 refine HL_t (i := 10) (m := 2) (fun w hS => run_load1 (t := 3) (by kernel_rfl) hS.1) rfl (by kernel_rfl) (by kernel_rfl) (by kernel_rfl) (by kernel_rfl) (by kernel_rfl) (by kernel_rfl) ⟨((H.blk_cell (i := 0) rfl 5).trans rfl), trivial⟩ rfl ?_
 refine HL_takes [11, 12] [(0, Pt g 0), (1, .int .u8 (v.toNat : Int)), (5, .slice (some ⟨g, 1, none⟩) 3 3)] (mkL 13 [0, 1, 2, 3, 4, 5, 6, 7, 8, 9, 10, 11, 12]) 0 (by kernel_rfl) rfl (by kernel_rfl) (fun _ => by kernel_rfl) ⟨((H.blk_cell (i := 0) rfl 5).trans rfl), trivial⟩ (fun β => ?_)
 refine HL_forget [(0, Pt g 0), (1, By v), (5, .slice (some ⟨g, 1, none⟩) 3 3)] (by kernel_rfl) (fun β => ?_)
 refine HL_fin (by kernel_rfl) ?_
 refine thn_normal ?_
 refine G_seq ?_
 refine G_block ?_
 refine G_sr ?_
 refine GL_srt 3 3 [(0, Pt g 0), (1, By v), (5, .slice (some ⟨g, 1, none⟩) 3 3), (18, .bool (v == (65 : UInt8)))] (show ([Pt g 0, .int .u8 (v.toNat : Int), .slice (some ⟨g, 1, none⟩) 3 3, .bool ((v.toNat : Int) == ((65 : UInt8).toNat : Int))] : List Value) = [Pt g 0, By v, .slice (some ⟨g, 1, none⟩) 3 3, .bool (v == (65 : UInt8))] by rw [Kw.u8_eql v (65 : UInt8)]) fun β => ?_
 refine G_cond (v == (65 : UInt8)) (by kernel_rfl) (fun h0 => ?_) (fun h0 => ?_)
 · --yes
  replace h0 : v = (65 : UInt8) := eql_T h0
  refine G_sr ?_
  refine GL_st 1 1 [(4, In 40)] fun β => ?_
  refine G_ret ?_
  refine inb_ret (thn_ret (res1 (v := In 40) rfl (by kernel_rfl) ?_))
  exact ⟨by simp [nextF, *], H⟩
 · --no
  replace h0 : ¬ (v = (65 : UInt8)) := eql_F h0
  refine G_sr ?_
  refine GL_s 3 3 [(1, By v), (5, .slice (some ⟨g, 1, none⟩) 3 3), (24, Pt g 6)] fun β => ?_
  refine GL_V (run_load1 (t := 4) (by kernel_rfl) ((H.blk_cell (i := 0) rfl 6).trans rfl)) ?_
  refine GL_st 1 5 [(1, By v), (5, .slice (some ⟨g, 1, none⟩) 3 3), (21, .bool over)] fun β => ?_
  refine G_cond (over) (by kernel_rfl) (fun h1 => ?_) (fun h1 => ?_)
  · --yes
   refine G_sr ?_
   refine GL_st 1 1 [(4, In 41)] fun β => ?_
   refine G_ret ?_
   refine inb_ret (thn_ret (res1 (v := In 41) rfl (by kernel_rfl) ?_))
   exact ⟨by simp [nextF, *], H⟩
  · --no
   refine G_sr ?_
   refine GL_s 6 6 [(1, By v), (5, .slice (some ⟨g, 1, none⟩) 3 3), (30, .bool true), (32, Pt g 3)] fun β => ?_
   refine GL_V (run_load1 (t := 5) (by kernel_rfl) ((H.blk_cell (i := 0) rfl 3).trans rfl)) ?_
   refine GL_srt 3 10 [(1, By v), (5, .slice (some ⟨g, 1, none⟩) 3 3), (26, .bool (a2 == (64 : UInt8)))] (show ([.int .u8 (v.toNat : Int), .slice (some ⟨g, 1, none⟩) 3 3, .bool ((a2.toNat : Int) == ((64 : UInt8).toNat : Int))] : List Value) = [By v, .slice (some ⟨g, 1, none⟩) 3 3, .bool (a2 == (64 : UInt8))] by rw [Kw.u8_eql a2 (64 : UInt8)]) fun β => ?_
   refine G_cond (a2 == (64 : UInt8)) (by kernel_rfl) (fun h2 => ?_) (fun h2 => ?_)
   · --yes
    replace h2 : a2 = (64 : UInt8) := eql_T h2
    refine G_sr ?_
    refine GL_srt 2 2 [(37, .bool (v != (64 : UInt8)))] (show ([.bool ((v.toNat : Int) != ((64 : UInt8).toNat : Int))] : List Value) = [.bool (v != (64 : UInt8))] by rw [Kw.u8_neq v (64 : UInt8)]) fun β => ?_
    refine G_cond (v != (64 : UInt8)) (by kernel_rfl) (fun h3 => ?_) (fun h3 => ?_)
    · --yes
     replace h3 : ¬ (v = (64 : UInt8)) := neq_T h3
     refine G_sr ?_
     refine GL_st 1 1 [(4, In 41)] fun β => ?_
     refine G_ret ?_
     refine inb_ret (thn_ret (res1 (v := In 41) rfl (by kernel_rfl) ?_))
     exact ⟨by simp [nextF, *], H⟩
    · --no
     replace h3 : v = (64 : UInt8) := neq_F h3
     refine G_skip ?_
     refine inb_normal ?_
     refine thn_normal ?_
     refine G_sr ?_
     refine GL_st 1 1 [(4, In 0)] fun β => ?_
     refine G_ret ?_
     refine res1 (v := In 0) rfl (by kernel_rfl) ?_
     exact ⟨by simp [nextF, *], H⟩
   · --no
    replace h2 : ¬ (a2 = (64 : UInt8)) := eql_F h2
    refine G_sr ?_
    refine GL_srt 3 3 [(5, .slice (some ⟨g, 1, none⟩) 3 3), (38, .bool (v != (64 : UInt8)))] (show ([.slice (some ⟨g, 1, none⟩) 3 3, .bool ((v.toNat : Int) != ((64 : UInt8).toNat : Int))] : List Value) = [.slice (some ⟨g, 1, none⟩) 3 3, .bool (v != (64 : UInt8))] by rw [Kw.u8_neq v (64 : UInt8)]) fun β => ?_
    refine G_cond (v != (64 : UInt8)) (by kernel_rfl) (fun h4 => ?_) (fun h4 => ?_)
    · --yes
     replace h4 : ¬ (v = (64 : UInt8)) := neq_T h4
     refine G_skip ?_
     refine inb_normal ?_
     refine thn_normal ?_
     refine G_sr ?_
     refine GL_st 1 1 [(4, In 0)] fun β => ?_
     refine G_ret ?_
     refine res1 (v := In 0) rfl (by kernel_rfl) ?_
     exact ⟨by simp [nextF, *], H⟩
    · --no
     replace h4 : v = (64 : UInt8) := neq_F h4
     refine G_seq ?_
     refine G_sr ?_
     refine GL_st 4 4 [(5, .slice (some ⟨g, 1, none⟩) 3 3), (41, .bool false)] fun β => ?_
     refine G_false (by kernel_rfl) ?_
     refine G_sr ?_
     refine GL_st 11 11 [(5, .slice (some ⟨g, 1, none⟩) 3 3), (41, .bool false)] fun β => ?_
     refine G_false (by kernel_rfl) ?_
     refine G_region ?_
     refine GL_s 6 6 [(58, .bool true), (60, Pt g 3)] fun β => ?_
     refine GL_V (run_load1 (t := 5) (by kernel_rfl) ((H.blk_cell (i := 0) rfl 3).trans rfl)) ?_
     refine GL_srt 4 11 [(41, .bool ((a2 &&& (3 : UInt8)) != (0 : UInt8)))] (show ([.bool ((band .u8 (a2.toNat : Int) ((3 : UInt8).toNat : Int)) != ((0 : UInt8).toNat : Int))] : List Value) = [.bool ((a2 &&& (3 : UInt8)) != (0 : UInt8))] by rw [Kw.u8_and a2 (3 : UInt8), Kw.u8_neq (a2 &&& (3 : UInt8)) (0 : UInt8)]) fun β => ?_
     refine G_cond ((a2 &&& (3 : UInt8)) != (0 : UInt8)) (by kernel_rfl) (fun h5 => ?_) (fun h5 => ?_)
     · --yes
      replace h5 : ¬ ((a2 &&& (3 : UInt8)) = (0 : UInt8)) := neq_T h5
      refine G_sr ?_
      refine GL_st 1 1 [(4, In 41)] fun β => ?_
      refine G_ret ?_
      refine inb_ret (thn_ret (res1 (v := In 41) rfl (by kernel_rfl) ?_))
      exact ⟨by simp [nextF, *], H⟩
     · --no
      replace h5 : (a2 &&& (3 : UInt8)) = (0 : UInt8) := neq_F h5
      refine G_skip ?_
      refine inb_normal ?_
      refine thn_normal ?_
      refine G_sr ?_
      refine GL_st 1 1 [(4, In 0)] fun β => ?_
      refine G_ret ?_
      refine res1 (v := In 0) rfl (by kernel_rfl) ?_
      exact ⟨by simp [nextF, *], H⟩
/-- (*posthorn/code.Reader).take -/
theorem c_take_0 (a0 a1 a2 a3 : UInt8) (over : Bool) (c : UInt8) (o : List UInt8) (hb : o.length ≤ 1099511627776) {A : Option Addr} {cp g : Nat} {w0 w : World} {F : List Chunk} (H : Sep w0 w (.blk g 97 [.bool true, By a0, By a1, By a2, By a3, In 0, .bool over, In 0] :: .row (.slice A o.length cp) 5 1 o.length (bs o) :: F)) : Ret Tryd.prog 37 #[.pointer (some ⟨g, 0, none⟩), .slice A o.length cp, .int .u8 (c.toNat : Int)] w (fun r w' => TakePost w0 F g [a0, a1, a2, a3] 0 over c o r w') := by
 refine Ret_enter (args := [Pt g 0, .slice A o.length cp, By c]) Tryd.func37 rfl (by kernel_rfl) ?_
 refine G_forget [(0, Pt g 0), (1, .slice A o.length cp), (2, By c)] (by kernel_rfl) (fun β => ?_)
 refine G_sr ?_
 refine GL_st 2 2 [(0, Pt g 0), (1, .slice A o.length cp), (2, By c)] fun β => ?_
 refine G_sr ?_
 refine GL_s 1 1 [(0, Pt g 0), (1, .slice A o.length cp), (13, By c)] fun β => ?_
 refine GL_C (c_value c _) ?_
 rintro _ _ ⟨rfl, rfl⟩
 refine GL_st 1 3 [(0, Pt g 0), (1, .slice A o.length cp), (8, By (val c))] fun β => ?_
 refine G_seq ?_
 refine G_sr ?_
 refine GL_s 2 2 [(0, Pt g 0), (1, .slice A o.length cp), (8, By (val c)), (15, Pt g 0), (16, By (val c))] fun β => ?_
 replace H : Sep w0 w (.blk g 97 [.bool true, By a0, By a1, By a2, By a3, In 0, .bool over, In 0] :: .row (.slice A o.length cp) 5 1 o.length (bs o) :: F) := H
 refine GL_C (c_next_0 a0 a1 a2 a3 over (val c) H) ?_
 rintro _ w1 ⟨rfl, H⟩
 refine GL_st 1 4 [(0, Pt g 0), (1, .slice A o.length cp), (8, By (val c)), (9, In (nextF [] over (val c)))] fun β => ?_
 refine G_sr ?_
 refine GL_srt 2 2 [(0, Pt g 0), (1, .slice A o.length cp), (8, By (val c)), (9, In (nextF [] over (val c))), (19, .bool ((nextF [] over (val c)) != 0))] (show ([Pt g 0, .slice A o.length cp, .int .u8 ((val c).toNat : Int), .int .i64 ((nextF [] over (val c) : Nat) : Int), .bool (((nextF [] over (val c) : Nat) : Int) != ((0 : Nat) : Int))] : List Value) = [Pt g 0, .slice A o.length cp, By (val c), In (nextF [] over (val c)), .bool ((nextF [] over (val c)) != 0)] by rw [nneq (nextF [] over (val c)) 0]) fun β => ?_
 refine G_cond ((nextF [] over (val c)) != 0) (by kernel_rfl) (fun h0 => ?_) (fun h0 => ?_)
 · --yes
  replace h0 : ¬ ((nextF [] over (val c)) = 0) := neq_T h0
  refine G_sr ?_
  refine GL_st 4 4 [(6, .slice A o.length cp), (7, In (nextF [] over (val c)))] fun β => ?_
  refine G_ret ?_
  refine thn_ret (res2 (v := .slice A o.length cp) (x := In (nextF [] over (val c))) rfl (by kernel_rfl) (by kernel_rfl) ?_)
  replace H := H.front (i := 1) rfl
  replace H := H.front (i := 1) rfl
  replace H : Sep w0 w1 (.blk g 97 [.bool true, By a0, By a1, By a2, By a3, In 0, .bool over, In 0] :: .row (.slice A o.length cp) 5 1 o.length (bs o) :: F) := H
  refine ⟨a0, a1, a2, a3, 0, over, o, _, _, _, rfl, by decide, ?_, H⟩
  first | (simp [stp, grp, *]; done) | (clear H; have e0 := h0; simp only [*] at e0; simp [stp, grp, *]; done)
 · --no
  replace h0 : (nextF [] over (val c)) = 0 := neq_F h0
  refine G_skip ?_
  refine thn_normal ?_
  refine G_seq ?_
  refine G_drawS (fun w => w.cell? ⟨g, 5, none⟩ = some (In 0) ∧ True) 10 10 (by kernel_rfl) (by kernel_rfl) H (fun w2 H => ?_)
  refine HL_takes [0, 1, 2, 3] [(0, Pt g 0), (1, .slice A o.length cp), (8, .int .u8 ((val c).toNat : Int)), (22, Pt g 0), (25, Pt g 5)] (mkL 10 [0, 1, 2, 3]) 6 (by kernel_rfl) rfl (by kernel_rfl) (fun _ => by kernel_rfl) ⟨((H.blk_cell (i := 0) rfl 5).trans rfl), trivial⟩ (fun β => ?_)
  refine HL_t (i := 4) (m := 5) (fun w hS => run_load1 (t := 3) (by kernel_rfl) hS.1) rfl (by kernel_rfl) (by kernel_rfl) (by kernel_rfl) (by kernel_rfl) (by kernel_rfl) (by kernel_rfl) ⟨((H.blk_cell (i := 0) rfl 5).trans rfl), trivial⟩ rfl ?_
  refine HL_takes [5, 6, 7, 8] [(0, Pt g 0), (1, .slice A o.length cp), (8, .int .u8 ((val c).toNat : Int)), (27, .int .u8 ((val c).toNat : Int)), (30, Pt g 1)] (mkL 10 [0, 1, 2, 3, 4, 5, 6, 7, 8]) 1 (by kernel_rfl) rfl (by kernel_rfl) (fun _ => by kernel_rfl) ⟨((H.blk_cell (i := 0) rfl 5).trans rfl), trivial⟩ (fun β => ?_)
  obtain ⟨w3, hr4, H⟩ := R_store (P := Tryd.prog) (t := 5) (v := By (val c)) (off := 1) H (i := 0) rfl (by kernel_rfl) (by kernel_rfl) (by kernel_rfl)
  replace H : Sep w0 w3 (.blk g 97 [.bool true, By (val c), By a1, By a2, By a3, In 0, .bool over, In 0] :: .row (.slice A o.length cp) 5 1 o.length (bs o) :: F) := H
  refine HL_u (i := 9) hr4 rfl (by kernel_rfl) (by kernel_rfl) (by kernel_rfl) (by kernel_rfl) (.inr ⟨((H.blk_cell (i := 0) rfl 5).trans rfl), trivial⟩) ?_
  refine HL_forget [(0, Pt g 0), (1, .slice A o.length cp), (8, By (val c))] (by kernel_rfl) (fun β => ?_)
  refine HL_fin (by kernel_rfl) ?_
  refine thn_normal ?_
  refine G_sr ?_
  refine GL_s 3 3 [(0, Pt g 0), (1, .slice A o.length cp), (8, By (val c)), (31, Pt g 0), (33, Pt g 5)] fun β => ?_
  refine GL_V (run_load1 (t := 3) (by kernel_rfl) ((H.blk_cell (i := 0) rfl 5).trans rfl)) ?_
  refine GL_s 3 7 [(0, Pt g 0), (1, .slice A o.length cp), (8, By (val c)), (35, In 1), (37, Pt g 5)] fun β => ?_
  obtain ⟨w5, hr6, H⟩ := R_store (P := Tryd.prog) (t := 3) (v := In 1) (off := 5) H (i := 0) rfl (by kernel_rfl) (by kernel_rfl) (by kernel_rfl)
  replace H : Sep w0 w5 (.blk g 97 [.bool true, By (val c), By a1, By a2, By a3, In 1, .bool over, In 0] :: .row (.slice A o.length cp) 5 1 o.length (bs o) :: F) := H
  refine GL_U hr6 ?_
  refine GL_et ?_
  refine G_seq ?_
  refine G_sr ?_
  refine GL_s 3 3 [(0, Pt g 0), (1, .slice A o.length cp), (8, By (val c)), (40, Pt g 5)] fun β => ?_
  refine GL_V (run_load1 (t := 3) (by kernel_rfl) ((H.blk_cell (i := 0) rfl 5).trans rfl)) ?_
  refine GL_st 1 5 [(0, Pt g 0), (1, .slice A o.length cp), (8, By (val c)), (42, .bool true)] fun β => ?_
  refine G_true (by kernel_rfl) ?_
  refine G_sr ?_
  refine GL_st 3 3 [(6, .slice A o.length cp), (7, In 0)] fun β => ?_
  refine G_ret ?_
  refine thn_ret (res2 (v := .slice A o.length cp) (x := In 0) rfl (by kernel_rfl) (by kernel_rfl) ?_)
  replace H := H.front (i := 1) rfl
  replace H := H.front (i := 1) rfl
  replace H : Sep w0 w5 (.blk g 97 [.bool true, By (val c), By a1, By a2, By a3, In 1, .bool over, In 0] :: .row (.slice A o.length cp) 5 1 o.length (bs o) :: F) := H
  refine ⟨(val c), a1, a2, a3, 1, over, o, _, _, _, rfl, by decide, ?_, H⟩
  first | (simp [stp, grp, *]; done) | (clear H; have e0 := h0; simp only [*] at e0; simp [stp, grp, *]; done)
/-- (*posthorn/code.Reader).take -/
theorem c_take_1 (a0 a1 a2 a3 : UInt8) (over : Bool) (c : UInt8) (o : List UInt8) (hb : o.length ≤ 1099511627776) {A : Option Addr} {cp g : Nat} {w0 w : World} {F : List Chunk} (H : Sep w0 w (.blk g 97 [.bool true, By a0, By a1, By a2, By a3, In 1, .bool over, In 0] :: .row (.slice A o.length cp) 5 1 o.length (bs o) :: F)) : Ret Tryd.prog 37 #[.pointer (some ⟨g, 0, none⟩), .slice A o.length cp, .int .u8 (c.toNat : Int)] w (fun r w' => TakePost w0 F g [a0, a1, a2, a3] 1 over c o r w') := by
 refine Ret_enter (args := [Pt g 0, .slice A o.length cp, By c]) Tryd.func37 rfl (by kernel_rfl) ?_
 refine G_forget [(0, Pt g 0), (1, .slice A o.length cp), (2, By c)] (by kernel_rfl) (fun β => ?_)
 refine G_sr ?_
 refine GL_st 2 2 [(0, Pt g 0), (1, .slice A o.length cp), (2, By c)] fun β => ?_
 refine G_sr ?_
 refine GL_s 1 1 [(0, Pt g 0), (1, .slice A o.length cp), (13, By c)] fun β => ?_
 refine GL_C (c_value c _) ?_
 rintro _ _ ⟨rfl, rfl⟩
 refine GL_st 1 3 [(0, Pt g 0), (1, .slice A o.length cp), (8, By (val c))] fun β => ?_
 refine G_seq ?_
 refine G_sr ?_
 refine GL_s 2 2 [(0, Pt g 0), (1, .slice A o.length cp), (8, By (val c)), (15, Pt g 0), (16, By (val c))] fun β => ?_
 replace H : Sep w0 w (.blk g 97 [.bool true, By a0, By a1, By a2, By a3, In 1, .bool over, In 0] :: .row (.slice A o.length cp) 5 1 o.length (bs o) :: F) := H
 refine GL_C (c_next_1 a0 a1 a2 a3 over (val c) H) ?_
 rintro _ w1 ⟨rfl, H⟩
 refine GL_st 1 4 [(0, Pt g 0), (1, .slice A o.length cp), (8, By (val c)), (9, In (nextF [a0] over (val c)))] fun β => ?_
 refine G_sr ?_
 refine GL_srt 2 2 [(0, Pt g 0), (1, .slice A o.length cp), (8, By (val c)), (9, In (nextF [a0] over (val c))), (19, .bool ((nextF [a0] over (val c)) != 0))] (show ([Pt g 0, .slice A o.length cp, .int .u8 ((val c).toNat : Int), .int .i64 ((nextF [a0] over (val c) : Nat) : Int), .bool (((nextF [a0] over (val c) : Nat) : Int) != ((0 : Nat) : Int))] : List Value) = [Pt g 0, .slice A o.length cp, By (val c), In (nextF [a0] over (val c)), .bool ((nextF [a0] over (val c)) != 0)] by rw [nneq (nextF [a0] over (val c)) 0]) fun β => ?_
 refine G_cond ((nextF [a0] over (val c)) != 0) (by kernel_rfl) (fun h0 => ?_) (fun h0 => ?_)
 · --yes
  replace h0 : ¬ ((nextF [a0] over (val c)) = 0) := neq_T h0
  refine G_sr ?_
  refine GL_st 4 4 [(6, .slice A o.length cp), (7, In (nextF [a0] over (val c)))] fun β => ?_
  refine G_ret ?_
  refine thn_ret (res2 (v := .slice A o.length cp) (x := In (nextF [a0] over (val c))) rfl (by kernel_rfl) (by kernel_rfl) ?_)
  replace H := H.front (i := 1) rfl
  replace H := H.front (i := 1) rfl
  replace H : Sep w0 w1 (.blk g 97 [.bool true, By a0, By a1, By a2, By a3, In 1, .bool over, In 0] :: .row (.slice A o.length cp) 5 1 o.length (bs o) :: F) := H
  refine ⟨a0, a1, a2, a3, 1, over, o, _, _, _, rfl, by decide, ?_, H⟩
  first | (simp [stp, grp, *]; done) | (clear H; have e0 := h0; simp only [*] at e0; simp [stp, grp, *]; done)
 · --no
  replace h0 : (nextF [a0] over (val c)) = 0 := neq_F h0
  refine G_skip ?_
  refine thn_normal ?_
  refine G_seq ?_
  refine G_drawS (fun w => w.cell? ⟨g, 5, none⟩ = some (In 1) ∧ True) 10 10 (by kernel_rfl) (by kernel_rfl) H (fun w2 H => ?_)
  refine HL_takes [0, 1, 2, 3] [(0, Pt g 0), (1, .slice A o.length cp), (8, .int .u8 ((val c).toNat : Int)), (22, Pt g 0), (25, Pt g 5)] (mkL 10 [0, 1, 2, 3]) 6 (by kernel_rfl) rfl (by kernel_rfl) (fun _ => by kernel_rfl) ⟨((H.blk_cell (i := 0) rfl 5).trans rfl), trivial⟩ (fun β => ?_)
  refine HL_t (i := 4) (m := 5) (fun w hS => run_load1 (t := 3) (by kernel_rfl) hS.1) rfl (by kernel_rfl) (by kernel_rfl) (by kernel_rfl) (by kernel_rfl) (by kernel_rfl) (by kernel_rfl) ⟨((H.blk_cell (i := 0) rfl 5).trans rfl), trivial⟩ rfl ?_
  refine HL_takes [5, 6, 7, 8] [(0, Pt g 0), (1, .slice A o.length cp), (8, .int .u8 ((val c).toNat : Int)), (27, .int .u8 ((val c).toNat : Int)), (30, Pt g 2)] (mkL 10 [0, 1, 2, 3, 4, 5, 6, 7, 8]) 1 (by kernel_rfl) rfl (by kernel_rfl) (fun _ => by kernel_rfl) ⟨((H.blk_cell (i := 0) rfl 5).trans rfl), trivial⟩ (fun β => ?_)
  obtain ⟨w3, hr4, H⟩ := R_store (P := Tryd.prog) (t := 5) (v := By (val c)) (off := 2) H (i := 0) rfl (by kernel_rfl) (by kernel_rfl) (by kernel_rfl)
  replace H : Sep w0 w3 (.blk g 97 [.bool true, By a0, By (val c), By a2, By a3, In 1, .bool over, In 0] :: .row (.slice A o.length cp) 5 1 o.length (bs o) :: F) := H
  refine HL_u (i := 9) hr4 rfl (by kernel_rfl) (by kernel_rfl) (by kernel_rfl) (by kernel_rfl) (.inr ⟨((H.blk_cell (i := 0) rfl 5).trans rfl), trivial⟩) ?_
  refine HL_forget [(0, Pt g 0), (1, .slice A o.length cp), (8, By (val c))] (by kernel_rfl) (fun β => ?_)
  refine HL_fin (by kernel_rfl) ?_
  refine thn_normal ?_
  refine G_sr ?_
  refine GL_s 3 3 [(0, Pt g 0), (1, .slice A o.length cp), (8, By (val c)), (31, Pt g 0), (33, Pt g 5)] fun β => ?_
  refine GL_V (run_load1 (t := 3) (by kernel_rfl) ((H.blk_cell (i := 0) rfl 5).trans rfl)) ?_
  refine GL_s 3 7 [(0, Pt g 0), (1, .slice A o.length cp), (8, By (val c)), (35, In 2), (37, Pt g 5)] fun β => ?_
  obtain ⟨w5, hr6, H⟩ := R_store (P := Tryd.prog) (t := 3) (v := In 2) (off := 5) H (i := 0) rfl (by kernel_rfl) (by kernel_rfl) (by kernel_rfl)
  replace H : Sep w0 w5 (.blk g 97 [.bool true, By a0, By (val c), By a2, By a3, In 2, .bool over, In 0] :: .row (.slice A o.length cp) 5 1 o.length (bs o) :: F) := H
  refine GL_U hr6 ?_
  refine GL_et ?_
  refine G_seq ?_
  refine G_sr ?_
  refine GL_s 3 3 [(0, Pt g 0), (1, .slice A o.length cp), (8, By (val c)), (40, Pt g 5)] fun β => ?_
  refine GL_V (run_load1 (t := 3) (by kernel_rfl) ((H.blk_cell (i := 0) rfl 5).trans rfl)) ?_
  refine GL_st 1 5 [(0, Pt g 0), (1, .slice A o.length cp), (8, By (val c)), (42, .bool true)] fun β => ?_
  refine G_true (by kernel_rfl) ?_
  refine G_sr ?_
  refine GL_st 3 3 [(6, .slice A o.length cp), (7, In 0)] fun β => ?_
  refine G_ret ?_
  refine thn_ret (res2 (v := .slice A o.length cp) (x := In 0) rfl (by kernel_rfl) (by kernel_rfl) ?_)
  replace H := H.front (i := 1) rfl
  replace H := H.front (i := 1) rfl
  replace H : Sep w0 w5 (.blk g 97 [.bool true, By a0, By (val c), By a2, By a3, In 2, .bool over, In 0] :: .row (.slice A o.length cp) 5 1 o.length (bs o) :: F) := H
  refine ⟨a0, (val c), a2, a3, 2, over, o, _, _, _, rfl, by decide, ?_, H⟩
  first | (simp [stp, grp, *]; done) | (clear H; have e0 := h0; simp only [*] at e0; simp [stp, grp, *]; done)
/-- (*posthorn/code.Reader).take -/
theorem c_take_2 (a0 a1 a2 a3 : UInt8) (over : Bool) (c : UInt8) (o : List UInt8) (hb : o.length ≤ 1099511627776) {A : Option Addr} {cp g : Nat} {w0 w : World} {F : List Chunk} (H : Sep w0 w (.blk g 97 [.bool true, By a0, By a1, By a2, By a3, In 2, .bool over, In 0] :: .row (.slice A o.length cp) 5 1 o.length (bs o) :: F)) : Ret Tryd.prog 37 #[.pointer (some ⟨g, 0, none⟩), .slice A o.length cp, .int .u8 (c.toNat : Int)] w (fun r w' => TakePost w0 F g [a0, a1, a2, a3] 2 over c o r w') := by
 refine Ret_enter (args := [Pt g 0, .slice A o.length cp, By c]) Tryd.func37 rfl (by kernel_rfl) ?_
 refine G_forget [(0, Pt g 0), (1, .slice A o.length cp), (2, By c)] (by kernel_rfl) (fun β => ?_)
 refine G_sr ?_
 refine GL_st 2 2 [(0, Pt g 0), (1, .slice A o.length cp), (2, By c)] fun β => ?_
 refine G_sr ?_
 refine GL_s 1 1 [(0, Pt g 0), (1, .slice A o.length cp), (13, By c)] fun β => ?_
 refine GL_C (c_value c _) ?_
 rintro _ _ ⟨rfl, rfl⟩
 refine GL_st 1 3 [(0, Pt g 0), (1, .slice A o.length cp), (8, By (val c))] fun β => ?_
 refine G_seq ?_
 refine G_sr ?_
 refine GL_s 2 2 [(0, Pt g 0), (1, .slice A o.length cp), (8, By (val c)), (15, Pt g 0), (16, By (val c))] fun β => ?_
 replace H : Sep w0 w (.blk g 97 [.bool true, By a0, By a1, By a2, By a3, In 2, .bool over, In 0] :: .row (.slice A o.length cp) 5 1 o.length (bs o) :: F) := H
 refine GL_C (c_next_2 a0 a1 a2 a3 over (val c) H) ?_
 rintro _ w1 ⟨rfl, H⟩
 refine GL_st 1 4 [(0, Pt g 0), (1, .slice A o.length cp), (8, By (val c)), (9, In (nextF [a0, a1] over (val c)))] fun β => ?_
 refine G_sr ?_
 refine GL_srt 2 2 [(0, Pt g 0), (1, .slice A o.length cp), (8, By (val c)), (9, In (nextF [a0, a1] over (val c))), (19, .bool ((nextF [a0, a1] over (val c)) != 0))] (show ([Pt g 0, .slice A o.length cp, .int .u8 ((val c).toNat : Int), .int .i64 ((nextF [a0, a1] over (val c) : Nat) : Int), .bool (((nextF [a0, a1] over (val c) : Nat) : Int) != ((0 : Nat) : Int))] : List Value) = [Pt g 0, .slice A o.length cp, By (val c), In (nextF [a0, a1] over (val c)), .bool ((nextF [a0, a1] over (val c)) != 0)] by rw [nneq (nextF [a0, a1] over (val c)) 0]) fun β => ?_
 refine G_cond ((nextF [a0, a1] over (val c)) != 0) (by kernel_rfl) (fun h0 => ?_) (fun h0 => ?_)
 · --yes
  replace h0 : ¬ ((nextF [a0, a1] over (val c)) = 0) := neq_T h0
  refine G_sr ?_
  refine GL_st 4 4 [(6, .slice A o.length cp), (7, In (nextF [a0, a1] over (val c)))] fun β => ?_
  refine G_ret ?_
  refine thn_ret (res2 (v := .slice A o.length cp) (x := In (nextF [a0, a1] over (val c))) rfl (by kernel_rfl) (by kernel_rfl) ?_)
  replace H := H.front (i := 1) rfl
  replace H := H.front (i := 1) rfl
  replace H : Sep w0 w1 (.blk g 97 [.bool true, By a0, By a1, By a2, By a3, In 2, .bool over, In 0] :: .row (.slice A o.length cp) 5 1 o.length (bs o) :: F) := H
  refine ⟨a0, a1, a2, a3, 2, over, o, _, _, _, rfl, by decide, ?_, H⟩
  first | (simp [stp, grp, *]; done) | (clear H; have e0 := h0; simp only [*] at e0; simp [stp, grp, *]; done)
 · --no
  replace h0 : (nextF [a0, a1] over (val c)) = 0 := neq_F h0
  refine G_skip ?_
  refine thn_normal ?_
  refine G_seq ?_
  refine G_drawS (fun w => w.cell? ⟨g, 5, none⟩ = some (In 2) ∧ True) 10 10 (by kernel_rfl) (by kernel_rfl) H (fun w2 H => ?_)
  refine HL_takes [0, 1, 2, 3] [(0, Pt g 0), (1, .slice A o.length cp), (8, .int .u8 ((val c).toNat : Int)), (22, Pt g 0), (25, Pt g 5)] (mkL 10 [0, 1, 2, 3]) 6 (by kernel_rfl) rfl (by kernel_rfl) (fun _ => by kernel_rfl) ⟨((H.blk_cell (i := 0) rfl 5).trans rfl), trivial⟩ (fun β => ?_)
  refine HL_t (i := 4) (m := 5) (fun w hS => run_load1 (t := 3) (by kernel_rfl) hS.1) rfl (by kernel_rfl) (by kernel_rfl) (by kernel_rfl) (by kernel_rfl) (by kernel_rfl) (by kernel_rfl) ⟨((H.blk_cell (i := 0) rfl 5).trans rfl), trivial⟩ rfl ?_
  refine HL_takes [5, 6, 7, 8] [(0, Pt g 0), (1, .slice A o.length cp), (8, .int .u8 ((val c).toNat : Int)), (27, .int .u8 ((val c).toNat : Int)), (30, Pt g 3)] (mkL 10 [0, 1, 2, 3, 4, 5, 6, 7, 8]) 1 (by kernel_rfl) rfl (by kernel_rfl) (fun _ => by kernel_rfl) ⟨((H.blk_cell (i := 0) rfl 5).trans rfl), trivial⟩ (fun β => ?_)
  obtain ⟨w3, hr4, H⟩ := R_store (P := Tryd.prog) (t := 5) (v := By (val c)) (off := 3) H (i := 0) rfl (by kernel_rfl) (by kernel_rfl) (by kernel_rfl)
  replace H : Sep w0 w3 (.blk g 97 [.bool true, By a0, By a1, By (val c), By a3, In 2, .bool over, In 0] :: .row (.slice A o.length cp) 5 1 o.length (bs o) :: F) := H
  refine HL_u (i := 9) hr4 rfl (by kernel_rfl) (by kernel_rfl) (by kernel_rfl) (by kernel_rfl) (.inr ⟨((H.blk_cell (i := 0) rfl 5).trans rfl), trivial⟩) ?_
  refine HL_forget [(0, Pt g 0), (1, .slice A o.length cp), (8, By (val c))] (by kernel_rfl) (fun β => ?_)
  refine HL_fin (by kernel_rfl) ?_
  refine thn_normal ?_
  refine G_sr ?_
  refine GL_s 3 3 [(0, Pt g 0), (1, .slice A o.length cp), (8, By (val c)), (31, Pt g 0), (33, Pt g 5)] fun β => ?_
  refine GL_V (run_load1 (t := 3) (by kernel_rfl) ((H.blk_cell (i := 0) rfl 5).trans rfl)) ?_
  refine GL_s 3 7 [(0, Pt g 0), (1, .slice A o.length cp), (8, By (val c)), (35, In 3), (37, Pt g 5)] fun β => ?_
  obtain ⟨w5, hr6, H⟩ := R_store (P := Tryd.prog) (t := 3) (v := In 3) (off := 5) H (i := 0) rfl (by kernel_rfl) (by kernel_rfl) (by kernel_rfl)
  replace H : Sep w0 w5 (.blk g 97 [.bool true, By a0, By a1, By (val c), By a3, In 3, .bool over, In 0] :: .row (.slice A o.length cp) 5 1 o.length (bs o) :: F) := H
  refine GL_U hr6 ?_
  refine GL_et ?_
  refine G_seq ?_
  refine G_sr ?_
  refine GL_s 3 3 [(0, Pt g 0), (1, .slice A o.length cp), (8, By (val c)), (40, Pt g 5)] fun β => ?_
  refine GL_V (run_load1 (t := 3) (by kernel_rfl) ((H.blk_cell (i := 0) rfl 5).trans rfl)) ?_
  refine GL_st 1 5 [(0, Pt g 0), (1, .slice A o.length cp), (8, By (val c)), (42, .bool true)] fun β => ?_
  refine G_true (by kernel_rfl) ?_
  refine G_sr ?_
  refine GL_st 3 3 [(6, .slice A o.length cp), (7, In 0)] fun β => ?_
  refine G_ret ?_
  refine thn_ret (res2 (v := .slice A o.length cp) (x := In 0) rfl (by kernel_rfl) (by kernel_rfl) ?_)
  replace H := H.front (i := 1) rfl
  replace H := H.front (i := 1) rfl
  replace H : Sep w0 w5 (.blk g 97 [.bool true, By a0, By a1, By (val c), By a3, In 3, .bool over, In 0] :: .row (.slice A o.length cp) 5 1 o.length (bs o) :: F) := H
  refine ⟨a0, a1, (val c), a3, 3, over, o, _, _, _, rfl, by decide, ?_, H⟩
  first | (simp [stp, grp, *]; done) | (clear H; have e0 := h0; simp only [*] at e0; simp [stp, grp, *]; done)
/-- (*posthorn/code.Reader).take -/
theorem c_take_3 (a0 a1 a2 a3 : UInt8) (over : Bool) (c : UInt8) (o : List UInt8) (hb : o.length ≤ 1099511627776) {A : Option Addr} {cp g : Nat} {w0 w : World} {F : List Chunk} (H : Sep w0 w (.blk g 97 [.bool true, By a0, By a1, By a2, By a3, In 3, .bool over, In 0] :: .row (.slice A o.length cp) 5 1 o.length (bs o) :: F)) : Ret Tryd.prog 37 #[.pointer (some ⟨g, 0, none⟩), .slice A o.length cp, .int .u8 (c.toNat : Int)] w (fun r w' => TakePost w0 F g [a0, a1, a2, a3] 3 over c o r w') := by
 refine Ret_enter (args := [Pt g 0, .slice A o.length cp, By c]) Tryd.func37 rfl (by kernel_rfl) ?_
 refine G_forget [(0, Pt g 0), (1, .slice A o.length cp), (2, By c)] (by kernel_rfl) (fun β => ?_)
 refine G_sr ?_
 refine GL_st 2 2 [(0, Pt g 0), (1, .slice A o.length cp), (2, By c)] fun β => ?_
 refine G_sr ?_
 refine GL_s 1 1 [(0, Pt g 0), (1, .slice A o.length cp), (13, By c)] fun β => ?_
 refine GL_C (c_value c _) ?_
 rintro _ _ ⟨rfl, rfl⟩
 refine GL_st 1 3 [(0, Pt g 0), (1, .slice A o.length cp), (8, By (val c))] fun β => ?_
 refine G_seq ?_
 refine G_sr ?_
 refine GL_s 2 2 [(0, Pt g 0), (1, .slice A o.length cp), (8, By (val c)), (15, Pt g 0), (16, By (val c))] fun β => ?_
 replace H : Sep w0 w (.blk g 97 [.bool true, By a0, By a1, By a2, By a3, In 3, .bool over, In 0] :: .row (.slice A o.length cp) 5 1 o.length (bs o) :: F) := H
 refine GL_C (c_next_3 a0 a1 a2 a3 over (val c) H) ?_
 rintro _ w1 ⟨rfl, H⟩
 refine GL_st 1 4 [(0, Pt g 0), (1, .slice A o.length cp), (8, By (val c)), (9, In (nextF [a0, a1, a2] over (val c)))] fun β => ?_
 refine G_sr ?_
 refine GL_srt 2 2 [(0, Pt g 0), (1, .slice A o.length cp), (8, By (val c)), (9, In (nextF [a0, a1, a2] over (val c))), (19, .bool ((nextF [a0, a1, a2] over (val c)) != 0))] (show ([Pt g 0, .slice A o.length cp, .int .u8 ((val c).toNat : Int), .int .i64 ((nextF [a0, a1, a2] over (val c) : Nat) : Int), .bool (((nextF [a0, a1, a2] over (val c) : Nat) : Int) != ((0 : Nat) : Int))] : List Value) = [Pt g 0, .slice A o.length cp, By (val c), In (nextF [a0, a1, a2] over (val c)), .bool ((nextF [a0, a1, a2] over (val c)) != 0)] by rw [nneq (nextF [a0, a1, a2] over (val c)) 0]) fun β => ?_
 refine G_cond ((nextF [a0, a1, a2] over (val c)) != 0) (by kernel_rfl) (fun h0 => ?_) (fun h0 => ?_)
 · --yes
  replace h0 : ¬ ((nextF [a0, a1, a2] over (val c)) = 0) := neq_T h0
  refine G_sr ?_
  refine GL_st 4 4 [(6, .slice A o.length cp), (7, In (nextF [a0, a1, a2] over (val c)))] fun β => ?_
  refine G_ret ?_
  refine thn_ret (res2 (v := .slice A o.length cp) (x := In (nextF [a0, a1, a2] over (val c))) rfl (by kernel_rfl) (by kernel_rfl) ?_)
  replace H := H.front (i := 1) rfl
  replace H := H.front (i := 1) rfl
  replace H : Sep w0 w1 (.blk g 97 [.bool true, By a0, By a1, By a2, By a3, In 3, .bool over, In 0] :: .row (.slice A o.length cp) 5 1 o.length (bs o) :: F) := H
  refine ⟨a0, a1, a2, a3, 3, over, o, _, _, _, rfl, by decide, ?_, H⟩
  first | (simp [stp, grp, *]; done) | (clear H; have e0 := h0; simp only [*] at e0; simp [stp, grp, *]; done)
 · --no
  replace h0 : (nextF [a0, a1, a2] over (val c)) = 0 := neq_F h0
  refine G_skip ?_
  refine thn_normal ?_
  refine G_seq ?_
  refine G_drawS (fun w => w.cell? ⟨g, 5, none⟩ = some (In 3) ∧ True) 10 10 (by kernel_rfl) (by kernel_rfl) H (fun w2 H => ?_)
  refine HL_takes [0, 1, 2, 3] [(0, Pt g 0), (1, .slice A o.length cp), (8, .int .u8 ((val c).toNat : Int)), (22, Pt g 0), (25, Pt g 5)] (mkL 10 [0, 1, 2, 3]) 6 (by kernel_rfl) rfl (by kernel_rfl) (fun _ => by kernel_rfl) ⟨((H.blk_cell (i := 0) rfl 5).trans rfl), trivial⟩ (fun β => ?_)
  refine HL_t (i := 4) (m := 5) (fun w hS => run_load1 (t := 3) (by kernel_rfl) hS.1) rfl (by kernel_rfl) (by kernel_rfl) (by kernel_rfl) (by kernel_rfl) (by kernel_rfl) (by kernel_rfl) ⟨((H.blk_cell (i := 0) rfl 5).trans rfl), trivial⟩ rfl ?_
  refine HL_takes [5, 6, 7, 8] [(0, Pt g 0), (1, .slice A o.length cp), (8, .int .u8 ((val c).toNat : Int)), (27, .int .u8 ((val c).toNat : Int)), (30, Pt g 4)] (mkL 10 [0, 1, 2, 3, 4, 5, 6, 7, 8]) 1 (by kernel_rfl) rfl (by kernel_rfl) (fun _ => by kernel_rfl) ⟨((H.blk_cell (i := 0) rfl 5).trans rfl), trivial⟩ (fun β => ?_)
  obtain ⟨w3, hr4, H⟩ := R_store (P := Tryd.prog) (t := 5) (v := By (val c)) (off := 4) H (i := 0) rfl (by kernel_rfl) (by kernel_rfl) (by kernel_rfl)
  replace H : Sep w0 w3 (.blk g 97 [.bool true, By a0, By a1, By a2, By (val c), In 3, .bool over, In 0] :: .row (.slice A o.length cp) 5 1 o.length (bs o) :: F) := H
  refine HL_u (i := 9) hr4 rfl (by kernel_rfl) (by kernel_rfl) (by kernel_rfl) (by kernel_rfl) (.inr ⟨((H.blk_cell (i := 0) rfl 5).trans rfl), trivial⟩) ?_
  refine HL_forget [(0, Pt g 0), (1, .slice A o.length cp), (8, By (val c))] (by kernel_rfl) (fun β => ?_)
  refine HL_fin (by kernel_rfl) ?_
  refine thn_normal ?_
  refine G_sr ?_
  refine GL_s 3 3 [(0, Pt g 0), (1, .slice A o.length cp), (8, By (val c)), (31, Pt g 0), (33, Pt g 5)] fun β => ?_
  refine GL_V (run_load1 (t := 3) (by kernel_rfl) ((H.blk_cell (i := 0) rfl 5).trans rfl)) ?_
  refine GL_s 3 7 [(0, Pt g 0), (1, .slice A o.length cp), (8, By (val c)), (35, In 4), (37, Pt g 5)] fun β => ?_
  obtain ⟨w5, hr6, H⟩ := R_store (P := Tryd.prog) (t := 3) (v := In 4) (off := 5) H (i := 0) rfl (by kernel_rfl) (by kernel_rfl) (by kernel_rfl)
  replace H : Sep w0 w5 (.blk g 97 [.bool true, By a0, By a1, By a2, By (val c), In 4, .bool over, In 0] :: .row (.slice A o.length cp) 5 1 o.length (bs o) :: F) := H
  refine GL_U hr6 ?_
  refine GL_et ?_
  refine G_seq ?_
  refine G_sr ?_
  refine GL_s 3 3 [(0, Pt g 0), (1, .slice A o.length cp), (8, By (val c)), (40, Pt g 5)] fun β => ?_
  refine GL_V (run_load1 (t := 3) (by kernel_rfl) ((H.blk_cell (i := 0) rfl 5).trans rfl)) ?_
  refine GL_st 1 5 [(0, Pt g 0), (1, .slice A o.length cp), (8, By (val c)), (42, .bool false)] fun β => ?_
  refine G_false (by kernel_rfl) ?_
  refine G_skip ?_
  refine thn_normal ?_
  refine G_sr ?_
  refine GL_s 3 3 [(0, Pt g 0), (1, .slice A o.length cp), (8, By (val c)), (46, Pt g 5)] fun β => ?_
  obtain ⟨w7, hr8, H⟩ := R_store (P := Tryd.prog) (t := 3) (v := In 0) (off := 5) H (i := 0) rfl (by kernel_rfl) (by kernel_rfl) (by kernel_rfl)
  replace H : Sep w0 w7 (.blk g 97 [.bool true, By a0, By a1, By a2, By (val c), In 0, .bool over, In 0] :: .row (.slice A o.length cp) 5 1 o.length (bs o) :: F) := H
  refine GL_U hr8 ?_
  refine GL_et ?_
  refine G_sr ?_
  refine GL_sr 5 5 [(0, Pt g 0), (1, .slice A o.length cp), (49, .bool ((val c) == (64 : UInt8))), (51, Pt g 6)] (show ([Pt g 0, .slice A o.length cp, .bool (((val c).toNat : Int) == ((64 : UInt8).toNat : Int)), Pt g 6] : List Value) = [Pt g 0, .slice A o.length cp, .bool ((val c) == (64 : UInt8)), Pt g 6] by rw [Kw.u8_eql (val c) (64 : UInt8)]) fun β => ?_
  obtain ⟨w9, hr10, H⟩ := R_store (P := Tryd.prog) (t := 4) (v := .bool ((val c) == (64 : UInt8))) (off := 6) H (i := 0) rfl (by kernel_rfl) (by kernel_rfl) (by kernel_rfl)
  replace H : Sep w0 w9 (.blk g 97 [.bool true, By a0, By a1, By a2, By (val c), In 0, .bool ((val c) == (64 : UInt8)), In 0] :: .row (.slice A o.length cp) 5 1 o.length (bs o) :: F) := H
  refine GL_U hr10 ?_
  refine GL_et ?_
  refine G_sr ?_
  refine GL_s 3 3 [(1, .slice A o.length cp), (54, Pt g 1)] fun β => ?_
  refine GL_V (run_loadN (t := 95) (vs := [By a0, By a1, By a2, By (val c)]) (by kernel_rfl) (by kernel_rfl) (H.blk_cells (i := 0) rfl 1 _ ⟨_, rfl⟩)) ?_
  refine GL_new (V := fun g => Pt g 0) (l := [By (0 : UInt8), By (0 : UInt8), By (0 : UInt8), By (0 : UInt8)]) (t := 95) H rfl (by kernel_rfl) (by kernel_rfl) (by kernel_rfl) (fun g11 w12 H => ?_)
  obtain ⟨w13, hr14, H⟩ := R_store (P := Tryd.prog) (t := 95) (v := .agg #[By a0, By a1, By a2, By (val c)]) (off := 0) H (i := 0) rfl (by kernel_rfl) (by kernel_rfl) (by kernel_rfl)
  replace H : Sep w0 w13 (.blk g11 95 [By a0, By a1, By a2, By (val c)] :: .blk g 97 [.bool true, By a0, By a1, By a2, By (val c), In 0, .bool ((val c) == (64 : UInt8)), In 0] :: .row (.slice A o.length cp) 5 1 o.length (bs o) :: F) := H
  refine GL_U hr14 ?_
  refine GL_et ?_
  refine G_sr ?_
  refine GL_new (V := fun g => Pt g 0) (l := [By (0 : UInt8), By (0 : UInt8), By (0 : UInt8)]) (t := 109) H rfl (by kernel_rfl) (by kernel_rfl) (by kernel_rfl) (fun g15 w16 H => ?_)
  refine GL_et ?_
  refine G_sr ?_
  refine GL_st 1 1 [(1, .slice A o.length cp), (10, Pt g11 0), (11, Pt g15 0), (12, In 3)] fun β => ?_
  refine G_seq ?_
  refine G_sr ?_
  refine GL_s 1 1 [(1, .slice A o.length cp), (10, Pt g11 0), (11, Pt g15 0), (12, In 3), (56, Pt g11 2)] fun β => ?_
  refine GL_V (run_load1 (t := 5) (by kernel_rfl) ((H.blk_cell (i := 1) rfl 2).trans rfl)) ?_
  refine GL_srt 1 3 [(1, .slice A o.length cp), (10, Pt g11 0), (11, Pt g15 0), (12, In 3), (58, .bool (a2 == (64 : UInt8)))] (show ([.slice A o.length cp, Pt g11 0, Pt g15 0, .int .i64 ((3 : Nat) : Int), .bool ((a2.toNat : Int) == ((64 : UInt8).toNat : Int))] : List Value) = [.slice A o.length cp, Pt g11 0, Pt g15 0, In 3, .bool (a2 == (64 : UInt8))] by rw [Kw.u8_eql a2 (64 : UInt8)]) fun β => ?_
  refine G_cond (a2 == (64 : UInt8)) (by kernel_rfl) (fun h1 => ?_) (fun h1 => ?_)
  · --yes
   replace h1 : a2 = (64 : UInt8) := eql_T h1
   refine G_region ?_
   refine GL_st 1 1 [(1, .slice A o.length cp), (10, Pt g11 0), (11, Pt g15 0), (12, In 1)] fun β => ?_
   refine G_seq ?_
   refine G_sr ?_
   refine GL_st 1 1 [(1, .slice A o.length cp), (10, Pt g11 0), (11, Pt g15 0), (12, In 1), (62, In 1)] fun β => ?_
   refine G_block ?_
   refine G_seq ?_
   refine G_block ?_
   refine G_seq ?_
   refine G_block ?_
   refine G_seq ?_
   refine G_block ?_
   refine G_seq ?_
   refine G_seq ?_
   refine G_sr ?_
   refine GL_st 2 2 [(1, .slice A o.length cp), (10, Pt g11 0), (11, Pt g15 0), (12, In 1), (62, In 1), (63, .bool false)] fun β => ?_
   refine G_false (by kernel_rfl) ?_
   refine G_skip ?_
   refine thn_normal ?_
   refine G_sr ?_
   refine GL_st 2 2 [(1, .slice A o.length cp), (10, Pt g11 0), (11, Pt g15 0), (12, In 1), (65, .bool false)] fun β => ?_
   refine G_false (by kernel_rfl) ?_
   refine G_skip ?_
   refine thn_normal ?_
   refine G_exit (inb_miss rfl (thn_exit (inb_miss rfl (thn_exit (inb_hit ?_)))))
   refine thn_normal ?_
   refine G_sr ?_
   refine GL_s 1 1 [(1, .slice A o.length cp), (10, Pt g11 0), (11, Pt g15 0), (12, In 1), (82, Pt g11 0)] fun β => ?_
   refine GL_V (run_load1 (t := 5) (by kernel_rfl) ((H.blk_cell (i := 1) rfl 0).trans rfl)) ?_
   refine GL_sr 2 4 [(1, .slice A o.length cp), (11, Pt g15 0), (12, In 1), (84, By (a0 <<< 2)), (85, Pt g11 1)] (show ([.slice A o.length cp, Pt g15 0, .int .i64 ((1 : Nat) : Int), .int .u8 (IntKind.u8.wrap ((a0.toNat : Int) * 2 ^ 2)), Pt g11 1] : List Value) = [.slice A o.length cp, Pt g15 0, In 1, By (a0 <<< 2), Pt g11 1] by rw [Kw.u8_shl a0 2 2 rfl (by decide)]) fun β => ?_
   refine GL_V (run_load1 (t := 5) (by kernel_rfl) ((H.blk_cell (i := 1) rfl 1).trans rfl)) ?_
   refine GL_sr 3 8 [(1, .slice A o.length cp), (11, Pt g15 0), (12, In 1), (88, By ((a0 <<< 2) ||| (a1 >>> 4))), (89, Pt g15 0)] (show ([.slice A o.length cp, Pt g15 0, .int .i64 ((1 : Nat) : Int), .int .u8 (bor .u8 ((a0 <<< 2).toNat : Int) ((a1.toNat : Int).fdiv (2 ^ 4))), Pt g15 0] : List Value) = [.slice A o.length cp, Pt g15 0, In 1, By ((a0 <<< 2) ||| (a1 >>> 4)), Pt g15 0] by rw [Kw.u8_shr a1 4 4 rfl (by decide), Kw.u8_or (a0 <<< 2) (a1 >>> 4)]) fun β => ?_
   obtain ⟨w17, hr18, H⟩ := R_store (P := Tryd.prog) (t := 5) (v := By ((a0 <<< 2) ||| (a1 >>> 4))) (off := 0) H (i := 0) rfl (by kernel_rfl) (by kernel_rfl) (by kernel_rfl)
   replace H : Sep w0 w17 (.blk g15 109 [By ((a0 <<< 2) ||| (a1 >>> 4)), By (0 : UInt8), By (0 : UInt8)] :: .blk g11 95 [By a0, By a1, By a2, By (val c)] :: .blk g 97 [.bool true, By a0, By a1, By a2, By (val c), In 0, .bool ((val c) == (64 : UInt8)), In 0] :: .row (.slice A o.length cp) 5 1 o.length (bs o) :: F) := H
   refine GL_U hr18 ?_
   refine GL_et ?_
   refine G_exit (inb_hit ?_)
   refine thn_normal ?_
   refine G_sr ?_
   refine GL_s 3 3 [(90, .slice A o.length cp), (92, .slice (some ⟨g15, 0, none⟩) 1 3)] fun β => ?_
   obtain ⟨A19, c20, w21, o23, ho24, hl25, hr22, H⟩ := R_append8 (P := Tryd.prog) (t := 68) (ty := 68) (l := o) (news := [(a0 <<< 2) ||| (a1 >>> 4)]) H (i := 3) rfl (by kernel_rfl) (Src.blkp (m := 1) (c := 3) (off := 0) H (i := 0) rfl [By ((a0 <<< 2) ||| (a1 >>> 4))] rfl ⟨_, rfl⟩) rfl (by omega)
   replace H : Sep w0 w21 (.blk g15 109 [By ((a0 <<< 2) ||| (a1 >>> 4)), By (0 : UInt8), By (0 : UInt8)] :: .blk g11 95 [By a0, By a1, By a2, By (val c)] :: .blk g 97 [.bool true, By a0, By a1, By a2, By (val c), In 0, .bool ((val c) == (64 : UInt8)), In 0] :: .row (.slice A19 o23.length c20) 5 1 o23.length (bs o23) :: F) := H
   refine GL_V hr22 ?_
   refine GL_st 2 6 [(6, .slice A19 o23.length c20), (7, In 0)] fun β => ?_
   refine G_ret ?_
   refine res2 (v := .slice A19 o23.length c20) (x := In 0) rfl (by kernel_rfl) (by kernel_rfl) ?_
   replace H := H.drop 1
   replace H := H.drop 0
   replace H := H.front (i := 1) rfl
   replace H := H.front (i := 1) rfl
   replace H : Sep w0 w21 (.blk g 97 [.bool true, By a0, By a1, By a2, By (val c), In 0, .bool ((val c) == (64 : UInt8)), In 0] :: .row (.slice A19 o23.length c20) 5 1 o23.length (bs o23) :: F) := H
   refine ⟨a0, a1, a2, (val c), 0, ((val c) == (64 : UInt8)), o23, _, _, _, rfl, by decide, ?_, H⟩
   first | (simp [stp, grp, *]; done) | (clear H; have e0 := h0; simp only [*] at e0; simp [stp, grp, *]; done)
  · --no
   replace h1 : ¬ (a2 = (64 : UInt8)) := eql_F h1
   refine G_sr ?_
   refine GL_s 1 1 [(1, .slice A o.length cp), (10, Pt g11 0), (11, Pt g15 0), (12, In 3), (59, Pt g11 3)] fun β => ?_
   refine GL_V (run_load1 (t := 5) (by kernel_rfl) ((H.blk_cell (i := 1) rfl 3).trans rfl)) ?_
   refine GL_srt 1 3 [(1, .slice A o.length cp), (10, Pt g11 0), (11, Pt g15 0), (12, In 3), (61, .bool ((val c) == (64 : UInt8)))] (show ([.slice A o.length cp, Pt g11 0, Pt g15 0, .int .i64 ((3 : Nat) : Int), .bool (((val c).toNat : Int) == ((64 : UInt8).toNat : Int))] : List Value) = [.slice A o.length cp, Pt g11 0, Pt g15 0, In 3, .bool ((val c) == (64 : UInt8))] by rw [Kw.u8_eql (val c) (64 : UInt8)]) fun β => ?_
   refine G_cond ((val c) == (64 : UInt8)) (by kernel_rfl) (fun h2 => ?_) (fun h2 => ?_)
   · --yes
    replace h2 : (val c) = (64 : UInt8) := eql_T h2
    refine G_region ?_
    refine GL_st 1 1 [(1, .slice A o.length cp), (10, Pt g11 0), (11, Pt g15 0), (12, In 2)] fun β => ?_
    refine G_seq ?_
    refine G_sr ?_
    refine GL_st 1 1 [(1, .slice A o.length cp), (10, Pt g11 0), (11, Pt g15 0), (12, In 2), (62, In 2)] fun β => ?_
    refine G_block ?_
    refine G_seq ?_
    refine G_block ?_
    refine G_seq ?_
    refine G_block ?_
    refine G_seq ?_
    refine G_block ?_
    refine G_seq ?_
    refine G_seq ?_
    refine G_sr ?_
    refine GL_st 2 2 [(1, .slice A o.length cp), (10, Pt g11 0), (11, Pt g15 0), (12, In 2), (62, In 2), (63, .bool false)] fun β => ?_
    refine G_false (by kernel_rfl) ?_
    refine G_skip ?_
    refine thn_normal ?_
    refine G_sr ?_
    refine GL_st 2 2 [(1, .slice A o.length cp), (10, Pt g11 0), (11, Pt g15 0), (12, In 2), (65, .bool true)] fun β => ?_
    refine G_true (by kernel_rfl) ?_
    refine G_exit (thn_exit (inb_miss rfl (thn_exit (inb_hit ?_))))
    refine thn_normal ?_
    refine G_region ?_
    refine GL_s 1 1 [(1, .slice A o.length cp), (10, Pt g11 0), (11, Pt g15 0), (12, In 2), (74, Pt g11 1)] fun β => ?_
    refine GL_V (run_load1 (t := 5) (by kernel_rfl) ((H.blk_cell (i := 1) rfl 1).trans rfl)) ?_
    refine GL_sr 2 4 [(1, .slice A o.length cp), (10, Pt g11 0), (11, Pt g15 0), (12, In 2), (76, By (a1 <<< 4)), (77, Pt g11 2)] (show ([.slice A o.length cp, Pt g11 0, Pt g15 0, .int .i64 ((2 : Nat) : Int), .int .u8 (IntKind.u8.wrap ((a1.toNat : Int) * 2 ^ 4)), Pt g11 2] : List Value) = [.slice A o.length cp, Pt g11 0, Pt g15 0, In 2, By (a1 <<< 4), Pt g11 2] by rw [Kw.u8_shl a1 4 4 rfl (by decide)]) fun β => ?_
    refine GL_V (run_load1 (t := 5) (by kernel_rfl) ((H.blk_cell (i := 1) rfl 2).trans rfl)) ?_
    refine GL_sr 3 8 [(1, .slice A o.length cp), (10, Pt g11 0), (11, Pt g15 0), (12, In 2), (80, By ((a1 <<< 4) ||| (a2 >>> 2))), (81, Pt g15 1)] (show ([.slice A o.length cp, Pt g11 0, Pt g15 0, .int .i64 ((2 : Nat) : Int), .int .u8 (bor .u8 ((a1 <<< 4).toNat : Int) ((a2.toNat : Int).fdiv (2 ^ 2))), Pt g15 1] : List Value) = [.slice A o.length cp, Pt g11 0, Pt g15 0, In 2, By ((a1 <<< 4) ||| (a2 >>> 2)), Pt g15 1] by rw [Kw.u8_shr a2 2 2 rfl (by decide), Kw.u8_or (a1 <<< 4) (a2 >>> 2)]) fun β => ?_
    obtain ⟨w26, hr27, H⟩ := R_store (P := Tryd.prog) (t := 5) (v := By ((a1 <<< 4) ||| (a2 >>> 2))) (off := 1) H (i := 0) rfl (by kernel_rfl) (by kernel_rfl) (by kernel_rfl)
    replace H : Sep w0 w26 (.blk g15 109 [By (0 : UInt8), By ((a1 <<< 4) ||| (a2 >>> 2)), By (0 : UInt8)] :: .blk g11 95 [By a0, By a1, By a2, By (val c)] :: .blk g 97 [.bool true, By a0, By a1, By a2, By (val c), In 0, .bool ((val c) == (64 : UInt8)), In 0] :: .row (.slice A o.length cp) 5 1 o.length (bs o) :: F) := H
    refine GL_U hr27 ?_
    refine GL_end (by kernel_rfl) ?_
    refine inb_normal ?_
    refine thn_normal ?_
    refine G_sr ?_
    refine GL_s 1 1 [(1, .slice A o.length cp), (10, Pt g11 0), (11, Pt g15 0), (12, In 2), (82, Pt g11 0)] fun β => ?_
    refine GL_V (run_load1 (t := 5) (by kernel_rfl) ((H.blk_cell (i := 1) rfl 0).trans rfl)) ?_
    refine GL_sr 2 4 [(1, .slice A o.length cp), (11, Pt g15 0), (12, In 2), (84, By (a0 <<< 2)), (85, Pt g11 1)] (show ([.slice A o.length cp, Pt g15 0, .int .i64 ((2 : Nat) : Int), .int .u8 (IntKind.u8.wrap ((a0.toNat : Int) * 2 ^ 2)), Pt g11 1] : List Value) = [.slice A o.length cp, Pt g15 0, In 2, By (a0 <<< 2), Pt g11 1] by rw [Kw.u8_shl a0 2 2 rfl (by decide)]) fun β => ?_
    refine GL_V (run_load1 (t := 5) (by kernel_rfl) ((H.blk_cell (i := 1) rfl 1).trans rfl)) ?_
    refine GL_sr 3 8 [(1, .slice A o.length cp), (11, Pt g15 0), (12, In 2), (88, By ((a0 <<< 2) ||| (a1 >>> 4))), (89, Pt g15 0)] (show ([.slice A o.length cp, Pt g15 0, .int .i64 ((2 : Nat) : Int), .int .u8 (bor .u8 ((a0 <<< 2).toNat : Int) ((a1.toNat : Int).fdiv (2 ^ 4))), Pt g15 0] : List Value) = [.slice A o.length cp, Pt g15 0, In 2, By ((a0 <<< 2) ||| (a1 >>> 4)), Pt g15 0] by rw [Kw.u8_shr a1 4 4 rfl (by decide), Kw.u8_or (a0 <<< 2) (a1 >>> 4)]) fun β => ?_
    obtain ⟨w28, hr29, H⟩ := R_store (P := Tryd.prog) (t := 5) (v := By ((a0 <<< 2) ||| (a1 >>> 4))) (off := 0) H (i := 0) rfl (by kernel_rfl) (by kernel_rfl) (by kernel_rfl)
    replace H : Sep w0 w28 (.blk g15 109 [By ((a0 <<< 2) ||| (a1 >>> 4)), By ((a1 <<< 4) ||| (a2 >>> 2)), By (0 : UInt8)] :: .blk g11 95 [By a0, By a1, By a2, By (val c)] :: .blk g 97 [.bool true, By a0, By a1, By a2, By (val c), In 0, .bool ((val c) == (64 : UInt8)), In 0] :: .row (.slice A o.length cp) 5 1 o.length (bs o) :: F) := H
    refine GL_U hr29 ?_
    refine GL_et ?_
    refine G_exit (inb_hit ?_)
    refine thn_normal ?_
    refine G_sr ?_
    refine GL_s 3 3 [(90, .slice A o.length cp), (92, .slice (some ⟨g15, 0, none⟩) 2 3)] fun β => ?_
    obtain ⟨A30, c31, w32, o34, ho35, hl36, hr33, H⟩ := R_append8 (P := Tryd.prog) (t := 68) (ty := 68) (l := o) (news := [(a0 <<< 2) ||| (a1 >>> 4), (a1 <<< 4) ||| (a2 >>> 2)]) H (i := 3) rfl (by kernel_rfl) (Src.blkp (m := 2) (c := 3) (off := 0) H (i := 0) rfl [By ((a0 <<< 2) ||| (a1 >>> 4)), By ((a1 <<< 4) ||| (a2 >>> 2))] rfl ⟨_, rfl⟩) rfl (by omega)
    replace H : Sep w0 w32 (.blk g15 109 [By ((a0 <<< 2) ||| (a1 >>> 4)), By ((a1 <<< 4) ||| (a2 >>> 2)), By (0 : UInt8)] :: .blk g11 95 [By a0, By a1, By a2, By (val c)] :: .blk g 97 [.bool true, By a0, By a1, By a2, By (val c), In 0, .bool ((val c) == (64 : UInt8)), In 0] :: .row (.slice A30 o34.length c31) 5 1 o34.length (bs o34) :: F) := H
    refine GL_V hr33 ?_
    refine GL_st 2 6 [(6, .slice A30 o34.length c31), (7, In 0)] fun β => ?_
    refine G_ret ?_
    refine res2 (v := .slice A30 o34.length c31) (x := In 0) rfl (by kernel_rfl) (by kernel_rfl) ?_
    replace H := H.drop 1
    replace H := H.drop 0
    replace H := H.front (i := 1) rfl
    replace H := H.front (i := 1) rfl
    replace H : Sep w0 w32 (.blk g 97 [.bool true, By a0, By a1, By a2, By (val c), In 0, .bool ((val c) == (64 : UInt8)), In 0] :: .row (.slice A30 o34.length c31) 5 1 o34.length (bs o34) :: F) := H
    refine ⟨a0, a1, a2, (val c), 0, ((val c) == (64 : UInt8)), o34, _, _, _, rfl, by decide, ?_, H⟩
    first | (simp [stp, grp, *]; done) | (clear H; have e0 := h0; simp only [*] at e0; simp [stp, grp, *]; done)
   · --no
    replace h2 : ¬ ((val c) = (64 : UInt8)) := eql_F h2
    refine G_skip ?_
    refine thn_normal ?_
    refine G_seq ?_
    refine G_sr ?_
    refine GL_st 1 1 [(1, .slice A o.length cp), (10, Pt g11 0), (11, Pt g15 0), (12, In 3), (62, In 3)] fun β => ?_
    refine G_block ?_
    refine G_seq ?_
    refine G_block ?_
    refine G_seq ?_
    refine G_block ?_
    refine G_seq ?_
    refine G_block ?_
    refine G_seq ?_
    refine G_seq ?_
    refine G_sr ?_
    refine GL_st 2 2 [(1, .slice A o.length cp), (10, Pt g11 0), (11, Pt g15 0), (12, In 3), (62, In 3), (63, .bool true)] fun β => ?_
    refine G_true (by kernel_rfl) ?_
    refine G_exit (thn_exit (thn_exit (inb_hit ?_)))
    refine thn_normal ?_
    refine G_region ?_
    refine GL_s 1 1 [(1, .slice A o.length cp), (10, Pt g11 0), (11, Pt g15 0), (12, In 3), (67, Pt g11 2)] fun β => ?_
    refine GL_V (run_load1 (t := 5) (by kernel_rfl) ((H.blk_cell (i := 1) rfl 2).trans rfl)) ?_
    refine GL_sr 2 4 [(1, .slice A o.length cp), (10, Pt g11 0), (11, Pt g15 0), (12, In 3), (69, By (a2 <<< 6)), (70, Pt g11 3)] (show ([.slice A o.length cp, Pt g11 0, Pt g15 0, .int .i64 ((3 : Nat) : Int), .int .u8 (IntKind.u8.wrap ((a2.toNat : Int) * 2 ^ 6)), Pt g11 3] : List Value) = [.slice A o.length cp, Pt g11 0, Pt g15 0, In 3, By (a2 <<< 6), Pt g11 3] by rw [Kw.u8_shl a2 6 6 rfl (by decide)]) fun β => ?_
    refine GL_V (run_load1 (t := 5) (by kernel_rfl) ((H.blk_cell (i := 1) rfl 3).trans rfl)) ?_
    refine GL_sr 2 7 [(1, .slice A o.length cp), (10, Pt g11 0), (11, Pt g15 0), (12, In 3), (72, By ((a2 <<< 6) ||| (val c))), (73, Pt g15 2)] (show ([.slice A o.length cp, Pt g11 0, Pt g15 0, .int .i64 ((3 : Nat) : Int), .int .u8 (bor .u8 ((a2 <<< 6).toNat : Int) ((val c).toNat : Int)), Pt g15 2] : List Value) = [.slice A o.length cp, Pt g11 0, Pt g15 0, In 3, By ((a2 <<< 6) ||| (val c)), Pt g15 2] by rw [Kw.u8_or (a2 <<< 6) (val c)]) fun β => ?_
    obtain ⟨w37, hr38, H⟩ := R_store (P := Tryd.prog) (t := 5) (v := By ((a2 <<< 6) ||| (val c))) (off := 2) H (i := 0) rfl (by kernel_rfl) (by kernel_rfl) (by kernel_rfl)
    replace H : Sep w0 w37 (.blk g15 109 [By (0 : UInt8), By (0 : UInt8), By ((a2 <<< 6) ||| (val c))] :: .blk g11 95 [By a0, By a1, By a2, By (val c)] :: .blk g 97 [.bool true, By a0, By a1, By a2, By (val c), In 0, .bool ((val c) == (64 : UInt8)), In 0] :: .row (.slice A o.length cp) 5 1 o.length (bs o) :: F) := H
    refine GL_U hr38 ?_
    refine GL_end (by kernel_rfl) ?_
    refine inb_normal ?_
    refine thn_normal ?_
    refine G_region ?_
    refine GL_s 1 1 [(1, .slice A o.length cp), (10, Pt g11 0), (11, Pt g15 0), (12, In 3), (74, Pt g11 1)] fun β => ?_
    refine GL_V (run_load1 (t := 5) (by kernel_rfl) ((H.blk_cell (i := 1) rfl 1).trans rfl)) ?_
    refine GL_sr 2 4 [(1, .slice A o.length cp), (10, Pt g11 0), (11, Pt g15 0), (12, In 3), (76, By (a1 <<< 4)), (77, Pt g11 2)] (show ([.slice A o.length cp, Pt g11 0, Pt g15 0, .int .i64 ((3 : Nat) : Int), .int .u8 (IntKind.u8.wrap ((a1.toNat : Int) * 2 ^ 4)), Pt g11 2] : List Value) = [.slice A o.length cp, Pt g11 0, Pt g15 0, In 3, By (a1 <<< 4), Pt g11 2] by rw [Kw.u8_shl a1 4 4 rfl (by decide)]) fun β => ?_
    refine GL_V (run_load1 (t := 5) (by kernel_rfl) ((H.blk_cell (i := 1) rfl 2).trans rfl)) ?_
    refine GL_sr 3 8 [(1, .slice A o.length cp), (10, Pt g11 0), (11, Pt g15 0), (12, In 3), (80, By ((a1 <<< 4) ||| (a2 >>> 2))), (81, Pt g15 1)] (show ([.slice A o.length cp, Pt g11 0, Pt g15 0, .int .i64 ((3 : Nat) : Int), .int .u8 (bor .u8 ((a1 <<< 4).toNat : Int) ((a2.toNat : Int).fdiv (2 ^ 2))), Pt g15 1] : List Value) = [.slice A o.length cp, Pt g11 0, Pt g15 0, In 3, By ((a1 <<< 4) ||| (a2 >>> 2)), Pt g15 1] by rw [Kw.u8_shr a2 2 2 rfl (by decide), Kw.u8_or (a1 <<< 4) (a2 >>> 2)]) fun β => ?_
    obtain ⟨w39, hr40, H⟩ := R_store (P := Tryd.prog) (t := 5) (v := By ((a1 <<< 4) ||| (a2 >>> 2))) (off := 1) H (i := 0) rfl (by kernel_rfl) (by kernel_rfl) (by kernel_rfl)
    replace H : Sep w0 w39 (.blk g15 109 [By (0 : UInt8), By ((a1 <<< 4) ||| (a2 >>> 2)), By ((a2 <<< 6) ||| (val c))] :: .blk g11 95 [By a0, By a1, By a2, By (val c)] :: .blk g 97 [.bool true, By a0, By a1, By a2, By (val c), In 0, .bool ((val c) == (64 : UInt8)), In 0] :: .row (.slice A o.length cp) 5 1 o.length (bs o) :: F) := H
    refine GL_U hr40 ?_
    refine GL_end (by kernel_rfl) ?_
    refine inb_normal ?_
    refine thn_normal ?_
    refine G_sr ?_
    refine GL_s 1 1 [(1, .slice A o.length cp), (10, Pt g11 0), (11, Pt g15 0), (12, In 3), (82, Pt g11 0)] fun β => ?_
    refine GL_V (run_load1 (t := 5) (by kernel_rfl) ((H.blk_cell (i := 1) rfl 0).trans rfl)) ?_
    refine GL_sr 2 4 [(1, .slice A o.length cp), (11, Pt g15 0), (12, In 3), (84, By (a0 <<< 2)), (85, Pt g11 1)] (show ([.slice A o.length cp, Pt g15 0, .int .i64 ((3 : Nat) : Int), .int .u8 (IntKind.u8.wrap ((a0.toNat : Int) * 2 ^ 2)), Pt g11 1] : List Value) = [.slice A o.length cp, Pt g15 0, In 3, By (a0 <<< 2), Pt g11 1] by rw [Kw.u8_shl a0 2 2 rfl (by decide)]) fun β => ?_
    refine GL_V (run_load1 (t := 5) (by kernel_rfl) ((H.blk_cell (i := 1) rfl 1).trans rfl)) ?_
    refine GL_sr 3 8 [(1, .slice A o.length cp), (11, Pt g15 0), (12, In 3), (88, By ((a0 <<< 2) ||| (a1 >>> 4))), (89, Pt g15 0)] (show ([.slice A o.length cp, Pt g15 0, .int .i64 ((3 : Nat) : Int), .int .u8 (bor .u8 ((a0 <<< 2).toNat : Int) ((a1.toNat : Int).fdiv (2 ^ 4))), Pt g15 0] : List Value) = [.slice A o.length cp, Pt g15 0, In 3, By ((a0 <<< 2) ||| (a1 >>> 4)), Pt g15 0] by rw [Kw.u8_shr a1 4 4 rfl (by decide), Kw.u8_or (a0 <<< 2) (a1 >>> 4)]) fun β => ?_
    obtain ⟨w41, hr42, H⟩ := R_store (P := Tryd.prog) (t := 5) (v := By ((a0 <<< 2) ||| (a1 >>> 4))) (off := 0) H (i := 0) rfl (by kernel_rfl) (by kernel_rfl) (by kernel_rfl)
    replace H : Sep w0 w41 (.blk g15 109 [By ((a0 <<< 2) ||| (a1 >>> 4)), By ((a1 <<< 4) ||| (a2 >>> 2)), By ((a2 <<< 6) ||| (val c))] :: .blk g11 95 [By a0, By a1, By a2, By (val c)] :: .blk g 97 [.bool true, By a0, By a1, By a2, By (val c), In 0, .bool ((val c) == (64 : UInt8)), In 0] :: .row (.slice A o.length cp) 5 1 o.length (bs o) :: F) := H
    refine GL_U hr42 ?_
    refine GL_et ?_
    refine G_exit (inb_hit ?_)
    refine thn_normal ?_
    refine G_sr ?_
    refine GL_s 3 3 [(90, .slice A o.length cp), (92, .slice (some ⟨g15, 0, none⟩) 3 3)] fun β => ?_
    obtain ⟨A43, c44, w45, o47, ho48, hl49, hr46, H⟩ := R_append8 (P := Tryd.prog) (t := 68) (ty := 68) (l := o) (news := [(a0 <<< 2) ||| (a1 >>> 4), (a1 <<< 4) ||| (a2 >>> 2), (a2 <<< 6) ||| (val c)]) H (i := 3) rfl (by kernel_rfl) (Src.blkp (m := 3) (c := 3) (off := 0) H (i := 0) rfl [By ((a0 <<< 2) ||| (a1 >>> 4)), By ((a1 <<< 4) ||| (a2 >>> 2)), By ((a2 <<< 6) ||| (val c))] rfl ⟨_, rfl⟩) rfl (by omega)
    replace H : Sep w0 w45 (.blk g15 109 [By ((a0 <<< 2) ||| (a1 >>> 4)), By ((a1 <<< 4) ||| (a2 >>> 2)), By ((a2 <<< 6) ||| (val c))] :: .blk g11 95 [By a0, By a1, By a2, By (val c)] :: .blk g 97 [.bool true, By a0, By a1, By a2, By (val c), In 0, .bool ((val c) == (64 : UInt8)), In 0] :: .row (.slice A43 o47.length c44) 5 1 o47.length (bs o47) :: F) := H
    refine GL_V hr46 ?_
    refine GL_st 2 6 [(6, .slice A43 o47.length c44), (7, In 0)] fun β => ?_
    refine G_ret ?_
    refine res2 (v := .slice A43 o47.length c44) (x := In 0) rfl (by kernel_rfl) (by kernel_rfl) ?_
    replace H := H.drop 1
    replace H := H.drop 0
    replace H := H.front (i := 1) rfl
    replace H := H.front (i := 1) rfl
    replace H : Sep w0 w45 (.blk g 97 [.bool true, By a0, By a1, By a2, By (val c), In 0, .bool ((val c) == (64 : UInt8)), In 0] :: .row (.slice A43 o47.length c44) 5 1 o47.length (bs o47) :: F) := H
    refine ⟨a0, a1, a2, (val c), 0, ((val c) == (64 : UInt8)), o47, _, _, _, rfl, by decide, ?_, H⟩
    first | (simp [stp, grp, *]; done) | (clear H; have e0 := h0; simp only [*] at e0; simp [stp, grp, *]; done)
theorem c_take (n : Nat) (hn : n < 4) (a0 a1 a2 a3 : UInt8) (over : Bool) (c : UInt8) (o : List UInt8) (hb : o.length ≤ 1099511627776) {A : Option Addr} {cp g : Nat} {w0 w : World} {F : List Chunk} (H : Sep w0 w (.blk g 97 (rdr [a0, a1, a2, a3] n over) :: .row (.slice A o.length cp) 5 1 o.length (bs o) :: F)) : Ret Tryd.prog 37 #[.pointer (some ⟨g, 0, none⟩), .slice A o.length cp, .int .u8 (c.toNat : Int)] w (fun r w' => TakePost w0 F g [a0, a1, a2, a3] n over c o r w') :=
  match n, hn with
  | 0, _ => c_take_0 a0 a1 a2 a3 over c o hb H
  | 1, _ => c_take_1 a0 a1 a2 a3 over c o hb H
  | 2, _ => c_take_2 a0 a1 a2 a3 over c o hb H
  | 3, _ => c_take_3 a0 a1 a2 a3 over c o hb H
end Go.Proofs.YtadiljnfkbbmcaaDoor
