-- printed by gw.py (my own program), checked by Lean
import Derived.Test.YtadiljnfkbbmcaaDoorProg
import Derived.Test.YtadiljnfkbbmcaaDoorA6
set_option linter.unusedVariables false
set_option linter.unusedSimpArgs false
set_option maxRecDepth 100000
set_option maxHeartbeats 400000
namespace Go.Proofs.YtadiljnfkbbmcaaDoor
open Go.Kw Go.RowKit

theorem num_ge (c : UInt8) : decide (numI c ≥ ((0 : Nat) : Int)) = isL c := by
  unfold numI isL; split
  · rename_i h; rw [decide_eq_true h, decide_eq_true (by omega)]
  · rename_i h; rw [decide_eq_false h, decide_eq_false (by omega)]
theorem l61 : isL 61 = false := by decide
theorem num_lt (c : UInt8) : decide (numI c < ((0 : Nat) : Int)) = !isL c := by
  unfold numI isL; split
  · rename_i h; rw [decide_eq_true h, decide_eq_false (by omega)]; rfl
  · rename_i h; rw [decide_eq_false h, decide_eq_true (by omega)]; rfl
theorem nmaxI (c : UInt8) : (if numI c > ((0 : Nat) : Int) then numI c else ((0 : Nat) : Int)) = (numN c : Int) := by
  unfold numI numN; split
  · split <;> omega
  · rw [if_neg (by omega)]
theorem numN_lt (c : UInt8) : numN c < 64 := by
  unfold numN; split
  · rename_i h; exact UInt8.lt_iff_toNat_lt.1 h
  · omega
def allN (g : List UInt8) : List UInt8 := [UInt8.ofNat (bitsN g / 65536), UInt8.ofNat (bitsN g / 256 % 256), UInt8.ofNat (bitsN g % 256)]
theorem grpN_len (g : List UInt8) : (grpN g).length = manyN g := by unfold grpN manyN; split <;> (try split) <;> rfl
theorem many_le (g : List UInt8) : manyN g ≤ 3 := by unfold manyN; split <;> (try split) <;> omega
theorem rd_take {w0 : World} {F : List Chunk} {i g t m c : Nat} {xs : List UInt8} (hi : F[i]? = some (.blk g t (bs xs))) (hm : m ≤ xs.length) (hc : m ≤ c) (hx : c ≤ maxLen) : Rd w0 F (.slice (some ⟨g, 0, none⟩) m c) 1 m (bs (xs.take m)) := by
  refine ⟨by rw [bs_length, List.length_take]; omega, _, c, rfl, hc, hx, fun _ => ⟨_, rfl, fun w hw j u hu => ?_⟩⟩
  rw [add_eq, hw.blk_cell hi]
  simp only [bs, List.map_take, List.getElem?_take] at hu
  split at hu
  · simpa [bs] using hu
  · cases hu
/-- posthorn/posthornref04.number -/
theorem c_number (c : UInt8) {w0 w : World} {F : List Chunk} (H : Sep w0 w F) : Ret Tryd.prog 55 #[.int .u8 (c.toNat : Int)] w (fun v w' => v = .int .i64 (numI c) ∧ Sep w0 w' F) := by
 refine Ret_enter (args := [By c]) Tryd.func55 rfl (by kernel_rfl) ?_
 refine G_forget [(0, By c)] (by kernel_rfl) (fun β => ?_)
 refine G_sr ?_
 refine GL_st 1 1 [(0, By c)] fun β => ?_
 refine G_seq ?_
 refine G_sr ?_
 refine GL_st 1 1 [(0, By c), (3, In 0)] fun β => ?_
 refine G_block ?_
 refine G_loop (X := Nat) (fun k => [(0, By c), (3, In k)]) (fun k w_ => Sep w0 w_ (F) ∧ (k ≤ 64 ∧ ∀ j, j < k → ¬ letters.getD j 0 = c)) (fun k => 64 - k) (0) (by kernel_rfl) ⟨H, ⟨by omega, fun j hj => by omega⟩⟩ ?_
 rintro k β w1 ⟨H, hI⟩
 refine G_forget [(0, By c), (3, In k)] (by kernel_rfl) (fun β => ?_)
 replace H : Sep w0 w1 (F) := H
 replace hI : k ≤ 64 ∧ ∀ j, j < k → ¬ letters.getD j 0 = c := hI
 obtain ⟨hI1, hI2⟩ := hI
 refine G_seq ?_
 refine G_sr ?_
 refine GL_srt 2 2 [(0, By c), (3, In k), (5, .bool (decide (k < 64)))] (show ([.int .u8 (c.toNat : Int), .int .i64 (k : Int), .bool (decide ((k : Int) < ((64 : Nat) : Int)))] : List Value) = [By c, In k, .bool (decide (k < 64))] by rw [nlss k 64]) fun β => ?_
 refine G_cond (decide (k < 64)) (by kernel_rfl) (fun h0 => ?_) (fun h0 => ?_)
 · --yes
  replace h0 : k < 64 := of_decide_eq_true h0
  refine G_skip ?_
  refine thn_normal ?_
  refine G_seq ?_
  refine G_block ?_
  refine G_sr ?_
  refine GL_s 1 1 [(0, By c), (3, In k), (8, In k)] fun β => ?_
  refine GL_V (R_index (P := Tryd.prog) (w := _) (t := 9) (ki := .i64) (i := k) (l := letters) (by kernel_rfl) (by show k < 64; omega)) ?_
  refine GL_srt 2 4 [(0, By c), (3, In k), (11, .bool ((letters.getD k 0) == c))] (show ([.int .u8 (c.toNat : Int), .int .i64 (k : Int), .bool (((letters.getD k 0).toNat : Int) == (c.toNat : Int))] : List Value) = [By c, In k, .bool ((letters.getD k 0) == c)] by rw [Kw.u8_eql (letters.getD k 0) c]) fun β => ?_
  refine G_cond ((letters.getD k 0) == c) (by kernel_rfl) (fun h1 => ?_) (fun h1 => ?_)
  · --yes
   replace h1 : (letters.getD k 0) = c := eql_T h1
   refine G_sr ?_
   refine GL_st 2 2 [(2, In k)] fun β => ?_
   refine G_ret ?_
   refine inb_ret (thn_ret (thn_ret (inb_ret (thn_ret (res1 (v := In k) rfl (by kernel_rfl) ?_)))))
   replace H : Sep w0 w1 (F) := H
   exact ⟨by rw [← h1, num_at k (by omega)], H⟩
  · --no
   replace h1 : ¬ ((letters.getD k 0) = c) := eql_F h1
   refine G_skip ?_
   refine inb_normal ?_
   refine thn_normal ?_
   refine G_region ?_
   refine GL_sr 3 3 [(0, By c), (3, In (k + 1))] (show ([.int .u8 (c.toNat : Int), .int .i64 (IntKind.i64.wrap ((k : Int) + ((1 : Nat) : Int)))] : List Value) = [By c, In (k + 1)] by rw [nadd64 k 1 (by omega)]) fun β => ?_
   refine GL_end (by kernel_rfl) ?_
   refine thn_normal ⟨(k + 1), Agr_of_keys (by kernel_rfl), ⟨H, ?_⟩, ?_⟩
   · exact ⟨by omega, fun j hj => by rcases Nat.lt_succ_iff_lt_or_eq.1 hj with h | h; exact hI2 j h; rw [h]; exact h1⟩
   · first | (dsimp only; omega) | omega
 · --no
  replace h0 : ¬ (k < 64) := of_decide_eq_false h0
  refine G_exit (thn_exit (thn_exit (inb_hit ?_)))
  refine thn_normal ?_
  refine G_sr ?_
  refine GL_st 1 1 [(2, .int .i64 (-1 : Int))] fun β => ?_
  refine G_ret ?_
  refine res1 (v := .int .i64 (-1 : Int)) rfl (by kernel_rfl) ?_
  replace H : Sep w0 w1 (F) := H
  exact ⟨by rw [num_no (fun j hj => hI2 j (by omega))], H⟩
/-- posthorn/posthornref04.low -/
theorem c_low_16_yes (c : UInt8) (hv : val c < 64) {w0 w : World} {F : List Chunk} (H : Sep w0 w F) : Ret Tryd.prog 62 #[.int .u8 (c.toNat : Int), In 4] w (fun v w' => v = .bool (lowF c 16) ∧ Sep w0 w' F) := by
 have hlt := (val c).toNat_lt
 refine Ret_enter (args := [By c, In 4]) Tryd.func62 rfl (by kernel_rfl) ?_
 refine G_forget [(0, By c), (1, In 4)] (by kernel_rfl) (fun β => ?_)
 refine G_sr ?_
 refine GL_st 1 1 [(0, By c), (1, In 4)] fun β => ?_
 refine G_sr ?_
 refine GL_s 1 1 [(1, In 4), (7, By c)] fun β => ?_
 refine GL_C (c_number c H) ?_
 rintro _ w1 ⟨rfl, H⟩
 rw [show numI c = ((val c).toNat : Int) from if_pos hv]
 refine GL_st 1 3 [(1, In 4), (5, In ((val c).toNat))] fun β => ?_
 refine G_seq ?_
 refine G_sr ?_
 refine GL_st 1 1 [(1, In 4), (5, In ((val c).toNat)), (6, In 0)] fun β => ?_
 refine G_block ?_
 refine G_un 5 ?_
 refine GU_step ?_
 refine G_forget [(1, In 4), (5, In ((val c).toNat)), (6, In 0)] (by kernel_rfl) (fun β => ?_)
 refine G_seq ?_
 refine G_sr ?_
 refine GL_st 3 3 [(1, In 4), (5, In ((val c).toNat)), (6, In 0), (11, .bool true)] fun β => ?_
 refine G_true (by kernel_rfl) ?_
 refine G_skip ?_
 refine thn_normal ?_
 refine G_seq ?_
 refine G_block ?_
 refine G_seq ?_
 refine G_sr ?_
 refine GL_srt 3 3 [(1, In 4), (5, In ((val c).toNat)), (6, In 0), (16, .bool ((((val c).toNat) % 2) != 0))] (show ([.int .i64 ((4 : Nat) : Int), .int .i64 (((val c).toNat : Nat) : Int), .int .i64 ((0 : Nat) : Int), .bool (((((val c).toNat : Nat) : Int).tmod ((2 : Nat) : Int)) != ((0 : Nat) : Int))] : List Value) = [In 4, In ((val c).toNat), In 0, .bool ((((val c).toNat) % 2) != 0)] by rw [nrem64 ((val c).toNat) 2, nneq (((val c).toNat) % 2) 0]) fun β => ?_
 refine G_cond ((((val c).toNat) % 2) != 0) (by kernel_rfl) (fun h0 => ?_) (fun h0 => ?_)
 · --yes
  replace h0 : ¬ ((((val c).toNat) % 2) = 0) := neq_T h0
  refine G_sr ?_
  refine GL_st 1 1 [(4, .bool false)] fun β => ?_
  refine G_ret ?_
  refine thn_ret (inb_ret (thn_ret (thn_ret (inb_ret (thn_ret (res1 (v := .bool false) rfl (by kernel_rfl) ?_))))))
  replace H : Sep w0 w1 (F) := H
  refine ⟨?_, H⟩
  first | (rw [lowF, decide_eq_true hv, decide_eq_false (show ¬ (val c).toNat % 16 = 0 by omega)]; done) | (rw [lowF, decide_eq_true hv, decide_eq_true (show (val c).toNat % 16 = 0 by omega), decide_eq_true (by omega)]; done) | (rw [lowF, decide_eq_true hv, decide_eq_false (show ¬ (val c).toNat % 16 = 0 by omega)]; rfl) | (rw [lowF, decide_eq_true hv, decide_eq_true (show (val c).toNat % 16 = 0 by omega), decide_eq_true (by omega)]; rfl)
 · --no
  replace h0 : (((val c).toNat) % 2) = 0 := neq_F h0
  refine G_skip ?_
  refine thn_normal ?_
  refine G_region ?_
  refine GL_sr 3 3 [(1, In 4), (5, In (((val c).toNat) / 2)), (6, In 0)] (show ([.int .i64 ((4 : Nat) : Int), .int .i64 (IntKind.i64.wrap ((((val c).toNat : Nat) : Int).tdiv ((2 : Nat) : Int))), .int .i64 ((0 : Nat) : Int)] : List Value) = [In 4, In (((val c).toNat) / 2), In 0] by rw [nquo64 ((val c).toNat) 2 (by omega)]) fun β => ?_
  refine GL_end (by kernel_rfl) ?_
  refine inb_normal ?_
  refine thn_normal ?_
  refine G_region ?_
  refine GL_st 3 3 [(1, In 4), (5, In (((val c).toNat) / 2)), (6, In 1)] fun β => ?_
  refine GU_step ?_
  refine G_forget [(1, In 4), (5, In (((val c).toNat) / 2)), (6, In 1)] (by kernel_rfl) (fun β => ?_)
  refine G_seq ?_
  refine G_sr ?_
  refine GL_st 3 3 [(1, In 4), (5, In (((val c).toNat) / 2)), (6, In 1), (11, .bool true)] fun β => ?_
  refine G_true (by kernel_rfl) ?_
  refine G_skip ?_
  refine thn_normal ?_
  refine G_seq ?_
  refine G_block ?_
  refine G_seq ?_
  refine G_sr ?_
  refine GL_srt 3 3 [(1, In 4), (5, In (((val c).toNat) / 2)), (6, In 1), (16, .bool (((((val c).toNat) / 2) % 2) != 0))] (show ([.int .i64 ((4 : Nat) : Int), .int .i64 ((((val c).toNat) / 2 : Nat) : Int), .int .i64 ((1 : Nat) : Int), .bool ((((((val c).toNat) / 2 : Nat) : Int).tmod ((2 : Nat) : Int)) != ((0 : Nat) : Int))] : List Value) = [In 4, In (((val c).toNat) / 2), In 1, .bool (((((val c).toNat) / 2) % 2) != 0)] by rw [nrem64 (((val c).toNat) / 2) 2, nneq ((((val c).toNat) / 2) % 2) 0]) fun β => ?_
  refine G_cond (((((val c).toNat) / 2) % 2) != 0) (by kernel_rfl) (fun h1 => ?_) (fun h1 => ?_)
  · --yes
   replace h1 : ¬ (((((val c).toNat) / 2) % 2) = 0) := neq_T h1
   refine G_sr ?_
   refine GL_st 1 1 [(4, .bool false)] fun β => ?_
   refine G_ret ?_
   refine thn_ret (inb_ret (thn_ret (thn_ret (inb_ret (thn_ret (res1 (v := .bool false) rfl (by kernel_rfl) ?_))))))
   replace H : Sep w0 w1 (F) := H
   refine ⟨?_, H⟩
   first | (rw [lowF, decide_eq_true hv, decide_eq_false (show ¬ (val c).toNat % 16 = 0 by omega)]; done) | (rw [lowF, decide_eq_true hv, decide_eq_true (show (val c).toNat % 16 = 0 by omega), decide_eq_true (by omega)]; done) | (rw [lowF, decide_eq_true hv, decide_eq_false (show ¬ (val c).toNat % 16 = 0 by omega)]; rfl) | (rw [lowF, decide_eq_true hv, decide_eq_true (show (val c).toNat % 16 = 0 by omega), decide_eq_true (by omega)]; rfl)
  · --no
   replace h1 : ((((val c).toNat) / 2) % 2) = 0 := neq_F h1
   refine G_skip ?_
   refine thn_normal ?_
   refine G_region ?_
   refine GL_sr 3 3 [(1, In 4), (5, In ((((val c).toNat) / 2) / 2)), (6, In 1)] (show ([.int .i64 ((4 : Nat) : Int), .int .i64 (IntKind.i64.wrap (((((val c).toNat) / 2 : Nat) : Int).tdiv ((2 : Nat) : Int))), .int .i64 ((1 : Nat) : Int)] : List Value) = [In 4, In ((((val c).toNat) / 2) / 2), In 1] by rw [nquo64 (((val c).toNat) / 2) 2 (by omega)]) fun β => ?_
   refine GL_end (by kernel_rfl) ?_
   refine inb_normal ?_
   refine thn_normal ?_
   refine G_region ?_
   refine GL_st 3 3 [(1, In 4), (5, In ((((val c).toNat) / 2) / 2)), (6, In 2)] fun β => ?_
   refine GU_step ?_
   refine G_forget [(1, In 4), (5, In ((((val c).toNat) / 2) / 2)), (6, In 2)] (by kernel_rfl) (fun β => ?_)
   refine G_seq ?_
   refine G_sr ?_
   refine GL_st 3 3 [(1, In 4), (5, In ((((val c).toNat) / 2) / 2)), (6, In 2), (11, .bool true)] fun β => ?_
   refine G_true (by kernel_rfl) ?_
   refine G_skip ?_
   refine thn_normal ?_
   refine G_seq ?_
   refine G_block ?_
   refine G_seq ?_
   refine G_sr ?_
   refine GL_srt 3 3 [(1, In 4), (5, In ((((val c).toNat) / 2) / 2)), (6, In 2), (16, .bool ((((((val c).toNat) / 2) / 2) % 2) != 0))] (show ([.int .i64 ((4 : Nat) : Int), .int .i64 (((((val c).toNat) / 2) / 2 : Nat) : Int), .int .i64 ((2 : Nat) : Int), .bool (((((((val c).toNat) / 2) / 2 : Nat) : Int).tmod ((2 : Nat) : Int)) != ((0 : Nat) : Int))] : List Value) = [In 4, In ((((val c).toNat) / 2) / 2), In 2, .bool ((((((val c).toNat) / 2) / 2) % 2) != 0)] by rw [nrem64 ((((val c).toNat) / 2) / 2) 2, nneq (((((val c).toNat) / 2) / 2) % 2) 0]) fun β => ?_
   refine G_cond ((((((val c).toNat) / 2) / 2) % 2) != 0) (by kernel_rfl) (fun h2 => ?_) (fun h2 => ?_)
   · --yes
    replace h2 : ¬ ((((((val c).toNat) / 2) / 2) % 2) = 0) := neq_T h2
    refine G_sr ?_
    refine GL_st 1 1 [(4, .bool false)] fun β => ?_
    refine G_ret ?_
    refine thn_ret (inb_ret (thn_ret (thn_ret (inb_ret (thn_ret (res1 (v := .bool false) rfl (by kernel_rfl) ?_))))))
    replace H : Sep w0 w1 (F) := H
    refine ⟨?_, H⟩
    first | (rw [lowF, decide_eq_true hv, decide_eq_false (show ¬ (val c).toNat % 16 = 0 by omega)]; done) | (rw [lowF, decide_eq_true hv, decide_eq_true (show (val c).toNat % 16 = 0 by omega), decide_eq_true (by omega)]; done) | (rw [lowF, decide_eq_true hv, decide_eq_false (show ¬ (val c).toNat % 16 = 0 by omega)]; rfl) | (rw [lowF, decide_eq_true hv, decide_eq_true (show (val c).toNat % 16 = 0 by omega), decide_eq_true (by omega)]; rfl)
   · --no
    replace h2 : (((((val c).toNat) / 2) / 2) % 2) = 0 := neq_F h2
    refine G_skip ?_
    refine thn_normal ?_
    refine G_region ?_
    refine GL_sr 3 3 [(1, In 4), (5, In (((((val c).toNat) / 2) / 2) / 2)), (6, In 2)] (show ([.int .i64 ((4 : Nat) : Int), .int .i64 (IntKind.i64.wrap ((((((val c).toNat) / 2) / 2 : Nat) : Int).tdiv ((2 : Nat) : Int))), .int .i64 ((2 : Nat) : Int)] : List Value) = [In 4, In (((((val c).toNat) / 2) / 2) / 2), In 2] by rw [nquo64 ((((val c).toNat) / 2) / 2) 2 (by omega)]) fun β => ?_
    refine GL_end (by kernel_rfl) ?_
    refine inb_normal ?_
    refine thn_normal ?_
    refine G_region ?_
    refine GL_st 3 3 [(1, In 4), (5, In (((((val c).toNat) / 2) / 2) / 2)), (6, In 3)] fun β => ?_
    refine GU_step ?_
    refine G_forget [(1, In 4), (5, In (((((val c).toNat) / 2) / 2) / 2)), (6, In 3)] (by kernel_rfl) (fun β => ?_)
    refine G_seq ?_
    refine G_sr ?_
    refine GL_st 3 3 [(1, In 4), (5, In (((((val c).toNat) / 2) / 2) / 2)), (6, In 3), (11, .bool true)] fun β => ?_
    refine G_true (by kernel_rfl) ?_
    refine G_skip ?_
    refine thn_normal ?_
    refine G_seq ?_
    refine G_block ?_
    refine G_seq ?_
    refine G_sr ?_
    refine GL_srt 3 3 [(1, In 4), (5, In (((((val c).toNat) / 2) / 2) / 2)), (6, In 3), (16, .bool (((((((val c).toNat) / 2) / 2) / 2) % 2) != 0))] (show ([.int .i64 ((4 : Nat) : Int), .int .i64 ((((((val c).toNat) / 2) / 2) / 2 : Nat) : Int), .int .i64 ((3 : Nat) : Int), .bool ((((((((val c).toNat) / 2) / 2) / 2 : Nat) : Int).tmod ((2 : Nat) : Int)) != ((0 : Nat) : Int))] : List Value) = [In 4, In (((((val c).toNat) / 2) / 2) / 2), In 3, .bool (((((((val c).toNat) / 2) / 2) / 2) % 2) != 0)] by rw [nrem64 (((((val c).toNat) / 2) / 2) / 2) 2, nneq ((((((val c).toNat) / 2) / 2) / 2) % 2) 0]) fun β => ?_
    refine G_cond (((((((val c).toNat) / 2) / 2) / 2) % 2) != 0) (by kernel_rfl) (fun h3 => ?_) (fun h3 => ?_)
    · --yes
     replace h3 : ¬ (((((((val c).toNat) / 2) / 2) / 2) % 2) = 0) := neq_T h3
     refine G_sr ?_
     refine GL_st 1 1 [(4, .bool false)] fun β => ?_
     refine G_ret ?_
     refine thn_ret (inb_ret (thn_ret (thn_ret (inb_ret (thn_ret (res1 (v := .bool false) rfl (by kernel_rfl) ?_))))))
     replace H : Sep w0 w1 (F) := H
     refine ⟨?_, H⟩
     first | (rw [lowF, decide_eq_true hv, decide_eq_false (show ¬ (val c).toNat % 16 = 0 by omega)]; done) | (rw [lowF, decide_eq_true hv, decide_eq_true (show (val c).toNat % 16 = 0 by omega), decide_eq_true (by omega)]; done) | (rw [lowF, decide_eq_true hv, decide_eq_false (show ¬ (val c).toNat % 16 = 0 by omega)]; rfl) | (rw [lowF, decide_eq_true hv, decide_eq_true (show (val c).toNat % 16 = 0 by omega), decide_eq_true (by omega)]; rfl)
    · --no
     replace h3 : ((((((val c).toNat) / 2) / 2) / 2) % 2) = 0 := neq_F h3
     refine G_skip ?_
     refine thn_normal ?_
     refine G_region ?_
     refine GL_sr 3 3 [(1, In 4), (5, In ((((((val c).toNat) / 2) / 2) / 2) / 2)), (6, In 3)] (show ([.int .i64 ((4 : Nat) : Int), .int .i64 (IntKind.i64.wrap (((((((val c).toNat) / 2) / 2) / 2 : Nat) : Int).tdiv ((2 : Nat) : Int))), .int .i64 ((3 : Nat) : Int)] : List Value) = [In 4, In ((((((val c).toNat) / 2) / 2) / 2) / 2), In 3] by rw [nquo64 (((((val c).toNat) / 2) / 2) / 2) 2 (by omega)]) fun β => ?_
     refine GL_end (by kernel_rfl) ?_
     refine inb_normal ?_
     refine thn_normal ?_
     refine G_region ?_
     refine GL_st 3 3 [(1, In 4), (5, In ((((((val c).toNat) / 2) / 2) / 2) / 2)), (6, In 4)] fun β => ?_
     refine GU_step ?_
     refine G_forget [(1, In 4), (5, In ((((((val c).toNat) / 2) / 2) / 2) / 2)), (6, In 4)] (by kernel_rfl) (fun β => ?_)
     refine G_seq ?_
     refine G_sr ?_
     refine GL_st 3 3 [(1, In 4), (5, In ((((((val c).toNat) / 2) / 2) / 2) / 2)), (6, In 4), (11, .bool false)] fun β => ?_
     refine G_false (by kernel_rfl) ?_
     refine G_exit (thn_exit (thn_exit (inb_hit ?_)))
     refine thn_normal ?_
     refine G_sr ?_
     refine GL_srt 3 3 [(4, .bool (decide (((((((val c).toNat) / 2) / 2) / 2) / 2) ≥ 0)))] (show ([.bool (decide ((((((((val c).toNat) / 2) / 2) / 2) / 2 : Nat) : Int) ≥ ((0 : Nat) : Int)))] : List Value) = [.bool (decide (((((((val c).toNat) / 2) / 2) / 2) / 2) ≥ 0))] by rw [ngeq ((((((val c).toNat) / 2) / 2) / 2) / 2) 0]) fun β => ?_
     refine G_ret ?_
     refine res1 (v := .bool (decide (((((((val c).toNat) / 2) / 2) / 2) / 2) ≥ 0))) rfl (by kernel_rfl) ?_
     replace H : Sep w0 w1 (F) := H
     refine ⟨?_, H⟩
     first | (rw [lowF, decide_eq_true hv, decide_eq_false (show ¬ (val c).toNat % 16 = 0 by omega)]; done) | (rw [lowF, decide_eq_true hv, decide_eq_true (show (val c).toNat % 16 = 0 by omega), decide_eq_true (by omega)]; done) | (rw [lowF, decide_eq_true hv, decide_eq_false (show ¬ (val c).toNat % 16 = 0 by omega)]; rfl) | (rw [lowF, decide_eq_true hv, decide_eq_true (show (val c).toNat % 16 = 0 by omega), decide_eq_true (by omega)]; rfl)
/-- posthorn/posthornref04.low -/
theorem c_low_16_no (c : UInt8) (hv : ¬ val c < 64) {w0 w : World} {F : List Chunk} (H : Sep w0 w F) : Ret Tryd.prog 62 #[.int .u8 (c.toNat : Int), In 4] w (fun v w' => v = .bool (lowF c 16) ∧ Sep w0 w' F) := by
 refine Ret_enter (args := [By c, In 4]) Tryd.func62 rfl (by kernel_rfl) ?_
 refine G_forget [(0, By c), (1, In 4)] (by kernel_rfl) (fun β => ?_)
 refine G_sr ?_
 refine GL_st 1 1 [(0, By c), (1, In 4)] fun β => ?_
 refine G_sr ?_
 refine GL_s 1 1 [(1, In 4), (7, By c)] fun β => ?_
 refine GL_C (c_number c H) ?_
 rintro _ w1 ⟨rfl, H⟩
 rw [show numI c = -1 from if_neg hv]
 refine GL_st 1 3 [(1, In 4), (5, .int .i64 (-1 : Int))] fun β => ?_
 refine G_seq ?_
 refine G_sr ?_
 refine GL_st 1 1 [(1, In 4), (5, .int .i64 (-1 : Int)), (6, In 0)] fun β => ?_
 refine G_block ?_
 refine G_un 5 ?_
 refine GU_step ?_
 refine G_forget [(1, In 4), (5, .int .i64 (-1 : Int)), (6, In 0)] (by kernel_rfl) (fun β => ?_)
 refine G_seq ?_
 refine G_sr ?_
 refine GL_st 3 3 [(1, In 4), (5, .int .i64 (-1 : Int)), (6, In 0), (11, .bool true)] fun β => ?_
 refine G_true (by kernel_rfl) ?_
 refine G_skip ?_
 refine thn_normal ?_
 refine G_seq ?_
 refine G_block ?_
 refine G_seq ?_
 refine G_sr ?_
 refine GL_st 3 3 [(1, In 4), (5, .int .i64 (-1 : Int)), (6, In 0), (16, .bool true)] fun β => ?_
 refine G_true (by kernel_rfl) ?_
 refine G_sr ?_
 refine GL_st 1 1 [(4, .bool false)] fun β => ?_
 refine G_ret ?_
 refine thn_ret (inb_ret (thn_ret (thn_ret (inb_ret (thn_ret (res1 (v := .bool false) rfl (by kernel_rfl) ?_))))))
 replace H : Sep w0 w1 (F) := H
 exact ⟨by rw [lowF, decide_eq_false hv]; rfl, H⟩
theorem c_low_16 (c : UInt8) {w0 w : World} {F : List Chunk} (H : Sep w0 w F) : Ret Tryd.prog 62 #[.int .u8 (c.toNat : Int), In 4] w (fun v w' => v = .bool (lowF c 16) ∧ Sep w0 w' F) := by
  by_cases hv : val c < 64
  · exact c_low_16_yes c hv H
  · exact c_low_16_no c hv H
/-- posthorn/posthornref04.low -/
theorem c_low_4_yes (c : UInt8) (hv : val c < 64) {w0 w : World} {F : List Chunk} (H : Sep w0 w F) : Ret Tryd.prog 62 #[.int .u8 (c.toNat : Int), In 2] w (fun v w' => v = .bool (lowF c 4) ∧ Sep w0 w' F) := by
 have hlt := (val c).toNat_lt
 refine Ret_enter (args := [By c, In 2]) Tryd.func62 rfl (by kernel_rfl) ?_
 refine G_forget [(0, By c), (1, In 2)] (by kernel_rfl) (fun β => ?_)
 refine G_sr ?_
 refine GL_st 1 1 [(0, By c), (1, In 2)] fun β => ?_
 refine G_sr ?_
 refine GL_s 1 1 [(1, In 2), (7, By c)] fun β => ?_
 refine GL_C (c_number c H) ?_
 rintro _ w1 ⟨rfl, H⟩
 rw [show numI c = ((val c).toNat : Int) from if_pos hv]
 refine GL_st 1 3 [(1, In 2), (5, In ((val c).toNat))] fun β => ?_
 refine G_seq ?_
 refine G_sr ?_
 refine GL_st 1 1 [(1, In 2), (5, In ((val c).toNat)), (6, In 0)] fun β => ?_
 refine G_block ?_
 refine G_un 3 ?_
 refine GU_step ?_
 refine G_forget [(1, In 2), (5, In ((val c).toNat)), (6, In 0)] (by kernel_rfl) (fun β => ?_)
 refine G_seq ?_
 refine G_sr ?_
 refine GL_st 3 3 [(1, In 2), (5, In ((val c).toNat)), (6, In 0), (11, .bool true)] fun β => ?_
 refine G_true (by kernel_rfl) ?_
 refine G_skip ?_
 refine thn_normal ?_
 refine G_seq ?_
 refine G_block ?_
 refine G_seq ?_
 refine G_sr ?_
 refine GL_srt 3 3 [(1, In 2), (5, In ((val c).toNat)), (6, In 0), (16, .bool ((((val c).toNat) % 2) != 0))] (show ([.int .i64 ((2 : Nat) : Int), .int .i64 (((val c).toNat : Nat) : Int), .int .i64 ((0 : Nat) : Int), .bool (((((val c).toNat : Nat) : Int).tmod ((2 : Nat) : Int)) != ((0 : Nat) : Int))] : List Value) = [In 2, In ((val c).toNat), In 0, .bool ((((val c).toNat) % 2) != 0)] by rw [nrem64 ((val c).toNat) 2, nneq (((val c).toNat) % 2) 0]) fun β => ?_
 refine G_cond ((((val c).toNat) % 2) != 0) (by kernel_rfl) (fun h0 => ?_) (fun h0 => ?_)
 · --yes
  replace h0 : ¬ ((((val c).toNat) % 2) = 0) := neq_T h0
  refine G_sr ?_
  refine GL_st 1 1 [(4, .bool false)] fun β => ?_
  refine G_ret ?_
  refine thn_ret (inb_ret (thn_ret (thn_ret (inb_ret (thn_ret (res1 (v := .bool false) rfl (by kernel_rfl) ?_))))))
  replace H : Sep w0 w1 (F) := H
  refine ⟨?_, H⟩
  first | (rw [lowF, decide_eq_true hv, decide_eq_false (show ¬ (val c).toNat % 4 = 0 by omega)]; done) | (rw [lowF, decide_eq_true hv, decide_eq_true (show (val c).toNat % 4 = 0 by omega), decide_eq_true (by omega)]; done) | (rw [lowF, decide_eq_true hv, decide_eq_false (show ¬ (val c).toNat % 4 = 0 by omega)]; rfl) | (rw [lowF, decide_eq_true hv, decide_eq_true (show (val c).toNat % 4 = 0 by omega), decide_eq_true (by omega)]; rfl)
 · --no
  replace h0 : (((val c).toNat) % 2) = 0 := neq_F h0
  refine G_skip ?_
  refine thn_normal ?_
  refine G_region ?_
  refine GL_sr 3 3 [(1, In 2), (5, In (((val c).toNat) / 2)), (6, In 0)] (show ([.int .i64 ((2 : Nat) : Int), .int .i64 (IntKind.i64.wrap ((((val c).toNat : Nat) : Int).tdiv ((2 : Nat) : Int))), .int .i64 ((0 : Nat) : Int)] : List Value) = [In 2, In (((val c).toNat) / 2), In 0] by rw [nquo64 ((val c).toNat) 2 (by omega)]) fun β => ?_
  refine GL_end (by kernel_rfl) ?_
  refine inb_normal ?_
  refine thn_normal ?_
  refine G_region ?_
  refine GL_st 3 3 [(1, In 2), (5, In (((val c).toNat) / 2)), (6, In 1)] fun β => ?_
  refine GU_step ?_
  refine G_forget [(1, In 2), (5, In (((val c).toNat) / 2)), (6, In 1)] (by kernel_rfl) (fun β => ?_)
  refine G_seq ?_
  refine G_sr ?_
  refine GL_st 3 3 [(1, In 2), (5, In (((val c).toNat) / 2)), (6, In 1), (11, .bool true)] fun β => ?_
  refine G_true (by kernel_rfl) ?_
  refine G_skip ?_
  refine thn_normal ?_
  refine G_seq ?_
  refine G_block ?_
  refine G_seq ?_
  refine G_sr ?_
  refine GL_srt 3 3 [(1, In 2), (5, In (((val c).toNat) / 2)), (6, In 1), (16, .bool (((((val c).toNat) / 2) % 2) != 0))] (show ([.int .i64 ((2 : Nat) : Int), .int .i64 ((((val c).toNat) / 2 : Nat) : Int), .int .i64 ((1 : Nat) : Int), .bool ((((((val c).toNat) / 2 : Nat) : Int).tmod ((2 : Nat) : Int)) != ((0 : Nat) : Int))] : List Value) = [In 2, In (((val c).toNat) / 2), In 1, .bool (((((val c).toNat) / 2) % 2) != 0)] by rw [nrem64 (((val c).toNat) / 2) 2, nneq ((((val c).toNat) / 2) % 2) 0]) fun β => ?_
  refine G_cond (((((val c).toNat) / 2) % 2) != 0) (by kernel_rfl) (fun h1 => ?_) (fun h1 => ?_)
  · --yes
   replace h1 : ¬ (((((val c).toNat) / 2) % 2) = 0) := neq_T h1
   refine G_sr ?_
   refine GL_st 1 1 [(4, .bool false)] fun β => ?_
   refine G_ret ?_
   refine thn_ret (inb_ret (thn_ret (thn_ret (inb_ret (thn_ret (res1 (v := .bool false) rfl (by kernel_rfl) ?_))))))
   replace H : Sep w0 w1 (F) := H
   refine ⟨?_, H⟩
   first | (rw [lowF, decide_eq_true hv, decide_eq_false (show ¬ (val c).toNat % 4 = 0 by omega)]; done) | (rw [lowF, decide_eq_true hv, decide_eq_true (show (val c).toNat % 4 = 0 by omega), decide_eq_true (by omega)]; done) | (rw [lowF, decide_eq_true hv, decide_eq_false (show ¬ (val c).toNat % 4 = 0 by omega)]; rfl) | (rw [lowF, decide_eq_true hv, decide_eq_true (show (val c).toNat % 4 = 0 by omega), decide_eq_true (by omega)]; rfl)
  · --no
   replace h1 : ((((val c).toNat) / 2) % 2) = 0 := neq_F h1
   refine G_skip ?_
   refine thn_normal ?_
   refine G_region ?_
   refine GL_sr 3 3 [(1, In 2), (5, In ((((val c).toNat) / 2) / 2)), (6, In 1)] (show ([.int .i64 ((2 : Nat) : Int), .int .i64 (IntKind.i64.wrap (((((val c).toNat) / 2 : Nat) : Int).tdiv ((2 : Nat) : Int))), .int .i64 ((1 : Nat) : Int)] : List Value) = [In 2, In ((((val c).toNat) / 2) / 2), In 1] by rw [nquo64 (((val c).toNat) / 2) 2 (by omega)]) fun β => ?_
   refine GL_end (by kernel_rfl) ?_
   refine inb_normal ?_
   refine thn_normal ?_
   refine G_region ?_
   refine GL_st 3 3 [(1, In 2), (5, In ((((val c).toNat) / 2) / 2)), (6, In 2)] fun β => ?_
   refine GU_step ?_
   refine G_forget [(1, In 2), (5, In ((((val c).toNat) / 2) / 2)), (6, In 2)] (by kernel_rfl) (fun β => ?_)
   refine G_seq ?_
   refine G_sr ?_
   refine GL_st 3 3 [(1, In 2), (5, In ((((val c).toNat) / 2) / 2)), (6, In 2), (11, .bool false)] fun β => ?_
   refine G_false (by kernel_rfl) ?_
   refine G_exit (thn_exit (thn_exit (inb_hit ?_)))
   refine thn_normal ?_
   refine G_sr ?_
   refine GL_srt 3 3 [(4, .bool (decide (((((val c).toNat) / 2) / 2) ≥ 0)))] (show ([.bool (decide ((((((val c).toNat) / 2) / 2 : Nat) : Int) ≥ ((0 : Nat) : Int)))] : List Value) = [.bool (decide (((((val c).toNat) / 2) / 2) ≥ 0))] by rw [ngeq ((((val c).toNat) / 2) / 2) 0]) fun β => ?_
   refine G_ret ?_
   refine res1 (v := .bool (decide (((((val c).toNat) / 2) / 2) ≥ 0))) rfl (by kernel_rfl) ?_
   replace H : Sep w0 w1 (F) := H
   refine ⟨?_, H⟩
   first | (rw [lowF, decide_eq_true hv, decide_eq_false (show ¬ (val c).toNat % 4 = 0 by omega)]; done) | (rw [lowF, decide_eq_true hv, decide_eq_true (show (val c).toNat % 4 = 0 by omega), decide_eq_true (by omega)]; done) | (rw [lowF, decide_eq_true hv, decide_eq_false (show ¬ (val c).toNat % 4 = 0 by omega)]; rfl) | (rw [lowF, decide_eq_true hv, decide_eq_true (show (val c).toNat % 4 = 0 by omega), decide_eq_true (by omega)]; rfl)
/-- posthorn/posthornref04.low -/
theorem c_low_4_no (c : UInt8) (hv : ¬ val c < 64) {w0 w : World} {F : List Chunk} (H : Sep w0 w F) : Ret Tryd.prog 62 #[.int .u8 (c.toNat : Int), In 2] w (fun v w' => v = .bool (lowF c 4) ∧ Sep w0 w' F) := by
 refine Ret_enter (args := [By c, In 2]) Tryd.func62 rfl (by kernel_rfl) ?_
 refine G_forget [(0, By c), (1, In 2)] (by kernel_rfl) (fun β => ?_)
 refine G_sr ?_
 refine GL_st 1 1 [(0, By c), (1, In 2)] fun β => ?_
 refine G_sr ?_
 refine GL_s 1 1 [(1, In 2), (7, By c)] fun β => ?_
 refine GL_C (c_number c H) ?_
 rintro _ w1 ⟨rfl, H⟩
 rw [show numI c = -1 from if_neg hv]
 refine GL_st 1 3 [(1, In 2), (5, .int .i64 (-1 : Int))] fun β => ?_
 refine G_seq ?_
 refine G_sr ?_
 refine GL_st 1 1 [(1, In 2), (5, .int .i64 (-1 : Int)), (6, In 0)] fun β => ?_
 refine G_block ?_
 refine G_un 3 ?_
 refine GU_step ?_
 refine G_forget [(1, In 2), (5, .int .i64 (-1 : Int)), (6, In 0)] (by kernel_rfl) (fun β => ?_)
 refine G_seq ?_
 refine G_sr ?_
 refine GL_st 3 3 [(1, In 2), (5, .int .i64 (-1 : Int)), (6, In 0), (11, .bool true)] fun β => ?_
 refine G_true (by kernel_rfl) ?_
 refine G_skip ?_
 refine thn_normal ?_
 refine G_seq ?_
 refine G_block ?_
 refine G_seq ?_
 refine G_sr ?_
 refine GL_st 3 3 [(1, In 2), (5, .int .i64 (-1 : Int)), (6, In 0), (16, .bool true)] fun β => ?_
 refine G_true (by kernel_rfl) ?_
 refine G_sr ?_
 refine GL_st 1 1 [(4, .bool false)] fun β => ?_
 refine G_ret ?_
 refine thn_ret (inb_ret (thn_ret (thn_ret (inb_ret (thn_ret (res1 (v := .bool false) rfl (by kernel_rfl) ?_))))))
 replace H : Sep w0 w1 (F) := H
 exact ⟨by rw [lowF, decide_eq_false hv]; rfl, H⟩
theorem c_low_4 (c : UInt8) {w0 w : World} {F : List Chunk} (H : Sep w0 w F) : Ret Tryd.prog 62 #[.int .u8 (c.toNat : Int), In 2] w (fun v w' => v = .bool (lowF c 4) ∧ Sep w0 w' F) := by
  by_cases hv : val c < 64
  · exact c_low_4_yes c hv H
  · exact c_low_4_no c hv H
/-- posthorn/posthornref04.begun -/
theorem c_begun_1 (a : UInt8) {w0 w : World} {F : List Chunk} (H : Sep w0 w F) : Ret Tryd.prog 54 #[S [a]] w (fun v w' => v = .bool (begF [a]) ∧ Sep w0 w' F) := by
 refine Ret_enter (args := [S [a]]) Tryd.func54 rfl (by kernel_rfl) ?_
 refine G_forget [(0, S [a])] (by kernel_rfl) (fun β => ?_)
 refine G_sr ?_
 refine GL_st 1 1 [(0, S [a])] fun β => ?_
 refine G_seq ?_
 refine G_sr ?_
 refine GL_st 1 1 [(0, S [a]), (3, In 0)] fun β => ?_
 refine G_block ?_
 refine G_un 2 ?_
 refine GU_step ?_
 refine G_forget [(0, S [a]), (3, In 0)] (by kernel_rfl) (fun β => ?_)
 refine G_seq ?_
 refine G_sr ?_
 refine GL_st 4 4 [(0, S [a]), (3, In 0), (8, .bool true)] fun β => ?_
 refine G_true (by kernel_rfl) ?_
 refine G_skip ?_
 refine thn_normal ?_
 refine G_seq ?_
 refine G_block ?_
 refine G_sr ?_
 refine GL_s 3 3 [(0, S [a]), (3, In 0), (13, By a)] fun β => ?_
 refine GL_C (c_number a H) ?_
 rintro _ w1 ⟨rfl, H⟩
 refine GL_srt 2 6 [(0, S [a]), (3, In 0), (4, .bool (isL a))] (show ([S [a], .int .i64 ((0 : Nat) : Int), .bool (decide ((numI a) ≥ ((0 : Nat) : Int)))] : List Value) = [S [a], In 0, .bool (isL a)] by rw [num_ge a]) fun β => ?_
 refine G_sr ?_
 refine GL_st 1 1 [(0, S [a]), (3, In 0), (4, .bool (isL a)), (16, In 0)] fun β => ?_
 refine G_block ?_
 refine G_seq ?_
 refine G_sr ?_
 refine GL_st 2 2 [(0, S [a]), (3, In 0), (4, .bool (isL a)), (16, In 0), (45, .bool true)] fun β => ?_
 refine G_true (by kernel_rfl) ?_
 refine G_skip ?_
 refine thn_normal ?_
 refine G_true (by kernel_rfl) ?_
 refine G_sr ?_
 refine GL_st 2 2 [(0, S [a]), (3, In 0), (49, .bool (!(isL a)))] fun β => ?_
 refine G_cond (!(isL a)) (by kernel_rfl) (fun h0 => ?_) (fun h0 => ?_)
 · --yes
  have h0 := not_F h0
  refine G_sr ?_
  refine GL_st 1 1 [(2, .bool false)] fun β => ?_
  refine G_ret ?_
  refine inb_ret (inb_ret (thn_ret (thn_ret (inb_ret (thn_ret (res1 (v := .bool false) rfl (by kernel_rfl) ?_))))))
  replace H : Sep w0 w1 (F) := H
  refine ⟨?_, H⟩
  clear H
  first | (simp [begF, l61, *]; done) | (simp_all [begF, l61]; done)
 · --no
  have h0 := not_T h0
  refine G_skip ?_
  refine inb_normal ?_
  refine inb_normal ?_
  refine thn_normal ?_
  refine G_region ?_
  refine GL_st 3 3 [(0, S [a]), (3, In 1)] fun β => ?_
  refine GU_step ?_
  refine G_forget [(0, S [a]), (3, In 1)] (by kernel_rfl) (fun β => ?_)
  refine G_seq ?_
  refine G_sr ?_
  refine GL_st 4 4 [(0, S [a]), (3, In 1), (8, .bool false)] fun β => ?_
  refine G_false (by kernel_rfl) ?_
  refine G_exit (thn_exit (thn_exit (inb_hit ?_)))
  refine thn_normal ?_
  refine G_sr ?_
  refine GL_st 1 1 [(2, .bool true)] fun β => ?_
  refine G_ret ?_
  refine res1 (v := .bool true) rfl (by kernel_rfl) ?_
  replace H : Sep w0 w1 (F) := H
  refine ⟨?_, H⟩
  clear H
  first | (simp [begF, l61, *]; done) | (simp_all [begF, l61]; done)
/-- posthorn/posthornref04.begun -/
theorem c_begun_2 (a b : UInt8) {w0 w : World} {F : List Chunk} (H : Sep w0 w F) : Ret Tryd.prog 54 #[S [a, b]] w (fun v w' => v = .bool (begF [a, b]) ∧ Sep w0 w' F) := by
 refine Ret_enter (args := [S [a, b]]) Tryd.func54 rfl (by kernel_rfl) ?_
 refine G_forget [(0, S [a, b])] (by kernel_rfl) (fun β => ?_)
 refine G_sr ?_
 refine GL_st 1 1 [(0, S [a, b])] fun β => ?_
 refine G_seq ?_
 refine G_sr ?_
 refine GL_st 1 1 [(0, S [a, b]), (3, In 0)] fun β => ?_
 refine G_block ?_
 refine G_un 3 ?_
 refine GU_step ?_
 refine G_forget [(0, S [a, b]), (3, In 0)] (by kernel_rfl) (fun β => ?_)
 refine G_seq ?_
 refine G_sr ?_
 refine GL_st 4 4 [(0, S [a, b]), (3, In 0), (8, .bool true)] fun β => ?_
 refine G_true (by kernel_rfl) ?_
 refine G_skip ?_
 refine thn_normal ?_
 refine G_seq ?_
 refine G_block ?_
 refine G_sr ?_
 refine GL_s 3 3 [(0, S [a, b]), (3, In 0), (13, By a)] fun β => ?_
 refine GL_C (c_number a H) ?_
 rintro _ w1 ⟨rfl, H⟩
 refine GL_srt 2 6 [(0, S [a, b]), (3, In 0), (4, .bool (isL a))] (show ([S [a, b], .int .i64 ((0 : Nat) : Int), .bool (decide ((numI a) ≥ ((0 : Nat) : Int)))] : List Value) = [S [a, b], In 0, .bool (isL a)] by rw [num_ge a]) fun β => ?_
 refine G_sr ?_
 refine GL_st 1 1 [(0, S [a, b]), (3, In 0), (4, .bool (isL a)), (16, In 0)] fun β => ?_
 refine G_block ?_
 refine G_seq ?_
 refine G_sr ?_
 refine GL_st 2 2 [(0, S [a, b]), (3, In 0), (4, .bool (isL a)), (16, In 0), (45, .bool true)] fun β => ?_
 refine G_true (by kernel_rfl) ?_
 refine G_skip ?_
 refine thn_normal ?_
 refine G_true (by kernel_rfl) ?_
 refine G_sr ?_
 refine GL_st 2 2 [(0, S [a, b]), (3, In 0), (49, .bool (!(isL a)))] fun β => ?_
 refine G_cond (!(isL a)) (by kernel_rfl) (fun h0 => ?_) (fun h0 => ?_)
 · --yes
  have h0 := not_F h0
  refine G_sr ?_
  refine GL_st 1 1 [(2, .bool false)] fun β => ?_
  refine G_ret ?_
  refine inb_ret (inb_ret (thn_ret (thn_ret (inb_ret (thn_ret (res1 (v := .bool false) rfl (by kernel_rfl) ?_))))))
  replace H : Sep w0 w1 (F) := H
  refine ⟨?_, H⟩
  clear H
  first | (simp [begF, l61, *]; done) | (simp_all [begF, l61]; done)
 · --no
  have h0 := not_T h0
  refine G_skip ?_
  refine inb_normal ?_
  refine inb_normal ?_
  refine thn_normal ?_
  refine G_region ?_
  refine GL_st 3 3 [(0, S [a, b]), (3, In 1)] fun β => ?_
  refine GU_step ?_
  refine G_forget [(0, S [a, b]), (3, In 1)] (by kernel_rfl) (fun β => ?_)
  refine G_seq ?_
  refine G_sr ?_
  refine GL_st 4 4 [(0, S [a, b]), (3, In 1), (8, .bool true)] fun β => ?_
  refine G_true (by kernel_rfl) ?_
  refine G_skip ?_
  refine thn_normal ?_
  refine G_seq ?_
  refine G_block ?_
  refine G_sr ?_
  refine GL_s 3 3 [(0, S [a, b]), (3, In 1), (13, By b)] fun β => ?_
  refine GL_C (c_number b H) ?_
  rintro _ w2 ⟨rfl, H⟩
  refine GL_srt 2 6 [(0, S [a, b]), (3, In 1), (4, .bool (isL b))] (show ([S [a, b], .int .i64 ((1 : Nat) : Int), .bool (decide ((numI b) ≥ ((0 : Nat) : Int)))] : List Value) = [S [a, b], In 1, .bool (isL b)] by rw [num_ge b]) fun β => ?_
  refine G_sr ?_
  refine GL_st 1 1 [(0, S [a, b]), (3, In 1), (4, .bool (isL b)), (16, In 1)] fun β => ?_
  refine G_block ?_
  refine G_seq ?_
  refine G_sr ?_
  refine GL_st 2 2 [(0, S [a, b]), (3, In 1), (4, .bool (isL b)), (16, In 1), (45, .bool false)] fun β => ?_
  refine G_false (by kernel_rfl) ?_
  refine G_region ?_
  refine GL_st 2 2 [(0, S [a, b]), (3, In 1), (4, .bool (isL b)), (16, In 1), (45, .bool true)] fun β => ?_
  refine G_true (by kernel_rfl) ?_
  refine G_sr ?_
  refine GL_st 2 2 [(0, S [a, b]), (3, In 1), (49, .bool (!(isL b)))] fun β => ?_
  refine G_cond (!(isL b)) (by kernel_rfl) (fun h1 => ?_) (fun h1 => ?_)
  · --yes
   have h1 := not_F h1
   refine G_sr ?_
   refine GL_st 1 1 [(2, .bool false)] fun β => ?_
   refine G_ret ?_
   refine inb_ret (inb_ret (thn_ret (thn_ret (inb_ret (thn_ret (res1 (v := .bool false) rfl (by kernel_rfl) ?_))))))
   replace H : Sep w0 w2 (F) := H
   refine ⟨?_, H⟩
   clear H
   first | (simp [begF, l61, *]; done) | (simp_all [begF, l61]; done)
  · --no
   have h1 := not_T h1
   refine G_skip ?_
   refine inb_normal ?_
   refine inb_normal ?_
   refine thn_normal ?_
   refine G_region ?_
   refine GL_st 3 3 [(0, S [a, b]), (3, In 2)] fun β => ?_
   refine GU_step ?_
   refine G_forget [(0, S [a, b]), (3, In 2)] (by kernel_rfl) (fun β => ?_)
   refine G_seq ?_
   refine G_sr ?_
   refine GL_st 4 4 [(0, S [a, b]), (3, In 2), (8, .bool false)] fun β => ?_
   refine G_false (by kernel_rfl) ?_
   refine G_exit (thn_exit (thn_exit (inb_hit ?_)))
   refine thn_normal ?_
   refine G_sr ?_
   refine GL_st 1 1 [(2, .bool true)] fun β => ?_
   refine G_ret ?_
   refine res1 (v := .bool true) rfl (by kernel_rfl) ?_
   replace H : Sep w0 w2 (F) := H
   refine ⟨?_, H⟩
   clear H
   first | (simp [begF, l61, *]; done) | (simp_all [begF, l61]; done)
/-- posthorn/posthornref04.begun -/
theorem c_begun_3 (a b c : UInt8) {w0 w : World} {F : List Chunk} (H : Sep w0 w F) : Ret Tryd.prog 54 #[S [a, b, c]] w (fun v w' => v = .bool (begF [a, b, c]) ∧ Sep w0 w' F) := by
 refine Ret_enter (args := [S [a, b, c]]) Tryd.func54 rfl (by kernel_rfl) ?_
 refine G_forget [(0, S [a, b, c])] (by kernel_rfl) (fun β => ?_)
 refine G_sr ?_
 refine GL_st 1 1 [(0, S [a, b, c])] fun β => ?_
 refine G_seq ?_
 refine G_sr ?_
 refine GL_st 1 1 [(0, S [a, b, c]), (3, In 0)] fun β => ?_
 refine G_block ?_
 refine G_un 4 ?_
 refine GU_step ?_
 refine G_forget [(0, S [a, b, c]), (3, In 0)] (by kernel_rfl) (fun β => ?_)
 refine G_seq ?_
 refine G_sr ?_
 refine GL_st 4 4 [(0, S [a, b, c]), (3, In 0), (8, .bool true)] fun β => ?_
 refine G_true (by kernel_rfl) ?_
 refine G_skip ?_
 refine thn_normal ?_
 refine G_seq ?_
 refine G_block ?_
 refine G_sr ?_
 refine GL_s 3 3 [(0, S [a, b, c]), (3, In 0), (13, By a)] fun β => ?_
 refine GL_C (c_number a H) ?_
 rintro _ w1 ⟨rfl, H⟩
 refine GL_srt 2 6 [(0, S [a, b, c]), (3, In 0), (4, .bool (isL a))] (show ([S [a, b, c], .int .i64 ((0 : Nat) : Int), .bool (decide ((numI a) ≥ ((0 : Nat) : Int)))] : List Value) = [S [a, b, c], In 0, .bool (isL a)] by rw [num_ge a]) fun β => ?_
 refine G_sr ?_
 refine GL_st 1 1 [(0, S [a, b, c]), (3, In 0), (4, .bool (isL a)), (16, In 0)] fun β => ?_
 refine G_block ?_
 refine G_seq ?_
 refine G_sr ?_
 refine GL_st 2 2 [(0, S [a, b, c]), (3, In 0), (4, .bool (isL a)), (16, In 0), (45, .bool true)] fun β => ?_
 refine G_true (by kernel_rfl) ?_
 refine G_skip ?_
 refine thn_normal ?_
 refine G_true (by kernel_rfl) ?_
 refine G_sr ?_
 refine GL_st 2 2 [(0, S [a, b, c]), (3, In 0), (49, .bool (!(isL a)))] fun β => ?_
 refine G_cond (!(isL a)) (by kernel_rfl) (fun h0 => ?_) (fun h0 => ?_)
 · --yes
  have h0 := not_F h0
  refine G_sr ?_
  refine GL_st 1 1 [(2, .bool false)] fun β => ?_
  refine G_ret ?_
  refine inb_ret (inb_ret (thn_ret (thn_ret (inb_ret (thn_ret (res1 (v := .bool false) rfl (by kernel_rfl) ?_))))))
  replace H : Sep w0 w1 (F) := H
  refine ⟨?_, H⟩
  clear H
  first | (simp [begF, l61, *]; done) | (simp_all [begF, l61]; done)
 · --no
  have h0 := not_T h0
  refine G_skip ?_
  refine inb_normal ?_
  refine inb_normal ?_
  refine thn_normal ?_
  refine G_region ?_
  refine GL_st 3 3 [(0, S [a, b, c]), (3, In 1)] fun β => ?_
  refine GU_step ?_
  refine G_forget [(0, S [a, b, c]), (3, In 1)] (by kernel_rfl) (fun β => ?_)
  refine G_seq ?_
  refine G_sr ?_
  refine GL_st 4 4 [(0, S [a, b, c]), (3, In 1), (8, .bool true)] fun β => ?_
  refine G_true (by kernel_rfl) ?_
  refine G_skip ?_
  refine thn_normal ?_
  refine G_seq ?_
  refine G_block ?_
  refine G_sr ?_
  refine GL_s 3 3 [(0, S [a, b, c]), (3, In 1), (13, By b)] fun β => ?_
  refine GL_C (c_number b H) ?_
  rintro _ w2 ⟨rfl, H⟩
  refine GL_srt 2 6 [(0, S [a, b, c]), (3, In 1), (4, .bool (isL b))] (show ([S [a, b, c], .int .i64 ((1 : Nat) : Int), .bool (decide ((numI b) ≥ ((0 : Nat) : Int)))] : List Value) = [S [a, b, c], In 1, .bool (isL b)] by rw [num_ge b]) fun β => ?_
  refine G_sr ?_
  refine GL_st 1 1 [(0, S [a, b, c]), (3, In 1), (4, .bool (isL b)), (16, In 1)] fun β => ?_
  refine G_block ?_
  refine G_seq ?_
  refine G_sr ?_
  refine GL_st 2 2 [(0, S [a, b, c]), (3, In 1), (4, .bool (isL b)), (16, In 1), (45, .bool false)] fun β => ?_
  refine G_false (by kernel_rfl) ?_
  refine G_region ?_
  refine GL_st 2 2 [(0, S [a, b, c]), (3, In 1), (4, .bool (isL b)), (16, In 1), (45, .bool true)] fun β => ?_
  refine G_true (by kernel_rfl) ?_
  refine G_sr ?_
  refine GL_st 2 2 [(0, S [a, b, c]), (3, In 1), (49, .bool (!(isL b)))] fun β => ?_
  refine G_cond (!(isL b)) (by kernel_rfl) (fun h1 => ?_) (fun h1 => ?_)
  · --yes
   have h1 := not_F h1
   refine G_sr ?_
   refine GL_st 1 1 [(2, .bool false)] fun β => ?_
   refine G_ret ?_
   refine inb_ret (inb_ret (thn_ret (thn_ret (inb_ret (thn_ret (res1 (v := .bool false) rfl (by kernel_rfl) ?_))))))
   replace H : Sep w0 w2 (F) := H
   refine ⟨?_, H⟩
   clear H
   first | (simp [begF, l61, *]; done) | (simp_all [begF, l61]; done)
  · --no
   have h1 := not_T h1
   refine G_skip ?_
   refine inb_normal ?_
   refine inb_normal ?_
   refine thn_normal ?_
   refine G_region ?_
   refine GL_st 3 3 [(0, S [a, b, c]), (3, In 2)] fun β => ?_
   refine GU_step ?_
   refine G_forget [(0, S [a, b, c]), (3, In 2)] (by kernel_rfl) (fun β => ?_)
   refine G_seq ?_
   refine G_sr ?_
   refine GL_st 4 4 [(0, S [a, b, c]), (3, In 2), (8, .bool true)] fun β => ?_
   refine G_true (by kernel_rfl) ?_
   refine G_skip ?_
   refine thn_normal ?_
   refine G_seq ?_
   refine G_block ?_
   refine G_sr ?_
   refine GL_s 3 3 [(0, S [a, b, c]), (3, In 2), (13, By c)] fun β => ?_
   refine GL_C (c_number c H) ?_
   rintro _ w3 ⟨rfl, H⟩
   refine GL_srt 2 6 [(0, S [a, b, c]), (3, In 2), (4, .bool (isL c))] (show ([S [a, b, c], .int .i64 ((2 : Nat) : Int), .bool (decide ((numI c) ≥ ((0 : Nat) : Int)))] : List Value) = [S [a, b, c], In 2, .bool (isL c)] by rw [num_ge c]) fun β => ?_
   refine G_sr ?_
   refine GL_st 1 1 [(0, S [a, b, c]), (3, In 2), (4, .bool (isL c)), (16, In 2)] fun β => ?_
   refine G_block ?_
   refine G_seq ?_
   refine G_sr ?_
   refine GL_st 2 2 [(0, S [a, b, c]), (3, In 2), (4, .bool (isL c)), (16, In 2), (45, .bool false)] fun β => ?_
   refine G_false (by kernel_rfl) ?_
   refine G_region ?_
   refine GL_st 2 2 [(0, S [a, b, c]), (3, In 2), (4, .bool (isL c)), (16, In 2), (45, .bool false)] fun β => ?_
   refine G_false (by kernel_rfl) ?_
   refine G_sr ?_
   refine GL_st 2 2 [(0, S [a, b, c]), (3, In 2), (4, .bool (isL c)), (50, .bool true)] fun β => ?_
   refine G_true (by kernel_rfl) ?_
   refine G_sr ?_
   refine GL_s 3 3 [(0, S [a, b, c]), (3, In 2), (54, .bool (!(isL c)))] fun β => ?_
   rcases Bool.eq_false_or_eq_true (!(isL c)) with h2 | h2
   · --yes
    refine GL_re [(0, S [a, b, c]), (3, In 2), (54, .bool true)] (show ([S [a, b, c], In 2, .bool (!(isL c))] : List Value) = [S [a, b, c], In 2, .bool true] by rw [h2]) (fun β => ?_)
    have h2 := not_F h2
    refine GL_sr 4 7 [(0, S [a, b, c]), (3, In 2), (54, .bool true), (58, .bool (c != (61 : UInt8)))] (show ([S [a, b, c], .int .i64 ((2 : Nat) : Int), .bool true, .bool ((c.toNat : Int) != ((61 : UInt8).toNat : Int))] : List Value) = [S [a, b, c], In 2, .bool true, .bool (c != (61 : UInt8))] by rw [Kw.u8_neq c (61 : UInt8)]) fun β => ?_
    rcases Bool.eq_false_or_eq_true (c != (61 : UInt8)) with h3 | h3
    · --yes
     refine GL_re [(0, S [a, b, c]), (3, In 2), (54, .bool true), (58, .bool true)] (show ([S [a, b, c], In 2, .bool true, .bool (c != (61 : UInt8))] : List Value) = [S [a, b, c], In 2, .bool true, .bool true] by rw [h3]) (fun β => ?_)
     replace h3 : ¬ (c = (61 : UInt8)) := neq_T h3
     refine GL_st 6 13 [(0, S [a, b, c]), (3, In 2), (64, .bool true)] fun β => ?_
     refine G_true (by kernel_rfl) ?_
     refine G_sr ?_
     refine GL_st 1 1 [(2, .bool false)] fun β => ?_
     refine G_ret ?_
     refine inb_ret (inb_ret (thn_ret (thn_ret (inb_ret (thn_ret (res1 (v := .bool false) rfl (by kernel_rfl) ?_))))))
     replace H : Sep w0 w3 (F) := H
     refine ⟨?_, H⟩
     clear H
     first | (simp [begF, l61, *]; done) | (simp_all [begF, l61]; done)
    · --no
     refine GL_re [(0, S [a, b, c]), (3, In 2), (54, .bool true), (58, .bool false)] (show ([S [a, b, c], In 2, .bool true, .bool (c != (61 : UInt8))] : List Value) = [S [a, b, c], In 2, .bool true, .bool false] by rw [h3]) (fun β => ?_)
     replace h3 : c = (61 : UInt8) := neq_F h3
     refine GL_s 2 9 [(0, S [a, b, c]), (3, In 2), (54, .bool true), (58, .bool false), (60, By b)] fun β => ?_
     refine GL_C (c_low_16 b H) ?_
     rintro _ w4 ⟨rfl, H⟩
     refine GL_st 3 13 [(0, S [a, b, c]), (3, In 2), (64, .bool (!(lowF b 16)))] fun β => ?_
     refine G_cond (!(lowF b 16)) (by kernel_rfl) (fun h4 => ?_) (fun h4 => ?_)
     · --yes
      have h4 := not_F h4
      refine G_sr ?_
      refine GL_st 1 1 [(2, .bool false)] fun β => ?_
      refine G_ret ?_
      refine inb_ret (inb_ret (thn_ret (thn_ret (inb_ret (thn_ret (res1 (v := .bool false) rfl (by kernel_rfl) ?_))))))
      replace H : Sep w0 w4 (F) := H
      refine ⟨?_, H⟩
      clear H
      first | (simp [begF, l61, *]; done) | (simp_all [begF, l61]; done)
     · --no
      have h4 := not_T h4
      refine G_skip ?_
      refine inb_normal ?_
      refine inb_normal ?_
      refine thn_normal ?_
      refine G_region ?_
      refine GL_st 3 3 [(0, S [a, b, c]), (3, In 3)] fun β => ?_
      refine GU_step ?_
      refine G_forget [(0, S [a, b, c]), (3, In 3)] (by kernel_rfl) (fun β => ?_)
      refine G_seq ?_
      refine G_sr ?_
      refine GL_st 4 4 [(0, S [a, b, c]), (3, In 3), (8, .bool false)] fun β => ?_
      refine G_false (by kernel_rfl) ?_
      refine G_exit (thn_exit (thn_exit (inb_hit ?_)))
      refine thn_normal ?_
      refine G_sr ?_
      refine GL_st 1 1 [(2, .bool true)] fun β => ?_
      refine G_ret ?_
      refine res1 (v := .bool true) rfl (by kernel_rfl) ?_
      replace H : Sep w0 w4 (F) := H
      refine ⟨?_, H⟩
      clear H
      first | (simp [begF, l61, *]; done) | (simp_all [begF, l61]; done)
   · --no
    refine GL_re [(0, S [a, b, c]), (3, In 2), (54, .bool false)] (show ([S [a, b, c], In 2, .bool (!(isL c))] : List Value) = [S [a, b, c], In 2, .bool false] by rw [h2]) (fun β => ?_)
    have h2 := not_T h2
    refine GL_st 10 13 [(0, S [a, b, c]), (3, In 2), (64, .bool false)] fun β => ?_
    refine G_false (by kernel_rfl) ?_
    refine G_skip ?_
    refine inb_normal ?_
    refine inb_normal ?_
    refine thn_normal ?_
    refine G_region ?_
    refine GL_st 3 3 [(0, S [a, b, c]), (3, In 3)] fun β => ?_
    refine GU_step ?_
    refine G_forget [(0, S [a, b, c]), (3, In 3)] (by kernel_rfl) (fun β => ?_)
    refine G_seq ?_
    refine G_sr ?_
    refine GL_st 4 4 [(0, S [a, b, c]), (3, In 3), (8, .bool false)] fun β => ?_
    refine G_false (by kernel_rfl) ?_
    refine G_exit (thn_exit (thn_exit (inb_hit ?_)))
    refine thn_normal ?_
    refine G_sr ?_
    refine GL_st 1 1 [(2, .bool true)] fun β => ?_
    refine G_ret ?_
    refine res1 (v := .bool true) rfl (by kernel_rfl) ?_
    replace H : Sep w0 w3 (F) := H
    refine ⟨?_, H⟩
    clear H
    first | (simp [begF, l61, *]; done) | (simp_all [begF, l61]; done)
/-- posthorn/posthornref04.begun -/
theorem c_begun_4 (a b c d : UInt8) {w0 w : World} {F : List Chunk} (H : Sep w0 w F) : Ret Tryd.prog 54 #[S [a, b, c, d]] w (fun v w' => v = .bool (begF [a, b, c, d]) ∧ Sep w0 w' F) := by
 refine Ret_enter (args := [S [a, b, c, d]]) Tryd.func54 rfl (by kernel_rfl) ?_
 refine G_forget [(0, S [a, b, c, d])] (by kernel_rfl) (fun β => ?_)
 refine G_sr ?_
 refine GL_st 1 1 [(0, S [a, b, c, d])] fun β => ?_
 refine G_seq ?_
 refine G_sr ?_
 refine GL_st 1 1 [(0, S [a, b, c, d]), (3, In 0)] fun β => ?_
 refine G_block ?_
 refine G_un 5 ?_
 refine GU_step ?_
 refine G_forget [(0, S [a, b, c, d]), (3, In 0)] (by kernel_rfl) (fun β => ?_)
 refine G_seq ?_
 refine G_sr ?_
 refine GL_st 4 4 [(0, S [a, b, c, d]), (3, In 0), (8, .bool true)] fun β => ?_
 refine G_true (by kernel_rfl) ?_
 refine G_skip ?_
 refine thn_normal ?_
 refine G_seq ?_
 refine G_block ?_
 refine G_sr ?_
 refine GL_s 3 3 [(0, S [a, b, c, d]), (3, In 0), (13, By a)] fun β => ?_
 refine GL_C (c_number a H) ?_
 rintro _ w1 ⟨rfl, H⟩
 refine GL_srt 2 6 [(0, S [a, b, c, d]), (3, In 0), (4, .bool (isL a))] (show ([S [a, b, c, d], .int .i64 ((0 : Nat) : Int), .bool (decide ((numI a) ≥ ((0 : Nat) : Int)))] : List Value) = [S [a, b, c, d], In 0, .bool (isL a)] by rw [num_ge a]) fun β => ?_
 refine G_sr ?_
 refine GL_st 1 1 [(0, S [a, b, c, d]), (3, In 0), (4, .bool (isL a)), (16, In 0)] fun β => ?_
 refine G_block ?_
 refine G_seq ?_
 refine G_sr ?_
 refine GL_st 2 2 [(0, S [a, b, c, d]), (3, In 0), (4, .bool (isL a)), (16, In 0), (45, .bool true)] fun β => ?_
 refine G_true (by kernel_rfl) ?_
 refine G_skip ?_
 refine thn_normal ?_
 refine G_true (by kernel_rfl) ?_
 refine G_sr ?_
 refine GL_st 2 2 [(0, S [a, b, c, d]), (3, In 0), (49, .bool (!(isL a)))] fun β => ?_
 refine G_cond (!(isL a)) (by kernel_rfl) (fun h0 => ?_) (fun h0 => ?_)
 · --yes
  have h0 := not_F h0
  refine G_sr ?_
  refine GL_st 1 1 [(2, .bool false)] fun β => ?_
  refine G_ret ?_
  refine inb_ret (inb_ret (thn_ret (thn_ret (inb_ret (thn_ret (res1 (v := .bool false) rfl (by kernel_rfl) ?_))))))
  replace H : Sep w0 w1 (F) := H
  refine ⟨?_, H⟩
  clear H
  first | (simp [begF, l61, *]; done) | (simp_all [begF, l61]; done)
 · --no
  have h0 := not_T h0
  refine G_skip ?_
  refine inb_normal ?_
  refine inb_normal ?_
  refine thn_normal ?_
  refine G_region ?_
  refine GL_st 3 3 [(0, S [a, b, c, d]), (3, In 1)] fun β => ?_
  refine GU_step ?_
  refine G_forget [(0, S [a, b, c, d]), (3, In 1)] (by kernel_rfl) (fun β => ?_)
  refine G_seq ?_
  refine G_sr ?_
  refine GL_st 4 4 [(0, S [a, b, c, d]), (3, In 1), (8, .bool true)] fun β => ?_
  refine G_true (by kernel_rfl) ?_
  refine G_skip ?_
  refine thn_normal ?_
  refine G_seq ?_
  refine G_block ?_
  refine G_sr ?_
  refine GL_s 3 3 [(0, S [a, b, c, d]), (3, In 1), (13, By b)] fun β => ?_
  refine GL_C (c_number b H) ?_
  rintro _ w2 ⟨rfl, H⟩
  refine GL_srt 2 6 [(0, S [a, b, c, d]), (3, In 1), (4, .bool (isL b))] (show ([S [a, b, c, d], .int .i64 ((1 : Nat) : Int), .bool (decide ((numI b) ≥ ((0 : Nat) : Int)))] : List Value) = [S [a, b, c, d], In 1, .bool (isL b)] by rw [num_ge b]) fun β => ?_
  refine G_sr ?_
  refine GL_st 1 1 [(0, S [a, b, c, d]), (3, In 1), (4, .bool (isL b)), (16, In 1)] fun β => ?_
  refine G_block ?_
  refine G_seq ?_
  refine G_sr ?_
  refine GL_st 2 2 [(0, S [a, b, c, d]), (3, In 1), (4, .bool (isL b)), (16, In 1), (45, .bool false)] fun β => ?_
  refine G_false (by kernel_rfl) ?_
  refine G_region ?_
  refine GL_st 2 2 [(0, S [a, b, c, d]), (3, In 1), (4, .bool (isL b)), (16, In 1), (45, .bool true)] fun β => ?_
  refine G_true (by kernel_rfl) ?_
  refine G_sr ?_
  refine GL_st 2 2 [(0, S [a, b, c, d]), (3, In 1), (49, .bool (!(isL b)))] fun β => ?_
  refine G_cond (!(isL b)) (by kernel_rfl) (fun h1 => ?_) (fun h1 => ?_)
  · --yes
   have h1 := not_F h1
   refine G_sr ?_
   refine GL_st 1 1 [(2, .bool false)] fun β => ?_
   refine G_ret ?_
   refine inb_ret (inb_ret (thn_ret (thn_ret (inb_ret (thn_ret (res1 (v := .bool false) rfl (by kernel_rfl) ?_))))))
   replace H : Sep w0 w2 (F) := H
   refine ⟨?_, H⟩
   clear H
   first | (simp [begF, l61, *]; done) | (simp_all [begF, l61]; done)
  · --no
   have h1 := not_T h1
   refine G_skip ?_
   refine inb_normal ?_
   refine inb_normal ?_
   refine thn_normal ?_
   refine G_region ?_
   refine GL_st 3 3 [(0, S [a, b, c, d]), (3, In 2)] fun β => ?_
   refine GU_step ?_
   refine G_forget [(0, S [a, b, c, d]), (3, In 2)] (by kernel_rfl) (fun β => ?_)
   refine G_seq ?_
   refine G_sr ?_
   refine GL_st 4 4 [(0, S [a, b, c, d]), (3, In 2), (8, .bool true)] fun β => ?_
   refine G_true (by kernel_rfl) ?_
   refine G_skip ?_
   refine thn_normal ?_
   refine G_seq ?_
   refine G_block ?_
   refine G_sr ?_
   refine GL_s 3 3 [(0, S [a, b, c, d]), (3, In 2), (13, By c)] fun β => ?_
   refine GL_C (c_number c H) ?_
   rintro _ w3 ⟨rfl, H⟩
   refine GL_srt 2 6 [(0, S [a, b, c, d]), (3, In 2), (4, .bool (isL c))] (show ([S [a, b, c, d], .int .i64 ((2 : Nat) : Int), .bool (decide ((numI c) ≥ ((0 : Nat) : Int)))] : List Value) = [S [a, b, c, d], In 2, .bool (isL c)] by rw [num_ge c]) fun β => ?_
   refine G_sr ?_
   refine GL_st 1 1 [(0, S [a, b, c, d]), (3, In 2), (4, .bool (isL c)), (16, In 2)] fun β => ?_
   refine G_block ?_
   refine G_seq ?_
   refine G_sr ?_
   refine GL_st 2 2 [(0, S [a, b, c, d]), (3, In 2), (4, .bool (isL c)), (16, In 2), (45, .bool false)] fun β => ?_
   refine G_false (by kernel_rfl) ?_
   refine G_region ?_
   refine GL_st 2 2 [(0, S [a, b, c, d]), (3, In 2), (4, .bool (isL c)), (16, In 2), (45, .bool false)] fun β => ?_
   refine G_false (by kernel_rfl) ?_
   refine G_sr ?_
   refine GL_st 2 2 [(0, S [a, b, c, d]), (3, In 2), (4, .bool (isL c)), (50, .bool true)] fun β => ?_
   refine G_true (by kernel_rfl) ?_
   refine G_sr ?_
   refine GL_s 3 3 [(0, S [a, b, c, d]), (3, In 2), (54, .bool (!(isL c)))] fun β => ?_
   rcases Bool.eq_false_or_eq_true (!(isL c)) with h2 | h2
   · --yes
    refine GL_re [(0, S [a, b, c, d]), (3, In 2), (54, .bool true)] (show ([S [a, b, c, d], In 2, .bool (!(isL c))] : List Value) = [S [a, b, c, d], In 2, .bool true] by rw [h2]) (fun β => ?_)
    have h2 := not_F h2
    refine GL_sr 4 7 [(0, S [a, b, c, d]), (3, In 2), (54, .bool true), (58, .bool (c != (61 : UInt8)))] (show ([S [a, b, c, d], .int .i64 ((2 : Nat) : Int), .bool true, .bool ((c.toNat : Int) != ((61 : UInt8).toNat : Int))] : List Value) = [S [a, b, c, d], In 2, .bool true, .bool (c != (61 : UInt8))] by rw [Kw.u8_neq c (61 : UInt8)]) fun β => ?_
    rcases Bool.eq_false_or_eq_true (c != (61 : UInt8)) with h3 | h3
    · --yes
     refine GL_re [(0, S [a, b, c, d]), (3, In 2), (54, .bool true), (58, .bool true)] (show ([S [a, b, c, d], In 2, .bool true, .bool (c != (61 : UInt8))] : List Value) = [S [a, b, c, d], In 2, .bool true, .bool true] by rw [h3]) (fun β => ?_)
     replace h3 : ¬ (c = (61 : UInt8)) := neq_T h3
     refine GL_st 6 13 [(0, S [a, b, c, d]), (3, In 2), (64, .bool true)] fun β => ?_
     refine G_true (by kernel_rfl) ?_
     refine G_sr ?_
     refine GL_st 1 1 [(2, .bool false)] fun β => ?_
     refine G_ret ?_
     refine inb_ret (inb_ret (thn_ret (thn_ret (inb_ret (thn_ret (res1 (v := .bool false) rfl (by kernel_rfl) ?_))))))
     replace H : Sep w0 w3 (F) := H
     refine ⟨?_, H⟩
     clear H
     first | (simp [begF, l61, *]; done) | (simp_all [begF, l61]; done)
    · --no
     refine GL_re [(0, S [a, b, c, d]), (3, In 2), (54, .bool true), (58, .bool false)] (show ([S [a, b, c, d], In 2, .bool true, .bool (c != (61 : UInt8))] : List Value) = [S [a, b, c, d], In 2, .bool true, .bool false] by rw [h3]) (fun β => ?_)
     replace h3 : c = (61 : UInt8) := neq_F h3
     refine GL_s 2 9 [(0, S [a, b, c, d]), (3, In 2), (54, .bool true), (58, .bool false), (60, By b)] fun β => ?_
     refine GL_C (c_low_16 b H) ?_
     rintro _ w4 ⟨rfl, H⟩
     refine GL_st 3 13 [(0, S [a, b, c, d]), (3, In 2), (64, .bool (!(lowF b 16)))] fun β => ?_
     refine G_cond (!(lowF b 16)) (by kernel_rfl) (fun h4 => ?_) (fun h4 => ?_)
     · --yes
      have h4 := not_F h4
      refine G_sr ?_
      refine GL_st 1 1 [(2, .bool false)] fun β => ?_
      refine G_ret ?_
      refine inb_ret (inb_ret (thn_ret (thn_ret (inb_ret (thn_ret (res1 (v := .bool false) rfl (by kernel_rfl) ?_))))))
      replace H : Sep w0 w4 (F) := H
      refine ⟨?_, H⟩
      clear H
      first | (simp [begF, l61, *]; done) | (simp_all [begF, l61]; done)
     · --no
      have h4 := not_T h4
      refine G_skip ?_
      refine inb_normal ?_
      refine inb_normal ?_
      refine thn_normal ?_
      refine G_region ?_
      refine GL_st 3 3 [(0, S [a, b, c, d]), (3, In 3)] fun β => ?_
      refine GU_step ?_
      refine G_forget [(0, S [a, b, c, d]), (3, In 3)] (by kernel_rfl) (fun β => ?_)
      refine G_seq ?_
      refine G_sr ?_
      refine GL_st 4 4 [(0, S [a, b, c, d]), (3, In 3), (8, .bool true)] fun β => ?_
      refine G_true (by kernel_rfl) ?_
      refine G_skip ?_
      refine thn_normal ?_
      refine G_seq ?_
      refine G_block ?_
      refine G_sr ?_
      refine GL_s 3 3 [(0, S [a, b, c, d]), (3, In 3), (13, By d)] fun β => ?_
      refine GL_C (c_number d H) ?_
      rintro _ w5 ⟨rfl, H⟩
      refine GL_srt 2 6 [(0, S [a, b, c, d]), (3, In 3), (4, .bool (isL d))] (show ([S [a, b, c, d], .int .i64 ((3 : Nat) : Int), .bool (decide ((numI d) ≥ ((0 : Nat) : Int)))] : List Value) = [S [a, b, c, d], In 3, .bool (isL d)] by rw [num_ge d]) fun β => ?_
      refine G_sr ?_
      refine GL_st 1 1 [(0, S [a, b, c, d]), (3, In 3), (4, .bool (isL d)), (16, In 3)] fun β => ?_
      refine G_block ?_
      refine G_seq ?_
      refine G_sr ?_
      refine GL_st 2 2 [(0, S [a, b, c, d]), (3, In 3), (4, .bool (isL d)), (16, In 3), (45, .bool false)] fun β => ?_
      refine G_false (by kernel_rfl) ?_
      refine G_region ?_
      refine GL_st 2 2 [(0, S [a, b, c, d]), (3, In 3), (4, .bool (isL d)), (16, In 3), (45, .bool false)] fun β => ?_
      refine G_false (by kernel_rfl) ?_
      refine G_sr ?_
      refine GL_st 2 2 [(0, S [a, b, c, d]), (3, In 3), (4, .bool (isL d)), (50, .bool false)] fun β => ?_
      refine G_false (by kernel_rfl) ?_
      refine G_sr ?_
      refine GL_sr 4 4 [(0, S [a, b, c, d]), (3, In 3), (4, .bool (isL d)), (20, .bool (c == (61 : UInt8)))] (show ([S [a, b, c, d], .int .i64 ((3 : Nat) : Int), .bool (isL d), .bool ((c.toNat : Int) == ((61 : UInt8).toNat : Int))] : List Value) = [S [a, b, c, d], In 3, .bool (isL d), .bool (c == (61 : UInt8))] by rw [Kw.u8_eql c (61 : UInt8)]) fun β => ?_
      rcases Bool.eq_false_or_eq_true (c == (61 : UInt8)) with h5 | h5
      · --yes
       refine GL_re [(0, S [a, b, c, d]), (3, In 3), (4, .bool (isL d)), (20, .bool true)] (show ([S [a, b, c, d], In 3, .bool (isL d), .bool (c == (61 : UInt8))] : List Value) = [S [a, b, c, d], In 3, .bool (isL d), .bool true] by rw [h5]) (fun β => ?_)
       replace h5 : c = (61 : UInt8) := eql_T h5
       refine GL_sr 5 9 [(0, S [a, b, c, d]), (3, In 3), (4, .bool (isL d)), (25, .bool (d != (61 : UInt8)))] (show ([S [a, b, c, d], .int .i64 ((3 : Nat) : Int), .bool (isL d), .bool ((d.toNat : Int) != ((61 : UInt8).toNat : Int))] : List Value) = [S [a, b, c, d], In 3, .bool (isL d), .bool (d != (61 : UInt8))] by rw [Kw.u8_neq d (61 : UInt8)]) fun β => ?_
       rcases Bool.eq_false_or_eq_true (d != (61 : UInt8)) with h6 | h6
       · --yes
        refine GL_re [(0, S [a, b, c, d]), (3, In 3), (4, .bool (isL d)), (25, .bool true)] (show ([S [a, b, c, d], In 3, .bool (isL d), .bool (d != (61 : UInt8))] : List Value) = [S [a, b, c, d], In 3, .bool (isL d), .bool true] by rw [h6]) (fun β => ?_)
        replace h6 : ¬ (d = (61 : UInt8)) := neq_T h6
        refine GL_st 19 28 [(0, S [a, b, c, d]), (3, In 3), (44, .bool true)] fun β => ?_
        refine G_true (by kernel_rfl) ?_
        refine G_sr ?_
        refine GL_st 1 1 [(2, .bool false)] fun β => ?_
        refine G_ret ?_
        refine inb_ret (inb_ret (thn_ret (thn_ret (inb_ret (thn_ret (res1 (v := .bool false) rfl (by kernel_rfl) ?_))))))
        replace H : Sep w0 w5 (F) := H
        refine ⟨?_, H⟩
        clear H
        first | (simp [begF, l61, *]; done) | (simp_all [begF, l61]; done)
       · --no
        refine GL_re [(0, S [a, b, c, d]), (3, In 3), (4, .bool (isL d)), (25, .bool false)] (show ([S [a, b, c, d], In 3, .bool (isL d), .bool (d != (61 : UInt8))] : List Value) = [S [a, b, c, d], In 3, .bool (isL d), .bool false] by rw [h6]) (fun β => ?_)
        replace h6 : d = (61 : UInt8) := neq_F h6
        refine GL_sr 4 13 [(0, S [a, b, c, d]), (3, In 3), (4, .bool (isL d)), (25, .bool false), (29, .bool (c != (61 : UInt8)))] (show ([S [a, b, c, d], .int .i64 ((3 : Nat) : Int), .bool (isL d), .bool false, .bool ((c.toNat : Int) != ((61 : UInt8).toNat : Int))] : List Value) = [S [a, b, c, d], In 3, .bool (isL d), .bool false, .bool (c != (61 : UInt8))] by rw [Kw.u8_neq c (61 : UInt8)]) fun β => ?_
        rcases Bool.eq_false_or_eq_true (c != (61 : UInt8)) with h7 | h7
        · --yes
         refine GL_re [(0, S [a, b, c, d]), (3, In 3), (4, .bool (isL d)), (25, .bool false), (29, .bool true)] (show ([S [a, b, c, d], In 3, .bool (isL d), .bool false, .bool (c != (61 : UInt8))] : List Value) = [S [a, b, c, d], In 3, .bool (isL d), .bool false, .bool true] by rw [h7]) (fun β => ?_)
         replace h7 : ¬ (c = (61 : UInt8)) := neq_T h7
         refine GL_s 4 17 [(0, S [a, b, c, d]), (3, In 3), (25, .bool false), (33, .bool (!(isL d)))] fun β => ?_
         rcases Bool.eq_false_or_eq_true (!(isL d)) with h8 | h8
         · --yes
          refine GL_re [(0, S [a, b, c, d]), (3, In 3), (25, .bool false), (33, .bool true)] (show ([S [a, b, c, d], In 3, .bool false, .bool (!(isL d))] : List Value) = [S [a, b, c, d], In 3, .bool false, .bool true] by rw [h8]) (fun β => ?_)
          have h8 := not_F h8
          refine GL_sr 4 21 [(0, S [a, b, c, d]), (3, In 3), (25, .bool false), (33, .bool true), (37, .bool (d != (61 : UInt8)))] (show ([S [a, b, c, d], .int .i64 ((3 : Nat) : Int), .bool false, .bool true, .bool ((d.toNat : Int) != ((61 : UInt8).toNat : Int))] : List Value) = [S [a, b, c, d], In 3, .bool false, .bool true, .bool (d != (61 : UInt8))] by rw [Kw.u8_neq d (61 : UInt8)]) fun β => ?_
          rcases Bool.eq_false_or_eq_true (d != (61 : UInt8)) with h9 | h9
          · --yes
           refine GL_re [(0, S [a, b, c, d]), (3, In 3), (25, .bool false), (33, .bool true), (37, .bool true)] (show ([S [a, b, c, d], In 3, .bool false, .bool true, .bool (d != (61 : UInt8))] : List Value) = [S [a, b, c, d], In 3, .bool false, .bool true, .bool true] by rw [h9]) (fun β => ?_)
           replace h9 : ¬ (d = (61 : UInt8)) := neq_T h9
           refine GL_st 7 28 [(0, S [a, b, c, d]), (3, In 3), (44, .bool true)] fun β => ?_
           refine G_true (by kernel_rfl) ?_
           refine G_sr ?_
           refine GL_st 1 1 [(2, .bool false)] fun β => ?_
           refine G_ret ?_
           refine inb_ret (inb_ret (thn_ret (thn_ret (inb_ret (thn_ret (res1 (v := .bool false) rfl (by kernel_rfl) ?_))))))
           replace H : Sep w0 w5 (F) := H
           refine ⟨?_, H⟩
           clear H
           first | (simp [begF, l61, *]; done) | (simp_all [begF, l61]; done)
          · --no
           refine GL_re [(0, S [a, b, c, d]), (3, In 3), (25, .bool false), (33, .bool true), (37, .bool false)] (show ([S [a, b, c, d], In 3, .bool false, .bool true, .bool (d != (61 : UInt8))] : List Value) = [S [a, b, c, d], In 3, .bool false, .bool true, .bool false] by rw [h9]) (fun β => ?_)
           replace h9 : d = (61 : UInt8) := neq_F h9
           refine GL_s 2 23 [(0, S [a, b, c, d]), (3, In 3), (25, .bool false), (33, .bool true), (37, .bool false), (39, By c)] fun β => ?_
           refine GL_C (c_low_4 c H) ?_
           rintro _ w6 ⟨rfl, H⟩
           refine GL_st 4 28 [(0, S [a, b, c, d]), (3, In 3), (44, .bool (!(lowF c 4)))] fun β => ?_
           refine G_cond (!(lowF c 4)) (by kernel_rfl) (fun h10 => ?_) (fun h10 => ?_)
           · --yes
            have h10 := not_F h10
            refine G_sr ?_
            refine GL_st 1 1 [(2, .bool false)] fun β => ?_
            refine G_ret ?_
            refine inb_ret (inb_ret (thn_ret (thn_ret (inb_ret (thn_ret (res1 (v := .bool false) rfl (by kernel_rfl) ?_))))))
            replace H : Sep w0 w6 (F) := H
            refine ⟨?_, H⟩
            clear H
            first | (simp [begF, l61, *]; done) | (simp_all [begF, l61]; done)
           · --no
            have h10 := not_T h10
            refine G_skip ?_
            refine inb_normal ?_
            refine inb_normal ?_
            refine thn_normal ?_
            refine G_region ?_
            refine GL_st 3 3 [(0, S [a, b, c, d]), (3, In 4)] fun β => ?_
            refine GU_step ?_
            refine G_forget [(0, S [a, b, c, d]), (3, In 4)] (by kernel_rfl) (fun β => ?_)
            refine G_seq ?_
            refine G_sr ?_
            refine GL_st 4 4 [(0, S [a, b, c, d]), (3, In 4), (8, .bool false)] fun β => ?_
            refine G_false (by kernel_rfl) ?_
            refine G_exit (thn_exit (thn_exit (inb_hit ?_)))
            refine thn_normal ?_
            refine G_sr ?_
            refine GL_st 1 1 [(2, .bool true)] fun β => ?_
            refine G_ret ?_
            refine res1 (v := .bool true) rfl (by kernel_rfl) ?_
            replace H : Sep w0 w6 (F) := H
            refine ⟨?_, H⟩
            clear H
            first | (simp [begF, l61, *]; done) | (simp_all [begF, l61]; done)
         · --no
          refine GL_re [(0, S [a, b, c, d]), (3, In 3), (25, .bool false), (33, .bool false)] (show ([S [a, b, c, d], In 3, .bool false, .bool (!(isL d))] : List Value) = [S [a, b, c, d], In 3, .bool false, .bool false] by rw [h8]) (fun β => ?_)
          have h8 := not_T h8
          refine GL_st 11 28 [(0, S [a, b, c, d]), (3, In 3), (44, .bool false)] fun β => ?_
          refine G_false (by kernel_rfl) ?_
          refine G_skip ?_
          refine inb_normal ?_
          refine inb_normal ?_
          refine thn_normal ?_
          refine G_region ?_
          refine GL_st 3 3 [(0, S [a, b, c, d]), (3, In 4)] fun β => ?_
          refine GU_step ?_
          refine G_forget [(0, S [a, b, c, d]), (3, In 4)] (by kernel_rfl) (fun β => ?_)
          refine G_seq ?_
          refine G_sr ?_
          refine GL_st 4 4 [(0, S [a, b, c, d]), (3, In 4), (8, .bool false)] fun β => ?_
          refine G_false (by kernel_rfl) ?_
          refine G_exit (thn_exit (thn_exit (inb_hit ?_)))
          refine thn_normal ?_
          refine G_sr ?_
          refine GL_st 1 1 [(2, .bool true)] fun β => ?_
          refine G_ret ?_
          refine res1 (v := .bool true) rfl (by kernel_rfl) ?_
          replace H : Sep w0 w5 (F) := H
          refine ⟨?_, H⟩
          clear H
          first | (simp [begF, l61, *]; done) | (simp_all [begF, l61]; done)
        · --no
         refine GL_re [(0, S [a, b, c, d]), (3, In 3), (4, .bool (isL d)), (25, .bool false), (29, .bool false)] (show ([S [a, b, c, d], In 3, .bool (isL d), .bool false, .bool (c != (61 : UInt8))] : List Value) = [S [a, b, c, d], In 3, .bool (isL d), .bool false, .bool false] by rw [h7]) (fun β => ?_)
         replace h7 : c = (61 : UInt8) := neq_F h7
         refine GL_st 15 28 [(0, S [a, b, c, d]), (3, In 3), (44, .bool false)] fun β => ?_
         refine G_false (by kernel_rfl) ?_
         refine G_skip ?_
         refine inb_normal ?_
         refine inb_normal ?_
         refine thn_normal ?_
         refine G_region ?_
         refine GL_st 3 3 [(0, S [a, b, c, d]), (3, In 4)] fun β => ?_
         refine GU_step ?_
         refine G_forget [(0, S [a, b, c, d]), (3, In 4)] (by kernel_rfl) (fun β => ?_)
         refine G_seq ?_
         refine G_sr ?_
         refine GL_st 4 4 [(0, S [a, b, c, d]), (3, In 4), (8, .bool false)] fun β => ?_
         refine G_false (by kernel_rfl) ?_
         refine G_exit (thn_exit (thn_exit (inb_hit ?_)))
         refine thn_normal ?_
         refine G_sr ?_
         refine GL_st 1 1 [(2, .bool true)] fun β => ?_
         refine G_ret ?_
         refine res1 (v := .bool true) rfl (by kernel_rfl) ?_
         replace H : Sep w0 w5 (F) := H
         refine ⟨?_, H⟩
         clear H
         first | (simp [begF, l61, *]; done) | (simp_all [begF, l61]; done)
      · --no
       refine GL_re [(0, S [a, b, c, d]), (3, In 3), (4, .bool (isL d)), (20, .bool false)] (show ([S [a, b, c, d], In 3, .bool (isL d), .bool (c == (61 : UInt8))] : List Value) = [S [a, b, c, d], In 3, .bool (isL d), .bool false] by rw [h5]) (fun β => ?_)
       replace h5 : ¬ (c = (61 : UInt8)) := eql_F h5
       refine GL_sr 9 13 [(0, S [a, b, c, d]), (3, In 3), (4, .bool (isL d)), (25, .bool false), (29, .bool (c != (61 : UInt8)))] (show ([S [a, b, c, d], .int .i64 ((3 : Nat) : Int), .bool (isL d), .bool false, .bool ((c.toNat : Int) != ((61 : UInt8).toNat : Int))] : List Value) = [S [a, b, c, d], In 3, .bool (isL d), .bool false, .bool (c != (61 : UInt8))] by rw [Kw.u8_neq c (61 : UInt8)]) fun β => ?_
       rcases Bool.eq_false_or_eq_true (c != (61 : UInt8)) with h11 | h11
       · --yes
        refine GL_re [(0, S [a, b, c, d]), (3, In 3), (4, .bool (isL d)), (25, .bool false), (29, .bool true)] (show ([S [a, b, c, d], In 3, .bool (isL d), .bool false, .bool (c != (61 : UInt8))] : List Value) = [S [a, b, c, d], In 3, .bool (isL d), .bool false, .bool true] by rw [h11]) (fun β => ?_)
        replace h11 : ¬ (c = (61 : UInt8)) := neq_T h11
        refine GL_s 4 17 [(0, S [a, b, c, d]), (3, In 3), (25, .bool false), (33, .bool (!(isL d)))] fun β => ?_
        rcases Bool.eq_false_or_eq_true (!(isL d)) with h12 | h12
        · --yes
         refine GL_re [(0, S [a, b, c, d]), (3, In 3), (25, .bool false), (33, .bool true)] (show ([S [a, b, c, d], In 3, .bool false, .bool (!(isL d))] : List Value) = [S [a, b, c, d], In 3, .bool false, .bool true] by rw [h12]) (fun β => ?_)
         have h12 := not_F h12
         refine GL_sr 4 21 [(0, S [a, b, c, d]), (3, In 3), (25, .bool false), (33, .bool true), (37, .bool (d != (61 : UInt8)))] (show ([S [a, b, c, d], .int .i64 ((3 : Nat) : Int), .bool false, .bool true, .bool ((d.toNat : Int) != ((61 : UInt8).toNat : Int))] : List Value) = [S [a, b, c, d], In 3, .bool false, .bool true, .bool (d != (61 : UInt8))] by rw [Kw.u8_neq d (61 : UInt8)]) fun β => ?_
         rcases Bool.eq_false_or_eq_true (d != (61 : UInt8)) with h13 | h13
         · --yes
          refine GL_re [(0, S [a, b, c, d]), (3, In 3), (25, .bool false), (33, .bool true), (37, .bool true)] (show ([S [a, b, c, d], In 3, .bool false, .bool true, .bool (d != (61 : UInt8))] : List Value) = [S [a, b, c, d], In 3, .bool false, .bool true, .bool true] by rw [h13]) (fun β => ?_)
          replace h13 : ¬ (d = (61 : UInt8)) := neq_T h13
          refine GL_st 7 28 [(0, S [a, b, c, d]), (3, In 3), (44, .bool true)] fun β => ?_
          refine G_true (by kernel_rfl) ?_
          refine G_sr ?_
          refine GL_st 1 1 [(2, .bool false)] fun β => ?_
          refine G_ret ?_
          refine inb_ret (inb_ret (thn_ret (thn_ret (inb_ret (thn_ret (res1 (v := .bool false) rfl (by kernel_rfl) ?_))))))
          replace H : Sep w0 w5 (F) := H
          refine ⟨?_, H⟩
          clear H
          first | (simp [begF, l61, *]; done) | (simp_all [begF, l61]; done)
         · --no
          refine GL_re [(0, S [a, b, c, d]), (3, In 3), (25, .bool false), (33, .bool true), (37, .bool false)] (show ([S [a, b, c, d], In 3, .bool false, .bool true, .bool (d != (61 : UInt8))] : List Value) = [S [a, b, c, d], In 3, .bool false, .bool true, .bool false] by rw [h13]) (fun β => ?_)
          replace h13 : d = (61 : UInt8) := neq_F h13
          refine GL_s 2 23 [(0, S [a, b, c, d]), (3, In 3), (25, .bool false), (33, .bool true), (37, .bool false), (39, By c)] fun β => ?_
          refine GL_C (c_low_4 c H) ?_
          rintro _ w7 ⟨rfl, H⟩
          refine GL_st 4 28 [(0, S [a, b, c, d]), (3, In 3), (44, .bool (!(lowF c 4)))] fun β => ?_
          refine G_cond (!(lowF c 4)) (by kernel_rfl) (fun h14 => ?_) (fun h14 => ?_)
          · --yes
           have h14 := not_F h14
           refine G_sr ?_
           refine GL_st 1 1 [(2, .bool false)] fun β => ?_
           refine G_ret ?_
           refine inb_ret (inb_ret (thn_ret (thn_ret (inb_ret (thn_ret (res1 (v := .bool false) rfl (by kernel_rfl) ?_))))))
           replace H : Sep w0 w7 (F) := H
           refine ⟨?_, H⟩
           clear H
           first | (simp [begF, l61, *]; done) | (simp_all [begF, l61]; done)
          · --no
           have h14 := not_T h14
           refine G_skip ?_
           refine inb_normal ?_
           refine inb_normal ?_
           refine thn_normal ?_
           refine G_region ?_
           refine GL_st 3 3 [(0, S [a, b, c, d]), (3, In 4)] fun β => ?_
           refine GU_step ?_
           refine G_forget [(0, S [a, b, c, d]), (3, In 4)] (by kernel_rfl) (fun β => ?_)
           refine G_seq ?_
           refine G_sr ?_
           refine GL_st 4 4 [(0, S [a, b, c, d]), (3, In 4), (8, .bool false)] fun β => ?_
           refine G_false (by kernel_rfl) ?_
           refine G_exit (thn_exit (thn_exit (inb_hit ?_)))
           refine thn_normal ?_
           refine G_sr ?_
           refine GL_st 1 1 [(2, .bool true)] fun β => ?_
           refine G_ret ?_
           refine res1 (v := .bool true) rfl (by kernel_rfl) ?_
           replace H : Sep w0 w7 (F) := H
           refine ⟨?_, H⟩
           clear H
           first | (simp [begF, l61, *]; done) | (simp_all [begF, l61]; done)
        · --no
         refine GL_re [(0, S [a, b, c, d]), (3, In 3), (25, .bool false), (33, .bool false)] (show ([S [a, b, c, d], In 3, .bool false, .bool (!(isL d))] : List Value) = [S [a, b, c, d], In 3, .bool false, .bool false] by rw [h12]) (fun β => ?_)
         have h12 := not_T h12
         refine GL_st 11 28 [(0, S [a, b, c, d]), (3, In 3), (44, .bool false)] fun β => ?_
         refine G_false (by kernel_rfl) ?_
         refine G_skip ?_
         refine inb_normal ?_
         refine inb_normal ?_
         refine thn_normal ?_
         refine G_region ?_
         refine GL_st 3 3 [(0, S [a, b, c, d]), (3, In 4)] fun β => ?_
         refine GU_step ?_
         refine G_forget [(0, S [a, b, c, d]), (3, In 4)] (by kernel_rfl) (fun β => ?_)
         refine G_seq ?_
         refine G_sr ?_
         refine GL_st 4 4 [(0, S [a, b, c, d]), (3, In 4), (8, .bool false)] fun β => ?_
         refine G_false (by kernel_rfl) ?_
         refine G_exit (thn_exit (thn_exit (inb_hit ?_)))
         refine thn_normal ?_
         refine G_sr ?_
         refine GL_st 1 1 [(2, .bool true)] fun β => ?_
         refine G_ret ?_
         refine res1 (v := .bool true) rfl (by kernel_rfl) ?_
         replace H : Sep w0 w5 (F) := H
         refine ⟨?_, H⟩
         clear H
         first | (simp [begF, l61, *]; done) | (simp_all [begF, l61]; done)
       · --no
        refine GL_re [(0, S [a, b, c, d]), (3, In 3), (4, .bool (isL d)), (25, .bool false), (29, .bool false)] (show ([S [a, b, c, d], In 3, .bool (isL d), .bool false, .bool (c != (61 : UInt8))] : List Value) = [S [a, b, c, d], In 3, .bool (isL d), .bool false, .bool false] by rw [h11]) (fun β => ?_)
        replace h11 : c = (61 : UInt8) := neq_F h11
        refine GL_st 15 28 [(0, S [a, b, c, d]), (3, In 3), (44, .bool false)] fun β => ?_
        refine G_false (by kernel_rfl) ?_
        refine G_skip ?_
        refine inb_normal ?_
        refine inb_normal ?_
        refine thn_normal ?_
        refine G_region ?_
        refine GL_st 3 3 [(0, S [a, b, c, d]), (3, In 4)] fun β => ?_
        refine GU_step ?_
        refine G_forget [(0, S [a, b, c, d]), (3, In 4)] (by kernel_rfl) (fun β => ?_)
        refine G_seq ?_
        refine G_sr ?_
        refine GL_st 4 4 [(0, S [a, b, c, d]), (3, In 4), (8, .bool false)] fun β => ?_
        refine G_false (by kernel_rfl) ?_
        refine G_exit (thn_exit (thn_exit (inb_hit ?_)))
        refine thn_normal ?_
        refine G_sr ?_
        refine GL_st 1 1 [(2, .bool true)] fun β => ?_
        refine G_ret ?_
        refine res1 (v := .bool true) rfl (by kernel_rfl) ?_
        replace H : Sep w0 w5 (F) := H
        refine ⟨?_, H⟩
        clear H
        first | (simp [begF, l61, *]; done) | (simp_all [begF, l61]; done)
   · --no
    refine GL_re [(0, S [a, b, c, d]), (3, In 2), (54, .bool false)] (show ([S [a, b, c, d], In 2, .bool (!(isL c))] : List Value) = [S [a, b, c, d], In 2, .bool false] by rw [h2]) (fun β => ?_)
    have h2 := not_T h2
    refine GL_st 10 13 [(0, S [a, b, c, d]), (3, In 2), (64, .bool false)] fun β => ?_
    refine G_false (by kernel_rfl) ?_
    refine G_skip ?_
    refine inb_normal ?_
    refine inb_normal ?_
    refine thn_normal ?_
    refine G_region ?_
    refine GL_st 3 3 [(0, S [a, b, c, d]), (3, In 3)] fun β => ?_
    refine GU_step ?_
    refine G_forget [(0, S [a, b, c, d]), (3, In 3)] (by kernel_rfl) (fun β => ?_)
    refine G_seq ?_
    refine G_sr ?_
    refine GL_st 4 4 [(0, S [a, b, c, d]), (3, In 3), (8, .bool true)] fun β => ?_
    refine G_true (by kernel_rfl) ?_
    refine G_skip ?_
    refine thn_normal ?_
    refine G_seq ?_
    refine G_block ?_
    refine G_sr ?_
    refine GL_s 3 3 [(0, S [a, b, c, d]), (3, In 3), (13, By d)] fun β => ?_
    refine GL_C (c_number d H) ?_
    rintro _ w8 ⟨rfl, H⟩
    refine GL_srt 2 6 [(0, S [a, b, c, d]), (3, In 3), (4, .bool (isL d))] (show ([S [a, b, c, d], .int .i64 ((3 : Nat) : Int), .bool (decide ((numI d) ≥ ((0 : Nat) : Int)))] : List Value) = [S [a, b, c, d], In 3, .bool (isL d)] by rw [num_ge d]) fun β => ?_
    refine G_sr ?_
    refine GL_st 1 1 [(0, S [a, b, c, d]), (3, In 3), (4, .bool (isL d)), (16, In 3)] fun β => ?_
    refine G_block ?_
    refine G_seq ?_
    refine G_sr ?_
    refine GL_st 2 2 [(0, S [a, b, c, d]), (3, In 3), (4, .bool (isL d)), (16, In 3), (45, .bool false)] fun β => ?_
    refine G_false (by kernel_rfl) ?_
    refine G_region ?_
    refine GL_st 2 2 [(0, S [a, b, c, d]), (3, In 3), (4, .bool (isL d)), (16, In 3), (45, .bool false)] fun β => ?_
    refine G_false (by kernel_rfl) ?_
    refine G_sr ?_
    refine GL_st 2 2 [(0, S [a, b, c, d]), (3, In 3), (4, .bool (isL d)), (50, .bool false)] fun β => ?_
    refine G_false (by kernel_rfl) ?_
    refine G_sr ?_
    refine GL_sr 4 4 [(0, S [a, b, c, d]), (3, In 3), (4, .bool (isL d)), (20, .bool (c == (61 : UInt8)))] (show ([S [a, b, c, d], .int .i64 ((3 : Nat) : Int), .bool (isL d), .bool ((c.toNat : Int) == ((61 : UInt8).toNat : Int))] : List Value) = [S [a, b, c, d], In 3, .bool (isL d), .bool (c == (61 : UInt8))] by rw [Kw.u8_eql c (61 : UInt8)]) fun β => ?_
    rcases Bool.eq_false_or_eq_true (c == (61 : UInt8)) with h15 | h15
    · --yes
     refine GL_re [(0, S [a, b, c, d]), (3, In 3), (4, .bool (isL d)), (20, .bool true)] (show ([S [a, b, c, d], In 3, .bool (isL d), .bool (c == (61 : UInt8))] : List Value) = [S [a, b, c, d], In 3, .bool (isL d), .bool true] by rw [h15]) (fun β => ?_)
     replace h15 : c = (61 : UInt8) := eql_T h15
     refine GL_sr 5 9 [(0, S [a, b, c, d]), (3, In 3), (4, .bool (isL d)), (25, .bool (d != (61 : UInt8)))] (show ([S [a, b, c, d], .int .i64 ((3 : Nat) : Int), .bool (isL d), .bool ((d.toNat : Int) != ((61 : UInt8).toNat : Int))] : List Value) = [S [a, b, c, d], In 3, .bool (isL d), .bool (d != (61 : UInt8))] by rw [Kw.u8_neq d (61 : UInt8)]) fun β => ?_
     rcases Bool.eq_false_or_eq_true (d != (61 : UInt8)) with h16 | h16
     · --yes
      refine GL_re [(0, S [a, b, c, d]), (3, In 3), (4, .bool (isL d)), (25, .bool true)] (show ([S [a, b, c, d], In 3, .bool (isL d), .bool (d != (61 : UInt8))] : List Value) = [S [a, b, c, d], In 3, .bool (isL d), .bool true] by rw [h16]) (fun β => ?_)
      replace h16 : ¬ (d = (61 : UInt8)) := neq_T h16
      refine GL_st 19 28 [(0, S [a, b, c, d]), (3, In 3), (44, .bool true)] fun β => ?_
      refine G_true (by kernel_rfl) ?_
      refine G_sr ?_
      refine GL_st 1 1 [(2, .bool false)] fun β => ?_
      refine G_ret ?_
      refine inb_ret (inb_ret (thn_ret (thn_ret (inb_ret (thn_ret (res1 (v := .bool false) rfl (by kernel_rfl) ?_))))))
      replace H : Sep w0 w8 (F) := H
      refine ⟨?_, H⟩
      clear H
      first | (simp [begF, l61, *]; done) | (simp_all [begF, l61]; done)
     · --no
      refine GL_re [(0, S [a, b, c, d]), (3, In 3), (4, .bool (isL d)), (25, .bool false)] (show ([S [a, b, c, d], In 3, .bool (isL d), .bool (d != (61 : UInt8))] : List Value) = [S [a, b, c, d], In 3, .bool (isL d), .bool false] by rw [h16]) (fun β => ?_)
      replace h16 : d = (61 : UInt8) := neq_F h16
      refine GL_sr 4 13 [(0, S [a, b, c, d]), (3, In 3), (4, .bool (isL d)), (25, .bool false), (29, .bool (c != (61 : UInt8)))] (show ([S [a, b, c, d], .int .i64 ((3 : Nat) : Int), .bool (isL d), .bool false, .bool ((c.toNat : Int) != ((61 : UInt8).toNat : Int))] : List Value) = [S [a, b, c, d], In 3, .bool (isL d), .bool false, .bool (c != (61 : UInt8))] by rw [Kw.u8_neq c (61 : UInt8)]) fun β => ?_
      rcases Bool.eq_false_or_eq_true (c != (61 : UInt8)) with h17 | h17
      · --yes
       refine GL_re [(0, S [a, b, c, d]), (3, In 3), (4, .bool (isL d)), (25, .bool false), (29, .bool true)] (show ([S [a, b, c, d], In 3, .bool (isL d), .bool false, .bool (c != (61 : UInt8))] : List Value) = [S [a, b, c, d], In 3, .bool (isL d), .bool false, .bool true] by rw [h17]) (fun β => ?_)
       replace h17 : ¬ (c = (61 : UInt8)) := neq_T h17
       refine GL_s 4 17 [(0, S [a, b, c, d]), (3, In 3), (25, .bool false), (33, .bool (!(isL d)))] fun β => ?_
       rcases Bool.eq_false_or_eq_true (!(isL d)) with h18 | h18
       · --yes
        refine GL_re [(0, S [a, b, c, d]), (3, In 3), (25, .bool false), (33, .bool true)] (show ([S [a, b, c, d], In 3, .bool false, .bool (!(isL d))] : List Value) = [S [a, b, c, d], In 3, .bool false, .bool true] by rw [h18]) (fun β => ?_)
        have h18 := not_F h18
        refine GL_sr 4 21 [(0, S [a, b, c, d]), (3, In 3), (25, .bool false), (33, .bool true), (37, .bool (d != (61 : UInt8)))] (show ([S [a, b, c, d], .int .i64 ((3 : Nat) : Int), .bool false, .bool true, .bool ((d.toNat : Int) != ((61 : UInt8).toNat : Int))] : List Value) = [S [a, b, c, d], In 3, .bool false, .bool true, .bool (d != (61 : UInt8))] by rw [Kw.u8_neq d (61 : UInt8)]) fun β => ?_
        rcases Bool.eq_false_or_eq_true (d != (61 : UInt8)) with h19 | h19
        · --yes
         refine GL_re [(0, S [a, b, c, d]), (3, In 3), (25, .bool false), (33, .bool true), (37, .bool true)] (show ([S [a, b, c, d], In 3, .bool false, .bool true, .bool (d != (61 : UInt8))] : List Value) = [S [a, b, c, d], In 3, .bool false, .bool true, .bool true] by rw [h19]) (fun β => ?_)
         replace h19 : ¬ (d = (61 : UInt8)) := neq_T h19
         refine GL_st 7 28 [(0, S [a, b, c, d]), (3, In 3), (44, .bool true)] fun β => ?_
         refine G_true (by kernel_rfl) ?_
         refine G_sr ?_
         refine GL_st 1 1 [(2, .bool false)] fun β => ?_
         refine G_ret ?_
         refine inb_ret (inb_ret (thn_ret (thn_ret (inb_ret (thn_ret (res1 (v := .bool false) rfl (by kernel_rfl) ?_))))))
         replace H : Sep w0 w8 (F) := H
         refine ⟨?_, H⟩
         clear H
         first | (simp [begF, l61, *]; done) | (simp_all [begF, l61]; done)
        · --no
         refine GL_re [(0, S [a, b, c, d]), (3, In 3), (25, .bool false), (33, .bool true), (37, .bool false)] (show ([S [a, b, c, d], In 3, .bool false, .bool true, .bool (d != (61 : UInt8))] : List Value) = [S [a, b, c, d], In 3, .bool false, .bool true, .bool false] by rw [h19]) (fun β => ?_)
         replace h19 : d = (61 : UInt8) := neq_F h19
         refine GL_s 2 23 [(0, S [a, b, c, d]), (3, In 3), (25, .bool false), (33, .bool true), (37, .bool false), (39, By c)] fun β => ?_
         refine GL_C (c_low_4 c H) ?_
         rintro _ w9 ⟨rfl, H⟩
         refine GL_st 4 28 [(0, S [a, b, c, d]), (3, In 3), (44, .bool (!(lowF c 4)))] fun β => ?_
         refine G_cond (!(lowF c 4)) (by kernel_rfl) (fun h20 => ?_) (fun h20 => ?_)
         · --yes
          have h20 := not_F h20
          refine G_sr ?_
          refine GL_st 1 1 [(2, .bool false)] fun β => ?_
          refine G_ret ?_
          refine inb_ret (inb_ret (thn_ret (thn_ret (inb_ret (thn_ret (res1 (v := .bool false) rfl (by kernel_rfl) ?_))))))
          replace H : Sep w0 w9 (F) := H
          refine ⟨?_, H⟩
          clear H
          first | (simp [begF, l61, *]; done) | (simp_all [begF, l61]; done)
         · --no
          have h20 := not_T h20
          refine G_skip ?_
          refine inb_normal ?_
          refine inb_normal ?_
          refine thn_normal ?_
          refine G_region ?_
          refine GL_st 3 3 [(0, S [a, b, c, d]), (3, In 4)] fun β => ?_
          refine GU_step ?_
          refine G_forget [(0, S [a, b, c, d]), (3, In 4)] (by kernel_rfl) (fun β => ?_)
          refine G_seq ?_
          refine G_sr ?_
          refine GL_st 4 4 [(0, S [a, b, c, d]), (3, In 4), (8, .bool false)] fun β => ?_
          refine G_false (by kernel_rfl) ?_
          refine G_exit (thn_exit (thn_exit (inb_hit ?_)))
          refine thn_normal ?_
          refine G_sr ?_
          refine GL_st 1 1 [(2, .bool true)] fun β => ?_
          refine G_ret ?_
          refine res1 (v := .bool true) rfl (by kernel_rfl) ?_
          replace H : Sep w0 w9 (F) := H
          refine ⟨?_, H⟩
          clear H
          first | (simp [begF, l61, *]; done) | (simp_all [begF, l61]; done)
       · --no
        refine GL_re [(0, S [a, b, c, d]), (3, In 3), (25, .bool false), (33, .bool false)] (show ([S [a, b, c, d], In 3, .bool false, .bool (!(isL d))] : List Value) = [S [a, b, c, d], In 3, .bool false, .bool false] by rw [h18]) (fun β => ?_)
        have h18 := not_T h18
        refine GL_st 11 28 [(0, S [a, b, c, d]), (3, In 3), (44, .bool false)] fun β => ?_
        refine G_false (by kernel_rfl) ?_
        refine G_skip ?_
        refine inb_normal ?_
        refine inb_normal ?_
        refine thn_normal ?_
        refine G_region ?_
        refine GL_st 3 3 [(0, S [a, b, c, d]), (3, In 4)] fun β => ?_
        refine GU_step ?_
        refine G_forget [(0, S [a, b, c, d]), (3, In 4)] (by kernel_rfl) (fun β => ?_)
        refine G_seq ?_
        refine G_sr ?_
        refine GL_st 4 4 [(0, S [a, b, c, d]), (3, In 4), (8, .bool false)] fun β => ?_
        refine G_false (by kernel_rfl) ?_
        refine G_exit (thn_exit (thn_exit (inb_hit ?_)))
        refine thn_normal ?_
        refine G_sr ?_
        refine GL_st 1 1 [(2, .bool true)] fun β => ?_
        refine G_ret ?_
        refine res1 (v := .bool true) rfl (by kernel_rfl) ?_
        replace H : Sep w0 w8 (F) := H
        refine ⟨?_, H⟩
        clear H
        first | (simp [begF, l61, *]; done) | (simp_all [begF, l61]; done)
      · --no
       refine GL_re [(0, S [a, b, c, d]), (3, In 3), (4, .bool (isL d)), (25, .bool false), (29, .bool false)] (show ([S [a, b, c, d], In 3, .bool (isL d), .bool false, .bool (c != (61 : UInt8))] : List Value) = [S [a, b, c, d], In 3, .bool (isL d), .bool false, .bool false] by rw [h17]) (fun β => ?_)
       replace h17 : c = (61 : UInt8) := neq_F h17
       refine GL_st 15 28 [(0, S [a, b, c, d]), (3, In 3), (44, .bool false)] fun β => ?_
       refine G_false (by kernel_rfl) ?_
       refine G_skip ?_
       refine inb_normal ?_
       refine inb_normal ?_
       refine thn_normal ?_
       refine G_region ?_
       refine GL_st 3 3 [(0, S [a, b, c, d]), (3, In 4)] fun β => ?_
       refine GU_step ?_
       refine G_forget [(0, S [a, b, c, d]), (3, In 4)] (by kernel_rfl) (fun β => ?_)
       refine G_seq ?_
       refine G_sr ?_
       refine GL_st 4 4 [(0, S [a, b, c, d]), (3, In 4), (8, .bool false)] fun β => ?_
       refine G_false (by kernel_rfl) ?_
       refine G_exit (thn_exit (thn_exit (inb_hit ?_)))
       refine thn_normal ?_
       refine G_sr ?_
       refine GL_st 1 1 [(2, .bool true)] fun β => ?_
       refine G_ret ?_
       refine res1 (v := .bool true) rfl (by kernel_rfl) ?_
       replace H : Sep w0 w8 (F) := H
       refine ⟨?_, H⟩
       clear H
       first | (simp [begF, l61, *]; done) | (simp_all [begF, l61]; done)
    · --no
     refine GL_re [(0, S [a, b, c, d]), (3, In 3), (4, .bool (isL d)), (20, .bool false)] (show ([S [a, b, c, d], In 3, .bool (isL d), .bool (c == (61 : UInt8))] : List Value) = [S [a, b, c, d], In 3, .bool (isL d), .bool false] by rw [h15]) (fun β => ?_)
     replace h15 : ¬ (c = (61 : UInt8)) := eql_F h15
     refine GL_sr 9 13 [(0, S [a, b, c, d]), (3, In 3), (4, .bool (isL d)), (25, .bool false), (29, .bool (c != (61 : UInt8)))] (show ([S [a, b, c, d], .int .i64 ((3 : Nat) : Int), .bool (isL d), .bool false, .bool ((c.toNat : Int) != ((61 : UInt8).toNat : Int))] : List Value) = [S [a, b, c, d], In 3, .bool (isL d), .bool false, .bool (c != (61 : UInt8))] by rw [Kw.u8_neq c (61 : UInt8)]) fun β => ?_
     rcases Bool.eq_false_or_eq_true (c != (61 : UInt8)) with h21 | h21
     · --yes
      refine GL_re [(0, S [a, b, c, d]), (3, In 3), (4, .bool (isL d)), (25, .bool false), (29, .bool true)] (show ([S [a, b, c, d], In 3, .bool (isL d), .bool false, .bool (c != (61 : UInt8))] : List Value) = [S [a, b, c, d], In 3, .bool (isL d), .bool false, .bool true] by rw [h21]) (fun β => ?_)
      replace h21 : ¬ (c = (61 : UInt8)) := neq_T h21
      refine GL_s 4 17 [(0, S [a, b, c, d]), (3, In 3), (25, .bool false), (33, .bool (!(isL d)))] fun β => ?_
      rcases Bool.eq_false_or_eq_true (!(isL d)) with h22 | h22
      · --yes
       refine GL_re [(0, S [a, b, c, d]), (3, In 3), (25, .bool false), (33, .bool true)] (show ([S [a, b, c, d], In 3, .bool false, .bool (!(isL d))] : List Value) = [S [a, b, c, d], In 3, .bool false, .bool true] by rw [h22]) (fun β => ?_)
       have h22 := not_F h22
       refine GL_sr 4 21 [(0, S [a, b, c, d]), (3, In 3), (25, .bool false), (33, .bool true), (37, .bool (d != (61 : UInt8)))] (show ([S [a, b, c, d], .int .i64 ((3 : Nat) : Int), .bool false, .bool true, .bool ((d.toNat : Int) != ((61 : UInt8).toNat : Int))] : List Value) = [S [a, b, c, d], In 3, .bool false, .bool true, .bool (d != (61 : UInt8))] by rw [Kw.u8_neq d (61 : UInt8)]) fun β => ?_
       rcases Bool.eq_false_or_eq_true (d != (61 : UInt8)) with h23 | h23
       · --yes
        refine GL_re [(0, S [a, b, c, d]), (3, In 3), (25, .bool false), (33, .bool true), (37, .bool true)] (show ([S [a, b, c, d], In 3, .bool false, .bool true, .bool (d != (61 : UInt8))] : List Value) = [S [a, b, c, d], In 3, .bool false, .bool true, .bool true] by rw [h23]) (fun β => ?_)
        replace h23 : ¬ (d = (61 : UInt8)) := neq_T h23
        refine GL_st 7 28 [(0, S [a, b, c, d]), (3, In 3), (44, .bool true)] fun β => ?_
        refine G_true (by kernel_rfl) ?_
        refine G_sr ?_
        refine GL_st 1 1 [(2, .bool false)] fun β => ?_
        refine G_ret ?_
        refine inb_ret (inb_ret (thn_ret (thn_ret (inb_ret (thn_ret (res1 (v := .bool false) rfl (by kernel_rfl) ?_))))))
        replace H : Sep w0 w8 (F) := H
        refine ⟨?_, H⟩
        clear H
        first | (simp [begF, l61, *]; done) | (simp_all [begF, l61]; done)
       · --no
        refine GL_re [(0, S [a, b, c, d]), (3, In 3), (25, .bool false), (33, .bool true), (37, .bool false)] (show ([S [a, b, c, d], In 3, .bool false, .bool true, .bool (d != (61 : UInt8))] : List Value) = [S [a, b, c, d], In 3, .bool false, .bool true, .bool false] by rw [h23]) (fun β => ?_)
        replace h23 : d = (61 : UInt8) := neq_F h23
        refine GL_s 2 23 [(0, S [a, b, c, d]), (3, In 3), (25, .bool false), (33, .bool true), (37, .bool false), (39, By c)] fun β => ?_
        refine GL_C (c_low_4 c H) ?_
        rintro _ w10 ⟨rfl, H⟩
        refine GL_st 4 28 [(0, S [a, b, c, d]), (3, In 3), (44, .bool (!(lowF c 4)))] fun β => ?_
        refine G_cond (!(lowF c 4)) (by kernel_rfl) (fun h24 => ?_) (fun h24 => ?_)
        · --yes
         have h24 := not_F h24
         refine G_sr ?_
         refine GL_st 1 1 [(2, .bool false)] fun β => ?_
         refine G_ret ?_
         refine inb_ret (inb_ret (thn_ret (thn_ret (inb_ret (thn_ret (res1 (v := .bool false) rfl (by kernel_rfl) ?_))))))
         replace H : Sep w0 w10 (F) := H
         refine ⟨?_, H⟩
         clear H
         first | (simp [begF, l61, *]; done) | (simp_all [begF, l61]; done)
        · --no
         have h24 := not_T h24
         refine G_skip ?_
         refine inb_normal ?_
         refine inb_normal ?_
         refine thn_normal ?_
         refine G_region ?_
         refine GL_st 3 3 [(0, S [a, b, c, d]), (3, In 4)] fun β => ?_
         refine GU_step ?_
         refine G_forget [(0, S [a, b, c, d]), (3, In 4)] (by kernel_rfl) (fun β => ?_)
         refine G_seq ?_
         refine G_sr ?_
         refine GL_st 4 4 [(0, S [a, b, c, d]), (3, In 4), (8, .bool false)] fun β => ?_
         refine G_false (by kernel_rfl) ?_
         refine G_exit (thn_exit (thn_exit (inb_hit ?_)))
         refine thn_normal ?_
         refine G_sr ?_
         refine GL_st 1 1 [(2, .bool true)] fun β => ?_
         refine G_ret ?_
         refine res1 (v := .bool true) rfl (by kernel_rfl) ?_
         replace H : Sep w0 w10 (F) := H
         refine ⟨?_, H⟩
         clear H
         first | (simp [begF, l61, *]; done) | (simp_all [begF, l61]; done)
      · --no
       refine GL_re [(0, S [a, b, c, d]), (3, In 3), (25, .bool false), (33, .bool false)] (show ([S [a, b, c, d], In 3, .bool false, .bool (!(isL d))] : List Value) = [S [a, b, c, d], In 3, .bool false, .bool false] by rw [h22]) (fun β => ?_)
       have h22 := not_T h22
       refine GL_st 11 28 [(0, S [a, b, c, d]), (3, In 3), (44, .bool false)] fun β => ?_
       refine G_false (by kernel_rfl) ?_
       refine G_skip ?_
       refine inb_normal ?_
       refine inb_normal ?_
       refine thn_normal ?_
       refine G_region ?_
       refine GL_st 3 3 [(0, S [a, b, c, d]), (3, In 4)] fun β => ?_
       refine GU_step ?_
       refine G_forget [(0, S [a, b, c, d]), (3, In 4)] (by kernel_rfl) (fun β => ?_)
       refine G_seq ?_
       refine G_sr ?_
       refine GL_st 4 4 [(0, S [a, b, c, d]), (3, In 4), (8, .bool false)] fun β => ?_
       refine G_false (by kernel_rfl) ?_
       refine G_exit (thn_exit (thn_exit (inb_hit ?_)))
       refine thn_normal ?_
       refine G_sr ?_
       refine GL_st 1 1 [(2, .bool true)] fun β => ?_
       refine G_ret ?_
       refine res1 (v := .bool true) rfl (by kernel_rfl) ?_
       replace H : Sep w0 w8 (F) := H
       refine ⟨?_, H⟩
       clear H
       first | (simp [begF, l61, *]; done) | (simp_all [begF, l61]; done)
     · --no
      refine GL_re [(0, S [a, b, c, d]), (3, In 3), (4, .bool (isL d)), (25, .bool false), (29, .bool false)] (show ([S [a, b, c, d], In 3, .bool (isL d), .bool false, .bool (c != (61 : UInt8))] : List Value) = [S [a, b, c, d], In 3, .bool (isL d), .bool false, .bool false] by rw [h21]) (fun β => ?_)
      replace h21 : c = (61 : UInt8) := neq_F h21
      refine GL_st 15 28 [(0, S [a, b, c, d]), (3, In 3), (44, .bool false)] fun β => ?_
      refine G_false (by kernel_rfl) ?_
      refine G_skip ?_
      refine inb_normal ?_
      refine inb_normal ?_
      refine thn_normal ?_
      refine G_region ?_
      refine GL_st 3 3 [(0, S [a, b, c, d]), (3, In 4)] fun β => ?_
      refine GU_step ?_
      refine G_forget [(0, S [a, b, c, d]), (3, In 4)] (by kernel_rfl) (fun β => ?_)
      refine G_seq ?_
      refine G_sr ?_
      refine GL_st 4 4 [(0, S [a, b, c, d]), (3, In 4), (8, .bool false)] fun β => ?_
      refine G_false (by kernel_rfl) ?_
      refine G_exit (thn_exit (thn_exit (inb_hit ?_)))
      refine thn_normal ?_
      refine G_sr ?_
      refine GL_st 1 1 [(2, .bool true)] fun β => ?_
      refine G_ret ?_
      refine res1 (v := .bool true) rfl (by kernel_rfl) ?_
      replace H : Sep w0 w8 (F) := H
      refine ⟨?_, H⟩
      clear H
      first | (simp [begF, l61, *]; done) | (simp_all [begF, l61]; done)
theorem c_begun (g : List UInt8) (hg : 1 ≤ g.length ∧ g.length ≤ 4) {w0 w : World} {F : List Chunk} (H : Sep w0 w F) : Ret Tryd.prog 54 #[S g] w (fun v w' => v = .bool (begF g) ∧ Sep w0 w' F) :=
  match g, hg with
  | [a], _ => c_begun_1 a H
  | [a, b], _ => c_begun_2 a b H
  | [a, b, c], _ => c_begun_3 a b c H
  | [a, b, c, d], _ => c_begun_4 a b c d H
  | [], h => absurd h.1 (by simp)
  | _ :: _ :: _ :: _ :: _ :: _, h => absurd h.2 (by simp)
/-- posthorn/posthornref04.On -/
theorem c_On (l : List UInt8) (i : Nat) (hi : i < l.length) (hl : l.length ≤ 1099511627776) {w0 w : World} {F : List Chunk} (H : Sep w0 w F) : Ret Tryd.prog 45 #[S l, In i] w (fun v w' => v = .bool (onF l i) ∧ Sep w0 w' F) := by
 refine Ret_enter (args := [S l, In i]) Tryd.func45 rfl (by kernel_rfl) ?_
 refine G_forget [(0, S l), (1, In i)] (by kernel_rfl) (fun β => ?_)
 refine G_sr ?_
 refine GL_st 1 1 [(0, S l), (1, In i)] fun β => ?_
 refine G_sr ?_
 refine GL_srt 4 4 [(0, S l), (1, In i), (5, In ((i / 4) * 4))] (show ([S l, .int .i64 (i : Int), .int .i64 (IntKind.i64.wrap ((IntKind.i64.wrap ((i : Int).tdiv ((4 : Nat) : Int))) * ((4 : Nat) : Int)))] : List Value) = [S l, In i, In ((i / 4) * 4)] by rw [nquo64 i 4 (by omega), nmul64 (i / 4) 4 (by omega)]) fun β => ?_
 refine G_sr ?_
 refine GL_sr 3 3 [(0, S l), (1, In i), (5, In ((i / 4) * 4)), (11, .bool (((i / 4) * 4) == 0))] (show ([S l, .int .i64 (i : Int), .int .i64 (((i / 4) * 4 : Nat) : Int), .bool ((((i / 4) * 4 : Nat) : Int) == ((0 : Nat) : Int))] : List Value) = [S l, In i, In ((i / 4) * 4), .bool (((i / 4) * 4) == 0)] by rw [neql ((i / 4) * 4) 0]) fun β => ?_
 rcases Bool.eq_false_or_eq_true (((i / 4) * 4) == 0) with h0 | h0
 · --yes
  refine GL_re [(0, S l), (1, In i), (5, In ((i / 4) * 4)), (11, .bool true)] (show ([S l, In i, In ((i / 4) * 4), .bool (((i / 4) * 4) == 0)] : List Value) = [S l, In i, In ((i / 4) * 4), .bool true] by rw [h0]) (fun β => ?_)
  replace h0 : ((i / 4) * 4) = 0 := eql_T h0
  refine GL_sr 11 14 [(18, .bool true), (19, S l), (20, In ((i / 4) * 4)), (22, In (i + 1))] (show ([.bool true, S l, .int .i64 (((i / 4) * 4 : Nat) : Int), .int .i64 (IntKind.i64.wrap ((i : Int) + ((1 : Nat) : Int)))] : List Value) = [.bool true, S l, In ((i / 4) * 4), In (i + 1)] by rw [nadd64 i 1 (by omega)]) fun β => ?_
  refine GL_V (R_strslice (t := 9) (k1 := .i64) (k2 := .i64) (a := ((i / 4) * 4)) (b := (i + 1)) (l := l) (by kernel_rfl) (by omega) (by omega)) ?_
  refine GL_C (c_begun ((l.take (i + 1)).drop ((i / 4) * 4)) (by simp only [List.length_drop, List.length_take]; omega) H) ?_
  rintro _ w1 ⟨rfl, H⟩
  refine GL_st 2 18 [(4, .bool (begF ((l.take (i + 1)).drop ((i / 4) * 4))))] fun β => ?_
  refine G_ret ?_
  refine res1 (v := .bool (begF ((l.take (i + 1)).drop ((i / 4) * 4)))) rfl (by kernel_rfl) ?_
  replace H : Sep w0 w1 (F) := H
  refine ⟨?_, H⟩
  clear H
  unfold onF condF
  generalize l.getD (i / 4 * 4 - 1) 0 = z at *
  simp [*]
 · --no
  refine GL_re [(0, S l), (1, In i), (5, In ((i / 4) * 4)), (11, .bool false)] (show ([S l, In i, In ((i / 4) * 4), .bool (((i / 4) * 4) == 0)] : List Value) = [S l, In i, In ((i / 4) * 4), .bool false] by rw [h0]) (fun β => ?_)
  replace h0 : ¬ (((i / 4) * 4) = 0) := eql_F h0
  refine GL_sr 3 6 [(0, S l), (1, In i), (5, In ((i / 4) * 4)), (11, .bool false), (12, S l), (14, In (((i / 4) * 4) - 1))] (show ([S l, .int .i64 (i : Int), .int .i64 (((i / 4) * 4 : Nat) : Int), .bool false, S l, .int .i64 (IntKind.i64.wrap ((((i / 4) * 4 : Nat) : Int) - ((1 : Nat) : Int)))] : List Value) = [S l, In i, In ((i / 4) * 4), .bool false, S l, In (((i / 4) * 4) - 1)] by rw [nsub64 ((i / 4) * 4) 1 (by omega)]) fun β => ?_
  refine GL_V (R_index (P := Tryd.prog) (w := _) (t := 9) (ki := .i64) (i := (((i / 4) * 4) - 1)) (l := l) (by kernel_rfl) (by omega)) ?_
  refine GL_sr 3 10 [(0, S l), (1, In i), (5, In ((i / 4) * 4)), (18, .bool ((l.getD (((i / 4) * 4) - 1) 0) != (61 : UInt8)))] (show ([S l, .int .i64 (i : Int), .int .i64 (((i / 4) * 4 : Nat) : Int), .bool (((l.getD (((i / 4) * 4) - 1) 0).toNat : Int) != ((61 : UInt8).toNat : Int))] : List Value) = [S l, In i, In ((i / 4) * 4), .bool ((l.getD (((i / 4) * 4) - 1) 0) != (61 : UInt8))] by rw [Kw.u8_neq (l.getD (((i / 4) * 4) - 1) 0) (61 : UInt8)]) fun β => ?_
  rcases Bool.eq_false_or_eq_true ((l.getD (((i / 4) * 4) - 1) 0) != (61 : UInt8)) with h1 | h1
  · --yes
   refine GL_re [(0, S l), (1, In i), (5, In ((i / 4) * 4)), (18, .bool true)] (show ([S l, In i, In ((i / 4) * 4), .bool ((l.getD (((i / 4) * 4) - 1) 0) != (61 : UInt8))] : List Value) = [S l, In i, In ((i / 4) * 4), .bool true] by rw [h1]) (fun β => ?_)
   replace h1 : ¬ ((l.getD (((i / 4) * 4) - 1) 0) = (61 : UInt8)) := neq_T h1
   refine GL_sr 4 14 [(18, .bool true), (19, S l), (20, In ((i / 4) * 4)), (22, In (i + 1))] (show ([.bool true, S l, .int .i64 (((i / 4) * 4 : Nat) : Int), .int .i64 (IntKind.i64.wrap ((i : Int) + ((1 : Nat) : Int)))] : List Value) = [.bool true, S l, In ((i / 4) * 4), In (i + 1)] by rw [nadd64 i 1 (by omega)]) fun β => ?_
   refine GL_V (R_strslice (t := 9) (k1 := .i64) (k2 := .i64) (a := ((i / 4) * 4)) (b := (i + 1)) (l := l) (by kernel_rfl) (by omega) (by omega)) ?_
   refine GL_C (c_begun ((l.take (i + 1)).drop ((i / 4) * 4)) (by simp only [List.length_drop, List.length_take]; omega) H) ?_
   rintro _ w2 ⟨rfl, H⟩
   refine GL_st 2 18 [(4, .bool (begF ((l.take (i + 1)).drop ((i / 4) * 4))))] fun β => ?_
   refine G_ret ?_
   refine res1 (v := .bool (begF ((l.take (i + 1)).drop ((i / 4) * 4)))) rfl (by kernel_rfl) ?_
   replace H : Sep w0 w2 (F) := H
   refine ⟨?_, H⟩
   clear H
   unfold onF condF
   generalize l.getD (i / 4 * 4 - 1) 0 = z at *
   simp [*]
  · --no
   refine GL_re [(0, S l), (1, In i), (5, In ((i / 4) * 4)), (18, .bool false)] (show ([S l, In i, In ((i / 4) * 4), .bool ((l.getD (((i / 4) * 4) - 1) 0) != (61 : UInt8))] : List Value) = [S l, In i, In ((i / 4) * 4), .bool false] by rw [h1]) (fun β => ?_)
   replace h1 : (l.getD (((i / 4) * 4) - 1) 0) = (61 : UInt8) := neq_F h1
   refine GL_st 8 18 [(4, .bool false)] fun β => ?_
   refine G_ret ?_
   refine res1 (v := .bool false) rfl (by kernel_rfl) ?_
   replace H : Sep w0 w (F) := H
   refine ⟨?_, H⟩
   clear H
   unfold onF condF
   generalize l.getD (i / 4 * 4 - 1) 0 = z at *
   simp [*]
/-- posthorn/posthornref04.why -/
theorem c_why (c : UInt8) {w0 w : World} {F : List Chunk} (H : Sep w0 w F) : Ret Tryd.prog 46 #[.int .u8 (c.toNat : Int)] w (fun v w' => v = In (whyF c) ∧ Sep w0 w' F) := by
 refine Ret_enter (args := [By c]) Tryd.func46 rfl (by kernel_rfl) ?_
 refine G_forget [(0, By c)] (by kernel_rfl) (fun β => ?_)
 refine G_sr ?_
 refine GL_st 1 1 [(0, By c)] fun β => ?_
 refine G_seq ?_
 refine G_sr ?_
 refine GL_s 1 1 [(0, By c), (3, By c)] fun β => ?_
 refine GL_C (c_number c H) ?_
 rintro _ w1 ⟨rfl, H⟩
 refine GL_sr 2 4 [(0, By c), (6, .bool (!isL c))] (show ([.int .u8 (c.toNat : Int), .bool (decide ((numI c) < ((0 : Nat) : Int)))] : List Value) = [By c, .bool (!isL c)] by rw [num_lt c]) fun β => ?_
 rcases Bool.eq_false_or_eq_true (!isL c) with h0 | h0
 · --yes
  refine GL_re [(0, By c), (6, .bool true)] (show ([By c, .bool (!isL c)] : List Value) = [By c, .bool true] by rw [h0]) (fun β => ?_)
  have h0 := not_F h0
  refine GL_srt 3 7 [(9, .bool (c != (61 : UInt8)))] (show ([.bool ((c.toNat : Int) != ((61 : UInt8).toNat : Int))] : List Value) = [.bool (c != (61 : UInt8))] by rw [Kw.u8_neq c (61 : UInt8)]) fun β => ?_
  refine G_cond (c != (61 : UInt8)) (by kernel_rfl) (fun h1 => ?_) (fun h1 => ?_)
  · --yes
   replace h1 : ¬ (c = (61 : UInt8)) := neq_T h1
   refine G_sr ?_
   refine GL_st 1 1 [(2, In 40)] fun β => ?_
   refine G_ret ?_
   refine thn_ret (res1 (v := In 40) rfl (by kernel_rfl) ?_)
   replace H : Sep w0 w1 (F) := H
   refine ⟨?_, H⟩
   clear H
   rcases val_cases c with h | h | h <;> simp_all [whyF, isL, v61]
  · --no
   replace h1 : c = (61 : UInt8) := neq_F h1
   refine G_skip ?_
   refine thn_normal ?_
   refine G_sr ?_
   refine GL_st 1 1 [(2, In 41)] fun β => ?_
   refine G_ret ?_
   refine res1 (v := In 41) rfl (by kernel_rfl) ?_
   replace H : Sep w0 w1 (F) := H
   refine ⟨?_, H⟩
   clear H
   rcases val_cases c with h | h | h <;> simp_all [whyF, isL, v61]
 · --no
  refine GL_re [(0, By c), (6, .bool false)] (show ([By c, .bool (!isL c)] : List Value) = [By c, .bool false] by rw [h0]) (fun β => ?_)
  have h0 := not_T h0
  refine GL_st 3 7 [(9, .bool false)] fun β => ?_
  refine G_false (by kernel_rfl) ?_
  refine G_skip ?_
  refine thn_normal ?_
  refine G_sr ?_
  refine GL_st 1 1 [(2, In 41)] fun β => ?_
  refine G_ret ?_
  refine res1 (v := In 41) rfl (by kernel_rfl) ?_
  replace H : Sep w0 w1 (F) := H
  refine ⟨?_, H⟩
  clear H
  rcases val_cases c with h | h | h <;> simp_all [whyF, isL, v61]
/-- posthorn/posthornref04.group -/
theorem c_group4 (a b c d : UInt8) {w0 w : World} {F : List Chunk} (H : Sep w0 w F) : Ret Tryd.prog 47 #[S [a, b, c, d]] w (fun v w' => ∃ g, v = .slice (some ⟨g, 0, none⟩) (grpN [a, b, c, d]).length 3 ∧ Rd w0 (.blk g 5 (bs (allN [a, b, c, d])) :: F) (.slice (some ⟨g, 0, none⟩) (grpN [a, b, c, d]).length 3) 1 (grpN [a, b, c, d]).length (bs (grpN [a, b, c, d])) ∧ Sep w0 w' (.blk g 5 (bs (allN [a, b, c, d])) :: F)) := by
 have na := numN_lt a
 have na := numN_lt b
 have na := numN_lt c
 have na := numN_lt d
 refine Ret_enter (args := [S [a, b, c, d]]) Tryd.func47 rfl (by kernel_rfl) ?_
 refine G_forget [(0, S [a, b, c, d])] (by kernel_rfl) (fun β => ?_)
 refine G_sr ?_
 refine GL_st 1 1 [(0, S [a, b, c, d])] fun β => ?_
 refine G_sr ?_
 refine GL_st 1 1 [(0, S [a, b, c, d]), (3, In 3)] fun β => ?_
 refine G_seq ?_
 refine G_sr ?_
 refine GL_srt 3 3 [(0, S [a, b, c, d]), (3, In 3), (9, .bool (d == (61 : UInt8)))] (show ([S [a, b, c, d], .int .i64 ((3 : Nat) : Int), .bool ((d.toNat : Int) == ((61 : UInt8).toNat : Int))] : List Value) = [S [a, b, c, d], In 3, .bool (d == (61 : UInt8))] by rw [Kw.u8_eql d (61 : UInt8)]) fun β => ?_
 refine G_cond (d == (61 : UInt8)) (by kernel_rfl) (fun h0 => ?_) (fun h0 => ?_)
 · --yes
  replace h0 : d = (61 : UInt8) := eql_T h0
  refine G_region ?_
  refine GL_st 1 1 [(0, S [a, b, c, d]), (3, In 2)] fun β => ?_
  refine G_seq ?_
  refine G_sr ?_
  refine GL_srt 3 3 [(0, S [a, b, c, d]), (3, In 2), (12, .bool (c == (61 : UInt8)))] (show ([S [a, b, c, d], .int .i64 ((2 : Nat) : Int), .bool ((c.toNat : Int) == ((61 : UInt8).toNat : Int))] : List Value) = [S [a, b, c, d], In 2, .bool (c == (61 : UInt8))] by rw [Kw.u8_eql c (61 : UInt8)]) fun β => ?_
  refine G_cond (c == (61 : UInt8)) (by kernel_rfl) (fun h1 => ?_) (fun h1 => ?_)
  · --yes
   replace h1 : c = (61 : UInt8) := eql_T h1
   refine G_region ?_
   refine GL_st 1 1 [(0, S [a, b, c, d]), (3, In 1)] fun β => ?_
   refine G_sr ?_
   refine GL_st 1 1 [(0, S [a, b, c, d]), (3, In 1), (4, In 0)] fun β => ?_
   refine G_seq ?_
   refine G_sr ?_
   refine GL_st 1 1 [(0, S [a, b, c, d]), (3, In 1), (4, In 0), (5, In 0)] fun β => ?_
   refine G_block ?_
   refine G_un 5 ?_
   refine GU_step ?_
   refine G_forget [(0, S [a, b, c, d]), (3, In 1), (4, In 0), (5, In 0)] (by kernel_rfl) (fun β => ?_)
   refine G_seq ?_
   refine G_sr ?_
   refine GL_st 2 2 [(0, S [a, b, c, d]), (3, In 1), (4, In 0), (5, In 0), (14, .bool true)] fun β => ?_
   refine G_true (by kernel_rfl) ?_
   refine G_skip ?_
   refine thn_normal ?_
   refine G_seq ?_
   refine G_block ?_
   refine G_region ?_
   refine GL_s 5 5 [(0, S [a, b, c, d]), (3, In 1), (5, In 0), (18, In 0), (21, By a)] fun β => ?_
   refine GL_C (c_number a H) ?_
   rintro _ w1 ⟨rfl, H⟩
   refine GL_sr 3 9 [(0, S [a, b, c, d]), (3, In 1), (4, In (0 + (numN a))), (5, In 0)] (show ([S [a, b, c, d], .int .i64 ((1 : Nat) : Int), .int .i64 (IntKind.i64.wrap (((0 : Nat) : Int) + (if (numI a) > ((0 : Nat) : Int) then (numI a) else ((0 : Nat) : Int)))), .int .i64 ((0 : Nat) : Int)] : List Value) = [S [a, b, c, d], In 1, In (0 + (numN a)), In 0] by rw [nmaxI a, nadd64 0 (numN a) (by omega)]) fun β => ?_
   refine GL_end (by kernel_rfl) ?_
   refine inb_normal ?_
   refine thn_normal ?_
   refine G_region ?_
   refine GL_st 3 3 [(0, S [a, b, c, d]), (3, In 1), (4, In (0 + (numN a))), (5, In 1)] fun β => ?_
   refine GU_step ?_
   refine G_forget [(0, S [a, b, c, d]), (3, In 1), (4, In (0 + (numN a))), (5, In 1)] (by kernel_rfl) (fun β => ?_)
   refine G_seq ?_
   refine G_sr ?_
   refine GL_st 2 2 [(0, S [a, b, c, d]), (3, In 1), (4, In (0 + (numN a))), (5, In 1), (14, .bool true)] fun β => ?_
   refine G_true (by kernel_rfl) ?_
   refine G_skip ?_
   refine thn_normal ?_
   refine G_seq ?_
   refine G_block ?_
   refine G_region ?_
   refine GL_sr 5 5 [(0, S [a, b, c, d]), (3, In 1), (5, In 1), (18, In ((0 + (numN a)) * 64)), (21, By b)] (show ([S [a, b, c, d], .int .i64 ((1 : Nat) : Int), .int .i64 ((1 : Nat) : Int), .int .i64 (IntKind.i64.wrap (((0 + (numN a) : Nat) : Int) * ((64 : Nat) : Int))), .int .u8 (b.toNat : Int)] : List Value) = [S [a, b, c, d], In 1, In 1, In ((0 + (numN a)) * 64), By b] by rw [nmul64 (0 + (numN a)) 64 (by omega)]) fun β => ?_
   refine GL_C (c_number b H) ?_
   rintro _ w2 ⟨rfl, H⟩
   refine GL_sr 3 9 [(0, S [a, b, c, d]), (3, In 1), (4, In (((0 + (numN a)) * 64) + (numN b))), (5, In 1)] (show ([S [a, b, c, d], .int .i64 ((1 : Nat) : Int), .int .i64 (IntKind.i64.wrap ((((0 + (numN a)) * 64 : Nat) : Int) + (if (numI b) > ((0 : Nat) : Int) then (numI b) else ((0 : Nat) : Int)))), .int .i64 ((1 : Nat) : Int)] : List Value) = [S [a, b, c, d], In 1, In (((0 + (numN a)) * 64) + (numN b)), In 1] by rw [nmaxI b, nadd64 ((0 + (numN a)) * 64) (numN b) (by omega)]) fun β => ?_
   refine GL_end (by kernel_rfl) ?_
   refine inb_normal ?_
   refine thn_normal ?_
   refine G_region ?_
   refine GL_st 3 3 [(0, S [a, b, c, d]), (3, In 1), (4, In (((0 + (numN a)) * 64) + (numN b))), (5, In 2)] fun β => ?_
   refine GU_step ?_
   refine G_forget [(0, S [a, b, c, d]), (3, In 1), (4, In (((0 + (numN a)) * 64) + (numN b))), (5, In 2)] (by kernel_rfl) (fun β => ?_)
   refine G_seq ?_
   refine G_sr ?_
   refine GL_st 2 2 [(0, S [a, b, c, d]), (3, In 1), (4, In (((0 + (numN a)) * 64) + (numN b))), (5, In 2), (14, .bool true)] fun β => ?_
   refine G_true (by kernel_rfl) ?_
   refine G_skip ?_
   refine thn_normal ?_
   refine G_seq ?_
   refine G_block ?_
   refine G_region ?_
   refine GL_sr 5 5 [(0, S [a, b, c, d]), (3, In 1), (5, In 2), (18, In ((((0 + (numN a)) * 64) + (numN b)) * 64)), (21, By c)] (show ([S [a, b, c, d], .int .i64 ((1 : Nat) : Int), .int .i64 ((2 : Nat) : Int), .int .i64 (IntKind.i64.wrap (((((0 + (numN a)) * 64) + (numN b) : Nat) : Int) * ((64 : Nat) : Int))), .int .u8 (c.toNat : Int)] : List Value) = [S [a, b, c, d], In 1, In 2, In ((((0 + (numN a)) * 64) + (numN b)) * 64), By c] by rw [nmul64 (((0 + (numN a)) * 64) + (numN b)) 64 (by omega)]) fun β => ?_
   refine GL_C (c_number c H) ?_
   rintro _ w3 ⟨rfl, H⟩
   refine GL_sr 3 9 [(0, S [a, b, c, d]), (3, In 1), (4, In (((((0 + (numN a)) * 64) + (numN b)) * 64) + (numN c))), (5, In 2)] (show ([S [a, b, c, d], .int .i64 ((1 : Nat) : Int), .int .i64 (IntKind.i64.wrap ((((((0 + (numN a)) * 64) + (numN b)) * 64 : Nat) : Int) + (if (numI c) > ((0 : Nat) : Int) then (numI c) else ((0 : Nat) : Int)))), .int .i64 ((2 : Nat) : Int)] : List Value) = [S [a, b, c, d], In 1, In (((((0 + (numN a)) * 64) + (numN b)) * 64) + (numN c)), In 2] by rw [nmaxI c, nadd64 ((((0 + (numN a)) * 64) + (numN b)) * 64) (numN c) (by omega)]) fun β => ?_
   refine GL_end (by kernel_rfl) ?_
   refine inb_normal ?_
   refine thn_normal ?_
   refine G_region ?_
   refine GL_st 3 3 [(0, S [a, b, c, d]), (3, In 1), (4, In (((((0 + (numN a)) * 64) + (numN b)) * 64) + (numN c))), (5, In 3)] fun β => ?_
   refine GU_step ?_
   refine G_forget [(0, S [a, b, c, d]), (3, In 1), (4, In (((((0 + (numN a)) * 64) + (numN b)) * 64) + (numN c))), (5, In 3)] (by kernel_rfl) (fun β => ?_)
   refine G_seq ?_
   refine G_sr ?_
   refine GL_st 2 2 [(0, S [a, b, c, d]), (3, In 1), (4, In (((((0 + (numN a)) * 64) + (numN b)) * 64) + (numN c))), (5, In 3), (14, .bool true)] fun β => ?_
   refine G_true (by kernel_rfl) ?_
   refine G_skip ?_
   refine thn_normal ?_
   refine G_seq ?_
   refine G_block ?_
   refine G_region ?_
   refine GL_sr 5 5 [(0, S [a, b, c, d]), (3, In 1), (5, In 3), (18, In ((((((0 + (numN a)) * 64) + (numN b)) * 64) + (numN c)) * 64)), (21, By d)] (show ([S [a, b, c, d], .int .i64 ((1 : Nat) : Int), .int .i64 ((3 : Nat) : Int), .int .i64 (IntKind.i64.wrap (((((((0 + (numN a)) * 64) + (numN b)) * 64) + (numN c) : Nat) : Int) * ((64 : Nat) : Int))), .int .u8 (d.toNat : Int)] : List Value) = [S [a, b, c, d], In 1, In 3, In ((((((0 + (numN a)) * 64) + (numN b)) * 64) + (numN c)) * 64), By d] by rw [nmul64 (((((0 + (numN a)) * 64) + (numN b)) * 64) + (numN c)) 64 (by omega)]) fun β => ?_
   refine GL_C (c_number d H) ?_
   rintro _ w4 ⟨rfl, H⟩
   refine GL_sr 3 9 [(0, S [a, b, c, d]), (3, In 1), (4, In (((((((0 + (numN a)) * 64) + (numN b)) * 64) + (numN c)) * 64) + (numN d))), (5, In 3)] (show ([S [a, b, c, d], .int .i64 ((1 : Nat) : Int), .int .i64 (IntKind.i64.wrap ((((((((0 + (numN a)) * 64) + (numN b)) * 64) + (numN c)) * 64 : Nat) : Int) + (if (numI d) > ((0 : Nat) : Int) then (numI d) else ((0 : Nat) : Int)))), .int .i64 ((3 : Nat) : Int)] : List Value) = [S [a, b, c, d], In 1, In (((((((0 + (numN a)) * 64) + (numN b)) * 64) + (numN c)) * 64) + (numN d)), In 3] by rw [nmaxI d, nadd64 ((((((0 + (numN a)) * 64) + (numN b)) * 64) + (numN c)) * 64) (numN d) (by omega)]) fun β => ?_
   refine GL_end (by kernel_rfl) ?_
   refine inb_normal ?_
   refine thn_normal ?_
   refine G_region ?_
   refine GL_st 3 3 [(0, S [a, b, c, d]), (3, In 1), (4, In (((((((0 + (numN a)) * 64) + (numN b)) * 64) + (numN c)) * 64) + (numN d))), (5, In 4)] fun β => ?_
   refine GU_step ?_
   refine G_forget [(0, S [a, b, c, d]), (3, In 1), (4, In (((((((0 + (numN a)) * 64) + (numN b)) * 64) + (numN c)) * 64) + (numN d))), (5, In 4)] (by kernel_rfl) (fun β => ?_)
   refine G_seq ?_
   refine G_sr ?_
   refine GL_st 2 2 [(0, S [a, b, c, d]), (3, In 1), (4, In (((((((0 + (numN a)) * 64) + (numN b)) * 64) + (numN c)) * 64) + (numN d))), (5, In 4), (14, .bool false)] fun β => ?_
   refine G_false (by kernel_rfl) ?_
   refine G_exit (thn_exit (thn_exit (inb_hit ?_)))
   refine thn_normal ?_
   refine G_sr ?_
   refine GL_sr 10 10 [(3, In 1), (27, By (UInt8.ofNat ((((((((0 + (numN a)) * 64) + (numN b)) * 64) + (numN c)) * 64) + (numN d)) / 65536))), (31, By (UInt8.ofNat (((((((((0 + (numN a)) * 64) + (numN b)) * 64) + (numN c)) * 64) + (numN d)) / 256) % 256))), (34, By (UInt8.ofNat ((((((((0 + (numN a)) * 64) + (numN b)) * 64) + (numN c)) * 64) + (numN d)) % 256)))] (show ([.int .i64 ((1 : Nat) : Int), .int .u8 (IntKind.u8.wrap (IntKind.i64.wrap (((((((((0 + (numN a)) * 64) + (numN b)) * 64) + (numN c)) * 64) + (numN d) : Nat) : Int).tdiv ((65536 : Nat) : Int)))), .int .u8 (IntKind.u8.wrap ((IntKind.i64.wrap (((((((((0 + (numN a)) * 64) + (numN b)) * 64) + (numN c)) * 64) + (numN d) : Nat) : Int).tdiv ((256 : Nat) : Int))).tmod ((256 : Nat) : Int))), .int .u8 (IntKind.u8.wrap (((((((((0 + (numN a)) * 64) + (numN b)) * 64) + (numN c)) * 64) + (numN d) : Nat) : Int).tmod ((256 : Nat) : Int)))] : List Value) = [In 1, By (UInt8.ofNat ((((((((0 + (numN a)) * 64) + (numN b)) * 64) + (numN c)) * 64) + (numN d)) / 65536)), By (UInt8.ofNat (((((((((0 + (numN a)) * 64) + (numN b)) * 64) + (numN c)) * 64) + (numN d)) / 256) % 256)), By (UInt8.ofNat ((((((((0 + (numN a)) * 64) + (numN b)) * 64) + (numN c)) * 64) + (numN d)) % 256))] by rw [nquo64 (((((((0 + (numN a)) * 64) + (numN b)) * 64) + (numN c)) * 64) + (numN d)) 65536 (by omega), Kw.u8_ofNat ((((((((0 + (numN a)) * 64) + (numN b)) * 64) + (numN c)) * 64) + (numN d)) / 65536), nquo64 (((((((0 + (numN a)) * 64) + (numN b)) * 64) + (numN c)) * 64) + (numN d)) 256 (by omega), nrem64 ((((((((0 + (numN a)) * 64) + (numN b)) * 64) + (numN c)) * 64) + (numN d)) / 256) 256, Kw.u8_ofNat (((((((((0 + (numN a)) * 64) + (numN b)) * 64) + (numN c)) * 64) + (numN d)) / 256) % 256), nrem64 (((((((0 + (numN a)) * 64) + (numN b)) * 64) + (numN c)) * 64) + (numN d)) 256, Kw.u8_ofNat ((((((((0 + (numN a)) * 64) + (numN b)) * 64) + (numN c)) * 64) + (numN d)) % 256)]) fun β => ?_
   refine GL_new (V := fun g => .slice (some ⟨g, 0, none⟩) 3 3) (l := [By (UInt8.ofNat ((((((((0 + (numN a)) * 64) + (numN b)) * 64) + (numN c)) * 64) + (numN d)) / 65536)), By (UInt8.ofNat (((((((((0 + (numN a)) * 64) + (numN b)) * 64) + (numN c)) * 64) + (numN d)) / 256) % 256)), By (UInt8.ofNat ((((((((0 + (numN a)) * 64) + (numN b)) * 64) + (numN c)) * 64) + (numN d)) % 256))]) (t := 5) H rfl (by kernel_rfl) (by kernel_rfl) (by kernel_rfl) (fun g5 w6 H => ?_)
   refine GL_st 1 12 [(3, In 1), (6, .slice (some ⟨g5, 0, none⟩) 3 3)] fun β => ?_
   refine G_sr ?_
   refine GL_st 4 4 [(2, .slice (some ⟨g5, 0, none⟩) 1 3)] fun β => ?_
   refine G_ret ?_
   refine res1 (v := .slice (some ⟨g5, 0, none⟩) 1 3) rfl (by kernel_rfl) ?_
   replace H : Sep w0 w6 (.blk g5 5 [By (UInt8.ofNat ((((((((0 + (numN a)) * 64) + (numN b)) * 64) + (numN c)) * 64) + (numN d)) / 65536)), By (UInt8.ofNat (((((((((0 + (numN a)) * 64) + (numN b)) * 64) + (numN c)) * 64) + (numN d)) / 256) % 256)), By (UInt8.ofNat ((((((((0 + (numN a)) * 64) + (numN b)) * 64) + (numN c)) * 64) + (numN d)) % 256))] :: F) := H
   have e0 : allN [a, b, c, d] = [(UInt8.ofNat ((((((((0 + (numN a)) * 64) + (numN b)) * 64) + (numN c)) * 64) + (numN d)) / 65536)), (UInt8.ofNat (((((((((0 + (numN a)) * 64) + (numN b)) * 64) + (numN c)) * 64) + (numN d)) / 256) % 256)), (UInt8.ofNat ((((((((0 + (numN a)) * 64) + (numN b)) * 64) + (numN c)) * 64) + (numN d)) % 256))] := by simp only [allN, bitsN, List.getD_cons_zero, List.getD_cons_succ, Nat.zero_add]
   have em : manyN [a, b, c, d] = 1 := by simp [manyN, *]
   have el : (grpN [a, b, c, d]).length = 1 := by rw [grpN_len, em]
   have eg : grpN [a, b, c, d] = (allN [a, b, c, d]).take 1 := by rw [← em]; rfl
   replace H : Sep w0 w6 (.blk g5 5 (bs (allN [a, b, c, d])) :: F) := by rw [e0]; exact H
   refine ⟨g5, by rw [el], ?_, H⟩
   rw [el, eg]
   exact rd_take (i := 0) rfl (by rw [e0]; simp) (by decide) (by decide)
  · --no
   replace h1 : ¬ (c = (61 : UInt8)) := eql_F h1
   refine G_skip ?_
   refine thn_normal ?_
   refine G_sr ?_
   refine GL_st 1 1 [(0, S [a, b, c, d]), (3, In 2), (4, In 0)] fun β => ?_
   refine G_seq ?_
   refine G_sr ?_
   refine GL_st 1 1 [(0, S [a, b, c, d]), (3, In 2), (4, In 0), (5, In 0)] fun β => ?_
   refine G_block ?_
   refine G_un 5 ?_
   refine GU_step ?_
   refine G_forget [(0, S [a, b, c, d]), (3, In 2), (4, In 0), (5, In 0)] (by kernel_rfl) (fun β => ?_)
   refine G_seq ?_
   refine G_sr ?_
   refine GL_st 2 2 [(0, S [a, b, c, d]), (3, In 2), (4, In 0), (5, In 0), (14, .bool true)] fun β => ?_
   refine G_true (by kernel_rfl) ?_
   refine G_skip ?_
   refine thn_normal ?_
   refine G_seq ?_
   refine G_block ?_
   refine G_region ?_
   refine GL_s 5 5 [(0, S [a, b, c, d]), (3, In 2), (5, In 0), (18, In 0), (21, By a)] fun β => ?_
   refine GL_C (c_number a H) ?_
   rintro _ w7 ⟨rfl, H⟩
   refine GL_sr 3 9 [(0, S [a, b, c, d]), (3, In 2), (4, In (0 + (numN a))), (5, In 0)] (show ([S [a, b, c, d], .int .i64 ((2 : Nat) : Int), .int .i64 (IntKind.i64.wrap (((0 : Nat) : Int) + (if (numI a) > ((0 : Nat) : Int) then (numI a) else ((0 : Nat) : Int)))), .int .i64 ((0 : Nat) : Int)] : List Value) = [S [a, b, c, d], In 2, In (0 + (numN a)), In 0] by rw [nmaxI a, nadd64 0 (numN a) (by omega)]) fun β => ?_
   refine GL_end (by kernel_rfl) ?_
   refine inb_normal ?_
   refine thn_normal ?_
   refine G_region ?_
   refine GL_st 3 3 [(0, S [a, b, c, d]), (3, In 2), (4, In (0 + (numN a))), (5, In 1)] fun β => ?_
   refine GU_step ?_
   refine G_forget [(0, S [a, b, c, d]), (3, In 2), (4, In (0 + (numN a))), (5, In 1)] (by kernel_rfl) (fun β => ?_)
   refine G_seq ?_
   refine G_sr ?_
   refine GL_st 2 2 [(0, S [a, b, c, d]), (3, In 2), (4, In (0 + (numN a))), (5, In 1), (14, .bool true)] fun β => ?_
   refine G_true (by kernel_rfl) ?_
   refine G_skip ?_
   refine thn_normal ?_
   refine G_seq ?_
   refine G_block ?_
   refine G_region ?_
   refine GL_sr 5 5 [(0, S [a, b, c, d]), (3, In 2), (5, In 1), (18, In ((0 + (numN a)) * 64)), (21, By b)] (show ([S [a, b, c, d], .int .i64 ((2 : Nat) : Int), .int .i64 ((1 : Nat) : Int), .int .i64 (IntKind.i64.wrap (((0 + (numN a) : Nat) : Int) * ((64 : Nat) : Int))), .int .u8 (b.toNat : Int)] : List Value) = [S [a, b, c, d], In 2, In 1, In ((0 + (numN a)) * 64), By b] by rw [nmul64 (0 + (numN a)) 64 (by omega)]) fun β => ?_
   refine GL_C (c_number b H) ?_
   rintro _ w8 ⟨rfl, H⟩
   refine GL_sr 3 9 [(0, S [a, b, c, d]), (3, In 2), (4, In (((0 + (numN a)) * 64) + (numN b))), (5, In 1)] (show ([S [a, b, c, d], .int .i64 ((2 : Nat) : Int), .int .i64 (IntKind.i64.wrap ((((0 + (numN a)) * 64 : Nat) : Int) + (if (numI b) > ((0 : Nat) : Int) then (numI b) else ((0 : Nat) : Int)))), .int .i64 ((1 : Nat) : Int)] : List Value) = [S [a, b, c, d], In 2, In (((0 + (numN a)) * 64) + (numN b)), In 1] by rw [nmaxI b, nadd64 ((0 + (numN a)) * 64) (numN b) (by omega)]) fun β => ?_
   refine GL_end (by kernel_rfl) ?_
   refine inb_normal ?_
   refine thn_normal ?_
   refine G_region ?_
   refine GL_st 3 3 [(0, S [a, b, c, d]), (3, In 2), (4, In (((0 + (numN a)) * 64) + (numN b))), (5, In 2)] fun β => ?_
   refine GU_step ?_
   refine G_forget [(0, S [a, b, c, d]), (3, In 2), (4, In (((0 + (numN a)) * 64) + (numN b))), (5, In 2)] (by kernel_rfl) (fun β => ?_)
   refine G_seq ?_
   refine G_sr ?_
   refine GL_st 2 2 [(0, S [a, b, c, d]), (3, In 2), (4, In (((0 + (numN a)) * 64) + (numN b))), (5, In 2), (14, .bool true)] fun β => ?_
   refine G_true (by kernel_rfl) ?_
   refine G_skip ?_
   refine thn_normal ?_
   refine G_seq ?_
   refine G_block ?_
   refine G_region ?_
   refine GL_sr 5 5 [(0, S [a, b, c, d]), (3, In 2), (5, In 2), (18, In ((((0 + (numN a)) * 64) + (numN b)) * 64)), (21, By c)] (show ([S [a, b, c, d], .int .i64 ((2 : Nat) : Int), .int .i64 ((2 : Nat) : Int), .int .i64 (IntKind.i64.wrap (((((0 + (numN a)) * 64) + (numN b) : Nat) : Int) * ((64 : Nat) : Int))), .int .u8 (c.toNat : Int)] : List Value) = [S [a, b, c, d], In 2, In 2, In ((((0 + (numN a)) * 64) + (numN b)) * 64), By c] by rw [nmul64 (((0 + (numN a)) * 64) + (numN b)) 64 (by omega)]) fun β => ?_
   refine GL_C (c_number c H) ?_
   rintro _ w9 ⟨rfl, H⟩
   refine GL_sr 3 9 [(0, S [a, b, c, d]), (3, In 2), (4, In (((((0 + (numN a)) * 64) + (numN b)) * 64) + (numN c))), (5, In 2)] (show ([S [a, b, c, d], .int .i64 ((2 : Nat) : Int), .int .i64 (IntKind.i64.wrap ((((((0 + (numN a)) * 64) + (numN b)) * 64 : Nat) : Int) + (if (numI c) > ((0 : Nat) : Int) then (numI c) else ((0 : Nat) : Int)))), .int .i64 ((2 : Nat) : Int)] : List Value) = [S [a, b, c, d], In 2, In (((((0 + (numN a)) * 64) + (numN b)) * 64) + (numN c)), In 2] by rw [nmaxI c, nadd64 ((((0 + (numN a)) * 64) + (numN b)) * 64) (numN c) (by omega)]) fun β => ?_
   refine GL_end (by kernel_rfl) ?_
   refine inb_normal ?_
   refine thn_normal ?_
   refine G_region ?_
   refine GL_st 3 3 [(0, S [a, b, c, d]), (3, In 2), (4, In (((((0 + (numN a)) * 64) + (numN b)) * 64) + (numN c))), (5, In 3)] fun β => ?_
   refine GU_step ?_
   refine G_forget [(0, S [a, b, c, d]), (3, In 2), (4, In (((((0 + (numN a)) * 64) + (numN b)) * 64) + (numN c))), (5, In 3)] (by kernel_rfl) (fun β => ?_)
   refine G_seq ?_
   refine G_sr ?_
   refine GL_st 2 2 [(0, S [a, b, c, d]), (3, In 2), (4, In (((((0 + (numN a)) * 64) + (numN b)) * 64) + (numN c))), (5, In 3), (14, .bool true)] fun β => ?_
   refine G_true (by kernel_rfl) ?_
   refine G_skip ?_
   refine thn_normal ?_
   refine G_seq ?_
   refine G_block ?_
   refine G_region ?_
   refine GL_sr 5 5 [(0, S [a, b, c, d]), (3, In 2), (5, In 3), (18, In ((((((0 + (numN a)) * 64) + (numN b)) * 64) + (numN c)) * 64)), (21, By d)] (show ([S [a, b, c, d], .int .i64 ((2 : Nat) : Int), .int .i64 ((3 : Nat) : Int), .int .i64 (IntKind.i64.wrap (((((((0 + (numN a)) * 64) + (numN b)) * 64) + (numN c) : Nat) : Int) * ((64 : Nat) : Int))), .int .u8 (d.toNat : Int)] : List Value) = [S [a, b, c, d], In 2, In 3, In ((((((0 + (numN a)) * 64) + (numN b)) * 64) + (numN c)) * 64), By d] by rw [nmul64 (((((0 + (numN a)) * 64) + (numN b)) * 64) + (numN c)) 64 (by omega)]) fun β => ?_
   refine GL_C (c_number d H) ?_
   rintro _ w10 ⟨rfl, H⟩
   refine GL_sr 3 9 [(0, S [a, b, c, d]), (3, In 2), (4, In (((((((0 + (numN a)) * 64) + (numN b)) * 64) + (numN c)) * 64) + (numN d))), (5, In 3)] (show ([S [a, b, c, d], .int .i64 ((2 : Nat) : Int), .int .i64 (IntKind.i64.wrap ((((((((0 + (numN a)) * 64) + (numN b)) * 64) + (numN c)) * 64 : Nat) : Int) + (if (numI d) > ((0 : Nat) : Int) then (numI d) else ((0 : Nat) : Int)))), .int .i64 ((3 : Nat) : Int)] : List Value) = [S [a, b, c, d], In 2, In (((((((0 + (numN a)) * 64) + (numN b)) * 64) + (numN c)) * 64) + (numN d)), In 3] by rw [nmaxI d, nadd64 ((((((0 + (numN a)) * 64) + (numN b)) * 64) + (numN c)) * 64) (numN d) (by omega)]) fun β => ?_
   refine GL_end (by kernel_rfl) ?_
   refine inb_normal ?_
   refine thn_normal ?_
   refine G_region ?_
   refine GL_st 3 3 [(0, S [a, b, c, d]), (3, In 2), (4, In (((((((0 + (numN a)) * 64) + (numN b)) * 64) + (numN c)) * 64) + (numN d))), (5, In 4)] fun β => ?_
   refine GU_step ?_
   refine G_forget [(0, S [a, b, c, d]), (3, In 2), (4, In (((((((0 + (numN a)) * 64) + (numN b)) * 64) + (numN c)) * 64) + (numN d))), (5, In 4)] (by kernel_rfl) (fun β => ?_)
   refine G_seq ?_
   refine G_sr ?_
   refine GL_st 2 2 [(0, S [a, b, c, d]), (3, In 2), (4, In (((((((0 + (numN a)) * 64) + (numN b)) * 64) + (numN c)) * 64) + (numN d))), (5, In 4), (14, .bool false)] fun β => ?_
   refine G_false (by kernel_rfl) ?_
   refine G_exit (thn_exit (thn_exit (inb_hit ?_)))
   refine thn_normal ?_
   refine G_sr ?_
   refine GL_sr 10 10 [(3, In 2), (27, By (UInt8.ofNat ((((((((0 + (numN a)) * 64) + (numN b)) * 64) + (numN c)) * 64) + (numN d)) / 65536))), (31, By (UInt8.ofNat (((((((((0 + (numN a)) * 64) + (numN b)) * 64) + (numN c)) * 64) + (numN d)) / 256) % 256))), (34, By (UInt8.ofNat ((((((((0 + (numN a)) * 64) + (numN b)) * 64) + (numN c)) * 64) + (numN d)) % 256)))] (show ([.int .i64 ((2 : Nat) : Int), .int .u8 (IntKind.u8.wrap (IntKind.i64.wrap (((((((((0 + (numN a)) * 64) + (numN b)) * 64) + (numN c)) * 64) + (numN d) : Nat) : Int).tdiv ((65536 : Nat) : Int)))), .int .u8 (IntKind.u8.wrap ((IntKind.i64.wrap (((((((((0 + (numN a)) * 64) + (numN b)) * 64) + (numN c)) * 64) + (numN d) : Nat) : Int).tdiv ((256 : Nat) : Int))).tmod ((256 : Nat) : Int))), .int .u8 (IntKind.u8.wrap (((((((((0 + (numN a)) * 64) + (numN b)) * 64) + (numN c)) * 64) + (numN d) : Nat) : Int).tmod ((256 : Nat) : Int)))] : List Value) = [In 2, By (UInt8.ofNat ((((((((0 + (numN a)) * 64) + (numN b)) * 64) + (numN c)) * 64) + (numN d)) / 65536)), By (UInt8.ofNat (((((((((0 + (numN a)) * 64) + (numN b)) * 64) + (numN c)) * 64) + (numN d)) / 256) % 256)), By (UInt8.ofNat ((((((((0 + (numN a)) * 64) + (numN b)) * 64) + (numN c)) * 64) + (numN d)) % 256))] by rw [nquo64 (((((((0 + (numN a)) * 64) + (numN b)) * 64) + (numN c)) * 64) + (numN d)) 65536 (by omega), Kw.u8_ofNat ((((((((0 + (numN a)) * 64) + (numN b)) * 64) + (numN c)) * 64) + (numN d)) / 65536), nquo64 (((((((0 + (numN a)) * 64) + (numN b)) * 64) + (numN c)) * 64) + (numN d)) 256 (by omega), nrem64 ((((((((0 + (numN a)) * 64) + (numN b)) * 64) + (numN c)) * 64) + (numN d)) / 256) 256, Kw.u8_ofNat (((((((((0 + (numN a)) * 64) + (numN b)) * 64) + (numN c)) * 64) + (numN d)) / 256) % 256), nrem64 (((((((0 + (numN a)) * 64) + (numN b)) * 64) + (numN c)) * 64) + (numN d)) 256, Kw.u8_ofNat ((((((((0 + (numN a)) * 64) + (numN b)) * 64) + (numN c)) * 64) + (numN d)) % 256)]) fun β => ?_
   refine GL_new (V := fun g => .slice (some ⟨g, 0, none⟩) 3 3) (l := [By (UInt8.ofNat ((((((((0 + (numN a)) * 64) + (numN b)) * 64) + (numN c)) * 64) + (numN d)) / 65536)), By (UInt8.ofNat (((((((((0 + (numN a)) * 64) + (numN b)) * 64) + (numN c)) * 64) + (numN d)) / 256) % 256)), By (UInt8.ofNat ((((((((0 + (numN a)) * 64) + (numN b)) * 64) + (numN c)) * 64) + (numN d)) % 256))]) (t := 5) H rfl (by kernel_rfl) (by kernel_rfl) (by kernel_rfl) (fun g11 w12 H => ?_)
   refine GL_st 1 12 [(3, In 2), (6, .slice (some ⟨g11, 0, none⟩) 3 3)] fun β => ?_
   refine G_sr ?_
   refine GL_st 4 4 [(2, .slice (some ⟨g11, 0, none⟩) 2 3)] fun β => ?_
   refine G_ret ?_
   refine res1 (v := .slice (some ⟨g11, 0, none⟩) 2 3) rfl (by kernel_rfl) ?_
   replace H : Sep w0 w12 (.blk g11 5 [By (UInt8.ofNat ((((((((0 + (numN a)) * 64) + (numN b)) * 64) + (numN c)) * 64) + (numN d)) / 65536)), By (UInt8.ofNat (((((((((0 + (numN a)) * 64) + (numN b)) * 64) + (numN c)) * 64) + (numN d)) / 256) % 256)), By (UInt8.ofNat ((((((((0 + (numN a)) * 64) + (numN b)) * 64) + (numN c)) * 64) + (numN d)) % 256))] :: F) := H
   have e0 : allN [a, b, c, d] = [(UInt8.ofNat ((((((((0 + (numN a)) * 64) + (numN b)) * 64) + (numN c)) * 64) + (numN d)) / 65536)), (UInt8.ofNat (((((((((0 + (numN a)) * 64) + (numN b)) * 64) + (numN c)) * 64) + (numN d)) / 256) % 256)), (UInt8.ofNat ((((((((0 + (numN a)) * 64) + (numN b)) * 64) + (numN c)) * 64) + (numN d)) % 256))] := by simp only [allN, bitsN, List.getD_cons_zero, List.getD_cons_succ, Nat.zero_add]
   have em : manyN [a, b, c, d] = 2 := by simp [manyN, *]
   have el : (grpN [a, b, c, d]).length = 2 := by rw [grpN_len, em]
   have eg : grpN [a, b, c, d] = (allN [a, b, c, d]).take 2 := by rw [← em]; rfl
   replace H : Sep w0 w12 (.blk g11 5 (bs (allN [a, b, c, d])) :: F) := by rw [e0]; exact H
   refine ⟨g11, by rw [el], ?_, H⟩
   rw [el, eg]
   exact rd_take (i := 0) rfl (by rw [e0]; simp) (by decide) (by decide)
 · --no
  replace h0 : ¬ (d = (61 : UInt8)) := eql_F h0
  refine G_skip ?_
  refine thn_normal ?_
  refine G_seq ?_
  refine G_sr ?_
  refine GL_srt 3 3 [(0, S [a, b, c, d]), (3, In 3), (12, .bool (c == (61 : UInt8)))] (show ([S [a, b, c, d], .int .i64 ((3 : Nat) : Int), .bool ((c.toNat : Int) == ((61 : UInt8).toNat : Int))] : List Value) = [S [a, b, c, d], In 3, .bool (c == (61 : UInt8))] by rw [Kw.u8_eql c (61 : UInt8)]) fun β => ?_
  refine G_cond (c == (61 : UInt8)) (by kernel_rfl) (fun h2 => ?_) (fun h2 => ?_)
  · --yes
   replace h2 : c = (61 : UInt8) := eql_T h2
   refine G_region ?_
   refine GL_st 1 1 [(0, S [a, b, c, d]), (3, In 1)] fun β => ?_
   refine G_sr ?_
   refine GL_st 1 1 [(0, S [a, b, c, d]), (3, In 1), (4, In 0)] fun β => ?_
   refine G_seq ?_
   refine G_sr ?_
   refine GL_st 1 1 [(0, S [a, b, c, d]), (3, In 1), (4, In 0), (5, In 0)] fun β => ?_
   refine G_block ?_
   refine G_un 5 ?_
   refine GU_step ?_
   refine G_forget [(0, S [a, b, c, d]), (3, In 1), (4, In 0), (5, In 0)] (by kernel_rfl) (fun β => ?_)
   refine G_seq ?_
   refine G_sr ?_
   refine GL_st 2 2 [(0, S [a, b, c, d]), (3, In 1), (4, In 0), (5, In 0), (14, .bool true)] fun β => ?_
   refine G_true (by kernel_rfl) ?_
   refine G_skip ?_
   refine thn_normal ?_
   refine G_seq ?_
   refine G_block ?_
   refine G_region ?_
   refine GL_s 5 5 [(0, S [a, b, c, d]), (3, In 1), (5, In 0), (18, In 0), (21, By a)] fun β => ?_
   refine GL_C (c_number a H) ?_
   rintro _ w13 ⟨rfl, H⟩
   refine GL_sr 3 9 [(0, S [a, b, c, d]), (3, In 1), (4, In (0 + (numN a))), (5, In 0)] (show ([S [a, b, c, d], .int .i64 ((1 : Nat) : Int), .int .i64 (IntKind.i64.wrap (((0 : Nat) : Int) + (if (numI a) > ((0 : Nat) : Int) then (numI a) else ((0 : Nat) : Int)))), .int .i64 ((0 : Nat) : Int)] : List Value) = [S [a, b, c, d], In 1, In (0 + (numN a)), In 0] by rw [nmaxI a, nadd64 0 (numN a) (by omega)]) fun β => ?_
   refine GL_end (by kernel_rfl) ?_
   refine inb_normal ?_
   refine thn_normal ?_
   refine G_region ?_
   refine GL_st 3 3 [(0, S [a, b, c, d]), (3, In 1), (4, In (0 + (numN a))), (5, In 1)] fun β => ?_
   refine GU_step ?_
   refine G_forget [(0, S [a, b, c, d]), (3, In 1), (4, In (0 + (numN a))), (5, In 1)] (by kernel_rfl) (fun β => ?_)
   refine G_seq ?_
   refine G_sr ?_
   refine GL_st 2 2 [(0, S [a, b, c, d]), (3, In 1), (4, In (0 + (numN a))), (5, In 1), (14, .bool true)] fun β => ?_
   refine G_true (by kernel_rfl) ?_
   refine G_skip ?_
   refine thn_normal ?_
   refine G_seq ?_
   refine G_block ?_
   refine G_region ?_
   refine GL_sr 5 5 [(0, S [a, b, c, d]), (3, In 1), (5, In 1), (18, In ((0 + (numN a)) * 64)), (21, By b)] (show ([S [a, b, c, d], .int .i64 ((1 : Nat) : Int), .int .i64 ((1 : Nat) : Int), .int .i64 (IntKind.i64.wrap (((0 + (numN a) : Nat) : Int) * ((64 : Nat) : Int))), .int .u8 (b.toNat : Int)] : List Value) = [S [a, b, c, d], In 1, In 1, In ((0 + (numN a)) * 64), By b] by rw [nmul64 (0 + (numN a)) 64 (by omega)]) fun β => ?_
   refine GL_C (c_number b H) ?_
   rintro _ w14 ⟨rfl, H⟩
   refine GL_sr 3 9 [(0, S [a, b, c, d]), (3, In 1), (4, In (((0 + (numN a)) * 64) + (numN b))), (5, In 1)] (show ([S [a, b, c, d], .int .i64 ((1 : Nat) : Int), .int .i64 (IntKind.i64.wrap ((((0 + (numN a)) * 64 : Nat) : Int) + (if (numI b) > ((0 : Nat) : Int) then (numI b) else ((0 : Nat) : Int)))), .int .i64 ((1 : Nat) : Int)] : List Value) = [S [a, b, c, d], In 1, In (((0 + (numN a)) * 64) + (numN b)), In 1] by rw [nmaxI b, nadd64 ((0 + (numN a)) * 64) (numN b) (by omega)]) fun β => ?_
   refine GL_end (by kernel_rfl) ?_
   refine inb_normal ?_
   refine thn_normal ?_
   refine G_region ?_
   refine GL_st 3 3 [(0, S [a, b, c, d]), (3, In 1), (4, In (((0 + (numN a)) * 64) + (numN b))), (5, In 2)] fun β => ?_
   refine GU_step ?_
   refine G_forget [(0, S [a, b, c, d]), (3, In 1), (4, In (((0 + (numN a)) * 64) + (numN b))), (5, In 2)] (by kernel_rfl) (fun β => ?_)
   refine G_seq ?_
   refine G_sr ?_
   refine GL_st 2 2 [(0, S [a, b, c, d]), (3, In 1), (4, In (((0 + (numN a)) * 64) + (numN b))), (5, In 2), (14, .bool true)] fun β => ?_
   refine G_true (by kernel_rfl) ?_
   refine G_skip ?_
   refine thn_normal ?_
   refine G_seq ?_
   refine G_block ?_
   refine G_region ?_
   refine GL_sr 5 5 [(0, S [a, b, c, d]), (3, In 1), (5, In 2), (18, In ((((0 + (numN a)) * 64) + (numN b)) * 64)), (21, By c)] (show ([S [a, b, c, d], .int .i64 ((1 : Nat) : Int), .int .i64 ((2 : Nat) : Int), .int .i64 (IntKind.i64.wrap (((((0 + (numN a)) * 64) + (numN b) : Nat) : Int) * ((64 : Nat) : Int))), .int .u8 (c.toNat : Int)] : List Value) = [S [a, b, c, d], In 1, In 2, In ((((0 + (numN a)) * 64) + (numN b)) * 64), By c] by rw [nmul64 (((0 + (numN a)) * 64) + (numN b)) 64 (by omega)]) fun β => ?_
   refine GL_C (c_number c H) ?_
   rintro _ w15 ⟨rfl, H⟩
   refine GL_sr 3 9 [(0, S [a, b, c, d]), (3, In 1), (4, In (((((0 + (numN a)) * 64) + (numN b)) * 64) + (numN c))), (5, In 2)] (show ([S [a, b, c, d], .int .i64 ((1 : Nat) : Int), .int .i64 (IntKind.i64.wrap ((((((0 + (numN a)) * 64) + (numN b)) * 64 : Nat) : Int) + (if (numI c) > ((0 : Nat) : Int) then (numI c) else ((0 : Nat) : Int)))), .int .i64 ((2 : Nat) : Int)] : List Value) = [S [a, b, c, d], In 1, In (((((0 + (numN a)) * 64) + (numN b)) * 64) + (numN c)), In 2] by rw [nmaxI c, nadd64 ((((0 + (numN a)) * 64) + (numN b)) * 64) (numN c) (by omega)]) fun β => ?_
   refine GL_end (by kernel_rfl) ?_
   refine inb_normal ?_
   refine thn_normal ?_
   refine G_region ?_
   refine GL_st 3 3 [(0, S [a, b, c, d]), (3, In 1), (4, In (((((0 + (numN a)) * 64) + (numN b)) * 64) + (numN c))), (5, In 3)] fun β => ?_
   refine GU_step ?_
   refine G_forget [(0, S [a, b, c, d]), (3, In 1), (4, In (((((0 + (numN a)) * 64) + (numN b)) * 64) + (numN c))), (5, In 3)] (by kernel_rfl) (fun β => ?_)
   refine G_seq ?_
   refine G_sr ?_
   refine GL_st 2 2 [(0, S [a, b, c, d]), (3, In 1), (4, In (((((0 + (numN a)) * 64) + (numN b)) * 64) + (numN c))), (5, In 3), (14, .bool true)] fun β => ?_
   refine G_true (by kernel_rfl) ?_
   refine G_skip ?_
   refine thn_normal ?_
   refine G_seq ?_
   refine G_block ?_
   refine G_region ?_
   refine GL_sr 5 5 [(0, S [a, b, c, d]), (3, In 1), (5, In 3), (18, In ((((((0 + (numN a)) * 64) + (numN b)) * 64) + (numN c)) * 64)), (21, By d)] (show ([S [a, b, c, d], .int .i64 ((1 : Nat) : Int), .int .i64 ((3 : Nat) : Int), .int .i64 (IntKind.i64.wrap (((((((0 + (numN a)) * 64) + (numN b)) * 64) + (numN c) : Nat) : Int) * ((64 : Nat) : Int))), .int .u8 (d.toNat : Int)] : List Value) = [S [a, b, c, d], In 1, In 3, In ((((((0 + (numN a)) * 64) + (numN b)) * 64) + (numN c)) * 64), By d] by rw [nmul64 (((((0 + (numN a)) * 64) + (numN b)) * 64) + (numN c)) 64 (by omega)]) fun β => ?_
   refine GL_C (c_number d H) ?_
   rintro _ w16 ⟨rfl, H⟩
   refine GL_sr 3 9 [(0, S [a, b, c, d]), (3, In 1), (4, In (((((((0 + (numN a)) * 64) + (numN b)) * 64) + (numN c)) * 64) + (numN d))), (5, In 3)] (show ([S [a, b, c, d], .int .i64 ((1 : Nat) : Int), .int .i64 (IntKind.i64.wrap ((((((((0 + (numN a)) * 64) + (numN b)) * 64) + (numN c)) * 64 : Nat) : Int) + (if (numI d) > ((0 : Nat) : Int) then (numI d) else ((0 : Nat) : Int)))), .int .i64 ((3 : Nat) : Int)] : List Value) = [S [a, b, c, d], In 1, In (((((((0 + (numN a)) * 64) + (numN b)) * 64) + (numN c)) * 64) + (numN d)), In 3] by rw [nmaxI d, nadd64 ((((((0 + (numN a)) * 64) + (numN b)) * 64) + (numN c)) * 64) (numN d) (by omega)]) fun β => ?_
   refine GL_end (by kernel_rfl) ?_
   refine inb_normal ?_
   refine thn_normal ?_
   refine G_region ?_
   refine GL_st 3 3 [(0, S [a, b, c, d]), (3, In 1), (4, In (((((((0 + (numN a)) * 64) + (numN b)) * 64) + (numN c)) * 64) + (numN d))), (5, In 4)] fun β => ?_
   refine GU_step ?_
   refine G_forget [(0, S [a, b, c, d]), (3, In 1), (4, In (((((((0 + (numN a)) * 64) + (numN b)) * 64) + (numN c)) * 64) + (numN d))), (5, In 4)] (by kernel_rfl) (fun β => ?_)
   refine G_seq ?_
   refine G_sr ?_
   refine GL_st 2 2 [(0, S [a, b, c, d]), (3, In 1), (4, In (((((((0 + (numN a)) * 64) + (numN b)) * 64) + (numN c)) * 64) + (numN d))), (5, In 4), (14, .bool false)] fun β => ?_
   refine G_false (by kernel_rfl) ?_
   refine G_exit (thn_exit (thn_exit (inb_hit ?_)))
   refine thn_normal ?_
   refine G_sr ?_
   refine GL_sr 10 10 [(3, In 1), (27, By (UInt8.ofNat ((((((((0 + (numN a)) * 64) + (numN b)) * 64) + (numN c)) * 64) + (numN d)) / 65536))), (31, By (UInt8.ofNat (((((((((0 + (numN a)) * 64) + (numN b)) * 64) + (numN c)) * 64) + (numN d)) / 256) % 256))), (34, By (UInt8.ofNat ((((((((0 + (numN a)) * 64) + (numN b)) * 64) + (numN c)) * 64) + (numN d)) % 256)))] (show ([.int .i64 ((1 : Nat) : Int), .int .u8 (IntKind.u8.wrap (IntKind.i64.wrap (((((((((0 + (numN a)) * 64) + (numN b)) * 64) + (numN c)) * 64) + (numN d) : Nat) : Int).tdiv ((65536 : Nat) : Int)))), .int .u8 (IntKind.u8.wrap ((IntKind.i64.wrap (((((((((0 + (numN a)) * 64) + (numN b)) * 64) + (numN c)) * 64) + (numN d) : Nat) : Int).tdiv ((256 : Nat) : Int))).tmod ((256 : Nat) : Int))), .int .u8 (IntKind.u8.wrap (((((((((0 + (numN a)) * 64) + (numN b)) * 64) + (numN c)) * 64) + (numN d) : Nat) : Int).tmod ((256 : Nat) : Int)))] : List Value) = [In 1, By (UInt8.ofNat ((((((((0 + (numN a)) * 64) + (numN b)) * 64) + (numN c)) * 64) + (numN d)) / 65536)), By (UInt8.ofNat (((((((((0 + (numN a)) * 64) + (numN b)) * 64) + (numN c)) * 64) + (numN d)) / 256) % 256)), By (UInt8.ofNat ((((((((0 + (numN a)) * 64) + (numN b)) * 64) + (numN c)) * 64) + (numN d)) % 256))] by rw [nquo64 (((((((0 + (numN a)) * 64) + (numN b)) * 64) + (numN c)) * 64) + (numN d)) 65536 (by omega), Kw.u8_ofNat ((((((((0 + (numN a)) * 64) + (numN b)) * 64) + (numN c)) * 64) + (numN d)) / 65536), nquo64 (((((((0 + (numN a)) * 64) + (numN b)) * 64) + (numN c)) * 64) + (numN d)) 256 (by omega), nrem64 ((((((((0 + (numN a)) * 64) + (numN b)) * 64) + (numN c)) * 64) + (numN d)) / 256) 256, Kw.u8_ofNat (((((((((0 + (numN a)) * 64) + (numN b)) * 64) + (numN c)) * 64) + (numN d)) / 256) % 256), nrem64 (((((((0 + (numN a)) * 64) + (numN b)) * 64) + (numN c)) * 64) + (numN d)) 256, Kw.u8_ofNat ((((((((0 + (numN a)) * 64) + (numN b)) * 64) + (numN c)) * 64) + (numN d)) % 256)]) fun β => ?_
   refine GL_new (V := fun g => .slice (some ⟨g, 0, none⟩) 3 3) (l := [By (UInt8.ofNat ((((((((0 + (numN a)) * 64) + (numN b)) * 64) + (numN c)) * 64) + (numN d)) / 65536)), By (UInt8.ofNat (((((((((0 + (numN a)) * 64) + (numN b)) * 64) + (numN c)) * 64) + (numN d)) / 256) % 256)), By (UInt8.ofNat ((((((((0 + (numN a)) * 64) + (numN b)) * 64) + (numN c)) * 64) + (numN d)) % 256))]) (t := 5) H rfl (by kernel_rfl) (by kernel_rfl) (by kernel_rfl) (fun g17 w18 H => ?_)
   refine GL_st 1 12 [(3, In 1), (6, .slice (some ⟨g17, 0, none⟩) 3 3)] fun β => ?_
   refine G_sr ?_
   refine GL_st 4 4 [(2, .slice (some ⟨g17, 0, none⟩) 1 3)] fun β => ?_
   refine G_ret ?_
   refine res1 (v := .slice (some ⟨g17, 0, none⟩) 1 3) rfl (by kernel_rfl) ?_
   replace H : Sep w0 w18 (.blk g17 5 [By (UInt8.ofNat ((((((((0 + (numN a)) * 64) + (numN b)) * 64) + (numN c)) * 64) + (numN d)) / 65536)), By (UInt8.ofNat (((((((((0 + (numN a)) * 64) + (numN b)) * 64) + (numN c)) * 64) + (numN d)) / 256) % 256)), By (UInt8.ofNat ((((((((0 + (numN a)) * 64) + (numN b)) * 64) + (numN c)) * 64) + (numN d)) % 256))] :: F) := H
   have e0 : allN [a, b, c, d] = [(UInt8.ofNat ((((((((0 + (numN a)) * 64) + (numN b)) * 64) + (numN c)) * 64) + (numN d)) / 65536)), (UInt8.ofNat (((((((((0 + (numN a)) * 64) + (numN b)) * 64) + (numN c)) * 64) + (numN d)) / 256) % 256)), (UInt8.ofNat ((((((((0 + (numN a)) * 64) + (numN b)) * 64) + (numN c)) * 64) + (numN d)) % 256))] := by simp only [allN, bitsN, List.getD_cons_zero, List.getD_cons_succ, Nat.zero_add]
   have em : manyN [a, b, c, d] = 1 := by simp [manyN, *]
   have el : (grpN [a, b, c, d]).length = 1 := by rw [grpN_len, em]
   have eg : grpN [a, b, c, d] = (allN [a, b, c, d]).take 1 := by rw [← em]; rfl
   replace H : Sep w0 w18 (.blk g17 5 (bs (allN [a, b, c, d])) :: F) := by rw [e0]; exact H
   refine ⟨g17, by rw [el], ?_, H⟩
   rw [el, eg]
   exact rd_take (i := 0) rfl (by rw [e0]; simp) (by decide) (by decide)
  · --no
   replace h2 : ¬ (c = (61 : UInt8)) := eql_F h2
   refine G_skip ?_
   refine thn_normal ?_
   refine G_sr ?_
   refine GL_st 1 1 [(0, S [a, b, c, d]), (3, In 3), (4, In 0)] fun β => ?_
   refine G_seq ?_
   refine G_sr ?_
   refine GL_st 1 1 [(0, S [a, b, c, d]), (3, In 3), (4, In 0), (5, In 0)] fun β => ?_
   refine G_block ?_
   refine G_un 5 ?_
   refine GU_step ?_
   refine G_forget [(0, S [a, b, c, d]), (3, In 3), (4, In 0), (5, In 0)] (by kernel_rfl) (fun β => ?_)
   refine G_seq ?_
   refine G_sr ?_
   refine GL_st 2 2 [(0, S [a, b, c, d]), (3, In 3), (4, In 0), (5, In 0), (14, .bool true)] fun β => ?_
   refine G_true (by kernel_rfl) ?_
   refine G_skip ?_
   refine thn_normal ?_
   refine G_seq ?_
   refine G_block ?_
   refine G_region ?_
   refine GL_s 5 5 [(0, S [a, b, c, d]), (3, In 3), (5, In 0), (18, In 0), (21, By a)] fun β => ?_
   refine GL_C (c_number a H) ?_
   rintro _ w19 ⟨rfl, H⟩
   refine GL_sr 3 9 [(0, S [a, b, c, d]), (3, In 3), (4, In (0 + (numN a))), (5, In 0)] (show ([S [a, b, c, d], .int .i64 ((3 : Nat) : Int), .int .i64 (IntKind.i64.wrap (((0 : Nat) : Int) + (if (numI a) > ((0 : Nat) : Int) then (numI a) else ((0 : Nat) : Int)))), .int .i64 ((0 : Nat) : Int)] : List Value) = [S [a, b, c, d], In 3, In (0 + (numN a)), In 0] by rw [nmaxI a, nadd64 0 (numN a) (by omega)]) fun β => ?_
   refine GL_end (by kernel_rfl) ?_
   refine inb_normal ?_
   refine thn_normal ?_
   refine G_region ?_
   refine GL_st 3 3 [(0, S [a, b, c, d]), (3, In 3), (4, In (0 + (numN a))), (5, In 1)] fun β => ?_
   refine GU_step ?_
   refine G_forget [(0, S [a, b, c, d]), (3, In 3), (4, In (0 + (numN a))), (5, In 1)] (by kernel_rfl) (fun β => ?_)
   refine G_seq ?_
   refine G_sr ?_
   refine GL_st 2 2 [(0, S [a, b, c, d]), (3, In 3), (4, In (0 + (numN a))), (5, In 1), (14, .bool true)] fun β => ?_
   refine G_true (by kernel_rfl) ?_
   refine G_skip ?_
   refine thn_normal ?_
   refine G_seq ?_
   refine G_block ?_
   refine G_region ?_
   refine GL_sr 5 5 [(0, S [a, b, c, d]), (3, In 3), (5, In 1), (18, In ((0 + (numN a)) * 64)), (21, By b)] (show ([S [a, b, c, d], .int .i64 ((3 : Nat) : Int), .int .i64 ((1 : Nat) : Int), .int .i64 (IntKind.i64.wrap (((0 + (numN a) : Nat) : Int) * ((64 : Nat) : Int))), .int .u8 (b.toNat : Int)] : List Value) = [S [a, b, c, d], In 3, In 1, In ((0 + (numN a)) * 64), By b] by rw [nmul64 (0 + (numN a)) 64 (by omega)]) fun β => ?_
   refine GL_C (c_number b H) ?_
   rintro _ w20 ⟨rfl, H⟩
   refine GL_sr 3 9 [(0, S [a, b, c, d]), (3, In 3), (4, In (((0 + (numN a)) * 64) + (numN b))), (5, In 1)] (show ([S [a, b, c, d], .int .i64 ((3 : Nat) : Int), .int .i64 (IntKind.i64.wrap ((((0 + (numN a)) * 64 : Nat) : Int) + (if (numI b) > ((0 : Nat) : Int) then (numI b) else ((0 : Nat) : Int)))), .int .i64 ((1 : Nat) : Int)] : List Value) = [S [a, b, c, d], In 3, In (((0 + (numN a)) * 64) + (numN b)), In 1] by rw [nmaxI b, nadd64 ((0 + (numN a)) * 64) (numN b) (by omega)]) fun β => ?_
   refine GL_end (by kernel_rfl) ?_
   refine inb_normal ?_
   refine thn_normal ?_
   refine G_region ?_
   refine GL_st 3 3 [(0, S [a, b, c, d]), (3, In 3), (4, In (((0 + (numN a)) * 64) + (numN b))), (5, In 2)] fun β => ?_
   refine GU_step ?_
   refine G_forget [(0, S [a, b, c, d]), (3, In 3), (4, In (((0 + (numN a)) * 64) + (numN b))), (5, In 2)] (by kernel_rfl) (fun β => ?_)
   refine G_seq ?_
   refine G_sr ?_
   refine GL_st 2 2 [(0, S [a, b, c, d]), (3, In 3), (4, In (((0 + (numN a)) * 64) + (numN b))), (5, In 2), (14, .bool true)] fun β => ?_
   refine G_true (by kernel_rfl) ?_
   refine G_skip ?_
   refine thn_normal ?_
   refine G_seq ?_
   refine G_block ?_
   refine G_region ?_
   refine GL_sr 5 5 [(0, S [a, b, c, d]), (3, In 3), (5, In 2), (18, In ((((0 + (numN a)) * 64) + (numN b)) * 64)), (21, By c)] (show ([S [a, b, c, d], .int .i64 ((3 : Nat) : Int), .int .i64 ((2 : Nat) : Int), .int .i64 (IntKind.i64.wrap (((((0 + (numN a)) * 64) + (numN b) : Nat) : Int) * ((64 : Nat) : Int))), .int .u8 (c.toNat : Int)] : List Value) = [S [a, b, c, d], In 3, In 2, In ((((0 + (numN a)) * 64) + (numN b)) * 64), By c] by rw [nmul64 (((0 + (numN a)) * 64) + (numN b)) 64 (by omega)]) fun β => ?_
   refine GL_C (c_number c H) ?_
   rintro _ w21 ⟨rfl, H⟩
   refine GL_sr 3 9 [(0, S [a, b, c, d]), (3, In 3), (4, In (((((0 + (numN a)) * 64) + (numN b)) * 64) + (numN c))), (5, In 2)] (show ([S [a, b, c, d], .int .i64 ((3 : Nat) : Int), .int .i64 (IntKind.i64.wrap ((((((0 + (numN a)) * 64) + (numN b)) * 64 : Nat) : Int) + (if (numI c) > ((0 : Nat) : Int) then (numI c) else ((0 : Nat) : Int)))), .int .i64 ((2 : Nat) : Int)] : List Value) = [S [a, b, c, d], In 3, In (((((0 + (numN a)) * 64) + (numN b)) * 64) + (numN c)), In 2] by rw [nmaxI c, nadd64 ((((0 + (numN a)) * 64) + (numN b)) * 64) (numN c) (by omega)]) fun β => ?_
   refine GL_end (by kernel_rfl) ?_
   refine inb_normal ?_
   refine thn_normal ?_
   refine G_region ?_
   refine GL_st 3 3 [(0, S [a, b, c, d]), (3, In 3), (4, In (((((0 + (numN a)) * 64) + (numN b)) * 64) + (numN c))), (5, In 3)] fun β => ?_
   refine GU_step ?_
   refine G_forget [(0, S [a, b, c, d]), (3, In 3), (4, In (((((0 + (numN a)) * 64) + (numN b)) * 64) + (numN c))), (5, In 3)] (by kernel_rfl) (fun β => ?_)
   refine G_seq ?_
   refine G_sr ?_
   refine GL_st 2 2 [(0, S [a, b, c, d]), (3, In 3), (4, In (((((0 + (numN a)) * 64) + (numN b)) * 64) + (numN c))), (5, In 3), (14, .bool true)] fun β => ?_
   refine G_true (by kernel_rfl) ?_
   refine G_skip ?_
   refine thn_normal ?_
   refine G_seq ?_
   refine G_block ?_
   refine G_region ?_
   refine GL_sr 5 5 [(0, S [a, b, c, d]), (3, In 3), (5, In 3), (18, In ((((((0 + (numN a)) * 64) + (numN b)) * 64) + (numN c)) * 64)), (21, By d)] (show ([S [a, b, c, d], .int .i64 ((3 : Nat) : Int), .int .i64 ((3 : Nat) : Int), .int .i64 (IntKind.i64.wrap (((((((0 + (numN a)) * 64) + (numN b)) * 64) + (numN c) : Nat) : Int) * ((64 : Nat) : Int))), .int .u8 (d.toNat : Int)] : List Value) = [S [a, b, c, d], In 3, In 3, In ((((((0 + (numN a)) * 64) + (numN b)) * 64) + (numN c)) * 64), By d] by rw [nmul64 (((((0 + (numN a)) * 64) + (numN b)) * 64) + (numN c)) 64 (by omega)]) fun β => ?_
   refine GL_C (c_number d H) ?_
   rintro _ w22 ⟨rfl, H⟩
   refine GL_sr 3 9 [(0, S [a, b, c, d]), (3, In 3), (4, In (((((((0 + (numN a)) * 64) + (numN b)) * 64) + (numN c)) * 64) + (numN d))), (5, In 3)] (show ([S [a, b, c, d], .int .i64 ((3 : Nat) : Int), .int .i64 (IntKind.i64.wrap ((((((((0 + (numN a)) * 64) + (numN b)) * 64) + (numN c)) * 64 : Nat) : Int) + (if (numI d) > ((0 : Nat) : Int) then (numI d) else ((0 : Nat) : Int)))), .int .i64 ((3 : Nat) : Int)] : List Value) = [S [a, b, c, d], In 3, In (((((((0 + (numN a)) * 64) + (numN b)) * 64) + (numN c)) * 64) + (numN d)), In 3] by rw [nmaxI d, nadd64 ((((((0 + (numN a)) * 64) + (numN b)) * 64) + (numN c)) * 64) (numN d) (by omega)]) fun β => ?_
   refine GL_end (by kernel_rfl) ?_
   refine inb_normal ?_
   refine thn_normal ?_
   refine G_region ?_
   refine GL_st 3 3 [(0, S [a, b, c, d]), (3, In 3), (4, In (((((((0 + (numN a)) * 64) + (numN b)) * 64) + (numN c)) * 64) + (numN d))), (5, In 4)] fun β => ?_
   refine GU_step ?_
   refine G_forget [(0, S [a, b, c, d]), (3, In 3), (4, In (((((((0 + (numN a)) * 64) + (numN b)) * 64) + (numN c)) * 64) + (numN d))), (5, In 4)] (by kernel_rfl) (fun β => ?_)
   refine G_seq ?_
   refine G_sr ?_
   refine GL_st 2 2 [(0, S [a, b, c, d]), (3, In 3), (4, In (((((((0 + (numN a)) * 64) + (numN b)) * 64) + (numN c)) * 64) + (numN d))), (5, In 4), (14, .bool false)] fun β => ?_
   refine G_false (by kernel_rfl) ?_
   refine G_exit (thn_exit (thn_exit (inb_hit ?_)))
   refine thn_normal ?_
   refine G_sr ?_
   refine GL_sr 10 10 [(3, In 3), (27, By (UInt8.ofNat ((((((((0 + (numN a)) * 64) + (numN b)) * 64) + (numN c)) * 64) + (numN d)) / 65536))), (31, By (UInt8.ofNat (((((((((0 + (numN a)) * 64) + (numN b)) * 64) + (numN c)) * 64) + (numN d)) / 256) % 256))), (34, By (UInt8.ofNat ((((((((0 + (numN a)) * 64) + (numN b)) * 64) + (numN c)) * 64) + (numN d)) % 256)))] (show ([.int .i64 ((3 : Nat) : Int), .int .u8 (IntKind.u8.wrap (IntKind.i64.wrap (((((((((0 + (numN a)) * 64) + (numN b)) * 64) + (numN c)) * 64) + (numN d) : Nat) : Int).tdiv ((65536 : Nat) : Int)))), .int .u8 (IntKind.u8.wrap ((IntKind.i64.wrap (((((((((0 + (numN a)) * 64) + (numN b)) * 64) + (numN c)) * 64) + (numN d) : Nat) : Int).tdiv ((256 : Nat) : Int))).tmod ((256 : Nat) : Int))), .int .u8 (IntKind.u8.wrap (((((((((0 + (numN a)) * 64) + (numN b)) * 64) + (numN c)) * 64) + (numN d) : Nat) : Int).tmod ((256 : Nat) : Int)))] : List Value) = [In 3, By (UInt8.ofNat ((((((((0 + (numN a)) * 64) + (numN b)) * 64) + (numN c)) * 64) + (numN d)) / 65536)), By (UInt8.ofNat (((((((((0 + (numN a)) * 64) + (numN b)) * 64) + (numN c)) * 64) + (numN d)) / 256) % 256)), By (UInt8.ofNat ((((((((0 + (numN a)) * 64) + (numN b)) * 64) + (numN c)) * 64) + (numN d)) % 256))] by rw [nquo64 (((((((0 + (numN a)) * 64) + (numN b)) * 64) + (numN c)) * 64) + (numN d)) 65536 (by omega), Kw.u8_ofNat ((((((((0 + (numN a)) * 64) + (numN b)) * 64) + (numN c)) * 64) + (numN d)) / 65536), nquo64 (((((((0 + (numN a)) * 64) + (numN b)) * 64) + (numN c)) * 64) + (numN d)) 256 (by omega), nrem64 ((((((((0 + (numN a)) * 64) + (numN b)) * 64) + (numN c)) * 64) + (numN d)) / 256) 256, Kw.u8_ofNat (((((((((0 + (numN a)) * 64) + (numN b)) * 64) + (numN c)) * 64) + (numN d)) / 256) % 256), nrem64 (((((((0 + (numN a)) * 64) + (numN b)) * 64) + (numN c)) * 64) + (numN d)) 256, Kw.u8_ofNat ((((((((0 + (numN a)) * 64) + (numN b)) * 64) + (numN c)) * 64) + (numN d)) % 256)]) fun β => ?_
   refine GL_new (V := fun g => .slice (some ⟨g, 0, none⟩) 3 3) (l := [By (UInt8.ofNat ((((((((0 + (numN a)) * 64) + (numN b)) * 64) + (numN c)) * 64) + (numN d)) / 65536)), By (UInt8.ofNat (((((((((0 + (numN a)) * 64) + (numN b)) * 64) + (numN c)) * 64) + (numN d)) / 256) % 256)), By (UInt8.ofNat ((((((((0 + (numN a)) * 64) + (numN b)) * 64) + (numN c)) * 64) + (numN d)) % 256))]) (t := 5) H rfl (by kernel_rfl) (by kernel_rfl) (by kernel_rfl) (fun g23 w24 H => ?_)
   refine GL_st 1 12 [(3, In 3), (6, .slice (some ⟨g23, 0, none⟩) 3 3)] fun β => ?_
   refine G_sr ?_
   refine GL_st 4 4 [(2, .slice (some ⟨g23, 0, none⟩) 3 3)] fun β => ?_
   refine G_ret ?_
   refine res1 (v := .slice (some ⟨g23, 0, none⟩) 3 3) rfl (by kernel_rfl) ?_
   replace H : Sep w0 w24 (.blk g23 5 [By (UInt8.ofNat ((((((((0 + (numN a)) * 64) + (numN b)) * 64) + (numN c)) * 64) + (numN d)) / 65536)), By (UInt8.ofNat (((((((((0 + (numN a)) * 64) + (numN b)) * 64) + (numN c)) * 64) + (numN d)) / 256) % 256)), By (UInt8.ofNat ((((((((0 + (numN a)) * 64) + (numN b)) * 64) + (numN c)) * 64) + (numN d)) % 256))] :: F) := H
   have e0 : allN [a, b, c, d] = [(UInt8.ofNat ((((((((0 + (numN a)) * 64) + (numN b)) * 64) + (numN c)) * 64) + (numN d)) / 65536)), (UInt8.ofNat (((((((((0 + (numN a)) * 64) + (numN b)) * 64) + (numN c)) * 64) + (numN d)) / 256) % 256)), (UInt8.ofNat ((((((((0 + (numN a)) * 64) + (numN b)) * 64) + (numN c)) * 64) + (numN d)) % 256))] := by simp only [allN, bitsN, List.getD_cons_zero, List.getD_cons_succ, Nat.zero_add]
   have em : manyN [a, b, c, d] = 3 := by simp [manyN, *]
   have el : (grpN [a, b, c, d]).length = 3 := by rw [grpN_len, em]
   have eg : grpN [a, b, c, d] = (allN [a, b, c, d]).take 3 := by rw [← em]; rfl
   replace H : Sep w0 w24 (.blk g23 5 (bs (allN [a, b, c, d])) :: F) := by rw [e0]; exact H
   refine ⟨g23, by rw [el], ?_, H⟩
   rw [el, eg]
   exact rd_take (i := 0) rfl (by rw [e0]; simp) (by decide) (by decide)
theorem c_group (q : List UInt8) (hq : q.length = 4) {w0 w : World} {F : List Chunk} (H : Sep w0 w F) : Ret Tryd.prog 47 #[S q] w (fun v w' => ∃ g, v = .slice (some ⟨g, 0, none⟩) (grpN q).length 3 ∧ Rd w0 (.blk g 5 (bs (allN q)) :: F) (.slice (some ⟨g, 0, none⟩) (grpN q).length 3) 1 (grpN q).length (bs (grpN q)) ∧ Sep w0 w' (.blk g 5 (bs (allN q)) :: F)) :=
  match q, hq with
  | [a, b, c, d], _ => c_group4 a b c d H
  | [], h => absurd h (by simp)
  | [_], h => absurd h (by simp)
  | [_, _], h => absurd h (by simp)
  | [_, _, _], h => absurd h (by simp)
  | _ :: _ :: _ :: _ :: _ :: _, h => absurd h (by simp)
/-- posthorn/posthornref04.Unbase64 -/
theorem c_rUnb (l : List UInt8) (hl : l.length ≤ 68719476736) {w0 w : World} {F : List Chunk} (H : Sep w0 w F) : Ret Tryd.prog 34 #[S l] w (fun v w' => ∃ o e p A cp, dec l = (o, e, p) ∧ o.length ≤ 3 * l.length ∧ v = .tuple #[.slice A o.length cp, .agg #[.int .i64 (e : Int), .int .i64 (p : Int)]] ∧ Sep w0 w' (.row (.slice A o.length cp) 5 1 o.length (bs o) :: F)) := by
 refine Ret_enter (args := [S l]) Tryd.func34 rfl (by kernel_rfl) ?_
 refine G_forget [(0, S l)] (by kernel_rfl) (fun β => ?_)
 refine G_sr ?_
 refine GL_s 1 1 [(0, S l)] fun β => ?_
 refine GL_new (V := fun g => Pt g 0) (l := [In 0, In 0]) (t := 70) H rfl (by kernel_rfl) (by kernel_rfl) (by kernel_rfl) (fun g1 w2 H => ?_)
 refine GL_et ?_
 refine G_seq ?_
 refine G_sr ?_
 refine GL_st 1 1 [(0, S l), (3, Pt g1 0), (4, In 0)] fun β => ?_
 refine G_block ?_
 refine G_loop (X := Nat) (fun k => [(0, S l), (3, Pt g1 0), (4, In k)]) (fun k w_ => Sep w0 w_ (.blk g1 70 [In 0, In 0] :: F) ∧ (k ≤ l.length ∧ ∀ j, j < k → onF l j = true)) (fun k => l.length - k) (0) (by kernel_rfl) ⟨H, ⟨by omega, fun j hj => by omega⟩⟩ ?_
 rintro k β w3 ⟨H, hI⟩
 refine G_forget [(0, S l), (3, Pt g1 0), (4, In k)] (by kernel_rfl) (fun β => ?_)
 replace H : Sep w0 w3 (.blk g1 70 [In 0, In 0] :: F) := H
 replace hI : k ≤ l.length ∧ ∀ j, j < k → onF l j = true := hI
 obtain ⟨hI1, hI2⟩ := hI
 refine G_seq ?_
 refine G_sr ?_
 refine GL_srt 4 4 [(0, S l), (3, Pt g1 0), (4, In k), (10, .bool (decide (k < l.length)))] (show ([S l, Pt g1 0, .int .i64 (k : Int), .bool (decide ((k : Int) < (l.length : Int)))] : List Value) = [S l, Pt g1 0, In k, .bool (decide (k < l.length))] by rw [nlss k l.length]) fun β => ?_
 refine G_cond (decide (k < l.length)) (by kernel_rfl) (fun h0 => ?_) (fun h0 => ?_)
 · --yes
  replace h0 : k < l.length := of_decide_eq_true h0
  refine G_skip ?_
  refine thn_normal ?_
  refine G_seq ?_
  refine G_block ?_
  refine G_sr ?_
  refine GL_s 2 2 [(0, S l), (3, Pt g1 0), (4, In k), (13, S l), (14, In k)] fun β => ?_
  refine GL_C (c_On l k (by omega) (by omega) H) ?_
  rintro _ w4 ⟨rfl, H⟩
  refine GL_st 1 4 [(0, S l), (3, Pt g1 0), (4, In k), (16, .bool (!(onF l k)))] fun β => ?_
  refine G_cond (!(onF l k)) (by kernel_rfl) (fun h1 => ?_) (fun h1 => ?_)
  · --yes
   have h1 := not_F h1
   refine G_sr ?_
   refine GL_s 2 2 [(3, Pt g1 0), (4, In k), (17, S l), (18, In k)] fun β => ?_
   refine GL_V (R_index (P := Tryd.prog) (w := _) (t := 9) (ki := .i64) (i := k) (l := l) (by kernel_rfl) (by omega)) ?_
   refine GL_C (c_why (l.getD k 0) H) ?_
   rintro _ w5 ⟨rfl, H⟩
   refine GL_s 3 7 [(2, .slice none 0 0), (3, Pt g1 0), (22, .agg #[In (whyF (l.getD k 0)), In k])] fun β => ?_
   obtain ⟨w6, hr7, H⟩ := R_store (P := Tryd.prog) (t := 70) (v := .agg #[In (whyF (l.getD k 0)), In k]) (off := 0) H (i := 0) rfl (by kernel_rfl) (by kernel_rfl) (by kernel_rfl)
   replace H : Sep w0 w6 (.blk g1 70 [In (whyF (l.getD k 0)), In k] :: F) := H
   refine GL_U hr7 ?_
   refine GL_et ?_
   refine G_ret ?_
   refine inb_ret (thn_ret (thn_ret (inb_ret (thn_ret (resTC (v := .slice none 0 0) (t := 70) (vs := [In (whyF (l.getD k 0)), In k]) rfl (by kernel_rfl) (by kernel_rfl) (by kernel_rfl) (by kernel_rfl) (H.blk_cells (i := 0) rfl 0 _ ⟨_, rfl⟩) ?_)))))
   replace H := H.drop 0
   replace H : Sep w0 w6 (F) := H
   exact ⟨_, _, _, none, 0, dec_ref1 (by omega) hI2 (by simp [*]), by simp, rfl, H.nilRow 5 1⟩
  · --no
   have h1 := not_T h1
   refine G_skip ?_
   refine inb_normal ?_
   refine thn_normal ?_
   refine G_region ?_
   refine GL_sr 3 3 [(0, S l), (3, Pt g1 0), (4, In (k + 1))] (show ([S l, Pt g1 0, .int .i64 (IntKind.i64.wrap ((k : Int) + ((1 : Nat) : Int)))] : List Value) = [S l, Pt g1 0, In (k + 1)] by rw [nadd64 k 1 (by omega)]) fun β => ?_
   refine GL_end (by kernel_rfl) ?_
   refine thn_normal ⟨(k + 1), Agr_of_keys (by kernel_rfl), ⟨H, ?_⟩, ?_⟩
   · exact ⟨by omega, fun j hj => by rcases Nat.lt_succ_iff_lt_or_eq.1 hj with h | h; exact hI2 j h; rw [h]; exact h1⟩
   · first | (dsimp only; omega) | omega
 · --no
  replace h0 : ¬ (k < l.length) := of_decide_eq_false h0
  refine G_exit (thn_exit (thn_exit (inb_hit ?_)))
  refine thn_normal ?_
  refine G_seq ?_
  refine G_sr ?_
  refine GL_srt 4 4 [(0, S l), (3, Pt g1 0), (26, .bool ((l.length % 4) != 0))] (show ([S l, Pt g1 0, .bool (((l.length : Int).tmod ((4 : Nat) : Int)) != ((0 : Nat) : Int))] : List Value) = [S l, Pt g1 0, .bool ((l.length % 4) != 0)] by rw [nrem64 l.length 4, nneq (l.length % 4) 0]) fun β => ?_
  refine G_cond ((l.length % 4) != 0) (by kernel_rfl) (fun h2 => ?_) (fun h2 => ?_)
  · --yes
   replace h2 : ¬ ((l.length % 4) = 0) := neq_T h2
   refine G_sr ?_
   refine GL_s 4 4 [(2, .slice none 0 0), (3, Pt g1 0), (29, .agg #[In 41, In l.length])] fun β => ?_
   obtain ⟨w8, hr9, H⟩ := R_store (P := Tryd.prog) (t := 70) (v := .agg #[In 41, In l.length]) (off := 0) H (i := 0) rfl (by kernel_rfl) (by kernel_rfl) (by kernel_rfl)
   replace H : Sep w0 w8 (.blk g1 70 [In 41, In l.length] :: F) := H
   refine GL_U hr9 ?_
   refine GL_et ?_
   refine G_ret ?_
   refine thn_ret (resTC (v := .slice none 0 0) (t := 70) (vs := [In 41, In l.length]) rfl (by kernel_rfl) (by kernel_rfl) (by kernel_rfl) (by kernel_rfl) (H.blk_cells (i := 0) rfl 0 _ ⟨_, rfl⟩) ?_)
   replace H := H.drop 0
   replace H : Sep w0 w8 (F) := H
   exact ⟨_, _, _, none, 0, dec_ref2 (fun j hj => hI2 j (by omega)) (by omega), by simp, rfl, H.nilRow 5 1⟩
  · --no
   replace h2 : (l.length % 4) = 0 := neq_F h2
   refine G_skip ?_
   refine thn_normal ?_
   refine G_sr ?_
   refine GL_st 1 1 [(0, S l), (3, Pt g1 0), (5, .slice none 0 0)] fun β => ?_
   refine G_seq ?_
   refine G_sr ?_
   refine GL_st 1 1 [(0, S l), (3, Pt g1 0), (5, .slice none 0 0), (6, In 0)] fun β => ?_
   refine G_block ?_
   have hk : k = l.length := by omega
   subst hk
   have H := H.nilRow 5 1
   refine G_loop (X := Nat × (List UInt8) × (Option Addr) × Nat) (fun ⟨q, o, A, cp⟩ => [(0, S l), (3, Pt g1 0), (5, .slice A o.length cp), (6, In (4 * q))]) (fun ⟨q, o, A, cp⟩ w_ => Sep w0 w_ (.row (.slice A o.length cp) 5 1 o.length (bs o) :: .blk g1 70 [In 0, In 0] :: F) ∧ (4 * q ≤ l.length ∧ o = outF l q ∧ o.length ≤ 3 * q)) (fun ⟨q, o, A, cp⟩ => l.length - 4 * q) (0, [], none, 0) (by kernel_rfl) ⟨H, ⟨by omega, rfl, by simp⟩⟩ ?_
   rintro ⟨q, o, A, cp⟩ β w10 ⟨H, hI⟩
   refine G_forget [(0, S l), (3, Pt g1 0), (5, .slice A o.length cp), (6, In (4 * q))] (by kernel_rfl) (fun β => ?_)
   replace H : Sep w0 w10 (.row (.slice A o.length cp) 5 1 o.length (bs o) :: .blk g1 70 [In 0, In 0] :: F) := H
   replace hI : 4 * q ≤ l.length ∧ o = outF l q ∧ o.length ≤ 3 * q := hI
   obtain ⟨hJ1, hJ2, hJ3⟩ := hI
   have hg3 : (grpN ((l.take (4 * q + 4)).drop (4 * q))).length ≤ 3 := by rw [grpN_len]; exact many_le _
   refine G_seq ?_
   refine G_sr ?_
   refine GL_srt 4 4 [(0, S l), (3, Pt g1 0), (5, .slice A o.length cp), (6, In (4 * q)), (33, .bool (decide ((4 * q) < l.length)))] (show ([S l, Pt g1 0, .slice A o.length cp, .int .i64 ((4 * q : Nat) : Int), .bool (decide (((4 * q : Nat) : Int) < (l.length : Int)))] : List Value) = [S l, Pt g1 0, .slice A o.length cp, In (4 * q), .bool (decide ((4 * q) < l.length))] by rw [nlss (4 * q) l.length]) fun β => ?_
   refine G_cond (decide ((4 * q) < l.length)) (by kernel_rfl) (fun h3 => ?_) (fun h3 => ?_)
   · --yes
    replace h3 : (4 * q) < l.length := of_decide_eq_true h3
    refine G_skip ?_
    refine thn_normal ?_
    refine G_seq ?_
    refine G_block ?_
    refine G_region ?_
    refine GL_sr 5 5 [(0, S l), (3, Pt g1 0), (6, In (4 * q)), (36, .slice A o.length cp), (37, S l), (38, In (4 * q)), (40, In ((4 * q) + 4))] (show ([S l, Pt g1 0, .int .i64 ((4 * q : Nat) : Int), .slice A o.length cp, S l, .int .i64 ((4 * q : Nat) : Int), .int .i64 (IntKind.i64.wrap (((4 * q : Nat) : Int) + ((4 : Nat) : Int)))] : List Value) = [S l, Pt g1 0, In (4 * q), .slice A o.length cp, S l, In (4 * q), In ((4 * q) + 4)] by rw [nadd64 (4 * q) 4 (by omega)]) fun β => ?_
    refine GL_V (R_strslice (t := 9) (k1 := .i64) (k2 := .i64) (a := (4 * q)) (b := ((4 * q) + 4)) (l := l) (by kernel_rfl) (by omega) (by omega)) ?_
    refine GL_C (c_group ((l.take ((4 * q) + 4)).drop (4 * q)) (by simp only [List.length_drop, List.length_take]; omega) H) ?_
    rintro _ w13 ⟨g11, rfl, hR12, H⟩
    obtain ⟨A14, c15, w16, o18, ho19, hl20, hr17, H⟩ := R_append8 (P := Tryd.prog) (t := 68) (ty := 68) (l := o) (news := (grpN ((l.take ((4 * q) + 4)).drop (4 * q)))) H (i := 1) rfl (by kernel_rfl) (Rd.src hR12 H) rfl (by omega)
    replace H : Sep w0 w16 (.blk g11 5 (bs (allN ((l.take ((4 * q) + 4)).drop (4 * q)))) :: .row (.slice A14 o18.length c15) 5 1 o18.length (bs o18) :: .blk g1 70 [In 0, In 0] :: F) := H
    refine GL_V hr17 ?_
    refine GL_s 1 9 [(0, S l), (3, Pt g1 0), (5, .slice A14 o18.length c15), (6, In (4 * q))] fun β => ?_
    refine GL_end (by kernel_rfl) ?_
    refine inb_normal ?_
    refine thn_normal ?_
    refine G_region ?_
    refine GL_sr 3 3 [(0, S l), (3, Pt g1 0), (5, .slice A14 o18.length c15), (6, In ((4 * q) + 4))] (show ([S l, Pt g1 0, .slice A14 o18.length c15, .int .i64 (IntKind.i64.wrap (((4 * q : Nat) : Int) + ((4 : Nat) : Int)))] : List Value) = [S l, Pt g1 0, .slice A14 o18.length c15, In ((4 * q) + 4)] by rw [nadd64 (4 * q) 4 (by omega)]) fun β => ?_
    refine GL_end (by kernel_rfl) ?_
    replace H := H.drop 0
    replace H := H.front (i := 1) rfl
    replace H := H.front (i := 1) rfl
    replace H : Sep w0 w16 (.row (.slice A14 o18.length c15) 5 1 o18.length (bs o18) :: .blk g1 70 [In 0, In 0] :: F) := H
    refine thn_normal ⟨(q + 1, o18, A14, c15), Agr_of_keys (by kernel_rfl), ⟨H, ?_⟩, ?_⟩
    · exact ⟨by omega, by simp [outF, List.range_succ, *], by omega⟩
    · first | (dsimp only; omega) | omega
   · --no
    replace h3 : ¬ ((4 * q) < l.length) := of_decide_eq_false h3
    refine G_exit (thn_exit (thn_exit (inb_hit ?_)))
    refine thn_normal ?_
    refine G_sr ?_
    refine GL_s 3 3 [(2, .slice A o.length cp), (3, Pt g1 0), (45, .agg #[In 0, In 0])] fun β => ?_
    obtain ⟨w21, hr22, H⟩ := R_store (P := Tryd.prog) (t := 70) (v := .agg #[In 0, In 0]) (off := 0) H (i := 1) rfl (by kernel_rfl) (by kernel_rfl) (by kernel_rfl)
    replace H : Sep w0 w21 (.row (.slice A o.length cp) 5 1 o.length (bs o) :: .blk g1 70 [In 0, In 0] :: F) := H
    refine GL_U hr22 ?_
    refine GL_et ?_
    refine G_ret ?_
    refine resTC (v := .slice A o.length cp) (t := 70) (vs := [In 0, In 0]) rfl (by kernel_rfl) (by kernel_rfl) (by kernel_rfl) (by kernel_rfl) (H.blk_cells (i := 1) rfl 0 _ ⟨_, rfl⟩) ?_
    replace H := H.drop 1
    replace H : Sep w0 w21 (.row (.slice A o.length cp) 5 1 o.length (bs o) :: F) := H
    have hq : q = l.length / 4 := by omega
    subst hq
    exact ⟨_, _, _, _, _, by rw [dec_ref3 hI2 (by omega), ← hJ2], by omega, rfl, H⟩
end Go.Proofs.YtadiljnfkbbmcaaDoor
