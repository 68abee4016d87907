-- printed by gw.py (my own program), checked by Lean
import Derived.Test.YtadiljnfkbbmcaaDoorA2
set_option linter.unusedVariables false
set_option linter.unusedSimpArgs false
set_option maxRecDepth 100000
set_option maxHeartbeats 400000
namespace Go.Proofs.YtadiljnfkbbmcaaDoor
open Go.Kw Go.RowKit
/-- posthorn/code.New -/
theorem c_codeNew {w0 w : World} {F : List Chunk} (H : Sep w0 w F) : Ret Tryd.prog 36 #[] w (fun v w' => ∃ g, v = .pointer (some ⟨g, 0, none⟩) ∧ Sep w0 w' (.blk g 97 [.bool true, By (0 : UInt8), By (0 : UInt8), By (0 : UInt8), By (0 : UInt8), In 0, .bool false, In 0] :: F)) := by
 refine Ret_enter (args := []) Tryd.func36 rfl (by kernel_rfl) ?_
 refine G_forget [] (by kernel_rfl) (fun β => ?_)
 refine G_sr ?_
 refine GL_st 1 1 [] fun β => ?_
 refine G_sr ?_
 refine GL_s 1 1 [(1, .agg #[.bool true, By (0 : UInt8), By (0 : UInt8), By (0 : UInt8), By (0 : UInt8), In 0, .bool false, In 0])] fun β => ?_
 refine GL_new (V := fun g => Pt g 0) (l := [.bool true, By (0 : UInt8), By (0 : UInt8), By (0 : UInt8), By (0 : UInt8), In 0, .bool false, In 0]) (t := 97) H rfl (by kernel_rfl) (by kernel_rfl) (by kernel_rfl) (fun g1 w2 H => ?_)
 refine GL_st 1 3 [(0, Pt g1 0)] fun β => ?_
 refine G_ret ?_
 refine res1 (v := Pt g1 0) rfl (by kernel_rfl) ?_
 exact ⟨_, rfl, H⟩
/-- posthorn/code.Unbase64 -/
theorem c_Unbase64 (l : List UInt8) (hl : l.length ≤ 68719476736) {w0 w : World} {F : List Chunk} (H : Sep w0 w F) : Ret Tryd.prog 25 #[.string ⟨l.toArray⟩] w (fun v w' => ∃ A cp, v = .tuple #[.slice A (dec l).1.length cp, .agg #[.int .i64 ((dec l).2.1 : Int), .int .i64 ((dec l).2.2 : Int)]] ∧ Sep w0 w' (.row (.slice A (dec l).1.length cp) 5 1 (dec l).1.length (bs (dec l).1) :: F)) := by
 refine Ret_enter (args := [S l]) Tryd.func25 rfl (by kernel_rfl) ?_
 refine G_forget [(0, S l)] (by kernel_rfl) (fun β => ?_)
 refine G_sr ?_
 refine GL_s 1 1 [(0, S l)] fun β => ?_
 refine GL_new (V := fun g => Pt g 0) (l := [In 0, In 0]) (t := 70) H rfl (by kernel_rfl) (by kernel_rfl) (by kernel_rfl) (fun g1 w2 H => ?_)
 refine GL_et ?_
 refine G_sr ?_
 refine GL_C (c_codeNew H) ?_
 rintro _ w4 ⟨g3, rfl, H⟩
 replace H : Sep w0 w4 (.blk g3 97 [.bool true, By (0 : UInt8), By (0 : UInt8), By (0 : UInt8), By (0 : UInt8), In 0, .bool false, In 0] :: .blk g1 70 [In 0, In 0] :: F) := H
 refine GL_st 1 2 [(0, S l), (3, Pt g1 0), (4, Pt g3 0)] fun β => ?_
 refine G_sr ?_
 refine GL_sr 4 4 [(0, S l), (3, Pt g1 0), (4, Pt g3 0), (12, In ((l.length / 4) * 3))] (show ([S l, Pt g1 0, Pt g3 0, .int .i64 (IntKind.i64.wrap ((IntKind.i64.wrap ((l.length : Int).tdiv ((4 : Nat) : Int))) * ((3 : Nat) : Int)))] : List Value) = [S l, Pt g1 0, Pt g3 0, In ((l.length / 4) * 3)] by rw [nquo64 l.length 4 (by omega), nmul64 (l.length / 4) 3 (by omega)]) fun β => ?_
 obtain ⟨A5, c6, w7, hr8, H, hcap9⟩ := R_make (P := Tryd.prog) (t := 68) (e := 5) (z := .int .u8 0) (sz := 1) (by_ := 1) (k1 := .i64) (k2 := .i64) 0 ((l.length / 4) * 3) H (by kernel_rfl) rfl (by decide) (by omega) (by omega) (by unfold maxLen; omega)
 replace H : Sep w0 w7 (.row (.slice A5 0 c6) 5 1 0 [] :: .blk g3 97 [.bool true, By (0 : UInt8), By (0 : UInt8), By (0 : UInt8), By (0 : UInt8), In 0, .bool false, In 0] :: .blk g1 70 [In 0, In 0] :: F) := H
 refine GL_V hr8 ?_
 refine GL_st 1 6 [(0, S l), (3, Pt g1 0), (4, Pt g3 0), (5, .slice A5 0 c6)] fun β => ?_
 refine G_seq ?_
 refine G_sr ?_
 refine GL_st 3 3 [(0, S l), (3, Pt g1 0), (4, Pt g3 0), (5, .slice A5 0 c6), (15, In l.length), (16, In 0)] fun β => ?_
 refine G_block ?_
 refine G_loop (X := Nat × Nat × UInt8 × UInt8 × UInt8 × UInt8 × Bool × (List UInt8) × (Option Addr) × Nat) (fun ⟨k, n, a0, a1, a2, a3, ov, o, A, cp⟩ => [(0, S l), (3, Pt g1 0), (4, Pt g3 0), (5, .slice A o.length cp), (15, In l.length), (16, In k)]) (fun ⟨k, n, a0, a1, a2, a3, ov, o, A, cp⟩ w_ => Sep w0 w_ (.row (.slice A o.length cp) 5 1 o.length (bs o) :: .blk g3 97 [.bool true, By a0, By a1, By a2, By a3, In n, .bool ov, In 0] :: .blk g1 70 [In 0, In 0] :: F) ∧ (dec l = decGo ([a0, a1, a2, a3].take n) ov o k (l.drop k) ∧ k ≤ l.length ∧ n < 4 ∧ o.length ≤ 3 * k)) (fun ⟨k, n, a0, a1, a2, a3, ov, o, A, cp⟩ => l.length - k) (0, 0, 0, 0, 0, 0, false, [], A5, c6) (by kernel_rfl) ⟨H, ⟨rfl, by omega, by omega, by simp⟩⟩ ?_
 rintro ⟨k, n, a0, a1, a2, a3, ov, o, A, cp⟩ β w10 ⟨H, hI⟩
 refine G_forget [(0, S l), (3, Pt g1 0), (4, Pt g3 0), (5, .slice A o.length cp), (15, In l.length), (16, In k)] (by kernel_rfl) (fun β => ?_)
 replace H : Sep w0 w10 (.row (.slice A o.length cp) 5 1 o.length (bs o) :: .blk g3 97 [.bool true, By a0, By a1, By a2, By a3, In n, .bool ov, In 0] :: .blk g1 70 [In 0, In 0] :: F) := H
 replace hI : dec l = decGo ([a0, a1, a2, a3].take n) ov o k (l.drop k) ∧ k ≤ l.length ∧ n < 4 ∧ o.length ≤ 3 * k := hI
 obtain ⟨hI1, hI2, hI3, hI4⟩ := hI
 refine G_sr ?_
 refine GL_srt 1 1 [(0, S l), (3, Pt g1 0), (4, Pt g3 0), (5, .slice A o.length cp), (15, In l.length), (16, In k), (17, .bool (decide (k < l.length)))] (show ([S l, Pt g1 0, Pt g3 0, .slice A o.length cp, .int .i64 (l.length : Int), .int .i64 (k : Int), .bool (decide ((k : Int) < (l.length : Int)))] : List Value) = [S l, Pt g1 0, Pt g3 0, .slice A o.length cp, In l.length, In k, .bool (decide (k < l.length))] by rw [nlss k l.length]) fun β => ?_
 refine G_seq ?_
 refine G_cond (decide (k < l.length)) (by kernel_rfl) (fun h0 => ?_) (fun h0 => ?_)
 · --yes
  replace h0 : k < l.length := of_decide_eq_true h0
  refine G_skip ?_
  refine thn_normal ?_
  refine G_seq ?_
  refine G_block ?_
  refine G_sr ?_
  refine GL_st 2 2 [(0, S l), (3, Pt g1 0), (4, Pt g3 0), (5, .slice A o.length cp), (6, In k), (15, In l.length), (16, In k)] fun β => ?_
  refine G_sr ?_
  refine GL_st 1 1 [(0, S l), (3, Pt g1 0), (4, Pt g3 0), (5, .slice A o.length cp), (6, In k), (15, In l.length), (16, In k)] fun β => ?_
  refine G_sr ?_
  refine GL_s 4 4 [(0, S l), (3, Pt g1 0), (4, Pt g3 0), (6, In k), (15, In l.length), (16, In k), (20, Pt g3 0), (21, .slice A o.length cp), (22, S l), (23, In k)] fun β => ?_
  refine GL_V (R_index (P := Tryd.prog) (w := _) (t := 9) (ki := .i64) (i := k) (l := l) (by kernel_rfl) (by omega)) ?_
  replace H := H.front (i := 1) rfl
  replace H : Sep w0 w10 (.blk g3 97 [.bool true, By a0, By a1, By a2, By a3, In n, .bool ov, In 0] :: .row (.slice A o.length cp) 5 1 o.length (bs o) :: .blk g1 70 [In 0, In 0] :: F) := H
  refine GL_C (c_take n (by omega) a0 a1 a2 a3 ov (l.getD k 0) o (by omega) H) ?_
  rintro _ w23 ⟨b11, b12, b13, b14, n15, ov16, o17, e18, A19, c20, rfl, hn21, hstp22, H⟩
  replace H : Sep w0 w23 (.blk g3 97 [.bool true, By b11, By b12, By b13, By b14, In n15, .bool ov16, In 0] :: .row (.slice A19 o17.length c20) 5 1 o17.length (bs o17) :: .blk g1 70 [In 0, In 0] :: F) := H
  refine GL_st 5 11 [(0, S l), (3, Pt g1 0), (4, Pt g3 0), (5, .slice A19 o17.length c20), (6, In k), (7, In e18), (15, In l.length), (16, In k)] fun β => ?_
  refine G_sr ?_
  refine GL_srt 2 2 [(0, S l), (3, Pt g1 0), (4, Pt g3 0), (5, .slice A19 o17.length c20), (6, In k), (7, In e18), (15, In l.length), (16, In k), (29, .bool (e18 != 0))] (show ([S l, Pt g1 0, Pt g3 0, .slice A19 o17.length c20, .int .i64 (k : Int), .int .i64 (e18 : Int), .int .i64 (l.length : Int), .int .i64 (k : Int), .bool ((e18 : Int) != ((0 : Nat) : Int))] : List Value) = [S l, Pt g1 0, Pt g3 0, .slice A19 o17.length c20, In k, In e18, In l.length, In k, .bool (e18 != 0)] by rw [nneq e18 0]) fun β => ?_
  refine G_cond (e18 != 0) (by kernel_rfl) (fun h1 => ?_) (fun h1 => ?_)
  · --yes
   replace h1 : ¬ (e18 = 0) := neq_T h1
   refine G_sr ?_
   refine GL_s 4 4 [(2, .slice none 0 0), (3, Pt g1 0), (32, .agg #[In e18, In k])] fun β => ?_
   obtain ⟨w24, hr25, H⟩ := R_store (P := Tryd.prog) (t := 70) (v := .agg #[In e18, In k]) (off := 0) H (i := 2) rfl (by kernel_rfl) (by kernel_rfl) (by kernel_rfl)
   replace H : Sep w0 w24 (.blk g3 97 [.bool true, By b11, By b12, By b13, By b14, In n15, .bool ov16, In 0] :: .row (.slice A19 o17.length c20) 5 1 o17.length (bs o17) :: .blk g1 70 [In e18, In k] :: F) := H
   refine GL_U hr25 ?_
   refine GL_et ?_
   refine G_ret ?_
   refine inb_ret (thn_ret (thn_ret (inb_ret (thn_ret (resTC (v := .slice none 0 0) (t := 70) (vs := [In e18, In k]) rfl (by kernel_rfl) (by kernel_rfl) (by kernel_rfl) (by kernel_rfl) (H.blk_cells (i := 2) rfl 0 _ ⟨_, rfl⟩) ?_)))))
   replace H := H.drop 2
   replace H := H.drop 1
   replace H := H.drop 0
   replace H : Sep w0 w24 (F) := H
   have hd := hI1.trans (dec_bad (by omega) hstp22 (by omega))
   rw [hd]
   exact ⟨none, 0, rfl, H.nilRow 5 1⟩
  · --no
   replace h1 : e18 = 0 := neq_F h1
   refine G_skip ?_
   refine inb_normal ?_
   refine thn_normal ?_
   refine G_region ?_
   refine GL_sr 2 2 [(0, S l), (3, Pt g1 0), (4, Pt g3 0), (5, .slice A19 o17.length c20), (15, In l.length), (16, In (k + 1))] (show ([S l, Pt g1 0, Pt g3 0, .slice A19 o17.length c20, .int .i64 (l.length : Int), .int .i64 (IntKind.i64.wrap ((k : Int) + ((1 : Nat) : Int)))] : List Value) = [S l, Pt g1 0, Pt g3 0, .slice A19 o17.length c20, In l.length, In (k + 1)] by rw [nadd64 k 1 (by omega)]) fun β => ?_
   refine GL_end (by kernel_rfl) ?_
   replace H := H.front (i := 1) rfl
   replace H : Sep w0 w23 (.row (.slice A19 o17.length c20) 5 1 o17.length (bs o17) :: .blk g3 97 [.bool true, By b11, By b12, By b13, By b14, In n15, .bool ov16, In 0] :: .blk g1 70 [In 0, In 0] :: F) := H
   have hsl := stp_len hstp22
   refine thn_normal ⟨(k + 1, n15, b11, b12, b13, b14, ov16, o17, A19, c20), Agr_of_keys (by kernel_rfl), ⟨H, ?_⟩, ?_⟩
   · exact ⟨hI1.trans (dec_good (by omega) hstp22 (by omega)), by omega, by omega, by omega⟩
   · first | (dsimp only; omega) | omega
 · --no
  replace h0 : ¬ (k < l.length) := of_decide_eq_false h0
  refine G_exit (thn_exit (thn_exit (inb_hit ?_)))
  refine thn_normal ?_
  refine G_seq ?_
  refine G_sr ?_
  refine GL_s 3 3 [(0, S l), (3, Pt g1 0), (5, .slice A o.length cp), (36, Pt g3 5)] fun β => ?_
  refine GL_V (run_load1 (t := 3) (by kernel_rfl) ((H.blk_cell (i := 1) rfl 5).trans rfl)) ?_
  refine GL_srt 1 5 [(0, S l), (3, Pt g1 0), (5, .slice A o.length cp), (38, .bool (decide (n > 0)))] (show ([S l, Pt g1 0, .slice A o.length cp, .bool (decide ((n : Int) > ((0 : Nat) : Int)))] : List Value) = [S l, Pt g1 0, .slice A o.length cp, .bool (decide (n > 0))] by rw [ngtr n 0]) fun β => ?_
  refine G_cond (decide (n > 0)) (by kernel_rfl) (fun h2 => ?_) (fun h2 => ?_)
  · --yes
   replace h2 : n > 0 := of_decide_eq_true h2
   refine G_sr ?_
   refine GL_s 4 4 [(2, .slice none 0 0), (3, Pt g1 0), (41, .agg #[In 41, In l.length])] fun β => ?_
   obtain ⟨w26, hr27, H⟩ := R_store (P := Tryd.prog) (t := 70) (v := .agg #[In 41, In l.length]) (off := 0) H (i := 2) rfl (by kernel_rfl) (by kernel_rfl) (by kernel_rfl)
   replace H : Sep w0 w26 (.row (.slice A o.length cp) 5 1 o.length (bs o) :: .blk g3 97 [.bool true, By a0, By a1, By a2, By a3, In n, .bool ov, In 0] :: .blk g1 70 [In 41, In l.length] :: F) := H
   refine GL_U hr27 ?_
   refine GL_et ?_
   refine G_ret ?_
   refine thn_ret (resTC (v := .slice none 0 0) (t := 70) (vs := [In 41, In l.length]) rfl (by kernel_rfl) (by kernel_rfl) (by kernel_rfl) (by kernel_rfl) (H.blk_cells (i := 2) rfl 0 _ ⟨_, rfl⟩) ?_)
   replace H := H.drop 2
   replace H := H.drop 1
   replace H := H.drop 0
   replace H : Sep w0 w26 (F) := H
   have hk : k = l.length := by omega
   subst hk
   have hd : dec l = ([], 41, l.length) := by rw [hI1, List.drop_length]; unfold decGo; rw [if_pos (by simp; omega)]
   rw [hd]
   exact ⟨none, 0, rfl, H.nilRow 5 1⟩
  · --no
   replace h2 : ¬ (n > 0) := of_decide_eq_false h2
   refine G_skip ?_
   refine thn_normal ?_
   refine G_sr ?_
   refine GL_s 3 3 [(2, .slice A o.length cp), (3, Pt g1 0), (43, .agg #[In 0, In 0])] fun β => ?_
   obtain ⟨w28, hr29, H⟩ := R_store (P := Tryd.prog) (t := 70) (v := .agg #[In 0, In 0]) (off := 0) H (i := 2) rfl (by kernel_rfl) (by kernel_rfl) (by kernel_rfl)
   replace H : Sep w0 w28 (.row (.slice A o.length cp) 5 1 o.length (bs o) :: .blk g3 97 [.bool true, By a0, By a1, By a2, By a3, In n, .bool ov, In 0] :: .blk g1 70 [In 0, In 0] :: F) := H
   refine GL_U hr29 ?_
   refine GL_et ?_
   refine G_ret ?_
   refine resTC (v := .slice A o.length cp) (t := 70) (vs := [In 0, In 0]) rfl (by kernel_rfl) (by kernel_rfl) (by kernel_rfl) (by kernel_rfl) (H.blk_cells (i := 2) rfl 0 _ ⟨_, rfl⟩) ?_
   replace H := H.drop 2
   replace H := H.drop 1
   replace H : Sep w0 w28 (.row (.slice A o.length cp) 5 1 o.length (bs o) :: F) := H
   have hk : k = l.length := by omega
   subst hk
   have hd : dec l = (o, 0, 0) := by rw [hI1, List.drop_length]; unfold decGo; rw [if_neg (by simp; omega)]
   rw [hd]
   exact ⟨_, _, rfl, H⟩
end Go.Proofs.YtadiljnfkbbmcaaDoor
