-- printed by gw.py (my own program), checked by Lean
import Derived.Test.YtadiljnfkbbmcaaDoorD6
set_option linter.unusedVariables false
set_option linter.unusedSimpArgs false
set_option maxRecDepth 100000
set_option maxHeartbeats 400000
namespace Go.Proofs.YtadiljnfkbbmcaaDoor
open Go.Kw Go.RowKit

theorem pair_stepE {l : List Str2} {n s : List UInt8} {k : Nat} (hk : k < l.length) : pairF (l.take (k + 1)) n s = (pairF (l.take k) n s || ((l.getD k ([], [])).1 == n && (l.getD k ([], [])).2 == s)) := by
  unfold pairF
  rw [List.take_add_one, List.getElem?_eq_getElem hk, List.any_append]
  simp only [List.getD_eq_getElem?_getD, List.getElem?_eq_getElem hk, Option.getD_some, Option.toList_some, List.any_cons, List.any_nil, Bool.or_false]
theorem cr_stepE {T : List UInt32} {R : List UInt8} {l : List Str2} {st nm told : List UInt8} {k : Nat} (hk : k < l.length) :
    crP T R (l.take (k + 1)) st nm told = (crP T R (l.take k) st nm told || ((l.getD k ([], [])).1 == nm && dgF T R (l.getD k ([], [])).2 st == told)) := by
  unfold crP
  rw [List.take_add_one, List.getElem?_eq_getElem hk, List.any_append]
  simp only [List.getD_eq_getElem?_getD, List.getElem?_eq_getElem hk, Option.getD_some, Option.toList_some, List.any_cons, List.any_nil, Bool.or_false]
/-- posthorn/posthornlaw22.SaslOthers -/
theorem c_Others_no {w0 w : World} {F : List Chunk} (T : List UInt32) (hT : T.length = 64) (gT : Gl w0 0 (u32s T)) (R : List UInt8) (hR : R.length = 16) (gR : Gl w0 1 (bs R)) (l : List Str2) (hl : l.length ≤ 16777216) (hU : ∀ u ∈ l, u.1.length ≤ 549755813888 ∧ u.2.length ≤ 549755813888) (nm sec stamp : List UInt8) (hnm : nm.length ≤ 16777216) (hsec : sec.length ≤ 16777216) (hstamp : stamp.length ≤ 16777216) (hy : may2 nm sec = false) {B : Option Addr} {d : Nat} (RU : Rd w0 F (.slice B l.length d) 2 l.length (us l)) (H : Sep w0 w F) : Ret Tryd.prog 5 #[.slice B l.length d, .agg #[S nm, S sec], S stamp] w (fun v w' => v = .bool true ∧ Sep w0 w' F) := by
 refine Ret_enter (args := [.slice B l.length d, .agg #[S nm, S sec], S stamp]) Tryd.func5 rfl (by kernel_rfl) ?_
 refine G_forget [(0, .slice B l.length d), (1, .agg #[S nm, S sec]), (2, S stamp)] (by kernel_rfl) (fun β => ?_)
 refine G_sr ?_
 refine GL_new (V := fun g => Pt g 0) (l := [S nm, S sec]) (t := 40) H rfl (by kernel_rfl) (by kernel_rfl) (by kernel_rfl) (fun g1 w2 H => ?_)
 refine GL_st 1 2 [(0, .slice B l.length d), (2, S stamp), (4, Pt g1 0)] fun β => ?_
 refine G_seq ?_
 refine G_sr ?_
 refine GL_C (c_wakes T hT gT R hR gR H) ?_
 rintro _ w3 ⟨rfl, H⟩
 refine GL_st 1 2 [(0, .slice B l.length d), (2, S stamp), (4, Pt g1 0), (19, .bool false)] fun β => ?_
 refine G_false (by kernel_rfl) ?_
 refine G_skip ?_
 refine thn_normal ?_
 refine G_seq ?_
 refine G_sr ?_
 refine GL_V (run_loadN (t := 40) (vs := [S nm, S sec]) (by kernel_rfl) (by kernel_rfl) (H.blk_cells (i := 0) rfl 0 _ ⟨_, rfl⟩)) ?_
 refine GL_C (c_lmay nm sec (by omega) (by omega) H) ?_
 rintro _ w4 ⟨rfl, H⟩
 rw [may_eq, hy]
 refine GL_st 1 3 [(0, .slice B l.length d), (2, S stamp), (4, Pt g1 0), (22, .bool true)] fun β => ?_
 refine G_true (by kernel_rfl) ?_
 refine G_sr ?_
 refine GL_st 1 1 [(6, .bool true)] fun β => ?_
 refine G_ret ?_
 refine thn_ret (res1 (v := .bool true) rfl (by kernel_rfl) ?_)
 replace H := H.drop 0
 replace H : Sep w0 w4 (F) := H
 exact ⟨rfl, H⟩
/-- posthorn/posthornlaw22.SaslOthers -/
theorem c_Others_true_true {w0 w : World} {F : List Chunk} (T : List UInt32) (hT : T.length = 64) (gT : Gl w0 0 (u32s T)) (R : List UInt8) (hR : R.length = 16) (gR : Gl w0 1 (bs R)) (l : List Str2) (hl : l.length ≤ 16777216) (hU : ∀ u ∈ l, u.1.length ≤ 549755813888 ∧ u.2.length ≤ 549755813888) (nm sec stamp : List UInt8) (hnm : nm.length ≤ 16777216) (hsec : sec.length ≤ 16777216) (hstamp : stamp.length ≤ 16777216) (hy : may2 nm sec = true) (hb1 : pairF l nm sec = true) (hb2 : crP T R l stamp nm (dgF T R sec stamp) = true) {B : Option Addr} {d : Nat} (RU : Rd w0 F (.slice B l.length d) 2 l.length (us l)) (H : Sep w0 w F) : Ret Tryd.prog 5 #[.slice B l.length d, .agg #[S nm, S sec], S stamp] w (fun v w' => v = .bool true ∧ Sep w0 w' F) := by
 have hz1 := may_zero (may2_l hy)
 have hz2 := may_zero (may2_r hy)
 refine Ret_enter (args := [.slice B l.length d, .agg #[S nm, S sec], S stamp]) Tryd.func5 rfl (by kernel_rfl) ?_
 refine G_forget [(0, .slice B l.length d), (1, .agg #[S nm, S sec]), (2, S stamp)] (by kernel_rfl) (fun β => ?_)
 refine G_sr ?_
 refine GL_new (V := fun g => Pt g 0) (l := [S nm, S sec]) (t := 40) H rfl (by kernel_rfl) (by kernel_rfl) (by kernel_rfl) (fun g1 w2 H => ?_)
 refine GL_st 1 2 [(0, .slice B l.length d), (2, S stamp), (4, Pt g1 0)] fun β => ?_
 refine G_seq ?_
 refine G_sr ?_
 refine GL_C (c_wakes T hT gT R hR gR H) ?_
 rintro _ w3 ⟨rfl, H⟩
 refine GL_st 1 2 [(0, .slice B l.length d), (2, S stamp), (4, Pt g1 0), (19, .bool false)] fun β => ?_
 refine G_false (by kernel_rfl) ?_
 refine G_skip ?_
 refine thn_normal ?_
 refine G_seq ?_
 refine G_sr ?_
 refine GL_V (run_loadN (t := 40) (vs := [S nm, S sec]) (by kernel_rfl) (by kernel_rfl) (H.blk_cells (i := 0) rfl 0 _ ⟨_, rfl⟩)) ?_
 refine GL_C (c_lmay nm sec (by omega) (by omega) H) ?_
 rintro _ w4 ⟨rfl, H⟩
 rw [may_eq, hy]
 refine GL_st 1 3 [(0, .slice B l.length d), (2, S stamp), (4, Pt g1 0), (22, .bool false)] fun β => ?_
 refine G_false (by kernel_rfl) ?_
 refine G_skip ?_
 refine thn_normal ?_
 refine G_sr ?_
 refine GL_st 1 1 [(0, .slice B l.length d), (2, S stamp), (4, Pt g1 0), (7, .bool false)] fun β => ?_
 refine G_sr ?_
 refine GL_st 1 1 [(0, .slice B l.length d), (2, S stamp), (4, Pt g1 0), (7, .bool false), (8, .bool false)] fun β => ?_
 refine G_seq ?_
 refine G_sr ?_
 refine GL_st 3 3 [(0, .slice B l.length d), (2, S stamp), (4, Pt g1 0), (7, .bool false), (8, .bool false), (23, .slice B l.length d), (24, In l.length), (25, In 0)] fun β => ?_
 refine G_block ?_
 refine G_loop (X := Nat × Bool × Bool) (fun ⟨k, r1, r2⟩ => [(0, .slice B l.length d), (2, S stamp), (4, Pt g1 0), (7, .bool r1), (8, .bool r2), (23, .slice B l.length d), (24, In l.length), (25, In k)]) (fun ⟨k, r1, r2⟩ w_ => Sep w0 w_ (.blk g1 40 [S nm, S sec] :: F) ∧ (k ≤ l.length ∧ r1 = pairF (l.take k) nm sec ∧ r2 = crP T R (l.take k) stamp nm (dgF T R sec stamp))) (fun ⟨k, r1, r2⟩ => l.length - k) (0, false, false) (by kernel_rfl) ⟨H, ⟨by omega, rfl, rfl⟩⟩ ?_
 rintro ⟨k, r1, r2⟩ β w5 ⟨H, hI⟩
 refine G_forget [(0, .slice B l.length d), (2, S stamp), (4, Pt g1 0), (7, .bool r1), (8, .bool r2), (23, .slice B l.length d), (24, In l.length), (25, In k)] (by kernel_rfl) (fun β => ?_)
 replace H : Sep w0 w5 (.blk g1 40 [S nm, S sec] :: F) := H
 replace hI : k ≤ l.length ∧ r1 = pairF (l.take k) nm sec ∧ r2 = crP T R (l.take k) stamp nm (dgF T R sec stamp) := hI
 obtain ⟨hI1, hI2, hI3⟩ := hI
 refine G_sr ?_
 refine GL_srt 1 1 [(0, .slice B l.length d), (2, S stamp), (4, Pt g1 0), (7, .bool r1), (8, .bool r2), (23, .slice B l.length d), (24, In l.length), (25, In k), (26, .bool (decide (k < l.length)))] (show ([.slice B l.length d, S stamp, Pt g1 0, .bool r1, .bool r2, .slice B l.length d, .int .i64 (l.length : Int), .int .i64 (k : Int), .bool (decide ((k : Int) < (l.length : Int)))] : List Value) = [.slice B l.length d, S stamp, Pt g1 0, .bool r1, .bool r2, .slice B l.length d, In l.length, In k, .bool (decide (k < l.length))] by rw [nlss k l.length]) fun β => ?_
 refine G_seq ?_
 refine G_cond (decide (k < l.length)) (by kernel_rfl) (fun h0 => ?_) (fun h0 => ?_)
 · --yes
  replace h0 : k < l.length := of_decide_eq_true h0
  refine G_skip ?_
  refine thn_normal ?_
  refine G_seq ?_
  refine G_block ?_
  have hu := hU _ (getD_mem (l := l) (k := k) (by omega))
  refine G_sr ?_
  obtain ⟨ad7, hr6, hc8⟩ := R_place (P := Tryd.prog) (t := 22) (e := 40) (i := k) (ki := .i64) RU (by omega) (by kernel_rfl) (by kernel_rfl)
  refine GL_V (hr6 _) ?_
  refine GL_V (run_loadN (t := 40) (vs := [S ((l.getD k ([], [])).1), S ((l.getD k ([], [])).2)]) (by kernel_rfl) (by kernel_rfl) (us_at hc8 (H.drop 0) (by omega))) ?_
  refine GL_new (V := fun g => Pt g 0) (l := [S ([] : List UInt8), S ([] : List UInt8)]) (t := 40) H rfl (by kernel_rfl) (by kernel_rfl) (by kernel_rfl) (fun g9 w10 H => ?_)
  obtain ⟨w11, hr12, H⟩ := R_store (P := Tryd.prog) (t := 40) (v := .agg #[S ((l.getD k ([], [])).1), S ((l.getD k ([], [])).2)]) (off := 0) H (i := 0) rfl (by kernel_rfl) (by kernel_rfl) (by kernel_rfl)
  replace H : Sep w0 w11 (.blk g9 40 [S ((l.getD k ([], [])).1), S ((l.getD k ([], [])).2)] :: .blk g1 40 [S nm, S sec] :: F) := H
  refine GL_U hr12 ?_
  refine GL_et ?_
  refine G_sr ?_
  refine GL_s 2 2 [(0, .slice B l.length d), (2, S stamp), (4, Pt g1 0), (8, .bool r2), (10, Pt g9 0), (23, .slice B l.length d), (24, In l.length), (25, In k), (30, .bool r1)] fun β => ?_
  rcases Bool.eq_false_or_eq_true (r1) with h1 | h1
  · --yes
   refine GL_re [(0, .slice B l.length d), (2, S stamp), (4, Pt g1 0), (8, .bool r2), (10, Pt g9 0), (23, .slice B l.length d), (24, In l.length), (25, In k), (30, .bool true)] (show ([.slice B l.length d, S stamp, Pt g1 0, .bool r2, Pt g9 0, .slice B l.length d, In l.length, In k, .bool r1] : List Value) = [.slice B l.length d, S stamp, Pt g1 0, .bool r2, Pt g9 0, .slice B l.length d, In l.length, In k, .bool true] by rw [h1]) (fun β => ?_)
   refine GL_st 5 7 [(0, .slice B l.length d), (2, S stamp), (4, Pt g1 0), (7, .bool true), (8, .bool r2), (10, Pt g9 0), (23, .slice B l.length d), (24, In l.length), (25, In k)] fun β => ?_
   rcases Bool.eq_false_or_eq_true (r2) with hq13 | hq13
   · --true
    refine G_re [(0, .slice B l.length d), (2, S stamp), (4, Pt g1 0), (7, .bool true), (8, .bool true), (10, Pt g9 0), (23, .slice B l.length d), (24, In l.length), (25, In k)] (show ([.slice B l.length d, S stamp, Pt g1 0, .bool true, .bool r2, Pt g9 0, .slice B l.length d, In l.length, In k] : List Value) = [.slice B l.length d, S stamp, Pt g1 0, .bool true, .bool true, Pt g9 0, .slice B l.length d, In l.length, In k] by rw [hq13]) (fun β => ?_)
    refine G_drawS (fun w => True) 20 20 (by kernel_rfl) (by kernel_rfl) H (fun w14 H => ?_)
    refine HL_takes [0, 1, 2, 3, 4, 5, 6, 7, 8, 9, 10, 11, 12, 13, 14, 15, 16, 17, 18, 19] [(0, .slice B l.length d), (2, S stamp), (4, Pt g1 0), (7, .bool true), (8, .bool true), (23, .slice B l.length d), (24, .int .i64 (l.length : Int)), (25, .int .i64 (k : Int))] (mkL 20 [0, 1, 2, 3, 4, 5, 6, 7, 8, 9, 10, 11, 12, 13, 14, 15, 16, 17, 18, 19]) 0 (by kernel_rfl) rfl (by kernel_rfl) (fun _ => by kernel_rfl) trivial (fun β => ?_)
    refine HL_forget [(0, .slice B l.length d), (2, S stamp), (4, Pt g1 0), (7, .bool true), (8, .bool true), (23, .slice B l.length d), (24, In l.length), (25, In k)] (by kernel_rfl) (fun β => ?_)
    refine HL_fin (by kernel_rfl) ?_
    refine inb_normal ?_
    refine thn_normal ?_
    refine G_region ?_
    refine GL_sr 2 2 [(0, .slice B l.length d), (2, S stamp), (4, Pt g1 0), (7, .bool true), (8, .bool true), (23, .slice B l.length d), (24, In l.length), (25, In (k + 1))] (show ([.slice B l.length d, S stamp, Pt g1 0, .bool true, .bool true, .slice B l.length d, .int .i64 (l.length : Int), .int .i64 (IntKind.i64.wrap ((k : Int) + ((1 : Nat) : Int)))] : List Value) = [.slice B l.length d, S stamp, Pt g1 0, .bool true, .bool true, .slice B l.length d, In l.length, In (k + 1)] by rw [nadd64 k 1 (by omega)]) fun β => ?_
    refine GL_end (by kernel_rfl) ?_
    replace H := H.drop 0
    replace H : Sep w0 w14 (.blk g1 40 [S nm, S sec] :: F) := H
    refine thn_normal ⟨(k + 1, true, true), Agr_of_keys (by kernel_rfl), ⟨H, ?_⟩, ?_⟩
    · refine ⟨by omega, ?_, ?_⟩
      · rw [pair_stepE (by omega), ← hI2]; clear hI2 hI3 H; generalize l.getD k ([], []) = u at *; simp [*]
      · rw [cr_stepE (by omega), ← hI3]; clear hI2 hI3 H; generalize l.getD k ([], []) = u at *; simp [*]
    · first | (dsimp only; omega) | omega
   · --false
    refine G_re [(0, .slice B l.length d), (2, S stamp), (4, Pt g1 0), (7, .bool true), (8, .bool false), (10, Pt g9 0), (23, .slice B l.length d), (24, In l.length), (25, In k)] (show ([.slice B l.length d, S stamp, Pt g1 0, .bool true, .bool r2, Pt g9 0, .slice B l.length d, In l.length, In k] : List Value) = [.slice B l.length d, S stamp, Pt g1 0, .bool true, .bool false, Pt g9 0, .slice B l.length d, In l.length, In k] by rw [hq13]) (fun β => ?_)
    by_cases hq15 : (l.getD k ([], [])).1 = nm
    · --true
     refine G_drawS (fun w => w.cell? ⟨g9, 0, none⟩ = some (S ((l.getD k ([], [])).1)) ∧ w.cell? ⟨g1, 0, none⟩ = some (S nm) ∧ w.cell? ⟨g9, 1, none⟩ = some (S ((l.getD k ([], [])).2)) ∧ w.cell? ⟨g1, 1, none⟩ = some (S sec) ∧ True) 20 20 (by kernel_rfl) (by kernel_rfl) H (fun w16 H => ?_)
     refine HL_takes [0, 1, 2] [(0, .slice B l.length d), (2, S stamp), (4, Pt g1 0), (7, .bool true), (8, .bool false), (10, Pt g9 0), (23, .slice B l.length d), (24, .int .i64 (l.length : Int)), (25, .int .i64 (k : Int)), (36, .bool false), (37, Pt g9 0)] (mkL 20 [0, 1, 2]) 17 (by kernel_rfl) rfl (by kernel_rfl) (fun _ => by kernel_rfl) ⟨((H.blk_cell (i := 0) rfl 0).trans rfl), ((H.blk_cell (i := 1) rfl 0).trans rfl), ((H.blk_cell (i := 0) rfl 1).trans rfl), ((H.blk_cell (i := 1) rfl 1).trans rfl), trivial⟩ (fun β => ?_)
     refine HL_t (i := 3) (m := 16) (fun w hS => run_load1 (t := 9) (by kernel_rfl) hS.1) rfl (by kernel_rfl) (by kernel_rfl) (by kernel_rfl) (by kernel_rfl) (by kernel_rfl) (by kernel_rfl) ⟨((H.blk_cell (i := 0) rfl 0).trans rfl), ((H.blk_cell (i := 1) rfl 0).trans rfl), ((H.blk_cell (i := 0) rfl 1).trans rfl), ((H.blk_cell (i := 1) rfl 1).trans rfl), trivial⟩ rfl ?_
     refine HL_takes [4] [(0, .slice B l.length d), (2, S stamp), (4, Pt g1 0), (7, .bool true), (8, .bool false), (10, Pt g9 0), (23, .slice B l.length d), (24, .int .i64 (l.length : Int)), (25, .int .i64 (k : Int)), (36, .bool false), (38, S ((l.getD k ([], [])).1)), (39, Pt g1 0)] (mkL 20 [0, 1, 2, 3, 4]) 15 (by kernel_rfl) rfl (by kernel_rfl) (fun _ => by kernel_rfl) ⟨((H.blk_cell (i := 0) rfl 0).trans rfl), ((H.blk_cell (i := 1) rfl 0).trans rfl), ((H.blk_cell (i := 0) rfl 1).trans rfl), ((H.blk_cell (i := 1) rfl 1).trans rfl), trivial⟩ (fun β => ?_)
     refine HL_t (i := 5) (m := 14) (fun w hS => run_load1 (t := 9) (by kernel_rfl) hS.2.1) rfl (by kernel_rfl) (by kernel_rfl) (by kernel_rfl) (by kernel_rfl) (by kernel_rfl) (by kernel_rfl) ⟨((H.blk_cell (i := 0) rfl 0).trans rfl), ((H.blk_cell (i := 1) rfl 0).trans rfl), ((H.blk_cell (i := 0) rfl 1).trans rfl), ((H.blk_cell (i := 1) rfl 1).trans rfl), trivial⟩ rfl ?_
     refine HL_t (i := 6) (m := 13) (fun w _ => (R_streqT (t := 9) (l := (l.getD k ([], [])).1) (m := nm) hq15)) rfl (by kernel_rfl) (by kernel_rfl) (by kernel_rfl) (by kernel_rfl) (by kernel_rfl) (by kernel_rfl) ⟨((H.blk_cell (i := 0) rfl 0).trans rfl), ((H.blk_cell (i := 1) rfl 0).trans rfl), ((H.blk_cell (i := 0) rfl 1).trans rfl), ((H.blk_cell (i := 1) rfl 1).trans rfl), trivial⟩ rfl ?_
     refine HL_takes [7, 8] [(0, .slice B l.length d), (2, S stamp), (4, Pt g1 0), (7, .bool true), (8, .bool false), (23, .slice B l.length d), (24, .int .i64 (l.length : Int)), (25, .int .i64 (k : Int)), (36, .bool false), (42, .bool true), (43, Pt g9 1)] (mkL 20 [0, 1, 2, 3, 4, 5, 6, 7, 8]) 11 (by kernel_rfl) rfl (by kernel_rfl) (fun _ => by kernel_rfl) ⟨((H.blk_cell (i := 0) rfl 0).trans rfl), ((H.blk_cell (i := 1) rfl 0).trans rfl), ((H.blk_cell (i := 0) rfl 1).trans rfl), ((H.blk_cell (i := 1) rfl 1).trans rfl), trivial⟩ (fun β => ?_)
     refine HL_t (i := 9) (m := 10) (fun w hS => run_load1 (t := 9) (by kernel_rfl) hS.2.2.1) rfl (by kernel_rfl) (by kernel_rfl) (by kernel_rfl) (by kernel_rfl) (by kernel_rfl) (by kernel_rfl) ⟨((H.blk_cell (i := 0) rfl 0).trans rfl), ((H.blk_cell (i := 1) rfl 0).trans rfl), ((H.blk_cell (i := 0) rfl 1).trans rfl), ((H.blk_cell (i := 1) rfl 1).trans rfl), trivial⟩ rfl ?_
     refine HL_takes [10, 12] [(0, .slice B l.length d), (2, S stamp), (4, Pt g1 0), (7, .bool true), (8, .bool false), (23, .slice B l.length d), (24, .int .i64 (l.length : Int)), (25, .int .i64 (k : Int)), (36, .bool false), (42, .bool true), (44, S ((l.getD k ([], [])).2)), (45, S stamp), (47, Pt g1 1)] (mkL 20 [0, 1, 2, 3, 4, 5, 6, 7, 8, 9, 10, 12]) 8 (by kernel_rfl) rfl (by kernel_rfl) (fun _ => by kernel_rfl) ⟨((H.blk_cell (i := 0) rfl 0).trans rfl), ((H.blk_cell (i := 1) rfl 0).trans rfl), ((H.blk_cell (i := 0) rfl 1).trans rfl), ((H.blk_cell (i := 1) rfl 1).trans rfl), trivial⟩ (fun β => ?_)
     refine HL_t (i := 13) (m := 7) (fun w hS => run_load1 (t := 9) (by kernel_rfl) hS.2.2.2.1) rfl (by kernel_rfl) (by kernel_rfl) (by kernel_rfl) (by kernel_rfl) (by kernel_rfl) (by kernel_rfl) ⟨((H.blk_cell (i := 0) rfl 0).trans rfl), ((H.blk_cell (i := 1) rfl 0).trans rfl), ((H.blk_cell (i := 0) rfl 1).trans rfl), ((H.blk_cell (i := 1) rfl 1).trans rfl), trivial⟩ rfl ?_
     refine HL_takes [14] [(0, .slice B l.length d), (2, S stamp), (4, Pt g1 0), (7, .bool true), (8, .bool false), (23, .slice B l.length d), (24, .int .i64 (l.length : Int)), (25, .int .i64 (k : Int)), (36, .bool false), (42, .bool true), (44, S ((l.getD k ([], [])).2)), (45, S stamp), (48, S sec), (49, S stamp)] (mkL 20 [0, 1, 2, 3, 4, 5, 6, 7, 8, 9, 10, 12, 13, 14]) 6 (by kernel_rfl) rfl (by kernel_rfl) (fun _ => by kernel_rfl) ⟨((H.blk_cell (i := 0) rfl 0).trans rfl), ((H.blk_cell (i := 1) rfl 0).trans rfl), ((H.blk_cell (i := 0) rfl 1).trans rfl), ((H.blk_cell (i := 1) rfl 1).trans rfl), trivial⟩ (fun β => ?_)
     refine HL_call (i := 11) (f := 17) (args := #[S ((l.getD k ([], [])).2), S stamp]) rfl (by kernel_rfl) (by kernel_rfl) (by kernel_rfl) (by kernel_rfl) (c_ldigest T hT gT R hR gR ((l.getD k ([], [])).2) stamp (by omega) (by omega) H) ?_
     rintro _ w17 ⟨rfl, H⟩
     refine ⟨(.inr ⟨((H.blk_cell (i := 0) rfl 0).trans rfl), ((H.blk_cell (i := 1) rfl 0).trans rfl), ((H.blk_cell (i := 0) rfl 1).trans rfl), ((H.blk_cell (i := 1) rfl 1).trans rfl), trivial⟩), ?_⟩
     refine HL_call (i := 15) (f := 17) (args := #[S sec, S stamp]) rfl (by kernel_rfl) (by kernel_rfl) (by kernel_rfl) (by kernel_rfl) (c_ldigest T hT gT R hR gR sec stamp (by omega) (by omega) H) ?_
     rintro _ w18 ⟨rfl, H⟩
     refine ⟨(.inr ⟨((H.blk_cell (i := 0) rfl 0).trans rfl), ((H.blk_cell (i := 1) rfl 0).trans rfl), ((H.blk_cell (i := 0) rfl 1).trans rfl), ((H.blk_cell (i := 1) rfl 1).trans rfl), trivial⟩), ?_⟩
     refine HL_t (i := 16) (m := 3) (fun w _ => (R_streq (t := 9) (l := (dgF T R ((l.getD k ([], [])).2) stamp)) (m := (dgF T R sec stamp)))) rfl (by kernel_rfl) (by kernel_rfl) (by kernel_rfl) (by kernel_rfl) (by kernel_rfl) (by kernel_rfl) ⟨((H.blk_cell (i := 0) rfl 0).trans rfl), ((H.blk_cell (i := 1) rfl 0).trans rfl), ((H.blk_cell (i := 0) rfl 1).trans rfl), ((H.blk_cell (i := 1) rfl 1).trans rfl), trivial⟩ rfl ?_
     refine HL_takes [17, 18, 19] [(0, .slice B l.length d), (2, S stamp), (4, Pt g1 0), (7, .bool true), (8, .bool ((dgF T R ((l.getD k ([], [])).2) stamp) == (dgF T R sec stamp))), (23, .slice B l.length d), (24, .int .i64 (l.length : Int)), (25, .int .i64 (k : Int))] (mkL 20 [0, 1, 2, 3, 4, 5, 6, 7, 8, 9, 10, 12, 13, 14, 11, 15, 16, 17, 18, 19]) 0 (by kernel_rfl) rfl (by kernel_rfl) (fun _ => by kernel_rfl) ⟨((H.blk_cell (i := 0) rfl 0).trans rfl), ((H.blk_cell (i := 1) rfl 0).trans rfl), ((H.blk_cell (i := 0) rfl 1).trans rfl), ((H.blk_cell (i := 1) rfl 1).trans rfl), trivial⟩ (fun β => ?_)
     refine HL_forget [(0, .slice B l.length d), (2, S stamp), (4, Pt g1 0), (7, .bool true), (8, .bool ((dgF T R ((l.getD k ([], [])).2) stamp) == (dgF T R sec stamp))), (23, .slice B l.length d), (24, In l.length), (25, In k)] (by kernel_rfl) (fun β => ?_)
     refine HL_fin (by kernel_rfl) ?_
     refine inb_normal ?_
     refine thn_normal ?_
     refine G_region ?_
     refine GL_sr 2 2 [(0, .slice B l.length d), (2, S stamp), (4, Pt g1 0), (7, .bool true), (8, .bool ((dgF T R ((l.getD k ([], [])).2) stamp) == (dgF T R sec stamp))), (23, .slice B l.length d), (24, In l.length), (25, In (k + 1))] (show ([.slice B l.length d, S stamp, Pt g1 0, .bool true, .bool ((dgF T R ((l.getD k ([], [])).2) stamp) == (dgF T R sec stamp)), .slice B l.length d, .int .i64 (l.length : Int), .int .i64 (IntKind.i64.wrap ((k : Int) + ((1 : Nat) : Int)))] : List Value) = [.slice B l.length d, S stamp, Pt g1 0, .bool true, .bool ((dgF T R ((l.getD k ([], [])).2) stamp) == (dgF T R sec stamp)), .slice B l.length d, In l.length, In (k + 1)] by rw [nadd64 k 1 (by omega)]) fun β => ?_
     refine GL_end (by kernel_rfl) ?_
     replace H := H.drop 0
     replace H : Sep w0 w18 (.blk g1 40 [S nm, S sec] :: F) := H
     refine thn_normal ⟨(k + 1, true, (dgF T R ((l.getD k ([], [])).2) stamp) == (dgF T R sec stamp)), Agr_of_keys (by kernel_rfl), ⟨H, ?_⟩, ?_⟩
     · refine ⟨by omega, ?_, ?_⟩
       · rw [pair_stepE (by omega), ← hI2]; clear hI2 hI3 H; generalize l.getD k ([], []) = u at *; simp [*]
       · rw [cr_stepE (by omega), ← hI3]; clear hI2 hI3 H; generalize l.getD k ([], []) = u at *; simp [*]
     · first | (dsimp only; omega) | omega
    · --false
     refine G_drawS (fun w => w.cell? ⟨g9, 0, none⟩ = some (S ((l.getD k ([], [])).1)) ∧ w.cell? ⟨g1, 0, none⟩ = some (S nm) ∧ True) 20 20 (by kernel_rfl) (by kernel_rfl) H (fun w19 H => ?_)
     refine HL_takes [0, 1, 2] [(0, .slice B l.length d), (2, S stamp), (4, Pt g1 0), (7, .bool true), (8, .bool false), (10, Pt g9 0), (23, .slice B l.length d), (24, .int .i64 (l.length : Int)), (25, .int .i64 (k : Int)), (36, .bool false), (37, Pt g9 0)] (mkL 20 [0, 1, 2]) 17 (by kernel_rfl) rfl (by kernel_rfl) (fun _ => by kernel_rfl) ⟨((H.blk_cell (i := 0) rfl 0).trans rfl), ((H.blk_cell (i := 1) rfl 0).trans rfl), trivial⟩ (fun β => ?_)
     refine HL_t (i := 3) (m := 16) (fun w hS => run_load1 (t := 9) (by kernel_rfl) hS.1) rfl (by kernel_rfl) (by kernel_rfl) (by kernel_rfl) (by kernel_rfl) (by kernel_rfl) (by kernel_rfl) ⟨((H.blk_cell (i := 0) rfl 0).trans rfl), ((H.blk_cell (i := 1) rfl 0).trans rfl), trivial⟩ rfl ?_
     refine HL_takes [4] [(0, .slice B l.length d), (2, S stamp), (4, Pt g1 0), (7, .bool true), (8, .bool false), (10, Pt g9 0), (23, .slice B l.length d), (24, .int .i64 (l.length : Int)), (25, .int .i64 (k : Int)), (36, .bool false), (38, S ((l.getD k ([], [])).1)), (39, Pt g1 0)] (mkL 20 [0, 1, 2, 3, 4]) 15 (by kernel_rfl) rfl (by kernel_rfl) (fun _ => by kernel_rfl) ⟨((H.blk_cell (i := 0) rfl 0).trans rfl), ((H.blk_cell (i := 1) rfl 0).trans rfl), trivial⟩ (fun β => ?_)
     refine HL_t (i := 5) (m := 14) (fun w hS => run_load1 (t := 9) (by kernel_rfl) hS.2.1) rfl (by kernel_rfl) (by kernel_rfl) (by kernel_rfl) (by kernel_rfl) (by kernel_rfl) (by kernel_rfl) ⟨((H.blk_cell (i := 0) rfl 0).trans rfl), ((H.blk_cell (i := 1) rfl 0).trans rfl), trivial⟩ rfl ?_
     refine HL_t (i := 6) (m := 13) (fun w _ => (R_streqF (t := 9) (l := (l.getD k ([], [])).1) (m := nm) hq15)) rfl (by kernel_rfl) (by kernel_rfl) (by kernel_rfl) (by kernel_rfl) (by kernel_rfl) (by kernel_rfl) ⟨((H.blk_cell (i := 0) rfl 0).trans rfl), ((H.blk_cell (i := 1) rfl 0).trans rfl), trivial⟩ rfl ?_
     refine HL_takes [7, 8, 9, 10, 11, 12, 13, 14, 15, 16, 17, 18, 19] [(0, .slice B l.length d), (2, S stamp), (4, Pt g1 0), (7, .bool true), (8, .bool false), (23, .slice B l.length d), (24, .int .i64 (l.length : Int)), (25, .int .i64 (k : Int))] (mkL 20 [0, 1, 2, 3, 4, 5, 6, 7, 8, 9, 10, 11, 12, 13, 14, 15, 16, 17, 18, 19]) 0 (by kernel_rfl) rfl (by kernel_rfl) (fun _ => by kernel_rfl) ⟨((H.blk_cell (i := 0) rfl 0).trans rfl), ((H.blk_cell (i := 1) rfl 0).trans rfl), trivial⟩ (fun β => ?_)
     refine HL_forget [(0, .slice B l.length d), (2, S stamp), (4, Pt g1 0), (7, .bool true), (8, .bool false), (23, .slice B l.length d), (24, In l.length), (25, In k)] (by kernel_rfl) (fun β => ?_)
     refine HL_fin (by kernel_rfl) ?_
     refine inb_normal ?_
     refine thn_normal ?_
     refine G_region ?_
     refine GL_sr 2 2 [(0, .slice B l.length d), (2, S stamp), (4, Pt g1 0), (7, .bool true), (8, .bool false), (23, .slice B l.length d), (24, In l.length), (25, In (k + 1))] (show ([.slice B l.length d, S stamp, Pt g1 0, .bool true, .bool false, .slice B l.length d, .int .i64 (l.length : Int), .int .i64 (IntKind.i64.wrap ((k : Int) + ((1 : Nat) : Int)))] : List Value) = [.slice B l.length d, S stamp, Pt g1 0, .bool true, .bool false, .slice B l.length d, In l.length, In (k + 1)] by rw [nadd64 k 1 (by omega)]) fun β => ?_
     refine GL_end (by kernel_rfl) ?_
     replace H := H.drop 0
     replace H : Sep w0 w19 (.blk g1 40 [S nm, S sec] :: F) := H
     refine thn_normal ⟨(k + 1, true, false), Agr_of_keys (by kernel_rfl), ⟨H, ?_⟩, ?_⟩
     · refine ⟨by omega, ?_, ?_⟩
       · rw [pair_stepE (by omega), ← hI2]; clear hI2 hI3 H; generalize l.getD k ([], []) = u at *; simp [*]
       · rw [cr_stepE (by omega), ← hI3]; clear hI2 hI3 H; generalize l.getD k ([], []) = u at *; simp [*]
     · first | (dsimp only; omega) | omega
  · --no
   refine GL_re [(0, .slice B l.length d), (2, S stamp), (4, Pt g1 0), (8, .bool r2), (10, Pt g9 0), (23, .slice B l.length d), (24, In l.length), (25, In k), (30, .bool false)] (show ([.slice B l.length d, S stamp, Pt g1 0, .bool r2, Pt g9 0, .slice B l.length d, In l.length, In k, .bool r1] : List Value) = [.slice B l.length d, S stamp, Pt g1 0, .bool r2, Pt g9 0, .slice B l.length d, In l.length, In k, .bool false] by rw [h1]) (fun β => ?_)
   refine GL_V (run_loadN (t := 40) (vs := [S ((l.getD k ([], [])).1), S ((l.getD k ([], [])).2)]) (by kernel_rfl) (by kernel_rfl) (H.blk_cells (i := 0) rfl 0 _ ⟨_, rfl⟩)) ?_
   refine GL_V (run_loadN (t := 40) (vs := [S nm, S sec]) (by kernel_rfl) (by kernel_rfl) (H.blk_cells (i := 1) rfl 0 _ ⟨_, rfl⟩)) ?_
   refine GL_V (R_eq2 (t := 40) (a := (l.getD k ([], [])).1) (b := (l.getD k ([], [])).2) (c := nm) (d := sec) (by kernel_rfl)) ?_
   refine GL_st 2 7 [(0, .slice B l.length d), (2, S stamp), (4, Pt g1 0), (7, .bool (((l.getD k ([], [])).1) == nm && ((l.getD k ([], [])).2) == sec)), (8, .bool r2), (10, Pt g9 0), (23, .slice B l.length d), (24, In l.length), (25, In k)] fun β => ?_
   rcases Bool.eq_false_or_eq_true (r2) with hq20 | hq20
   · --true
    refine G_re [(0, .slice B l.length d), (2, S stamp), (4, Pt g1 0), (7, .bool (((l.getD k ([], [])).1) == nm && ((l.getD k ([], [])).2) == sec)), (8, .bool true), (10, Pt g9 0), (23, .slice B l.length d), (24, In l.length), (25, In k)] (show ([.slice B l.length d, S stamp, Pt g1 0, .bool (((l.getD k ([], [])).1) == nm && ((l.getD k ([], [])).2) == sec), .bool r2, Pt g9 0, .slice B l.length d, In l.length, In k] : List Value) = [.slice B l.length d, S stamp, Pt g1 0, .bool (((l.getD k ([], [])).1) == nm && ((l.getD k ([], [])).2) == sec), .bool true, Pt g9 0, .slice B l.length d, In l.length, In k] by rw [hq20]) (fun β => ?_)
    refine G_drawS (fun w => True) 20 20 (by kernel_rfl) (by kernel_rfl) H (fun w21 H => ?_)
    refine HL_takes [0, 1, 2, 3, 4, 5, 6, 7, 8, 9, 10, 11, 12, 13, 14, 15, 16, 17, 18, 19] [(0, .slice B l.length d), (2, S stamp), (4, Pt g1 0), (7, .bool (((l.getD k ([], [])).1) == nm && ((l.getD k ([], [])).2) == sec)), (8, .bool true), (23, .slice B l.length d), (24, .int .i64 (l.length : Int)), (25, .int .i64 (k : Int))] (mkL 20 [0, 1, 2, 3, 4, 5, 6, 7, 8, 9, 10, 11, 12, 13, 14, 15, 16, 17, 18, 19]) 0 (by kernel_rfl) rfl (by kernel_rfl) (fun _ => by kernel_rfl) trivial (fun β => ?_)
    refine HL_forget [(0, .slice B l.length d), (2, S stamp), (4, Pt g1 0), (7, .bool (((l.getD k ([], [])).1) == nm && ((l.getD k ([], [])).2) == sec)), (8, .bool true), (23, .slice B l.length d), (24, In l.length), (25, In k)] (by kernel_rfl) (fun β => ?_)
    refine HL_fin (by kernel_rfl) ?_
    refine inb_normal ?_
    refine thn_normal ?_
    refine G_region ?_
    refine GL_sr 2 2 [(0, .slice B l.length d), (2, S stamp), (4, Pt g1 0), (7, .bool (((l.getD k ([], [])).1) == nm && ((l.getD k ([], [])).2) == sec)), (8, .bool true), (23, .slice B l.length d), (24, In l.length), (25, In (k + 1))] (show ([.slice B l.length d, S stamp, Pt g1 0, .bool (((l.getD k ([], [])).1) == nm && ((l.getD k ([], [])).2) == sec), .bool true, .slice B l.length d, .int .i64 (l.length : Int), .int .i64 (IntKind.i64.wrap ((k : Int) + ((1 : Nat) : Int)))] : List Value) = [.slice B l.length d, S stamp, Pt g1 0, .bool (((l.getD k ([], [])).1) == nm && ((l.getD k ([], [])).2) == sec), .bool true, .slice B l.length d, In l.length, In (k + 1)] by rw [nadd64 k 1 (by omega)]) fun β => ?_
    refine GL_end (by kernel_rfl) ?_
    replace H := H.drop 0
    replace H : Sep w0 w21 (.blk g1 40 [S nm, S sec] :: F) := H
    refine thn_normal ⟨(k + 1, ((l.getD k ([], [])).1) == nm && ((l.getD k ([], [])).2) == sec, true), Agr_of_keys (by kernel_rfl), ⟨H, ?_⟩, ?_⟩
    · refine ⟨by omega, ?_, ?_⟩
      · rw [pair_stepE (by omega), ← hI2]; clear hI2 hI3 H; generalize l.getD k ([], []) = u at *; simp [*]
      · rw [cr_stepE (by omega), ← hI3]; clear hI2 hI3 H; generalize l.getD k ([], []) = u at *; simp [*]
    · first | (dsimp only; omega) | omega
   · --false
    refine G_re [(0, .slice B l.length d), (2, S stamp), (4, Pt g1 0), (7, .bool (((l.getD k ([], [])).1) == nm && ((l.getD k ([], [])).2) == sec)), (8, .bool false), (10, Pt g9 0), (23, .slice B l.length d), (24, In l.length), (25, In k)] (show ([.slice B l.length d, S stamp, Pt g1 0, .bool (((l.getD k ([], [])).1) == nm && ((l.getD k ([], [])).2) == sec), .bool r2, Pt g9 0, .slice B l.length d, In l.length, In k] : List Value) = [.slice B l.length d, S stamp, Pt g1 0, .bool (((l.getD k ([], [])).1) == nm && ((l.getD k ([], [])).2) == sec), .bool false, Pt g9 0, .slice B l.length d, In l.length, In k] by rw [hq20]) (fun β => ?_)
    by_cases hq22 : (l.getD k ([], [])).1 = nm
    · --true
     refine G_drawS (fun w => w.cell? ⟨g9, 0, none⟩ = some (S ((l.getD k ([], [])).1)) ∧ w.cell? ⟨g1, 0, none⟩ = some (S nm) ∧ w.cell? ⟨g9, 1, none⟩ = some (S ((l.getD k ([], [])).2)) ∧ w.cell? ⟨g1, 1, none⟩ = some (S sec) ∧ True) 20 20 (by kernel_rfl) (by kernel_rfl) H (fun w23 H => ?_)
     refine HL_takes [0, 1, 2] [(0, .slice B l.length d), (2, S stamp), (4, Pt g1 0), (7, .bool (((l.getD k ([], [])).1) == nm && ((l.getD k ([], [])).2) == sec)), (8, .bool false), (10, Pt g9 0), (23, .slice B l.length d), (24, .int .i64 (l.length : Int)), (25, .int .i64 (k : Int)), (36, .bool false), (37, Pt g9 0)] (mkL 20 [0, 1, 2]) 17 (by kernel_rfl) rfl (by kernel_rfl) (fun _ => by kernel_rfl) ⟨((H.blk_cell (i := 0) rfl 0).trans rfl), ((H.blk_cell (i := 1) rfl 0).trans rfl), ((H.blk_cell (i := 0) rfl 1).trans rfl), ((H.blk_cell (i := 1) rfl 1).trans rfl), trivial⟩ (fun β => ?_)
     refine HL_t (i := 3) (m := 16) (fun w hS => run_load1 (t := 9) (by kernel_rfl) hS.1) rfl (by kernel_rfl) (by kernel_rfl) (by kernel_rfl) (by kernel_rfl) (by kernel_rfl) (by kernel_rfl) ⟨((H.blk_cell (i := 0) rfl 0).trans rfl), ((H.blk_cell (i := 1) rfl 0).trans rfl), ((H.blk_cell (i := 0) rfl 1).trans rfl), ((H.blk_cell (i := 1) rfl 1).trans rfl), trivial⟩ rfl ?_
     refine HL_takes [4] [(0, .slice B l.length d), (2, S stamp), (4, Pt g1 0), (7, .bool (((l.getD k ([], [])).1) == nm && ((l.getD k ([], [])).2) == sec)), (8, .bool false), (10, Pt g9 0), (23, .slice B l.length d), (24, .int .i64 (l.length : Int)), (25, .int .i64 (k : Int)), (36, .bool false), (38, S ((l.getD k ([], [])).1)), (39, Pt g1 0)] (mkL 20 [0, 1, 2, 3, 4]) 15 (by kernel_rfl) rfl (by kernel_rfl) (fun _ => by kernel_rfl) ⟨((H.blk_cell (i := 0) rfl 0).trans rfl), ((H.blk_cell (i := 1) rfl 0).trans rfl), ((H.blk_cell (i := 0) rfl 1).trans rfl), ((H.blk_cell (i := 1) rfl 1).trans rfl), trivial⟩ (fun β => ?_)
     refine HL_t (i := 5) (m := 14) (fun w hS => run_load1 (t := 9) (by kernel_rfl) hS.2.1) rfl (by kernel_rfl) (by kernel_rfl) (by kernel_rfl) (by kernel_rfl) (by kernel_rfl) (by kernel_rfl) ⟨((H.blk_cell (i := 0) rfl 0).trans rfl), ((H.blk_cell (i := 1) rfl 0).trans rfl), ((H.blk_cell (i := 0) rfl 1).trans rfl), ((H.blk_cell (i := 1) rfl 1).trans rfl), trivial⟩ rfl ?_
     refine HL_t (i := 6) (m := 13) (fun w _ => (R_streqT (t := 9) (l := (l.getD k ([], [])).1) (m := nm) hq22)) rfl (by kernel_rfl) (by kernel_rfl) (by kernel_rfl) (by kernel_rfl) (by kernel_rfl) (by kernel_rfl) ⟨((H.blk_cell (i := 0) rfl 0).trans rfl), ((H.blk_cell (i := 1) rfl 0).trans rfl), ((H.blk_cell (i := 0) rfl 1).trans rfl), ((H.blk_cell (i := 1) rfl 1).trans rfl), trivial⟩ rfl ?_
     refine HL_takes [7, 8] [(0, .slice B l.length d), (2, S stamp), (4, Pt g1 0), (7, .bool (((l.getD k ([], [])).1) == nm && ((l.getD k ([], [])).2) == sec)), (8, .bool false), (23, .slice B l.length d), (24, .int .i64 (l.length : Int)), (25, .int .i64 (k : Int)), (36, .bool false), (42, .bool true), (43, Pt g9 1)] (mkL 20 [0, 1, 2, 3, 4, 5, 6, 7, 8]) 11 (by kernel_rfl) rfl (by kernel_rfl) (fun _ => by kernel_rfl) ⟨((H.blk_cell (i := 0) rfl 0).trans rfl), ((H.blk_cell (i := 1) rfl 0).trans rfl), ((H.blk_cell (i := 0) rfl 1).trans rfl), ((H.blk_cell (i := 1) rfl 1).trans rfl), trivial⟩ (fun β => ?_)
     refine HL_t (i := 9) (m := 10) (fun w hS => run_load1 (t := 9) (by kernel_rfl) hS.2.2.1) rfl (by kernel_rfl) (by kernel_rfl) (by kernel_rfl) (by kernel_rfl) (by kernel_rfl) (by kernel_rfl) ⟨((H.blk_cell (i := 0) rfl 0).trans rfl), ((H.blk_cell (i := 1) rfl 0).trans rfl), ((H.blk_cell (i := 0) rfl 1).trans rfl), ((H.blk_cell (i := 1) rfl 1).trans rfl), trivial⟩ rfl ?_
     refine HL_takes [10, 12] [(0, .slice B l.length d), (2, S stamp), (4, Pt g1 0), (7, .bool (((l.getD k ([], [])).1) == nm && ((l.getD k ([], [])).2) == sec)), (8, .bool false), (23, .slice B l.length d), (24, .int .i64 (l.length : Int)), (25, .int .i64 (k : Int)), (36, .bool false), (42, .bool true), (44, S ((l.getD k ([], [])).2)), (45, S stamp), (47, Pt g1 1)] (mkL 20 [0, 1, 2, 3, 4, 5, 6, 7, 8, 9, 10, 12]) 8 (by kernel_rfl) rfl (by kernel_rfl) (fun _ => by kernel_rfl) ⟨((H.blk_cell (i := 0) rfl 0).trans rfl), ((H.blk_cell (i := 1) rfl 0).trans rfl), ((H.blk_cell (i := 0) rfl 1).trans rfl), ((H.blk_cell (i := 1) rfl 1).trans rfl), trivial⟩ (fun β => ?_)
     refine HL_t (i := 13) (m := 7) (fun w hS => run_load1 (t := 9) (by kernel_rfl) hS.2.2.2.1) rfl (by kernel_rfl) (by kernel_rfl) (by kernel_rfl) (by kernel_rfl) (by kernel_rfl) (by kernel_rfl) ⟨((H.blk_cell (i := 0) rfl 0).trans rfl), ((H.blk_cell (i := 1) rfl 0).trans rfl), ((H.blk_cell (i := 0) rfl 1).trans rfl), ((H.blk_cell (i := 1) rfl 1).trans rfl), trivial⟩ rfl ?_
     refine HL_takes [14] [(0, .slice B l.length d), (2, S stamp), (4, Pt g1 0), (7, .bool (((l.getD k ([], [])).1) == nm && ((l.getD k ([], [])).2) == sec)), (8, .bool false), (23, .slice B l.length d), (24, .int .i64 (l.length : Int)), (25, .int .i64 (k : Int)), (36, .bool false), (42, .bool true), (44, S ((l.getD k ([], [])).2)), (45, S stamp), (48, S sec), (49, S stamp)] (mkL 20 [0, 1, 2, 3, 4, 5, 6, 7, 8, 9, 10, 12, 13, 14]) 6 (by kernel_rfl) rfl (by kernel_rfl) (fun _ => by kernel_rfl) ⟨((H.blk_cell (i := 0) rfl 0).trans rfl), ((H.blk_cell (i := 1) rfl 0).trans rfl), ((H.blk_cell (i := 0) rfl 1).trans rfl), ((H.blk_cell (i := 1) rfl 1).trans rfl), trivial⟩ (fun β => ?_)
     refine HL_call (i := 11) (f := 17) (args := #[S ((l.getD k ([], [])).2), S stamp]) rfl (by kernel_rfl) (by kernel_rfl) (by kernel_rfl) (by kernel_rfl) (c_ldigest T hT gT R hR gR ((l.getD k ([], [])).2) stamp (by omega) (by omega) H) ?_
     rintro _ w24 ⟨rfl, H⟩
     refine ⟨(.inr ⟨((H.blk_cell (i := 0) rfl 0).trans rfl), ((H.blk_cell (i := 1) rfl 0).trans rfl), ((H.blk_cell (i := 0) rfl 1).trans rfl), ((H.blk_cell (i := 1) rfl 1).trans rfl), trivial⟩), ?_⟩
     refine HL_call (i := 15) (f := 17) (args := #[S sec, S stamp]) rfl (by kernel_rfl) (by kernel_rfl) (by kernel_rfl) (by kernel_rfl) (c_ldigest T hT gT R hR gR sec stamp (by omega) (by omega) H) ?_
     rintro _ w25 ⟨rfl, H⟩
     refine ⟨(.inr ⟨((H.blk_cell (i := 0) rfl 0).trans rfl), ((H.blk_cell (i := 1) rfl 0).trans rfl), ((H.blk_cell (i := 0) rfl 1).trans rfl), ((H.blk_cell (i := 1) rfl 1).trans rfl), trivial⟩), ?_⟩
     refine HL_t (i := 16) (m := 3) (fun w _ => (R_streq (t := 9) (l := (dgF T R ((l.getD k ([], [])).2) stamp)) (m := (dgF T R sec stamp)))) rfl (by kernel_rfl) (by kernel_rfl) (by kernel_rfl) (by kernel_rfl) (by kernel_rfl) (by kernel_rfl) ⟨((H.blk_cell (i := 0) rfl 0).trans rfl), ((H.blk_cell (i := 1) rfl 0).trans rfl), ((H.blk_cell (i := 0) rfl 1).trans rfl), ((H.blk_cell (i := 1) rfl 1).trans rfl), trivial⟩ rfl ?_
     refine HL_takes [17, 18, 19] [(0, .slice B l.length d), (2, S stamp), (4, Pt g1 0), (7, .bool (((l.getD k ([], [])).1) == nm && ((l.getD k ([], [])).2) == sec)), (8, .bool ((dgF T R ((l.getD k ([], [])).2) stamp) == (dgF T R sec stamp))), (23, .slice B l.length d), (24, .int .i64 (l.length : Int)), (25, .int .i64 (k : Int))] (mkL 20 [0, 1, 2, 3, 4, 5, 6, 7, 8, 9, 10, 12, 13, 14, 11, 15, 16, 17, 18, 19]) 0 (by kernel_rfl) rfl (by kernel_rfl) (fun _ => by kernel_rfl) ⟨((H.blk_cell (i := 0) rfl 0).trans rfl), ((H.blk_cell (i := 1) rfl 0).trans rfl), ((H.blk_cell (i := 0) rfl 1).trans rfl), ((H.blk_cell (i := 1) rfl 1).trans rfl), trivial⟩ (fun β => ?_)
     refine HL_forget [(0, .slice B l.length d), (2, S stamp), (4, Pt g1 0), (7, .bool (((l.getD k ([], [])).1) == nm && ((l.getD k ([], [])).2) == sec)), (8, .bool ((dgF T R ((l.getD k ([], [])).2) stamp) == (dgF T R sec stamp))), (23, .slice B l.length d), (24, In l.length), (25, In k)] (by kernel_rfl) (fun β => ?_)
     refine HL_fin (by kernel_rfl) ?_
     refine inb_normal ?_
     refine thn_normal ?_
     refine G_region ?_
     refine GL_sr 2 2 [(0, .slice B l.length d), (2, S stamp), (4, Pt g1 0), (7, .bool (((l.getD k ([], [])).1) == nm && ((l.getD k ([], [])).2) == sec)), (8, .bool ((dgF T R ((l.getD k ([], [])).2) stamp) == (dgF T R sec stamp))), (23, .slice B l.length d), (24, In l.length), (25, In (k + 1))] (show ([.slice B l.length d, S stamp, Pt g1 0, .bool (((l.getD k ([], [])).1) == nm && ((l.getD k ([], [])).2) == sec), .bool ((dgF T R ((l.getD k ([], [])).2) stamp) == (dgF T R sec stamp)), .slice B l.length d, .int .i64 (l.length : Int), .int .i64 (IntKind.i64.wrap ((k : Int) + ((1 : Nat) : Int)))] : List Value) = [.slice B l.length d, S stamp, Pt g1 0, .bool (((l.getD k ([], [])).1) == nm && ((l.getD k ([], [])).2) == sec), .bool ((dgF T R ((l.getD k ([], [])).2) stamp) == (dgF T R sec stamp)), .slice B l.length d, In l.length, In (k + 1)] by rw [nadd64 k 1 (by omega)]) fun β => ?_
     refine GL_end (by kernel_rfl) ?_
     replace H := H.drop 0
     replace H : Sep w0 w25 (.blk g1 40 [S nm, S sec] :: F) := H
     refine thn_normal ⟨(k + 1, ((l.getD k ([], [])).1) == nm && ((l.getD k ([], [])).2) == sec, (dgF T R ((l.getD k ([], [])).2) stamp) == (dgF T R sec stamp)), Agr_of_keys (by kernel_rfl), ⟨H, ?_⟩, ?_⟩
     · refine ⟨by omega, ?_, ?_⟩
       · rw [pair_stepE (by omega), ← hI2]; clear hI2 hI3 H; generalize l.getD k ([], []) = u at *; simp [*]
       · rw [cr_stepE (by omega), ← hI3]; clear hI2 hI3 H; generalize l.getD k ([], []) = u at *; simp [*]
     · first | (dsimp only; omega) | omega
    · --false
     refine G_drawS (fun w => w.cell? ⟨g9, 0, none⟩ = some (S ((l.getD k ([], [])).1)) ∧ w.cell? ⟨g1, 0, none⟩ = some (S nm) ∧ True) 20 20 (by kernel_rfl) (by kernel_rfl) H (fun w26 H => ?_)
     refine HL_takes [0, 1, 2] [(0, .slice B l.length d), (2, S stamp), (4, Pt g1 0), (7, .bool (((l.getD k ([], [])).1) == nm && ((l.getD k ([], [])).2) == sec)), (8, .bool false), (10, Pt g9 0), (23, .slice B l.length d), (24, .int .i64 (l.length : Int)), (25, .int .i64 (k : Int)), (36, .bool false), (37, Pt g9 0)] (mkL 20 [0, 1, 2]) 17 (by kernel_rfl) rfl (by kernel_rfl) (fun _ => by kernel_rfl) ⟨((H.blk_cell (i := 0) rfl 0).trans rfl), ((H.blk_cell (i := 1) rfl 0).trans rfl), trivial⟩ (fun β => ?_)
     refine HL_t (i := 3) (m := 16) (fun w hS => run_load1 (t := 9) (by kernel_rfl) hS.1) rfl (by kernel_rfl) (by kernel_rfl) (by kernel_rfl) (by kernel_rfl) (by kernel_rfl) (by kernel_rfl) ⟨((H.blk_cell (i := 0) rfl 0).trans rfl), ((H.blk_cell (i := 1) rfl 0).trans rfl), trivial⟩ rfl ?_
     refine HL_takes [4] [(0, .slice B l.length d), (2, S stamp), (4, Pt g1 0), (7, .bool (((l.getD k ([], [])).1) == nm && ((l.getD k ([], [])).2) == sec)), (8, .bool false), (10, Pt g9 0), (23, .slice B l.length d), (24, .int .i64 (l.length : Int)), (25, .int .i64 (k : Int)), (36, .bool false), (38, S ((l.getD k ([], [])).1)), (39, Pt g1 0)] (mkL 20 [0, 1, 2, 3, 4]) 15 (by kernel_rfl) rfl (by kernel_rfl) (fun _ => by kernel_rfl) ⟨((H.blk_cell (i := 0) rfl 0).trans rfl), ((H.blk_cell (i := 1) rfl 0).trans rfl), trivial⟩ (fun β => ?_)
     refine HL_t (i := 5) (m := 14) (fun w hS => run_load1 (t := 9) (by kernel_rfl) hS.2.1) rfl (by kernel_rfl) (by kernel_rfl) (by kernel_rfl) (by kernel_rfl) (by kernel_rfl) (by kernel_rfl) ⟨((H.blk_cell (i := 0) rfl 0).trans rfl), ((H.blk_cell (i := 1) rfl 0).trans rfl), trivial⟩ rfl ?_
     refine HL_t (i := 6) (m := 13) (fun w _ => (R_streqF (t := 9) (l := (l.getD k ([], [])).1) (m := nm) hq22)) rfl (by kernel_rfl) (by kernel_rfl) (by kernel_rfl) (by kernel_rfl) (by kernel_rfl) (by kernel_rfl) ⟨((H.blk_cell (i := 0) rfl 0).trans rfl), ((H.blk_cell (i := 1) rfl 0).trans rfl), trivial⟩ rfl ?_
     refine HL_takes [7, 8, 9, 10, 11, 12, 13, 14, 15, 16, 17, 18, 19] [(0, .slice B l.length d), (2, S stamp), (4, Pt g1 0), (7, .bool (((l.getD k ([], [])).1) == nm && ((l.getD k ([], [])).2) == sec)), (8, .bool false), (23, .slice B l.length d), (24, .int .i64 (l.length : Int)), (25, .int .i64 (k : Int))] (mkL 20 [0, 1, 2, 3, 4, 5, 6, 7, 8, 9, 10, 11, 12, 13, 14, 15, 16, 17, 18, 19]) 0 (by kernel_rfl) rfl (by kernel_rfl) (fun _ => by kernel_rfl) ⟨((H.blk_cell (i := 0) rfl 0).trans rfl), ((H.blk_cell (i := 1) rfl 0).trans rfl), trivial⟩ (fun β => ?_)
     refine HL_forget [(0, .slice B l.length d), (2, S stamp), (4, Pt g1 0), (7, .bool (((l.getD k ([], [])).1) == nm && ((l.getD k ([], [])).2) == sec)), (8, .bool false), (23, .slice B l.length d), (24, In l.length), (25, In k)] (by kernel_rfl) (fun β => ?_)
     refine HL_fin (by kernel_rfl) ?_
     refine inb_normal ?_
     refine thn_normal ?_
     refine G_region ?_
     refine GL_sr 2 2 [(0, .slice B l.length d), (2, S stamp), (4, Pt g1 0), (7, .bool (((l.getD k ([], [])).1) == nm && ((l.getD k ([], [])).2) == sec)), (8, .bool false), (23, .slice B l.length d), (24, In l.length), (25, In (k + 1))] (show ([.slice B l.length d, S stamp, Pt g1 0, .bool (((l.getD k ([], [])).1) == nm && ((l.getD k ([], [])).2) == sec), .bool false, .slice B l.length d, .int .i64 (l.length : Int), .int .i64 (IntKind.i64.wrap ((k : Int) + ((1 : Nat) : Int)))] : List Value) = [.slice B l.length d, S stamp, Pt g1 0, .bool (((l.getD k ([], [])).1) == nm && ((l.getD k ([], [])).2) == sec), .bool false, .slice B l.length d, In l.length, In (k + 1)] by rw [nadd64 k 1 (by omega)]) fun β => ?_
     refine GL_end (by kernel_rfl) ?_
     replace H := H.drop 0
     replace H : Sep w0 w26 (.blk g1 40 [S nm, S sec] :: F) := H
     refine thn_normal ⟨(k + 1, ((l.getD k ([], [])).1) == nm && ((l.getD k ([], [])).2) == sec, false), Agr_of_keys (by kernel_rfl), ⟨H, ?_⟩, ?_⟩
     · refine ⟨by omega, ?_, ?_⟩
       · rw [pair_stepE (by omega), ← hI2]; clear hI2 hI3 H; generalize l.getD k ([], []) = u at *; simp [*]
       · rw [cr_stepE (by omega), ← hI3]; clear hI2 hI3 H; generalize l.getD k ([], []) = u at *; simp [*]
     · first | (dsimp only; omega) | omega
 · --no
  replace h0 : ¬ (k < l.length) := of_decide_eq_false h0
  refine G_exit (thn_exit (thn_exit (inb_hit ?_)))
  refine thn_normal ?_
  refine G_seq ?_
  have hkl : k = l.length := by omega
  have hr1 : r1 = true := by rw [hI2, hkl, List.take_length]; exact hb1
  have hr2 : r2 = true := by rw [hI3, hkl, List.take_length]; exact hb2
  refine G_re [(0, .slice B l.length d), (2, S stamp), (4, Pt g1 0), (7, .bool true), (8, .bool true), (23, .slice B l.length d), (24, In l.length), (25, In k), (26, .bool (decide (k < l.length)))] (show ([.slice B l.length d, S stamp, Pt g1 0, .bool r1, .bool r2, .slice B l.length d, In l.length, In k, .bool (decide (k < l.length))] : List Value) = [.slice B l.length d, S stamp, Pt g1 0, .bool true, .bool true, .slice B l.length d, In l.length, In k, .bool (decide (k < l.length))] by rw [hr1, hr2]) (fun β => ?_)
  refine G_sr ?_
  refine GL_C (c_Mechs H) ?_
  rintro _ w28 ⟨g27, rfl, H⟩
  replace H : Sep w0 w28 (.blk g27 9 [S [80, 76, 65, 73, 78], S [76, 79, 71, 73, 78], S [67, 82, 65, 77, 45, 77, 68, 53]] :: .blk g1 40 [S nm, S sec] :: F) := H
  refine GL_st 2 3 [(0, .slice B l.length d), (2, S stamp), (4, Pt g1 0), (7, .bool true), (8, .bool true), (55, .slice (some ⟨g27, 0, none⟩) 3 3), (56, In 3), (57, In 0)] fun β => ?_
  refine G_block ?_
  refine G_un 4 ?_
  refine GU_step ?_
  refine G_forget [(0, .slice B l.length d), (2, S stamp), (4, Pt g1 0), (7, .bool true), (8, .bool true), (55, .slice (some ⟨g27, 0, none⟩) 3 3), (56, In 3), (57, In 0)] (by kernel_rfl) (fun β => ?_)
  replace H := H.front (i := 1) rfl
  replace H := H.front (i := 1) rfl
  replace H : Sep w0 w28 (.blk g27 9 [S [80, 76, 65, 73, 78], S [76, 79, 71, 73, 78], S [67, 82, 65, 77, 45, 77, 68, 53]] :: .blk g1 40 [S nm, S sec] :: F) := H
  refine G_sr ?_
  refine GL_st 1 1 [(0, .slice B l.length d), (2, S stamp), (4, Pt g1 0), (7, .bool true), (8, .bool true), (55, .slice (some ⟨g27, 0, none⟩) 3 3), (56, In 3), (57, In 0), (58, .bool true)] fun β => ?_
  refine G_seq ?_
  refine G_true (by kernel_rfl) ?_
  refine G_skip ?_
  refine thn_normal ?_
  refine G_seq ?_
  refine G_block ?_
  refine G_sr ?_
  refine GL_s 1 1 [(0, .slice B l.length d), (2, S stamp), (4, Pt g1 0), (7, .bool true), (8, .bool true), (55, .slice (some ⟨g27, 0, none⟩) 3 3), (56, In 3), (57, In 0), (59, Pt g27 0)] fun β => ?_
  refine GL_V (run_load1 (t := 9) (by kernel_rfl) ((H.blk_cell (i := 0) rfl 0).trans rfl)) ?_
  refine GL_st 1 3 [(0, .slice B l.length d), (2, S stamp), (4, Pt g1 0), (7, .bool true), (8, .bool true), (12, S [80, 76, 65, 73, 78]), (55, .slice (some ⟨g27, 0, none⟩) 3 3), (56, In 3), (57, In 0)] fun β => ?_
  refine G_sr ?_
  refine GL_V (run_loadN (t := 40) (vs := [S nm, S sec]) (by kernel_rfl) (by kernel_rfl) (H.blk_cells (i := 1) rfl 0 _ ⟨_, rfl⟩)) ?_
  refine GL_s 1 2 [(0, .slice B l.length d), (2, S stamp), (4, Pt g1 0), (7, .bool true), (8, .bool true), (12, S [80, 76, 65, 73, 78]), (55, .slice (some ⟨g27, 0, none⟩) 3 3), (56, In 3), (57, In 0), (62, .agg #[S nm, S sec]), (63, S [80, 76, 65, 73, 78])] fun β => ?_
  refine GL_C (c_Respond_plain nm sec [80, 76, 65, 73, 78] (by omega) (by omega) (by first | omega | decide) (by decide) hy H) ?_
  rintro _ w29 ⟨g30, rfl, H⟩
  replace H : Sep w0 w29 (.blk g30 80 [S nm, S sec, .iface 85 (.agg #[]), .bool true] :: .blk g27 9 [S [80, 76, 65, 73, 78], S [76, 79, 71, 73, 78], S [67, 82, 65, 77, 45, 77, 68, 53]] :: .blk g1 40 [S nm, S sec] :: F) := H
  refine GL_st 5 8 [(0, .slice B l.length d), (2, S stamp), (4, Pt g1 0), (7, .bool true), (8, .bool true), (12, S [80, 76, 65, 73, 78]), (13, .iface 75 (Pt g30 0)), (14, In 0), (55, .slice (some ⟨g27, 0, none⟩) 3 3), (56, In 3), (57, In 0)] fun β => ?_
  refine G_sr ?_
  refine GL_s 3 3 [(0, .slice B l.length d), (2, S stamp), (4, Pt g1 0), (7, .bool true), (8, .bool true), (12, S [80, 76, 65, 73, 78]), (13, .iface 75 (Pt g30 0)), (14, In 0), (55, .slice (some ⟨g27, 0, none⟩) 3 3), (56, In 3), (57, In 0), (68, .slice B l.length d), (69, S [80, 76, 65, 73, 78]), (70, S stamp)] fun β => ?_
  refine GL_C (c_Begin_plain T hT gT R hR gR l (by first | omega | (decide +kernel) | (simp only [List.length_nil]; omega) | (simp only [List.length_cons, List.length_nil]; omega)) hU [80, 76, 65, 73, 78] stamp ([] : List UInt8) (by first | omega | (decide +kernel) | (simp only [List.length_nil]; omega) | (simp only [List.length_cons, List.length_nil]; omega)) (by first | omega | (decide +kernel) | (simp only [List.length_nil]; omega) | (simp only [List.length_cons, List.length_nil]; omega)) (by first | omega | (decide +kernel) | (simp only [List.length_nil]; omega) | (simp only [List.length_cons, List.length_nil]; omega)) (by decide) (Rd.more RU (.cons _ (.cons _ (.cons _ (.refl _))))) H) ?_
  rintro _ w34 ⟨g31, A32, c33, rfl, H⟩
  replace H : Sep w0 w34 (.blk g31 58 [.slice A32 l.length c33, In 1, .iface 85 (.agg #[]), S ([] : List UInt8)] :: .row (.slice A32 l.length c33) 40 2 l.length (us l) :: .blk g30 80 [S nm, S sec, .iface 85 (.agg #[]), .bool true] :: .blk g27 9 [S [80, 76, 65, 73, 78], S [76, 79, 71, 73, 78], S [67, 82, 65, 77, 45, 77, 68, 53]] :: .blk g1 40 [S nm, S sec] :: F) := H
  refine GL_st 5 9 [(0, .slice B l.length d), (2, S stamp), (4, Pt g1 0), (7, .bool true), (8, .bool true), (12, S [80, 76, 65, 73, 78]), (13, .iface 75 (Pt g30 0)), (14, In 0), (15, Pt g31 0), (16, In 0), (55, .slice (some ⟨g27, 0, none⟩) 3 3), (56, In 3), (57, In 0)] fun β => ?_
  refine G_seq ?_
  refine G_sr ?_
  refine GL_s 9 9 [(0, .slice B l.length d), (2, S stamp), (4, Pt g1 0), (7, .bool true), (8, .bool true), (12, S [80, 76, 65, 73, 78]), (15, Pt g31 0), (55, .slice (some ⟨g27, 0, none⟩) 3 3), (56, In 3), (57, In 0), (80, .bool false), (81, Pt g31 0), (82, .iface 75 (Pt g30 0))] fun β => ?_
  replace H := H.front (i := 2) rfl
  replace H := H.front (i := 2) rfl
  replace H := H.front (i := 2) rfl
  replace H : Sep w0 w34 (.blk g31 58 [.slice A32 l.length c33, In 1, .iface 85 (.agg #[]), S ([] : List UInt8)] :: .row (.slice A32 l.length c33) 40 2 l.length (us l) :: .blk g30 80 [S nm, S sec, .iface 85 (.agg #[]), .bool true] :: .blk g27 9 [S [80, 76, 65, 73, 78], S [76, 79, 71, 73, 78], S [67, 82, 65, 77, 45, 77, 68, 53]] :: .blk g1 40 [S nm, S sec] :: F) := H
  refine GL_C (c_talk_plain_true T hT gT R hR gR l (by omega) hU nm sec stamp (by omega) (by omega) (by omega) true hz1 hz2 hb1 H) ?_
  rintro _ w35 ⟨rfl, H⟩
  replace H : Sep w0 w35 (.blk g31 58 [.slice A32 l.length c33, In 2, .iface 85 (.agg #[]), S nm] :: .row (.slice A32 l.length c33) 40 2 l.length (us l) :: .blk g30 80 [S nm, S sec, .nilIface, .bool true] :: .blk g27 9 [S [80, 76, 65, 73, 78], S [76, 79, 71, 73, 78], S [67, 82, 65, 77, 45, 77, 68, 53]] :: .blk g1 40 [S nm, S sec] :: F) := H
  refine GL_st 2 12 [(0, .slice B l.length d), (2, S stamp), (4, Pt g1 0), (7, .bool true), (8, .bool true), (12, S [80, 76, 65, 73, 78]), (15, Pt g31 0), (55, .slice (some ⟨g27, 0, none⟩) 3 3), (56, In 3), (57, In 0), (85, .bool false)] fun β => ?_
  refine G_false (by kernel_rfl) ?_
  refine G_skip ?_
  refine thn_normal ?_
  refine G_sr ?_
  refine GL_st 2 2 [(0, .slice B l.length d), (2, S stamp), (4, Pt g1 0), (7, .bool true), (8, .bool true), (12, S [80, 76, 65, 73, 78]), (15, Pt g31 0), (17, .bool true), (55, .slice (some ⟨g27, 0, none⟩) 3 3), (56, In 3), (57, In 0)] fun β => ?_
  refine G_seq ?_
  refine G_sr ?_
  refine GL_st 2 2 [(0, .slice B l.length d), (2, S stamp), (4, Pt g1 0), (7, .bool true), (8, .bool true), (15, Pt g31 0), (17, .bool true), (55, .slice (some ⟨g27, 0, none⟩) 3 3), (56, In 3), (57, In 0), (88, .bool false)] fun β => ?_
  refine G_false (by kernel_rfl) ?_
  refine G_skip ?_
  refine thn_normal ?_
  refine G_seq ?_
  refine G_drawS (fun w => w.cell? ⟨g1, 0, none⟩ = some (S nm) ∧ True) 31 31 (by kernel_rfl) (by kernel_rfl) H (fun w36 H => ?_)
  refine HL_takes [0, 3] [(0, .slice B l.length d), (2, S stamp), (4, Pt g1 0), (7, .bool true), (8, .bool true), (15, Pt g31 0), (17, .bool true), (55, .slice (some ⟨g27, 0, none⟩) 3 3), (56, .int .i64 ((3 : Nat) : Int)), (57, .int .i64 ((0 : Nat) : Int)), (90, Pt g31 0), (93, .bool true)] (mkL 31 [0, 3]) 29 (by kernel_rfl) rfl (by kernel_rfl) (fun _ => by kernel_rfl) ⟨((H.blk_cell (i := 4) rfl 0).trans rfl), trivial⟩ (fun β => ?_)
  replace H : Sep w0 w36 (.blk g31 58 [.slice A32 l.length c33, In 2, .iface 85 (.agg #[]), S nm] :: .row (.slice A32 l.length c33) 40 2 l.length (us l) :: .blk g30 80 [S nm, S sec, .nilIface, .bool true] :: .blk g27 9 [S [80, 76, 65, 73, 78], S [76, 79, 71, 73, 78], S [67, 82, 65, 77, 45, 77, 68, 53]] :: .blk g1 40 [S nm, S sec] :: F) := H
  refine HL_call (i := 1) (f := 9) (args := #[Pt g31 0]) rfl (by kernel_rfl) (by kernel_rfl) (by kernel_rfl) (by kernel_rfl) (c_State 2 (.slice A32 l.length c33) (.iface 85 (.agg #[])) (S nm) H) ?_
  rintro _ w37 ⟨rfl, H⟩
  refine ⟨(.inr ⟨((H.blk_cell (i := 4) rfl 0).trans rfl), trivial⟩), ?_⟩
  refine HL_takes [2, 4, 5, 6, 9] [(0, .slice B l.length d), (2, S stamp), (4, Pt g1 0), (7, .bool true), (8, .bool true), (15, Pt g31 0), (17, .bool true), (55, .slice (some ⟨g27, 0, none⟩) 3 3), (56, .int .i64 ((3 : Nat) : Int)), (57, .int .i64 ((0 : Nat) : Int)), (95, .bool false), (96, Pt g31 0), (99, .bool true)] (mkL 31 [0, 3, 1, 2, 4, 5, 6, 9]) 23 (by kernel_rfl) rfl (by kernel_rfl) (fun _ => by kernel_rfl) ⟨((H.blk_cell (i := 4) rfl 0).trans rfl), trivial⟩ (fun β => ?_)
  replace H : Sep w0 w37 (.blk g31 58 [.slice A32 l.length c33, In 2, .iface 85 (.agg #[]), S nm] :: .row (.slice A32 l.length c33) 40 2 l.length (us l) :: .blk g30 80 [S nm, S sec, .nilIface, .bool true] :: .blk g27 9 [S [80, 76, 65, 73, 78], S [76, 79, 71, 73, 78], S [67, 82, 65, 77, 45, 77, 68, 53]] :: .blk g1 40 [S nm, S sec] :: F) := H
  refine HL_call (i := 7) (f := 9) (args := #[Pt g31 0]) rfl (by kernel_rfl) (by kernel_rfl) (by kernel_rfl) (by kernel_rfl) (c_State 2 (.slice A32 l.length c33) (.iface 85 (.agg #[])) (S nm) H) ?_
  rintro _ w38 ⟨rfl, H⟩
  refine ⟨(.inr ⟨((H.blk_cell (i := 4) rfl 0).trans rfl), trivial⟩), ?_⟩
  refine HL_takes [8, 10, 11, 12, 13, 14, 15, 17] [(0, .slice B l.length d), (2, S stamp), (4, Pt g1 0), (7, .bool true), (8, .bool true), (15, Pt g31 0), (17, .bool true), (55, .slice (some ⟨g27, 0, none⟩) 3 3), (56, .int .i64 ((3 : Nat) : Int)), (57, .int .i64 ((0 : Nat) : Int)), (102, .bool false), (104, .bool true), (105, Pt g31 0), (107, Pt g1 0)] (mkL 31 [0, 3, 1, 2, 4, 5, 6, 9, 7, 8, 10, 11, 12, 13, 14, 15, 17]) 14 (by kernel_rfl) rfl (by kernel_rfl) (fun _ => by kernel_rfl) ⟨((H.blk_cell (i := 4) rfl 0).trans rfl), trivial⟩ (fun β => ?_)
  refine HL_t (i := 18) (m := 13) (fun w hS => run_load1 (t := 9) (by kernel_rfl) hS.1) rfl (by kernel_rfl) (by kernel_rfl) (by kernel_rfl) (by kernel_rfl) (by kernel_rfl) (by kernel_rfl) ⟨((H.blk_cell (i := 4) rfl 0).trans rfl), trivial⟩ rfl ?_
  replace H : Sep w0 w38 (.blk g31 58 [.slice A32 l.length c33, In 2, .iface 85 (.agg #[]), S nm] :: .row (.slice A32 l.length c33) 40 2 l.length (us l) :: .blk g30 80 [S nm, S sec, .nilIface, .bool true] :: .blk g27 9 [S [80, 76, 65, 73, 78], S [76, 79, 71, 73, 78], S [67, 82, 65, 77, 45, 77, 68, 53]] :: .blk g1 40 [S nm, S sec] :: F) := H
  refine HL_call (i := 16) (f := 10) (args := #[Pt g31 0]) rfl (by kernel_rfl) (by kernel_rfl) (by kernel_rfl) (by kernel_rfl) (c_User 2 (.slice A32 l.length c33) (.iface 85 (.agg #[])) nm H) ?_
  rintro _ w39 ⟨rfl, H⟩
  refine ⟨(.inr ⟨((H.blk_cell (i := 4) rfl 0).trans rfl), trivial⟩), ?_⟩
  refine HL_t (i := 19) (m := 11) (fun w _ => (R_strneF (t := 9) (l := nm) (m := nm) rfl)) rfl (by kernel_rfl) (by kernel_rfl) (by kernel_rfl) (by kernel_rfl) (by kernel_rfl) (by kernel_rfl) ⟨((H.blk_cell (i := 4) rfl 0).trans rfl), trivial⟩ rfl ?_
  refine HL_takes [20, 21, 22, 23, 24, 25, 26, 27, 28, 29, 30] [(0, .slice B l.length d), (2, S stamp), (4, Pt g1 0), (7, .bool true), (8, .bool true), (55, .slice (some ⟨g27, 0, none⟩) 3 3), (56, .int .i64 ((3 : Nat) : Int)), (57, .int .i64 ((0 : Nat) : Int)), (120, .bool false)] (mkL 31 [0, 3, 1, 2, 4, 5, 6, 9, 7, 8, 10, 11, 12, 13, 14, 15, 17, 18, 16, 19, 20, 21, 22, 23, 24, 25, 26, 27, 28, 29, 30]) 0 (by kernel_rfl) rfl (by kernel_rfl) (fun _ => by kernel_rfl) ⟨((H.blk_cell (i := 4) rfl 0).trans rfl), trivial⟩ (fun β => ?_)
  refine HL_forget [(0, .slice B l.length d), (2, S stamp), (4, Pt g1 0), (7, .bool true), (8, .bool true), (55, .slice (some ⟨g27, 0, none⟩) 3 3), (56, In 3), (57, In 0), (120, .bool false)] (by kernel_rfl) (fun β => ?_)
  refine HL_fin (by kernel_rfl) ?_
  refine thn_normal ?_
  refine G_false (by kernel_rfl) ?_
  refine G_skip ?_
  refine inb_normal ?_
  refine thn_normal ?_
  refine G_region ?_
  refine GL_st 2 2 [(0, .slice B l.length d), (2, S stamp), (4, Pt g1 0), (7, .bool true), (8, .bool true), (55, .slice (some ⟨g27, 0, none⟩) 3 3), (56, In 3), (57, In 1)] fun β => ?_
  refine GU_step ?_
  refine G_forget [(0, .slice B l.length d), (2, S stamp), (4, Pt g1 0), (7, .bool true), (8, .bool true), (55, .slice (some ⟨g27, 0, none⟩) 3 3), (56, In 3), (57, In 1)] (by kernel_rfl) (fun β => ?_)
  replace H := H.drop 2
  replace H := H.drop 1
  replace H := H.drop 0
  replace H := H.front (i := 1) rfl
  replace H := H.front (i := 1) rfl
  replace H : Sep w0 w39 (.blk g27 9 [S [80, 76, 65, 73, 78], S [76, 79, 71, 73, 78], S [67, 82, 65, 77, 45, 77, 68, 53]] :: .blk g1 40 [S nm, S sec] :: F) := H
  refine G_sr ?_
  refine GL_st 1 1 [(0, .slice B l.length d), (2, S stamp), (4, Pt g1 0), (7, .bool true), (8, .bool true), (55, .slice (some ⟨g27, 0, none⟩) 3 3), (56, In 3), (57, In 1), (58, .bool true)] fun β => ?_
  refine G_seq ?_
  refine G_true (by kernel_rfl) ?_
  refine G_skip ?_
  refine thn_normal ?_
  refine G_seq ?_
  refine G_block ?_
  refine G_sr ?_
  refine GL_s 1 1 [(0, .slice B l.length d), (2, S stamp), (4, Pt g1 0), (7, .bool true), (8, .bool true), (55, .slice (some ⟨g27, 0, none⟩) 3 3), (56, In 3), (57, In 1), (59, Pt g27 1)] fun β => ?_
  refine GL_V (run_load1 (t := 9) (by kernel_rfl) ((H.blk_cell (i := 0) rfl 1).trans rfl)) ?_
  refine GL_st 1 3 [(0, .slice B l.length d), (2, S stamp), (4, Pt g1 0), (7, .bool true), (8, .bool true), (12, S [76, 79, 71, 73, 78]), (55, .slice (some ⟨g27, 0, none⟩) 3 3), (56, In 3), (57, In 1)] fun β => ?_
  refine G_sr ?_
  refine GL_V (run_loadN (t := 40) (vs := [S nm, S sec]) (by kernel_rfl) (by kernel_rfl) (H.blk_cells (i := 1) rfl 0 _ ⟨_, rfl⟩)) ?_
  refine GL_s 1 2 [(0, .slice B l.length d), (2, S stamp), (4, Pt g1 0), (7, .bool true), (8, .bool true), (12, S [76, 79, 71, 73, 78]), (55, .slice (some ⟨g27, 0, none⟩) 3 3), (56, In 3), (57, In 1), (62, .agg #[S nm, S sec]), (63, S [76, 79, 71, 73, 78])] fun β => ?_
  refine GL_C (c_Respond_login nm sec [76, 79, 71, 73, 78] (by omega) (by omega) (by first | omega | decide) (by decide) hy H) ?_
  rintro _ w40 ⟨g41, rfl, H⟩
  replace H : Sep w0 w40 (.blk g41 80 [S nm, S sec, .iface 86 (.agg #[]), .bool false] :: .blk g27 9 [S [80, 76, 65, 73, 78], S [76, 79, 71, 73, 78], S [67, 82, 65, 77, 45, 77, 68, 53]] :: .blk g1 40 [S nm, S sec] :: F) := H
  refine GL_st 5 8 [(0, .slice B l.length d), (2, S stamp), (4, Pt g1 0), (7, .bool true), (8, .bool true), (12, S [76, 79, 71, 73, 78]), (13, .iface 75 (Pt g41 0)), (14, In 0), (55, .slice (some ⟨g27, 0, none⟩) 3 3), (56, In 3), (57, In 1)] fun β => ?_
  refine G_sr ?_
  refine GL_s 3 3 [(0, .slice B l.length d), (2, S stamp), (4, Pt g1 0), (7, .bool true), (8, .bool true), (12, S [76, 79, 71, 73, 78]), (13, .iface 75 (Pt g41 0)), (14, In 0), (55, .slice (some ⟨g27, 0, none⟩) 3 3), (56, In 3), (57, In 1), (68, .slice B l.length d), (69, S [76, 79, 71, 73, 78]), (70, S stamp)] fun β => ?_
  refine GL_C (c_Begin_login T hT gT R hR gR l (by first | omega | (decide +kernel) | (simp only [List.length_nil]; omega) | (simp only [List.length_cons, List.length_nil]; omega)) hU [76, 79, 71, 73, 78] stamp ([] : List UInt8) (by first | omega | (decide +kernel) | (simp only [List.length_nil]; omega) | (simp only [List.length_cons, List.length_nil]; omega)) (by first | omega | (decide +kernel) | (simp only [List.length_nil]; omega) | (simp only [List.length_cons, List.length_nil]; omega)) (by first | omega | (decide +kernel) | (simp only [List.length_nil]; omega) | (simp only [List.length_cons, List.length_nil]; omega)) (by decide) (Rd.more RU (.cons _ (.cons _ (.cons _ (.refl _))))) H) ?_
  rintro _ w45 ⟨g42, A43, c44, rfl, H⟩
  replace H : Sep w0 w45 (.blk g42 58 [.slice A43 l.length c44, In 1, .iface 86 (.agg #[]), S ([] : List UInt8)] :: .row (.slice A43 l.length c44) 40 2 l.length (us l) :: .blk g41 80 [S nm, S sec, .iface 86 (.agg #[]), .bool false] :: .blk g27 9 [S [80, 76, 65, 73, 78], S [76, 79, 71, 73, 78], S [67, 82, 65, 77, 45, 77, 68, 53]] :: .blk g1 40 [S nm, S sec] :: F) := H
  refine GL_st 5 9 [(0, .slice B l.length d), (2, S stamp), (4, Pt g1 0), (7, .bool true), (8, .bool true), (12, S [76, 79, 71, 73, 78]), (13, .iface 75 (Pt g41 0)), (14, In 0), (15, Pt g42 0), (16, In 0), (55, .slice (some ⟨g27, 0, none⟩) 3 3), (56, In 3), (57, In 1)] fun β => ?_
  refine G_seq ?_
  refine G_sr ?_
  refine GL_s 9 9 [(0, .slice B l.length d), (2, S stamp), (4, Pt g1 0), (7, .bool true), (8, .bool true), (12, S [76, 79, 71, 73, 78]), (15, Pt g42 0), (55, .slice (some ⟨g27, 0, none⟩) 3 3), (56, In 3), (57, In 1), (80, .bool false), (81, Pt g42 0), (82, .iface 75 (Pt g41 0))] fun β => ?_
  replace H := H.front (i := 2) rfl
  replace H := H.front (i := 2) rfl
  replace H := H.front (i := 2) rfl
  replace H : Sep w0 w45 (.blk g42 58 [.slice A43 l.length c44, In 1, .iface 86 (.agg #[]), S ([] : List UInt8)] :: .row (.slice A43 l.length c44) 40 2 l.length (us l) :: .blk g41 80 [S nm, S sec, .iface 86 (.agg #[]), .bool false] :: .blk g27 9 [S [80, 76, 65, 73, 78], S [76, 79, 71, 73, 78], S [67, 82, 65, 77, 45, 77, 68, 53]] :: .blk g1 40 [S nm, S sec] :: F) := H
  refine GL_C (c_talk_login_true T hT gT R hR gR l (by omega) hU nm sec stamp (by omega) (by omega) (by omega) false hz1 hz2 hb1 H) ?_
  rintro _ w46 ⟨rfl, H⟩
  replace H : Sep w0 w46 (.blk g42 58 [.slice A43 l.length c44, In 2, .iface 167 (.agg #[S nm]), S nm] :: .row (.slice A43 l.length c44) 40 2 l.length (us l) :: .blk g41 80 [S nm, S sec, .nilIface, .bool false] :: .blk g27 9 [S [80, 76, 65, 73, 78], S [76, 79, 71, 73, 78], S [67, 82, 65, 77, 45, 77, 68, 53]] :: .blk g1 40 [S nm, S sec] :: F) := H
  refine GL_st 2 12 [(0, .slice B l.length d), (2, S stamp), (4, Pt g1 0), (7, .bool true), (8, .bool true), (12, S [76, 79, 71, 73, 78]), (15, Pt g42 0), (55, .slice (some ⟨g27, 0, none⟩) 3 3), (56, In 3), (57, In 1), (85, .bool false)] fun β => ?_
  refine G_false (by kernel_rfl) ?_
  refine G_skip ?_
  refine thn_normal ?_
  refine G_sr ?_
  refine GL_st 2 2 [(0, .slice B l.length d), (2, S stamp), (4, Pt g1 0), (7, .bool true), (8, .bool true), (12, S [76, 79, 71, 73, 78]), (15, Pt g42 0), (17, .bool true), (55, .slice (some ⟨g27, 0, none⟩) 3 3), (56, In 3), (57, In 1)] fun β => ?_
  refine G_seq ?_
  refine G_sr ?_
  refine GL_st 2 2 [(0, .slice B l.length d), (2, S stamp), (4, Pt g1 0), (7, .bool true), (8, .bool true), (15, Pt g42 0), (17, .bool true), (55, .slice (some ⟨g27, 0, none⟩) 3 3), (56, In 3), (57, In 1), (88, .bool false)] fun β => ?_
  refine G_false (by kernel_rfl) ?_
  refine G_skip ?_
  refine thn_normal ?_
  refine G_seq ?_
  refine G_drawS (fun w => w.cell? ⟨g1, 0, none⟩ = some (S nm) ∧ True) 31 31 (by kernel_rfl) (by kernel_rfl) H (fun w47 H => ?_)
  refine HL_takes [0, 3] [(0, .slice B l.length d), (2, S stamp), (4, Pt g1 0), (7, .bool true), (8, .bool true), (15, Pt g42 0), (17, .bool true), (55, .slice (some ⟨g27, 0, none⟩) 3 3), (56, .int .i64 ((3 : Nat) : Int)), (57, .int .i64 ((1 : Nat) : Int)), (90, Pt g42 0), (93, .bool true)] (mkL 31 [0, 3]) 29 (by kernel_rfl) rfl (by kernel_rfl) (fun _ => by kernel_rfl) ⟨((H.blk_cell (i := 4) rfl 0).trans rfl), trivial⟩ (fun β => ?_)
  replace H : Sep w0 w47 (.blk g42 58 [.slice A43 l.length c44, In 2, .iface 167 (.agg #[S nm]), S nm] :: .row (.slice A43 l.length c44) 40 2 l.length (us l) :: .blk g41 80 [S nm, S sec, .nilIface, .bool false] :: .blk g27 9 [S [80, 76, 65, 73, 78], S [76, 79, 71, 73, 78], S [67, 82, 65, 77, 45, 77, 68, 53]] :: .blk g1 40 [S nm, S sec] :: F) := H
  refine HL_call (i := 1) (f := 9) (args := #[Pt g42 0]) rfl (by kernel_rfl) (by kernel_rfl) (by kernel_rfl) (by kernel_rfl) (c_State 2 (.slice A43 l.length c44) (.iface 167 (.agg #[S nm])) (S nm) H) ?_
  rintro _ w48 ⟨rfl, H⟩
  refine ⟨(.inr ⟨((H.blk_cell (i := 4) rfl 0).trans rfl), trivial⟩), ?_⟩
  refine HL_takes [2, 4, 5, 6, 9] [(0, .slice B l.length d), (2, S stamp), (4, Pt g1 0), (7, .bool true), (8, .bool true), (15, Pt g42 0), (17, .bool true), (55, .slice (some ⟨g27, 0, none⟩) 3 3), (56, .int .i64 ((3 : Nat) : Int)), (57, .int .i64 ((1 : Nat) : Int)), (95, .bool false), (96, Pt g42 0), (99, .bool true)] (mkL 31 [0, 3, 1, 2, 4, 5, 6, 9]) 23 (by kernel_rfl) rfl (by kernel_rfl) (fun _ => by kernel_rfl) ⟨((H.blk_cell (i := 4) rfl 0).trans rfl), trivial⟩ (fun β => ?_)
  replace H : Sep w0 w48 (.blk g42 58 [.slice A43 l.length c44, In 2, .iface 167 (.agg #[S nm]), S nm] :: .row (.slice A43 l.length c44) 40 2 l.length (us l) :: .blk g41 80 [S nm, S sec, .nilIface, .bool false] :: .blk g27 9 [S [80, 76, 65, 73, 78], S [76, 79, 71, 73, 78], S [67, 82, 65, 77, 45, 77, 68, 53]] :: .blk g1 40 [S nm, S sec] :: F) := H
  refine HL_call (i := 7) (f := 9) (args := #[Pt g42 0]) rfl (by kernel_rfl) (by kernel_rfl) (by kernel_rfl) (by kernel_rfl) (c_State 2 (.slice A43 l.length c44) (.iface 167 (.agg #[S nm])) (S nm) H) ?_
  rintro _ w49 ⟨rfl, H⟩
  refine ⟨(.inr ⟨((H.blk_cell (i := 4) rfl 0).trans rfl), trivial⟩), ?_⟩
  refine HL_takes [8, 10, 11, 12, 13, 14, 15, 17] [(0, .slice B l.length d), (2, S stamp), (4, Pt g1 0), (7, .bool true), (8, .bool true), (15, Pt g42 0), (17, .bool true), (55, .slice (some ⟨g27, 0, none⟩) 3 3), (56, .int .i64 ((3 : Nat) : Int)), (57, .int .i64 ((1 : Nat) : Int)), (102, .bool false), (104, .bool true), (105, Pt g42 0), (107, Pt g1 0)] (mkL 31 [0, 3, 1, 2, 4, 5, 6, 9, 7, 8, 10, 11, 12, 13, 14, 15, 17]) 14 (by kernel_rfl) rfl (by kernel_rfl) (fun _ => by kernel_rfl) ⟨((H.blk_cell (i := 4) rfl 0).trans rfl), trivial⟩ (fun β => ?_)
  refine HL_t (i := 18) (m := 13) (fun w hS => run_load1 (t := 9) (by kernel_rfl) hS.1) rfl (by kernel_rfl) (by kernel_rfl) (by kernel_rfl) (by kernel_rfl) (by kernel_rfl) (by kernel_rfl) ⟨((H.blk_cell (i := 4) rfl 0).trans rfl), trivial⟩ rfl ?_
  replace H : Sep w0 w49 (.blk g42 58 [.slice A43 l.length c44, In 2, .iface 167 (.agg #[S nm]), S nm] :: .row (.slice A43 l.length c44) 40 2 l.length (us l) :: .blk g41 80 [S nm, S sec, .nilIface, .bool false] :: .blk g27 9 [S [80, 76, 65, 73, 78], S [76, 79, 71, 73, 78], S [67, 82, 65, 77, 45, 77, 68, 53]] :: .blk g1 40 [S nm, S sec] :: F) := H
  refine HL_call (i := 16) (f := 10) (args := #[Pt g42 0]) rfl (by kernel_rfl) (by kernel_rfl) (by kernel_rfl) (by kernel_rfl) (c_User 2 (.slice A43 l.length c44) (.iface 167 (.agg #[S nm])) nm H) ?_
  rintro _ w50 ⟨rfl, H⟩
  refine ⟨(.inr ⟨((H.blk_cell (i := 4) rfl 0).trans rfl), trivial⟩), ?_⟩
  refine HL_t (i := 19) (m := 11) (fun w _ => (R_strneF (t := 9) (l := nm) (m := nm) rfl)) rfl (by kernel_rfl) (by kernel_rfl) (by kernel_rfl) (by kernel_rfl) (by kernel_rfl) (by kernel_rfl) ⟨((H.blk_cell (i := 4) rfl 0).trans rfl), trivial⟩ rfl ?_
  refine HL_takes [20, 21, 22, 23, 24, 25, 26, 27, 28, 29, 30] [(0, .slice B l.length d), (2, S stamp), (4, Pt g1 0), (7, .bool true), (8, .bool true), (55, .slice (some ⟨g27, 0, none⟩) 3 3), (56, .int .i64 ((3 : Nat) : Int)), (57, .int .i64 ((1 : Nat) : Int)), (120, .bool false)] (mkL 31 [0, 3, 1, 2, 4, 5, 6, 9, 7, 8, 10, 11, 12, 13, 14, 15, 17, 18, 16, 19, 20, 21, 22, 23, 24, 25, 26, 27, 28, 29, 30]) 0 (by kernel_rfl) rfl (by kernel_rfl) (fun _ => by kernel_rfl) ⟨((H.blk_cell (i := 4) rfl 0).trans rfl), trivial⟩ (fun β => ?_)
  refine HL_forget [(0, .slice B l.length d), (2, S stamp), (4, Pt g1 0), (7, .bool true), (8, .bool true), (55, .slice (some ⟨g27, 0, none⟩) 3 3), (56, In 3), (57, In 1), (120, .bool false)] (by kernel_rfl) (fun β => ?_)
  refine HL_fin (by kernel_rfl) ?_
  refine thn_normal ?_
  refine G_false (by kernel_rfl) ?_
  refine G_skip ?_
  refine inb_normal ?_
  refine thn_normal ?_
  refine G_region ?_
  refine GL_st 2 2 [(0, .slice B l.length d), (2, S stamp), (4, Pt g1 0), (7, .bool true), (8, .bool true), (55, .slice (some ⟨g27, 0, none⟩) 3 3), (56, In 3), (57, In 2)] fun β => ?_
  refine GU_step ?_
  refine G_forget [(0, .slice B l.length d), (2, S stamp), (4, Pt g1 0), (7, .bool true), (8, .bool true), (55, .slice (some ⟨g27, 0, none⟩) 3 3), (56, In 3), (57, In 2)] (by kernel_rfl) (fun β => ?_)
  replace H := H.drop 2
  replace H := H.drop 1
  replace H := H.drop 0
  replace H := H.front (i := 1) rfl
  replace H := H.front (i := 1) rfl
  replace H : Sep w0 w50 (.blk g27 9 [S [80, 76, 65, 73, 78], S [76, 79, 71, 73, 78], S [67, 82, 65, 77, 45, 77, 68, 53]] :: .blk g1 40 [S nm, S sec] :: F) := H
  refine G_sr ?_
  refine GL_st 1 1 [(0, .slice B l.length d), (2, S stamp), (4, Pt g1 0), (7, .bool true), (8, .bool true), (55, .slice (some ⟨g27, 0, none⟩) 3 3), (56, In 3), (57, In 2), (58, .bool true)] fun β => ?_
  refine G_seq ?_
  refine G_true (by kernel_rfl) ?_
  refine G_skip ?_
  refine thn_normal ?_
  refine G_seq ?_
  refine G_block ?_
  refine G_sr ?_
  refine GL_s 1 1 [(0, .slice B l.length d), (2, S stamp), (4, Pt g1 0), (7, .bool true), (8, .bool true), (55, .slice (some ⟨g27, 0, none⟩) 3 3), (56, In 3), (57, In 2), (59, Pt g27 2)] fun β => ?_
  refine GL_V (run_load1 (t := 9) (by kernel_rfl) ((H.blk_cell (i := 0) rfl 2).trans rfl)) ?_
  refine GL_st 1 3 [(0, .slice B l.length d), (2, S stamp), (4, Pt g1 0), (7, .bool true), (8, .bool true), (12, S [67, 82, 65, 77, 45, 77, 68, 53]), (55, .slice (some ⟨g27, 0, none⟩) 3 3), (56, In 3), (57, In 2)] fun β => ?_
  refine G_sr ?_
  refine GL_V (run_loadN (t := 40) (vs := [S nm, S sec]) (by kernel_rfl) (by kernel_rfl) (H.blk_cells (i := 1) rfl 0 _ ⟨_, rfl⟩)) ?_
  refine GL_s 1 2 [(0, .slice B l.length d), (2, S stamp), (4, Pt g1 0), (7, .bool true), (8, .bool true), (12, S [67, 82, 65, 77, 45, 77, 68, 53]), (55, .slice (some ⟨g27, 0, none⟩) 3 3), (56, In 3), (57, In 2), (62, .agg #[S nm, S sec]), (63, S [67, 82, 65, 77, 45, 77, 68, 53])] fun β => ?_
  refine GL_C (c_Respond_cram nm sec [67, 82, 65, 77, 45, 77, 68, 53] (by omega) (by omega) (by first | omega | decide) (by decide) hy H) ?_
  rintro _ w51 ⟨g52, rfl, H⟩
  replace H : Sep w0 w51 (.blk g52 80 [S nm, S sec, .iface 60 (.agg #[S ([] : List UInt8)]), .bool false] :: .blk g27 9 [S [80, 76, 65, 73, 78], S [76, 79, 71, 73, 78], S [67, 82, 65, 77, 45, 77, 68, 53]] :: .blk g1 40 [S nm, S sec] :: F) := H
  refine GL_st 5 8 [(0, .slice B l.length d), (2, S stamp), (4, Pt g1 0), (7, .bool true), (8, .bool true), (12, S [67, 82, 65, 77, 45, 77, 68, 53]), (13, .iface 75 (Pt g52 0)), (14, In 0), (55, .slice (some ⟨g27, 0, none⟩) 3 3), (56, In 3), (57, In 2)] fun β => ?_
  refine G_sr ?_
  refine GL_s 3 3 [(0, .slice B l.length d), (2, S stamp), (4, Pt g1 0), (7, .bool true), (8, .bool true), (12, S [67, 82, 65, 77, 45, 77, 68, 53]), (13, .iface 75 (Pt g52 0)), (14, In 0), (55, .slice (some ⟨g27, 0, none⟩) 3 3), (56, In 3), (57, In 2), (68, .slice B l.length d), (69, S [67, 82, 65, 77, 45, 77, 68, 53]), (70, S stamp)] fun β => ?_
  refine GL_C (c_Begin_cram T hT gT R hR gR l (by first | omega | (decide +kernel) | (simp only [List.length_nil]; omega) | (simp only [List.length_cons, List.length_nil]; omega)) hU [67, 82, 65, 77, 45, 77, 68, 53] stamp ([] : List UInt8) (by first | omega | (decide +kernel) | (simp only [List.length_nil]; omega) | (simp only [List.length_cons, List.length_nil]; omega)) (by first | omega | (decide +kernel) | (simp only [List.length_nil]; omega) | (simp only [List.length_cons, List.length_nil]; omega)) (by first | omega | (decide +kernel) | (simp only [List.length_nil]; omega) | (simp only [List.length_cons, List.length_nil]; omega)) (by decide) (Rd.more RU (.cons _ (.cons _ (.cons _ (.refl _))))) H) ?_
  rintro _ w56 ⟨g53, A54, c55, rfl, H⟩
  replace H : Sep w0 w56 (.blk g53 58 [.slice A54 l.length c55, In 1, .iface 60 (.agg #[S stamp]), S ([] : List UInt8)] :: .row (.slice A54 l.length c55) 40 2 l.length (us l) :: .blk g52 80 [S nm, S sec, .iface 60 (.agg #[S ([] : List UInt8)]), .bool false] :: .blk g27 9 [S [80, 76, 65, 73, 78], S [76, 79, 71, 73, 78], S [67, 82, 65, 77, 45, 77, 68, 53]] :: .blk g1 40 [S nm, S sec] :: F) := H
  refine GL_st 5 9 [(0, .slice B l.length d), (2, S stamp), (4, Pt g1 0), (7, .bool true), (8, .bool true), (12, S [67, 82, 65, 77, 45, 77, 68, 53]), (13, .iface 75 (Pt g52 0)), (14, In 0), (15, Pt g53 0), (16, In 0), (55, .slice (some ⟨g27, 0, none⟩) 3 3), (56, In 3), (57, In 2)] fun β => ?_
  refine G_seq ?_
  refine G_sr ?_
  refine GL_s 9 9 [(0, .slice B l.length d), (2, S stamp), (4, Pt g1 0), (7, .bool true), (8, .bool true), (12, S [67, 82, 65, 77, 45, 77, 68, 53]), (15, Pt g53 0), (55, .slice (some ⟨g27, 0, none⟩) 3 3), (56, In 3), (57, In 2), (80, .bool false), (81, Pt g53 0), (82, .iface 75 (Pt g52 0))] fun β => ?_
  replace H := H.front (i := 2) rfl
  replace H := H.front (i := 2) rfl
  replace H := H.front (i := 2) rfl
  replace H : Sep w0 w56 (.blk g53 58 [.slice A54 l.length c55, In 1, .iface 60 (.agg #[S stamp]), S ([] : List UInt8)] :: .row (.slice A54 l.length c55) 40 2 l.length (us l) :: .blk g52 80 [S nm, S sec, .iface 60 (.agg #[S ([] : List UInt8)]), .bool false] :: .blk g27 9 [S [80, 76, 65, 73, 78], S [76, 79, 71, 73, 78], S [67, 82, 65, 77, 45, 77, 68, 53]] :: .blk g1 40 [S nm, S sec] :: F) := H
  refine GL_C (c_talk_cram_true T hT gT R hR gR l (by omega) hU nm sec stamp (by omega) (by omega) (by omega) false hz1 hz2 hb2 H) ?_
  rintro _ w57 ⟨rfl, H⟩
  replace H : Sep w0 w57 (.blk g53 58 [.slice A54 l.length c55, In 2, .iface 60 (.agg #[S stamp]), S nm] :: .row (.slice A54 l.length c55) 40 2 l.length (us l) :: .blk g52 80 [S nm, S sec, .nilIface, .bool false] :: .blk g27 9 [S [80, 76, 65, 73, 78], S [76, 79, 71, 73, 78], S [67, 82, 65, 77, 45, 77, 68, 53]] :: .blk g1 40 [S nm, S sec] :: F) := H
  refine GL_st 2 12 [(0, .slice B l.length d), (2, S stamp), (4, Pt g1 0), (7, .bool true), (8, .bool true), (12, S [67, 82, 65, 77, 45, 77, 68, 53]), (15, Pt g53 0), (55, .slice (some ⟨g27, 0, none⟩) 3 3), (56, In 3), (57, In 2), (85, .bool false)] fun β => ?_
  refine G_false (by kernel_rfl) ?_
  refine G_skip ?_
  refine thn_normal ?_
  refine G_sr ?_
  refine GL_st 2 2 [(0, .slice B l.length d), (2, S stamp), (4, Pt g1 0), (7, .bool true), (8, .bool true), (12, S [67, 82, 65, 77, 45, 77, 68, 53]), (15, Pt g53 0), (17, .bool true), (55, .slice (some ⟨g27, 0, none⟩) 3 3), (56, In 3), (57, In 2)] fun β => ?_
  refine G_seq ?_
  refine G_sr ?_
  refine GL_st 2 2 [(0, .slice B l.length d), (2, S stamp), (4, Pt g1 0), (7, .bool true), (8, .bool true), (15, Pt g53 0), (17, .bool true), (55, .slice (some ⟨g27, 0, none⟩) 3 3), (56, In 3), (57, In 2), (88, .bool true)] fun β => ?_
  refine G_true (by kernel_rfl) ?_
  refine G_region ?_
  refine GL_st 2 2 [(0, .slice B l.length d), (2, S stamp), (4, Pt g1 0), (7, .bool true), (8, .bool true), (15, Pt g53 0), (17, .bool true), (55, .slice (some ⟨g27, 0, none⟩) 3 3), (56, In 3), (57, In 2)] fun β => ?_
  refine G_seq ?_
  refine G_drawS (fun w => w.cell? ⟨g1, 0, none⟩ = some (S nm) ∧ True) 31 31 (by kernel_rfl) (by kernel_rfl) H (fun w58 H => ?_)
  refine HL_takes [0, 3] [(0, .slice B l.length d), (2, S stamp), (4, Pt g1 0), (7, .bool true), (8, .bool true), (15, Pt g53 0), (17, .bool true), (55, .slice (some ⟨g27, 0, none⟩) 3 3), (56, .int .i64 ((3 : Nat) : Int)), (57, .int .i64 ((2 : Nat) : Int)), (90, Pt g53 0), (93, .bool true)] (mkL 31 [0, 3]) 29 (by kernel_rfl) rfl (by kernel_rfl) (fun _ => by kernel_rfl) ⟨((H.blk_cell (i := 4) rfl 0).trans rfl), trivial⟩ (fun β => ?_)
  replace H : Sep w0 w58 (.blk g53 58 [.slice A54 l.length c55, In 2, .iface 60 (.agg #[S stamp]), S nm] :: .row (.slice A54 l.length c55) 40 2 l.length (us l) :: .blk g52 80 [S nm, S sec, .nilIface, .bool false] :: .blk g27 9 [S [80, 76, 65, 73, 78], S [76, 79, 71, 73, 78], S [67, 82, 65, 77, 45, 77, 68, 53]] :: .blk g1 40 [S nm, S sec] :: F) := H
  refine HL_call (i := 1) (f := 9) (args := #[Pt g53 0]) rfl (by kernel_rfl) (by kernel_rfl) (by kernel_rfl) (by kernel_rfl) (c_State 2 (.slice A54 l.length c55) (.iface 60 (.agg #[S stamp])) (S nm) H) ?_
  rintro _ w59 ⟨rfl, H⟩
  refine ⟨(.inr ⟨((H.blk_cell (i := 4) rfl 0).trans rfl), trivial⟩), ?_⟩
  refine HL_takes [2, 4, 5, 6, 9] [(0, .slice B l.length d), (2, S stamp), (4, Pt g1 0), (7, .bool true), (8, .bool true), (15, Pt g53 0), (17, .bool true), (55, .slice (some ⟨g27, 0, none⟩) 3 3), (56, .int .i64 ((3 : Nat) : Int)), (57, .int .i64 ((2 : Nat) : Int)), (95, .bool false), (96, Pt g53 0), (99, .bool true)] (mkL 31 [0, 3, 1, 2, 4, 5, 6, 9]) 23 (by kernel_rfl) rfl (by kernel_rfl) (fun _ => by kernel_rfl) ⟨((H.blk_cell (i := 4) rfl 0).trans rfl), trivial⟩ (fun β => ?_)
  replace H : Sep w0 w59 (.blk g53 58 [.slice A54 l.length c55, In 2, .iface 60 (.agg #[S stamp]), S nm] :: .row (.slice A54 l.length c55) 40 2 l.length (us l) :: .blk g52 80 [S nm, S sec, .nilIface, .bool false] :: .blk g27 9 [S [80, 76, 65, 73, 78], S [76, 79, 71, 73, 78], S [67, 82, 65, 77, 45, 77, 68, 53]] :: .blk g1 40 [S nm, S sec] :: F) := H
  refine HL_call (i := 7) (f := 9) (args := #[Pt g53 0]) rfl (by kernel_rfl) (by kernel_rfl) (by kernel_rfl) (by kernel_rfl) (c_State 2 (.slice A54 l.length c55) (.iface 60 (.agg #[S stamp])) (S nm) H) ?_
  rintro _ w60 ⟨rfl, H⟩
  refine ⟨(.inr ⟨((H.blk_cell (i := 4) rfl 0).trans rfl), trivial⟩), ?_⟩
  refine HL_takes [8, 10, 11, 12, 13, 14, 15, 17] [(0, .slice B l.length d), (2, S stamp), (4, Pt g1 0), (7, .bool true), (8, .bool true), (15, Pt g53 0), (17, .bool true), (55, .slice (some ⟨g27, 0, none⟩) 3 3), (56, .int .i64 ((3 : Nat) : Int)), (57, .int .i64 ((2 : Nat) : Int)), (102, .bool false), (104, .bool true), (105, Pt g53 0), (107, Pt g1 0)] (mkL 31 [0, 3, 1, 2, 4, 5, 6, 9, 7, 8, 10, 11, 12, 13, 14, 15, 17]) 14 (by kernel_rfl) rfl (by kernel_rfl) (fun _ => by kernel_rfl) ⟨((H.blk_cell (i := 4) rfl 0).trans rfl), trivial⟩ (fun β => ?_)
  refine HL_t (i := 18) (m := 13) (fun w hS => run_load1 (t := 9) (by kernel_rfl) hS.1) rfl (by kernel_rfl) (by kernel_rfl) (by kernel_rfl) (by kernel_rfl) (by kernel_rfl) (by kernel_rfl) ⟨((H.blk_cell (i := 4) rfl 0).trans rfl), trivial⟩ rfl ?_
  replace H : Sep w0 w60 (.blk g53 58 [.slice A54 l.length c55, In 2, .iface 60 (.agg #[S stamp]), S nm] :: .row (.slice A54 l.length c55) 40 2 l.length (us l) :: .blk g52 80 [S nm, S sec, .nilIface, .bool false] :: .blk g27 9 [S [80, 76, 65, 73, 78], S [76, 79, 71, 73, 78], S [67, 82, 65, 77, 45, 77, 68, 53]] :: .blk g1 40 [S nm, S sec] :: F) := H
  refine HL_call (i := 16) (f := 10) (args := #[Pt g53 0]) rfl (by kernel_rfl) (by kernel_rfl) (by kernel_rfl) (by kernel_rfl) (c_User 2 (.slice A54 l.length c55) (.iface 60 (.agg #[S stamp])) nm H) ?_
  rintro _ w61 ⟨rfl, H⟩
  refine ⟨(.inr ⟨((H.blk_cell (i := 4) rfl 0).trans rfl), trivial⟩), ?_⟩
  refine HL_t (i := 19) (m := 11) (fun w _ => (R_strneF (t := 9) (l := nm) (m := nm) rfl)) rfl (by kernel_rfl) (by kernel_rfl) (by kernel_rfl) (by kernel_rfl) (by kernel_rfl) (by kernel_rfl) ⟨((H.blk_cell (i := 4) rfl 0).trans rfl), trivial⟩ rfl ?_
  refine HL_takes [20, 21, 22, 23, 24, 25, 26, 27, 28, 29, 30] [(0, .slice B l.length d), (2, S stamp), (4, Pt g1 0), (7, .bool true), (8, .bool true), (55, .slice (some ⟨g27, 0, none⟩) 3 3), (56, .int .i64 ((3 : Nat) : Int)), (57, .int .i64 ((2 : Nat) : Int)), (120, .bool false)] (mkL 31 [0, 3, 1, 2, 4, 5, 6, 9, 7, 8, 10, 11, 12, 13, 14, 15, 17, 18, 16, 19, 20, 21, 22, 23, 24, 25, 26, 27, 28, 29, 30]) 0 (by kernel_rfl) rfl (by kernel_rfl) (fun _ => by kernel_rfl) ⟨((H.blk_cell (i := 4) rfl 0).trans rfl), trivial⟩ (fun β => ?_)
  refine HL_forget [(0, .slice B l.length d), (2, S stamp), (4, Pt g1 0), (7, .bool true), (8, .bool true), (55, .slice (some ⟨g27, 0, none⟩) 3 3), (56, In 3), (57, In 2), (120, .bool false)] (by kernel_rfl) (fun β => ?_)
  refine HL_fin (by kernel_rfl) ?_
  refine thn_normal ?_
  refine G_false (by kernel_rfl) ?_
  refine G_skip ?_
  refine inb_normal ?_
  refine thn_normal ?_
  refine G_region ?_
  refine GL_st 2 2 [(0, .slice B l.length d), (2, S stamp), (4, Pt g1 0), (7, .bool true), (8, .bool true), (55, .slice (some ⟨g27, 0, none⟩) 3 3), (56, In 3), (57, In 3)] fun β => ?_
  refine GU_step ?_
  refine G_forget [(0, .slice B l.length d), (2, S stamp), (4, Pt g1 0), (7, .bool true), (8, .bool true), (55, .slice (some ⟨g27, 0, none⟩) 3 3), (56, In 3), (57, In 3)] (by kernel_rfl) (fun β => ?_)
  replace H := H.drop 2
  replace H := H.drop 1
  replace H := H.drop 0
  replace H := H.front (i := 1) rfl
  replace H := H.front (i := 1) rfl
  replace H : Sep w0 w61 (.blk g27 9 [S [80, 76, 65, 73, 78], S [76, 79, 71, 73, 78], S [67, 82, 65, 77, 45, 77, 68, 53]] :: .blk g1 40 [S nm, S sec] :: F) := H
  refine G_sr ?_
  refine GL_st 1 1 [(0, .slice B l.length d), (2, S stamp), (4, Pt g1 0), (7, .bool true), (8, .bool true), (55, .slice (some ⟨g27, 0, none⟩) 3 3), (56, In 3), (57, In 3), (58, .bool false)] fun β => ?_
  refine G_seq ?_
  refine G_false (by kernel_rfl) ?_
  refine G_exit (thn_exit (thn_exit (inb_hit ?_)))
  refine thn_normal ?_
  refine G_sr ?_
  refine GL_st 1 1 [(6, .bool true)] fun β => ?_
  refine G_ret ?_
  refine res1 (v := .bool true) rfl (by kernel_rfl) ?_
  replace H := H.drop 1
  replace H := H.drop 0
  replace H : Sep w0 w61 (F) := H
  exact ⟨rfl, H⟩
/-- posthorn/posthornlaw22.SaslOthers -/
theorem c_Others_true_false {w0 w : World} {F : List Chunk} (T : List UInt32) (hT : T.length = 64) (gT : Gl w0 0 (u32s T)) (R : List UInt8) (hR : R.length = 16) (gR : Gl w0 1 (bs R)) (l : List Str2) (hl : l.length ≤ 16777216) (hU : ∀ u ∈ l, u.1.length ≤ 549755813888 ∧ u.2.length ≤ 549755813888) (nm sec stamp : List UInt8) (hnm : nm.length ≤ 16777216) (hsec : sec.length ≤ 16777216) (hstamp : stamp.length ≤ 16777216) (hy : may2 nm sec = true) (hb1 : pairF l nm sec = true) (hb2 : crP T R l stamp nm (dgF T R sec stamp) = false) {B : Option Addr} {d : Nat} (RU : Rd w0 F (.slice B l.length d) 2 l.length (us l)) (H : Sep w0 w F) : Ret Tryd.prog 5 #[.slice B l.length d, .agg #[S nm, S sec], S stamp] w (fun v w' => v = .bool true ∧ Sep w0 w' F) := by
 have hz1 := may_zero (may2_l hy)
 have hz2 := may_zero (may2_r hy)
 refine Ret_enter (args := [.slice B l.length d, .agg #[S nm, S sec], S stamp]) Tryd.func5 rfl (by kernel_rfl) ?_
 refine G_forget [(0, .slice B l.length d), (1, .agg #[S nm, S sec]), (2, S stamp)] (by kernel_rfl) (fun β => ?_)
 refine G_sr ?_
 refine GL_new (V := fun g => Pt g 0) (l := [S nm, S sec]) (t := 40) H rfl (by kernel_rfl) (by kernel_rfl) (by kernel_rfl) (fun g1 w2 H => ?_)
 refine GL_st 1 2 [(0, .slice B l.length d), (2, S stamp), (4, Pt g1 0)] fun β => ?_
 refine G_seq ?_
 refine G_sr ?_
 refine GL_C (c_wakes T hT gT R hR gR H) ?_
 rintro _ w3 ⟨rfl, H⟩
 refine GL_st 1 2 [(0, .slice B l.length d), (2, S stamp), (4, Pt g1 0), (19, .bool false)] fun β => ?_
 refine G_false (by kernel_rfl) ?_
 refine G_skip ?_
 refine thn_normal ?_
 refine G_seq ?_
 refine G_sr ?_
 refine GL_V (run_loadN (t := 40) (vs := [S nm, S sec]) (by kernel_rfl) (by kernel_rfl) (H.blk_cells (i := 0) rfl 0 _ ⟨_, rfl⟩)) ?_
 refine GL_C (c_lmay nm sec (by omega) (by omega) H) ?_
 rintro _ w4 ⟨rfl, H⟩
 rw [may_eq, hy]
 refine GL_st 1 3 [(0, .slice B l.length d), (2, S stamp), (4, Pt g1 0), (22, .bool false)] fun β => ?_
 refine G_false (by kernel_rfl) ?_
 refine G_skip ?_
 refine thn_normal ?_
 refine G_sr ?_
 refine GL_st 1 1 [(0, .slice B l.length d), (2, S stamp), (4, Pt g1 0), (7, .bool false)] fun β => ?_
 refine G_sr ?_
 refine GL_st 1 1 [(0, .slice B l.length d), (2, S stamp), (4, Pt g1 0), (7, .bool false), (8, .bool false)] fun β => ?_
 refine G_seq ?_
 refine G_sr ?_
 refine GL_st 3 3 [(0, .slice B l.length d), (2, S stamp), (4, Pt g1 0), (7, .bool false), (8, .bool false), (23, .slice B l.length d), (24, In l.length), (25, In 0)] fun β => ?_
 refine G_block ?_
 refine G_loop (X := Nat × Bool × Bool) (fun ⟨k, r1, r2⟩ => [(0, .slice B l.length d), (2, S stamp), (4, Pt g1 0), (7, .bool r1), (8, .bool r2), (23, .slice B l.length d), (24, In l.length), (25, In k)]) (fun ⟨k, r1, r2⟩ w_ => Sep w0 w_ (.blk g1 40 [S nm, S sec] :: F) ∧ (k ≤ l.length ∧ r1 = pairF (l.take k) nm sec ∧ r2 = crP T R (l.take k) stamp nm (dgF T R sec stamp))) (fun ⟨k, r1, r2⟩ => l.length - k) (0, false, false) (by kernel_rfl) ⟨H, ⟨by omega, rfl, rfl⟩⟩ ?_
 rintro ⟨k, r1, r2⟩ β w5 ⟨H, hI⟩
 refine G_forget [(0, .slice B l.length d), (2, S stamp), (4, Pt g1 0), (7, .bool r1), (8, .bool r2), (23, .slice B l.length d), (24, In l.length), (25, In k)] (by kernel_rfl) (fun β => ?_)
 replace H : Sep w0 w5 (.blk g1 40 [S nm, S sec] :: F) := H
 replace hI : k ≤ l.length ∧ r1 = pairF (l.take k) nm sec ∧ r2 = crP T R (l.take k) stamp nm (dgF T R sec stamp) := hI
 obtain ⟨hI1, hI2, hI3⟩ := hI
 refine G_sr ?_
 refine GL_srt 1 1 [(0, .slice B l.length d), (2, S stamp), (4, Pt g1 0), (7, .bool r1), (8, .bool r2), (23, .slice B l.length d), (24, In l.length), (25, In k), (26, .bool (decide (k < l.length)))] (show ([.slice B l.length d, S stamp, Pt g1 0, .bool r1, .bool r2, .slice B l.length d, .int .i64 (l.length : Int), .int .i64 (k : Int), .bool (decide ((k : Int) < (l.length : Int)))] : List Value) = [.slice B l.length d, S stamp, Pt g1 0, .bool r1, .bool r2, .slice B l.length d, In l.length, In k, .bool (decide (k < l.length))] by rw [nlss k l.length]) fun β => ?_
 refine G_seq ?_
 refine G_cond (decide (k < l.length)) (by kernel_rfl) (fun h0 => ?_) (fun h0 => ?_)
 · --yes
  replace h0 : k < l.length := of_decide_eq_true h0
  refine G_skip ?_
  refine thn_normal ?_
  refine G_seq ?_
  refine G_block ?_
  have hu := hU _ (getD_mem (l := l) (k := k) (by omega))
  refine G_sr ?_
  obtain ⟨ad7, hr6, hc8⟩ := R_place (P := Tryd.prog) (t := 22) (e := 40) (i := k) (ki := .i64) RU (by omega) (by kernel_rfl) (by kernel_rfl)
  refine GL_V (hr6 _) ?_
  refine GL_V (run_loadN (t := 40) (vs := [S ((l.getD k ([], [])).1), S ((l.getD k ([], [])).2)]) (by kernel_rfl) (by kernel_rfl) (us_at hc8 (H.drop 0) (by omega))) ?_
  refine GL_new (V := fun g => Pt g 0) (l := [S ([] : List UInt8), S ([] : List UInt8)]) (t := 40) H rfl (by kernel_rfl) (by kernel_rfl) (by kernel_rfl) (fun g9 w10 H => ?_)
  obtain ⟨w11, hr12, H⟩ := R_store (P := Tryd.prog) (t := 40) (v := .agg #[S ((l.getD k ([], [])).1), S ((l.getD k ([], [])).2)]) (off := 0) H (i := 0) rfl (by kernel_rfl) (by kernel_rfl) (by kernel_rfl)
  replace H : Sep w0 w11 (.blk g9 40 [S ((l.getD k ([], [])).1), S ((l.getD k ([], [])).2)] :: .blk g1 40 [S nm, S sec] :: F) := H
  refine GL_U hr12 ?_
  refine GL_et ?_
  refine G_sr ?_
  refine GL_s 2 2 [(0, .slice B l.length d), (2, S stamp), (4, Pt g1 0), (8, .bool r2), (10, Pt g9 0), (23, .slice B l.length d), (24, In l.length), (25, In k), (30, .bool r1)] fun β => ?_
  rcases Bool.eq_false_or_eq_true (r1) with h1 | h1
  · --yes
   refine GL_re [(0, .slice B l.length d), (2, S stamp), (4, Pt g1 0), (8, .bool r2), (10, Pt g9 0), (23, .slice B l.length d), (24, In l.length), (25, In k), (30, .bool true)] (show ([.slice B l.length d, S stamp, Pt g1 0, .bool r2, Pt g9 0, .slice B l.length d, In l.length, In k, .bool r1] : List Value) = [.slice B l.length d, S stamp, Pt g1 0, .bool r2, Pt g9 0, .slice B l.length d, In l.length, In k, .bool true] by rw [h1]) (fun β => ?_)
   refine GL_st 5 7 [(0, .slice B l.length d), (2, S stamp), (4, Pt g1 0), (7, .bool true), (8, .bool r2), (10, Pt g9 0), (23, .slice B l.length d), (24, In l.length), (25, In k)] fun β => ?_
   rcases Bool.eq_false_or_eq_true (r2) with hq13 | hq13
   · --true
    refine G_re [(0, .slice B l.length d), (2, S stamp), (4, Pt g1 0), (7, .bool true), (8, .bool true), (10, Pt g9 0), (23, .slice B l.length d), (24, In l.length), (25, In k)] (show ([.slice B l.length d, S stamp, Pt g1 0, .bool true, .bool r2, Pt g9 0, .slice B l.length d, In l.length, In k] : List Value) = [.slice B l.length d, S stamp, Pt g1 0, .bool true, .bool true, Pt g9 0, .slice B l.length d, In l.length, In k] by rw [hq13]) (fun β => ?_)
    refine G_drawS (fun w => True) 20 20 (by kernel_rfl) (by kernel_rfl) H (fun w14 H => ?_)
    refine HL_takes [0, 1, 2, 3, 4, 5, 6, 7, 8, 9, 10, 11, 12, 13, 14, 15, 16, 17, 18, 19] [(0, .slice B l.length d), (2, S stamp), (4, Pt g1 0), (7, .bool true), (8, .bool true), (23, .slice B l.length d), (24, .int .i64 (l.length : Int)), (25, .int .i64 (k : Int))] (mkL 20 [0, 1, 2, 3, 4, 5, 6, 7, 8, 9, 10, 11, 12, 13, 14, 15, 16, 17, 18, 19]) 0 (by kernel_rfl) rfl (by kernel_rfl) (fun _ => by kernel_rfl) trivial (fun β => ?_)
    refine HL_forget [(0, .slice B l.length d), (2, S stamp), (4, Pt g1 0), (7, .bool true), (8, .bool true), (23, .slice B l.length d), (24, In l.length), (25, In k)] (by kernel_rfl) (fun β => ?_)
    refine HL_fin (by kernel_rfl) ?_
    refine inb_normal ?_
    refine thn_normal ?_
    refine G_region ?_
    refine GL_sr 2 2 [(0, .slice B l.length d), (2, S stamp), (4, Pt g1 0), (7, .bool true), (8, .bool true), (23, .slice B l.length d), (24, In l.length), (25, In (k + 1))] (show ([.slice B l.length d, S stamp, Pt g1 0, .bool true, .bool true, .slice B l.length d, .int .i64 (l.length : Int), .int .i64 (IntKind.i64.wrap ((k : Int) + ((1 : Nat) : Int)))] : List Value) = [.slice B l.length d, S stamp, Pt g1 0, .bool true, .bool true, .slice B l.length d, In l.length, In (k + 1)] by rw [nadd64 k 1 (by omega)]) fun β => ?_
    refine GL_end (by kernel_rfl) ?_
    replace H := H.drop 0
    replace H : Sep w0 w14 (.blk g1 40 [S nm, S sec] :: F) := H
    refine thn_normal ⟨(k + 1, true, true), Agr_of_keys (by kernel_rfl), ⟨H, ?_⟩, ?_⟩
    · refine ⟨by omega, ?_, ?_⟩
      · rw [pair_stepE (by omega), ← hI2]; clear hI2 hI3 H; generalize l.getD k ([], []) = u at *; simp [*]
      · rw [cr_stepE (by omega), ← hI3]; clear hI2 hI3 H; generalize l.getD k ([], []) = u at *; simp [*]
    · first | (dsimp only; omega) | omega
   · --false
    refine G_re [(0, .slice B l.length d), (2, S stamp), (4, Pt g1 0), (7, .bool true), (8, .bool false), (10, Pt g9 0), (23, .slice B l.length d), (24, In l.length), (25, In k)] (show ([.slice B l.length d, S stamp, Pt g1 0, .bool true, .bool r2, Pt g9 0, .slice B l.length d, In l.length, In k] : List Value) = [.slice B l.length d, S stamp, Pt g1 0, .bool true, .bool false, Pt g9 0, .slice B l.length d, In l.length, In k] by rw [hq13]) (fun β => ?_)
    by_cases hq15 : (l.getD k ([], [])).1 = nm
    · --true
     refine G_drawS (fun w => w.cell? ⟨g9, 0, none⟩ = some (S ((l.getD k ([], [])).1)) ∧ w.cell? ⟨g1, 0, none⟩ = some (S nm) ∧ w.cell? ⟨g9, 1, none⟩ = some (S ((l.getD k ([], [])).2)) ∧ w.cell? ⟨g1, 1, none⟩ = some (S sec) ∧ True) 20 20 (by kernel_rfl) (by kernel_rfl) H (fun w16 H => ?_)
     refine HL_takes [0, 1, 2] [(0, .slice B l.length d), (2, S stamp), (4, Pt g1 0), (7, .bool true), (8, .bool false), (10, Pt g9 0), (23, .slice B l.length d), (24, .int .i64 (l.length : Int)), (25, .int .i64 (k : Int)), (36, .bool false), (37, Pt g9 0)] (mkL 20 [0, 1, 2]) 17 (by kernel_rfl) rfl (by kernel_rfl) (fun _ => by kernel_rfl) ⟨((H.blk_cell (i := 0) rfl 0).trans rfl), ((H.blk_cell (i := 1) rfl 0).trans rfl), ((H.blk_cell (i := 0) rfl 1).trans rfl), ((H.blk_cell (i := 1) rfl 1).trans rfl), trivial⟩ (fun β => ?_)
     refine HL_t (i := 3) (m := 16) (fun w hS => run_load1 (t := 9) (by kernel_rfl) hS.1) rfl (by kernel_rfl) (by kernel_rfl) (by kernel_rfl) (by kernel_rfl) (by kernel_rfl) (by kernel_rfl) ⟨((H.blk_cell (i := 0) rfl 0).trans rfl), ((H.blk_cell (i := 1) rfl 0).trans rfl), ((H.blk_cell (i := 0) rfl 1).trans rfl), ((H.blk_cell (i := 1) rfl 1).trans rfl), trivial⟩ rfl ?_
     refine HL_takes [4] [(0, .slice B l.length d), (2, S stamp), (4, Pt g1 0), (7, .bool true), (8, .bool false), (10, Pt g9 0), (23, .slice B l.length d), (24, .int .i64 (l.length : Int)), (25, .int .i64 (k : Int)), (36, .bool false), (38, S ((l.getD k ([], [])).1)), (39, Pt g1 0)] (mkL 20 [0, 1, 2, 3, 4]) 15 (by kernel_rfl) rfl (by kernel_rfl) (fun _ => by kernel_rfl) ⟨((H.blk_cell (i := 0) rfl 0).trans rfl), ((H.blk_cell (i := 1) rfl 0).trans rfl), ((H.blk_cell (i := 0) rfl 1).trans rfl), ((H.blk_cell (i := 1) rfl 1).trans rfl), trivial⟩ (fun β => ?_)
     refine HL_t (i := 5) (m := 14) (fun w hS => run_load1 (t := 9) (by kernel_rfl) hS.2.1) rfl (by kernel_rfl) (by kernel_rfl) (by kernel_rfl) (by kernel_rfl) (by kernel_rfl) (by kernel_rfl) ⟨((H.blk_cell (i := 0) rfl 0).trans rfl), ((H.blk_cell (i := 1) rfl 0).trans rfl), ((H.blk_cell (i := 0) rfl 1).trans rfl), ((H.blk_cell (i := 1) rfl 1).trans rfl), trivial⟩ rfl ?_
     refine HL_t (i := 6) (m := 13) (fun w _ => (R_streqT (t := 9) (l := (l.getD k ([], [])).1) (m := nm) hq15)) rfl (by kernel_rfl) (by kernel_rfl) (by kernel_rfl) (by kernel_rfl) (by kernel_rfl) (by kernel_rfl) ⟨((H.blk_cell (i := 0) rfl 0).trans rfl), ((H.blk_cell (i := 1) rfl 0).trans rfl), ((H.blk_cell (i := 0) rfl 1).trans rfl), ((H.blk_cell (i := 1) rfl 1).trans rfl), trivial⟩ rfl ?_
     refine HL_takes [7, 8] [(0, .slice B l.length d), (2, S stamp), (4, Pt g1 0), (7, .bool true), (8, .bool false), (23, .slice B l.length d), (24, .int .i64 (l.length : Int)), (25, .int .i64 (k : Int)), (36, .bool false), (42, .bool true), (43, Pt g9 1)] (mkL 20 [0, 1, 2, 3, 4, 5, 6, 7, 8]) 11 (by kernel_rfl) rfl (by kernel_rfl) (fun _ => by kernel_rfl) ⟨((H.blk_cell (i := 0) rfl 0).trans rfl), ((H.blk_cell (i := 1) rfl 0).trans rfl), ((H.blk_cell (i := 0) rfl 1).trans rfl), ((H.blk_cell (i := 1) rfl 1).trans rfl), trivial⟩ (fun β => ?_)
     refine HL_t (i := 9) (m := 10) (fun w hS => run_load1 (t := 9) (by kernel_rfl) hS.2.2.1) rfl (by kernel_rfl) (by kernel_rfl) (by kernel_rfl) (by kernel_rfl) (by kernel_rfl) (by kernel_rfl) ⟨((H.blk_cell (i := 0) rfl 0).trans rfl), ((H.blk_cell (i := 1) rfl 0).trans rfl), ((H.blk_cell (i := 0) rfl 1).trans rfl), ((H.blk_cell (i := 1) rfl 1).trans rfl), trivial⟩ rfl ?_
     refine HL_takes [10, 12] [(0, .slice B l.length d), (2, S stamp), (4, Pt g1 0), (7, .bool true), (8, .bool false), (23, .slice B l.length d), (24, .int .i64 (l.length : Int)), (25, .int .i64 (k : Int)), (36, .bool false), (42, .bool true), (44, S ((l.getD k ([], [])).2)), (45, S stamp), (47, Pt g1 1)] (mkL 20 [0, 1, 2, 3, 4, 5, 6, 7, 8, 9, 10, 12]) 8 (by kernel_rfl) rfl (by kernel_rfl) (fun _ => by kernel_rfl) ⟨((H.blk_cell (i := 0) rfl 0).trans rfl), ((H.blk_cell (i := 1) rfl 0).trans rfl), ((H.blk_cell (i := 0) rfl 1).trans rfl), ((H.blk_cell (i := 1) rfl 1).trans rfl), trivial⟩ (fun β => ?_)
     refine HL_t (i := 13) (m := 7) (fun w hS => run_load1 (t := 9) (by kernel_rfl) hS.2.2.2.1) rfl (by kernel_rfl) (by kernel_rfl) (by kernel_rfl) (by kernel_rfl) (by kernel_rfl) (by kernel_rfl) ⟨((H.blk_cell (i := 0) rfl 0).trans rfl), ((H.blk_cell (i := 1) rfl 0).trans rfl), ((H.blk_cell (i := 0) rfl 1).trans rfl), ((H.blk_cell (i := 1) rfl 1).trans rfl), trivial⟩ rfl ?_
     refine HL_takes [14] [(0, .slice B l.length d), (2, S stamp), (4, Pt g1 0), (7, .bool true), (8, .bool false), (23, .slice B l.length d), (24, .int .i64 (l.length : Int)), (25, .int .i64 (k : Int)), (36, .bool false), (42, .bool true), (44, S ((l.getD k ([], [])).2)), (45, S stamp), (48, S sec), (49, S stamp)] (mkL 20 [0, 1, 2, 3, 4, 5, 6, 7, 8, 9, 10, 12, 13, 14]) 6 (by kernel_rfl) rfl (by kernel_rfl) (fun _ => by kernel_rfl) ⟨((H.blk_cell (i := 0) rfl 0).trans rfl), ((H.blk_cell (i := 1) rfl 0).trans rfl), ((H.blk_cell (i := 0) rfl 1).trans rfl), ((H.blk_cell (i := 1) rfl 1).trans rfl), trivial⟩ (fun β => ?_)
     refine HL_call (i := 11) (f := 17) (args := #[S ((l.getD k ([], [])).2), S stamp]) rfl (by kernel_rfl) (by kernel_rfl) (by kernel_rfl) (by kernel_rfl) (c_ldigest T hT gT R hR gR ((l.getD k ([], [])).2) stamp (by omega) (by omega) H) ?_
     rintro _ w17 ⟨rfl, H⟩
     refine ⟨(.inr ⟨((H.blk_cell (i := 0) rfl 0).trans rfl), ((H.blk_cell (i := 1) rfl 0).trans rfl), ((H.blk_cell (i := 0) rfl 1).trans rfl), ((H.blk_cell (i := 1) rfl 1).trans rfl), trivial⟩), ?_⟩
     refine HL_call (i := 15) (f := 17) (args := #[S sec, S stamp]) rfl (by kernel_rfl) (by kernel_rfl) (by kernel_rfl) (by kernel_rfl) (c_ldigest T hT gT R hR gR sec stamp (by omega) (by omega) H) ?_
     rintro _ w18 ⟨rfl, H⟩
     refine ⟨(.inr ⟨((H.blk_cell (i := 0) rfl 0).trans rfl), ((H.blk_cell (i := 1) rfl 0).trans rfl), ((H.blk_cell (i := 0) rfl 1).trans rfl), ((H.blk_cell (i := 1) rfl 1).trans rfl), trivial⟩), ?_⟩
     refine HL_t (i := 16) (m := 3) (fun w _ => (R_streq (t := 9) (l := (dgF T R ((l.getD k ([], [])).2) stamp)) (m := (dgF T R sec stamp)))) rfl (by kernel_rfl) (by kernel_rfl) (by kernel_rfl) (by kernel_rfl) (by kernel_rfl) (by kernel_rfl) ⟨((H.blk_cell (i := 0) rfl 0).trans rfl), ((H.blk_cell (i := 1) rfl 0).trans rfl), ((H.blk_cell (i := 0) rfl 1).trans rfl), ((H.blk_cell (i := 1) rfl 1).trans rfl), trivial⟩ rfl ?_
     refine HL_takes [17, 18, 19] [(0, .slice B l.length d), (2, S stamp), (4, Pt g1 0), (7, .bool true), (8, .bool ((dgF T R ((l.getD k ([], [])).2) stamp) == (dgF T R sec stamp))), (23, .slice B l.length d), (24, .int .i64 (l.length : Int)), (25, .int .i64 (k : Int))] (mkL 20 [0, 1, 2, 3, 4, 5, 6, 7, 8, 9, 10, 12, 13, 14, 11, 15, 16, 17, 18, 19]) 0 (by kernel_rfl) rfl (by kernel_rfl) (fun _ => by kernel_rfl) ⟨((H.blk_cell (i := 0) rfl 0).trans rfl), ((H.blk_cell (i := 1) rfl 0).trans rfl), ((H.blk_cell (i := 0) rfl 1).trans rfl), ((H.blk_cell (i := 1) rfl 1).trans rfl), trivial⟩ (fun β => ?_)
     refine HL_forget [(0, .slice B l.length d), (2, S stamp), (4, Pt g1 0), (7, .bool true), (8, .bool ((dgF T R ((l.getD k ([], [])).2) stamp) == (dgF T R sec stamp))), (23, .slice B l.length d), (24, In l.length), (25, In k)] (by kernel_rfl) (fun β => ?_)
     refine HL_fin (by kernel_rfl) ?_
     refine inb_normal ?_
     refine thn_normal ?_
     refine G_region ?_
     refine GL_sr 2 2 [(0, .slice B l.length d), (2, S stamp), (4, Pt g1 0), (7, .bool true), (8, .bool ((dgF T R ((l.getD k ([], [])).2) stamp) == (dgF T R sec stamp))), (23, .slice B l.length d), (24, In l.length), (25, In (k + 1))] (show ([.slice B l.length d, S stamp, Pt g1 0, .bool true, .bool ((dgF T R ((l.getD k ([], [])).2) stamp) == (dgF T R sec stamp)), .slice B l.length d, .int .i64 (l.length : Int), .int .i64 (IntKind.i64.wrap ((k : Int) + ((1 : Nat) : Int)))] : List Value) = [.slice B l.length d, S stamp, Pt g1 0, .bool true, .bool ((dgF T R ((l.getD k ([], [])).2) stamp) == (dgF T R sec stamp)), .slice B l.length d, In l.length, In (k + 1)] by rw [nadd64 k 1 (by omega)]) fun β => ?_
     refine GL_end (by kernel_rfl) ?_
     replace H := H.drop 0
     replace H : Sep w0 w18 (.blk g1 40 [S nm, S sec] :: F) := H
     refine thn_normal ⟨(k + 1, true, (dgF T R ((l.getD k ([], [])).2) stamp) == (dgF T R sec stamp)), Agr_of_keys (by kernel_rfl), ⟨H, ?_⟩, ?_⟩
     · refine ⟨by omega, ?_, ?_⟩
       · rw [pair_stepE (by omega), ← hI2]; clear hI2 hI3 H; generalize l.getD k ([], []) = u at *; simp [*]
       · rw [cr_stepE (by omega), ← hI3]; clear hI2 hI3 H; generalize l.getD k ([], []) = u at *; simp [*]
     · first | (dsimp only; omega) | omega
    · --false
     refine G_drawS (fun w => w.cell? ⟨g9, 0, none⟩ = some (S ((l.getD k ([], [])).1)) ∧ w.cell? ⟨g1, 0, none⟩ = some (S nm) ∧ True) 20 20 (by kernel_rfl) (by kernel_rfl) H (fun w19 H => ?_)
     refine HL_takes [0, 1, 2] [(0, .slice B l.length d), (2, S stamp), (4, Pt g1 0), (7, .bool true), (8, .bool false), (10, Pt g9 0), (23, .slice B l.length d), (24, .int .i64 (l.length : Int)), (25, .int .i64 (k : Int)), (36, .bool false), (37, Pt g9 0)] (mkL 20 [0, 1, 2]) 17 (by kernel_rfl) rfl (by kernel_rfl) (fun _ => by kernel_rfl) ⟨((H.blk_cell (i := 0) rfl 0).trans rfl), ((H.blk_cell (i := 1) rfl 0).trans rfl), trivial⟩ (fun β => ?_)
     refine HL_t (i := 3) (m := 16) (fun w hS => run_load1 (t := 9) (by kernel_rfl) hS.1) rfl (by kernel_rfl) (by kernel_rfl) (by kernel_rfl) (by kernel_rfl) (by kernel_rfl) (by kernel_rfl) ⟨((H.blk_cell (i := 0) rfl 0).trans rfl), ((H.blk_cell (i := 1) rfl 0).trans rfl), trivial⟩ rfl ?_
     refine HL_takes [4] [(0, .slice B l.length d), (2, S stamp), (4, Pt g1 0), (7, .bool true), (8, .bool false), (10, Pt g9 0), (23, .slice B l.length d), (24, .int .i64 (l.length : Int)), (25, .int .i64 (k : Int)), (36, .bool false), (38, S ((l.getD k ([], [])).1)), (39, Pt g1 0)] (mkL 20 [0, 1, 2, 3, 4]) 15 (by kernel_rfl) rfl (by kernel_rfl) (fun _ => by kernel_rfl) ⟨((H.blk_cell (i := 0) rfl 0).trans rfl), ((H.blk_cell (i := 1) rfl 0).trans rfl), trivial⟩ (fun β => ?_)
     refine HL_t (i := 5) (m := 14) (fun w hS => run_load1 (t := 9) (by kernel_rfl) hS.2.1) rfl (by kernel_rfl) (by kernel_rfl) (by kernel_rfl) (by kernel_rfl) (by kernel_rfl) (by kernel_rfl) ⟨((H.blk_cell (i := 0) rfl 0).trans rfl), ((H.blk_cell (i := 1) rfl 0).trans rfl), trivial⟩ rfl ?_
     refine HL_t (i := 6) (m := 13) (fun w _ => (R_streqF (t := 9) (l := (l.getD k ([], [])).1) (m := nm) hq15)) rfl (by kernel_rfl) (by kernel_rfl) (by kernel_rfl) (by kernel_rfl) (by kernel_rfl) (by kernel_rfl) ⟨((H.blk_cell (i := 0) rfl 0).trans rfl), ((H.blk_cell (i := 1) rfl 0).trans rfl), trivial⟩ rfl ?_
     refine HL_takes [7, 8, 9, 10, 11, 12, 13, 14, 15, 16, 17, 18, 19] [(0, .slice B l.length d), (2, S stamp), (4, Pt g1 0), (7, .bool true), (8, .bool false), (23, .slice B l.length d), (24, .int .i64 (l.length : Int)), (25, .int .i64 (k : Int))] (mkL 20 [0, 1, 2, 3, 4, 5, 6, 7, 8, 9, 10, 11, 12, 13, 14, 15, 16, 17, 18, 19]) 0 (by kernel_rfl) rfl (by kernel_rfl) (fun _ => by kernel_rfl) ⟨((H.blk_cell (i := 0) rfl 0).trans rfl), ((H.blk_cell (i := 1) rfl 0).trans rfl), trivial⟩ (fun β => ?_)
     refine HL_forget [(0, .slice B l.length d), (2, S stamp), (4, Pt g1 0), (7, .bool true), (8, .bool false), (23, .slice B l.length d), (24, In l.length), (25, In k)] (by kernel_rfl) (fun β => ?_)
     refine HL_fin (by kernel_rfl) ?_
     refine inb_normal ?_
     refine thn_normal ?_
     refine G_region ?_
     refine GL_sr 2 2 [(0, .slice B l.length d), (2, S stamp), (4, Pt g1 0), (7, .bool true), (8, .bool false), (23, .slice B l.length d), (24, In l.length), (25, In (k + 1))] (show ([.slice B l.length d, S stamp, Pt g1 0, .bool true, .bool false, .slice B l.length d, .int .i64 (l.length : Int), .int .i64 (IntKind.i64.wrap ((k : Int) + ((1 : Nat) : Int)))] : List Value) = [.slice B l.length d, S stamp, Pt g1 0, .bool true, .bool false, .slice B l.length d, In l.length, In (k + 1)] by rw [nadd64 k 1 (by omega)]) fun β => ?_
     refine GL_end (by kernel_rfl) ?_
     replace H := H.drop 0
     replace H : Sep w0 w19 (.blk g1 40 [S nm, S sec] :: F) := H
     refine thn_normal ⟨(k + 1, true, false), Agr_of_keys (by kernel_rfl), ⟨H, ?_⟩, ?_⟩
     · refine ⟨by omega, ?_, ?_⟩
       · rw [pair_stepE (by omega), ← hI2]; clear hI2 hI3 H; generalize l.getD k ([], []) = u at *; simp [*]
       · rw [cr_stepE (by omega), ← hI3]; clear hI2 hI3 H; generalize l.getD k ([], []) = u at *; simp [*]
     · first | (dsimp only; omega) | omega
  · --no
   refine GL_re [(0, .slice B l.length d), (2, S stamp), (4, Pt g1 0), (8, .bool r2), (10, Pt g9 0), (23, .slice B l.length d), (24, In l.length), (25, In k), (30, .bool false)] (show ([.slice B l.length d, S stamp, Pt g1 0, .bool r2, Pt g9 0, .slice B l.length d, In l.length, In k, .bool r1] : List Value) = [.slice B l.length d, S stamp, Pt g1 0, .bool r2, Pt g9 0, .slice B l.length d, In l.length, In k, .bool false] by rw [h1]) (fun β => ?_)
   refine GL_V (run_loadN (t := 40) (vs := [S ((l.getD k ([], [])).1), S ((l.getD k ([], [])).2)]) (by kernel_rfl) (by kernel_rfl) (H.blk_cells (i := 0) rfl 0 _ ⟨_, rfl⟩)) ?_
   refine GL_V (run_loadN (t := 40) (vs := [S nm, S sec]) (by kernel_rfl) (by kernel_rfl) (H.blk_cells (i := 1) rfl 0 _ ⟨_, rfl⟩)) ?_
   refine GL_V (R_eq2 (t := 40) (a := (l.getD k ([], [])).1) (b := (l.getD k ([], [])).2) (c := nm) (d := sec) (by kernel_rfl)) ?_
   refine GL_st 2 7 [(0, .slice B l.length d), (2, S stamp), (4, Pt g1 0), (7, .bool (((l.getD k ([], [])).1) == nm && ((l.getD k ([], [])).2) == sec)), (8, .bool r2), (10, Pt g9 0), (23, .slice B l.length d), (24, In l.length), (25, In k)] fun β => ?_
   rcases Bool.eq_false_or_eq_true (r2) with hq20 | hq20
   · --true
    refine G_re [(0, .slice B l.length d), (2, S stamp), (4, Pt g1 0), (7, .bool (((l.getD k ([], [])).1) == nm && ((l.getD k ([], [])).2) == sec)), (8, .bool true), (10, Pt g9 0), (23, .slice B l.length d), (24, In l.length), (25, In k)] (show ([.slice B l.length d, S stamp, Pt g1 0, .bool (((l.getD k ([], [])).1) == nm && ((l.getD k ([], [])).2) == sec), .bool r2, Pt g9 0, .slice B l.length d, In l.length, In k] : List Value) = [.slice B l.length d, S stamp, Pt g1 0, .bool (((l.getD k ([], [])).1) == nm && ((l.getD k ([], [])).2) == sec), .bool true, Pt g9 0, .slice B l.length d, In l.length, In k] by rw [hq20]) (fun β => ?_)
    refine G_drawS (fun w => True) 20 20 (by kernel_rfl) (by kernel_rfl) H (fun w21 H => ?_)
    refine HL_takes [0, 1, 2, 3, 4, 5, 6, 7, 8, 9, 10, 11, 12, 13, 14, 15, 16, 17, 18, 19] [(0, .slice B l.length d), (2, S stamp), (4, Pt g1 0), (7, .bool (((l.getD k ([], [])).1) == nm && ((l.getD k ([], [])).2) == sec)), (8, .bool true), (23, .slice B l.length d), (24, .int .i64 (l.length : Int)), (25, .int .i64 (k : Int))] (mkL 20 [0, 1, 2, 3, 4, 5, 6, 7, 8, 9, 10, 11, 12, 13, 14, 15, 16, 17, 18, 19]) 0 (by kernel_rfl) rfl (by kernel_rfl) (fun _ => by kernel_rfl) trivial (fun β => ?_)
    refine HL_forget [(0, .slice B l.length d), (2, S stamp), (4, Pt g1 0), (7, .bool (((l.getD k ([], [])).1) == nm && ((l.getD k ([], [])).2) == sec)), (8, .bool true), (23, .slice B l.length d), (24, In l.length), (25, In k)] (by kernel_rfl) (fun β => ?_)
    refine HL_fin (by kernel_rfl) ?_
    refine inb_normal ?_
    refine thn_normal ?_
    refine G_region ?_
    refine GL_sr 2 2 [(0, .slice B l.length d), (2, S stamp), (4, Pt g1 0), (7, .bool (((l.getD k ([], [])).1) == nm && ((l.getD k ([], [])).2) == sec)), (8, .bool true), (23, .slice B l.length d), (24, In l.length), (25, In (k + 1))] (show ([.slice B l.length d, S stamp, Pt g1 0, .bool (((l.getD k ([], [])).1) == nm && ((l.getD k ([], [])).2) == sec), .bool true, .slice B l.length d, .int .i64 (l.length : Int), .int .i64 (IntKind.i64.wrap ((k : Int) + ((1 : Nat) : Int)))] : List Value) = [.slice B l.length d, S stamp, Pt g1 0, .bool (((l.getD k ([], [])).1) == nm && ((l.getD k ([], [])).2) == sec), .bool true, .slice B l.length d, In l.length, In (k + 1)] by rw [nadd64 k 1 (by omega)]) fun β => ?_
    refine GL_end (by kernel_rfl) ?_
    replace H := H.drop 0
    replace H : Sep w0 w21 (.blk g1 40 [S nm, S sec] :: F) := H
    refine thn_normal ⟨(k + 1, ((l.getD k ([], [])).1) == nm && ((l.getD k ([], [])).2) == sec, true), Agr_of_keys (by kernel_rfl), ⟨H, ?_⟩, ?_⟩
    · refine ⟨by omega, ?_, ?_⟩
      · rw [pair_stepE (by omega), ← hI2]; clear hI2 hI3 H; generalize l.getD k ([], []) = u at *; simp [*]
      · rw [cr_stepE (by omega), ← hI3]; clear hI2 hI3 H; generalize l.getD k ([], []) = u at *; simp [*]
    · first | (dsimp only; omega) | omega
   · --false
    refine G_re [(0, .slice B l.length d), (2, S stamp), (4, Pt g1 0), (7, .bool (((l.getD k ([], [])).1) == nm && ((l.getD k ([], [])).2) == sec)), (8, .bool false), (10, Pt g9 0), (23, .slice B l.length d), (24, In l.length), (25, In k)] (show ([.slice B l.length d, S stamp, Pt g1 0, .bool (((l.getD k ([], [])).1) == nm && ((l.getD k ([], [])).2) == sec), .bool r2, Pt g9 0, .slice B l.length d, In l.length, In k] : List Value) = [.slice B l.length d, S stamp, Pt g1 0, .bool (((l.getD k ([], [])).1) == nm && ((l.getD k ([], [])).2) == sec), .bool false, Pt g9 0, .slice B l.length d, In l.length, In k] by rw [hq20]) (fun β => ?_)
    by_cases hq22 : (l.getD k ([], [])).1 = nm
    · --true
     refine G_drawS (fun w => w.cell? ⟨g9, 0, none⟩ = some (S ((l.getD k ([], [])).1)) ∧ w.cell? ⟨g1, 0, none⟩ = some (S nm) ∧ w.cell? ⟨g9, 1, none⟩ = some (S ((l.getD k ([], [])).2)) ∧ w.cell? ⟨g1, 1, none⟩ = some (S sec) ∧ True) 20 20 (by kernel_rfl) (by kernel_rfl) H (fun w23 H => ?_)
     refine HL_takes [0, 1, 2] [(0, .slice B l.length d), (2, S stamp), (4, Pt g1 0), (7, .bool (((l.getD k ([], [])).1) == nm && ((l.getD k ([], [])).2) == sec)), (8, .bool false), (10, Pt g9 0), (23, .slice B l.length d), (24, .int .i64 (l.length : Int)), (25, .int .i64 (k : Int)), (36, .bool false), (37, Pt g9 0)] (mkL 20 [0, 1, 2]) 17 (by kernel_rfl) rfl (by kernel_rfl) (fun _ => by kernel_rfl) ⟨((H.blk_cell (i := 0) rfl 0).trans rfl), ((H.blk_cell (i := 1) rfl 0).trans rfl), ((H.blk_cell (i := 0) rfl 1).trans rfl), ((H.blk_cell (i := 1) rfl 1).trans rfl), trivial⟩ (fun β => ?_)
     refine HL_t (i := 3) (m := 16) (fun w hS => run_load1 (t := 9) (by kernel_rfl) hS.1) rfl (by kernel_rfl) (by kernel_rfl) (by kernel_rfl) (by kernel_rfl) (by kernel_rfl) (by kernel_rfl) ⟨((H.blk_cell (i := 0) rfl 0).trans rfl), ((H.blk_cell (i := 1) rfl 0).trans rfl), ((H.blk_cell (i := 0) rfl 1).trans rfl), ((H.blk_cell (i := 1) rfl 1).trans rfl), trivial⟩ rfl ?_
     refine HL_takes [4] [(0, .slice B l.length d), (2, S stamp), (4, Pt g1 0), (7, .bool (((l.getD k ([], [])).1) == nm && ((l.getD k ([], [])).2) == sec)), (8, .bool false), (10, Pt g9 0), (23, .slice B l.length d), (24, .int .i64 (l.length : Int)), (25, .int .i64 (k : Int)), (36, .bool false), (38, S ((l.getD k ([], [])).1)), (39, Pt g1 0)] (mkL 20 [0, 1, 2, 3, 4]) 15 (by kernel_rfl) rfl (by kernel_rfl) (fun _ => by kernel_rfl) ⟨((H.blk_cell (i := 0) rfl 0).trans rfl), ((H.blk_cell (i := 1) rfl 0).trans rfl), ((H.blk_cell (i := 0) rfl 1).trans rfl), ((H.blk_cell (i := 1) rfl 1).trans rfl), trivial⟩ (fun β => ?_)
     refine HL_t (i := 5) (m := 14) (fun w hS => run_load1 (t := 9) (by kernel_rfl) hS.2.1) rfl (by kernel_rfl) (by kernel_rfl) (by kernel_rfl) (by kernel_rfl) (by kernel_rfl) (by kernel_rfl) ⟨((H.blk_cell (i := 0) rfl 0).trans rfl), ((H.blk_cell (i := 1) rfl 0).trans rfl), ((H.blk_cell (i := 0) rfl 1).trans rfl), ((H.blk_cell (i := 1) rfl 1).trans rfl), trivial⟩ rfl ?_
     refine HL_t (i := 6) (m := 13) (fun w _ => (R_streqT (t := 9) (l := (l.getD k ([], [])).1) (m := nm) hq22)) rfl (by kernel_rfl) (by kernel_rfl) (by kernel_rfl) (by kernel_rfl) (by kernel_rfl) (by kernel_rfl) ⟨((H.blk_cell (i := 0) rfl 0).trans rfl), ((H.blk_cell (i := 1) rfl 0).trans rfl), ((H.blk_cell (i := 0) rfl 1).trans rfl), ((H.blk_cell (i := 1) rfl 1).trans rfl), trivial⟩ rfl ?_
     refine HL_takes [7, 8] [(0, .slice B l.length d), (2, S stamp), (4, Pt g1 0), (7, .bool (((l.getD k ([], [])).1) == nm && ((l.getD k ([], [])).2) == sec)), (8, .bool false), (23, .slice B l.length d), (24, .int .i64 (l.length : Int)), (25, .int .i64 (k : Int)), (36, .bool false), (42, .bool true), (43, Pt g9 1)] (mkL 20 [0, 1, 2, 3, 4, 5, 6, 7, 8]) 11 (by kernel_rfl) rfl (by kernel_rfl) (fun _ => by kernel_rfl) ⟨((H.blk_cell (i := 0) rfl 0).trans rfl), ((H.blk_cell (i := 1) rfl 0).trans rfl), ((H.blk_cell (i := 0) rfl 1).trans rfl), ((H.blk_cell (i := 1) rfl 1).trans rfl), trivial⟩ (fun β => ?_)
     refine HL_t (i := 9) (m := 10) (fun w hS => run_load1 (t := 9) (by kernel_rfl) hS.2.2.1) rfl (by kernel_rfl) (by kernel_rfl) (by kernel_rfl) (by kernel_rfl) (by kernel_rfl) (by kernel_rfl) ⟨((H.blk_cell (i := 0) rfl 0).trans rfl), ((H.blk_cell (i := 1) rfl 0).trans rfl), ((H.blk_cell (i := 0) rfl 1).trans rfl), ((H.blk_cell (i := 1) rfl 1).trans rfl), trivial⟩ rfl ?_
     refine HL_takes [10, 12] [(0, .slice B l.length d), (2, S stamp), (4, Pt g1 0), (7, .bool (((l.getD k ([], [])).1) == nm && ((l.getD k ([], [])).2) == sec)), (8, .bool false), (23, .slice B l.length d), (24, .int .i64 (l.length : Int)), (25, .int .i64 (k : Int)), (36, .bool false), (42, .bool true), (44, S ((l.getD k ([], [])).2)), (45, S stamp), (47, Pt g1 1)] (mkL 20 [0, 1, 2, 3, 4, 5, 6, 7, 8, 9, 10, 12]) 8 (by kernel_rfl) rfl (by kernel_rfl) (fun _ => by kernel_rfl) ⟨((H.blk_cell (i := 0) rfl 0).trans rfl), ((H.blk_cell (i := 1) rfl 0).trans rfl), ((H.blk_cell (i := 0) rfl 1).trans rfl), ((H.blk_cell (i := 1) rfl 1).trans rfl), trivial⟩ (fun β => ?_)
     refine HL_t (i := 13) (m := 7) (fun w hS => run_load1 (t := 9) (by kernel_rfl) hS.2.2.2.1) rfl (by kernel_rfl) (by kernel_rfl) (by kernel_rfl) (by kernel_rfl) (by kernel_rfl) (by kernel_rfl) ⟨((H.blk_cell (i := 0) rfl 0).trans rfl), ((H.blk_cell (i := 1) rfl 0).trans rfl), ((H.blk_cell (i := 0) rfl 1).trans rfl), ((H.blk_cell (i := 1) rfl 1).trans rfl), trivial⟩ rfl ?_
     refine HL_takes [14] [(0, .slice B l.length d), (2, S stamp), (4, Pt g1 0), (7, .bool (((l.getD k ([], [])).1) == nm && ((l.getD k ([], [])).2) == sec)), (8, .bool false), (23, .slice B l.length d), (24, .int .i64 (l.length : Int)), (25, .int .i64 (k : Int)), (36, .bool false), (42, .bool true), (44, S ((l.getD k ([], [])).2)), (45, S stamp), (48, S sec), (49, S stamp)] (mkL 20 [0, 1, 2, 3, 4, 5, 6, 7, 8, 9, 10, 12, 13, 14]) 6 (by kernel_rfl) rfl (by kernel_rfl) (fun _ => by kernel_rfl) ⟨((H.blk_cell (i := 0) rfl 0).trans rfl), ((H.blk_cell (i := 1) rfl 0).trans rfl), ((H.blk_cell (i := 0) rfl 1).trans rfl), ((H.blk_cell (i := 1) rfl 1).trans rfl), trivial⟩ (fun β => ?_)
     refine HL_call (i := 11) (f := 17) (args := #[S ((l.getD k ([], [])).2), S stamp]) rfl (by kernel_rfl) (by kernel_rfl) (by kernel_rfl) (by kernel_rfl) (c_ldigest T hT gT R hR gR ((l.getD k ([], [])).2) stamp (by omega) (by omega) H) ?_
     rintro _ w24 ⟨rfl, H⟩
     refine ⟨(.inr ⟨((H.blk_cell (i := 0) rfl 0).trans rfl), ((H.blk_cell (i := 1) rfl 0).trans rfl), ((H.blk_cell (i := 0) rfl 1).trans rfl), ((H.blk_cell (i := 1) rfl 1).trans rfl), trivial⟩), ?_⟩
     refine HL_call (i := 15) (f := 17) (args := #[S sec, S stamp]) rfl (by kernel_rfl) (by kernel_rfl) (by kernel_rfl) (by kernel_rfl) (c_ldigest T hT gT R hR gR sec stamp (by omega) (by omega) H) ?_
     rintro _ w25 ⟨rfl, H⟩
     refine ⟨(.inr ⟨((H.blk_cell (i := 0) rfl 0).trans rfl), ((H.blk_cell (i := 1) rfl 0).trans rfl), ((H.blk_cell (i := 0) rfl 1).trans rfl), ((H.blk_cell (i := 1) rfl 1).trans rfl), trivial⟩), ?_⟩
     refine HL_t (i := 16) (m := 3) (fun w _ => (R_streq (t := 9) (l := (dgF T R ((l.getD k ([], [])).2) stamp)) (m := (dgF T R sec stamp)))) rfl (by kernel_rfl) (by kernel_rfl) (by kernel_rfl) (by kernel_rfl) (by kernel_rfl) (by kernel_rfl) ⟨((H.blk_cell (i := 0) rfl 0).trans rfl), ((H.blk_cell (i := 1) rfl 0).trans rfl), ((H.blk_cell (i := 0) rfl 1).trans rfl), ((H.blk_cell (i := 1) rfl 1).trans rfl), trivial⟩ rfl ?_
     refine HL_takes [17, 18, 19] [(0, .slice B l.length d), (2, S stamp), (4, Pt g1 0), (7, .bool (((l.getD k ([], [])).1) == nm && ((l.getD k ([], [])).2) == sec)), (8, .bool ((dgF T R ((l.getD k ([], [])).2) stamp) == (dgF T R sec stamp))), (23, .slice B l.length d), (24, .int .i64 (l.length : Int)), (25, .int .i64 (k : Int))] (mkL 20 [0, 1, 2, 3, 4, 5, 6, 7, 8, 9, 10, 12, 13, 14, 11, 15, 16, 17, 18, 19]) 0 (by kernel_rfl) rfl (by kernel_rfl) (fun _ => by kernel_rfl) ⟨((H.blk_cell (i := 0) rfl 0).trans rfl), ((H.blk_cell (i := 1) rfl 0).trans rfl), ((H.blk_cell (i := 0) rfl 1).trans rfl), ((H.blk_cell (i := 1) rfl 1).trans rfl), trivial⟩ (fun β => ?_)
     refine HL_forget [(0, .slice B l.length d), (2, S stamp), (4, Pt g1 0), (7, .bool (((l.getD k ([], [])).1) == nm && ((l.getD k ([], [])).2) == sec)), (8, .bool ((dgF T R ((l.getD k ([], [])).2) stamp) == (dgF T R sec stamp))), (23, .slice B l.length d), (24, In l.length), (25, In k)] (by kernel_rfl) (fun β => ?_)
     refine HL_fin (by kernel_rfl) ?_
     refine inb_normal ?_
     refine thn_normal ?_
     refine G_region ?_
     refine GL_sr 2 2 [(0, .slice B l.length d), (2, S stamp), (4, Pt g1 0), (7, .bool (((l.getD k ([], [])).1) == nm && ((l.getD k ([], [])).2) == sec)), (8, .bool ((dgF T R ((l.getD k ([], [])).2) stamp) == (dgF T R sec stamp))), (23, .slice B l.length d), (24, In l.length), (25, In (k + 1))] (show ([.slice B l.length d, S stamp, Pt g1 0, .bool (((l.getD k ([], [])).1) == nm && ((l.getD k ([], [])).2) == sec), .bool ((dgF T R ((l.getD k ([], [])).2) stamp) == (dgF T R sec stamp)), .slice B l.length d, .int .i64 (l.length : Int), .int .i64 (IntKind.i64.wrap ((k : Int) + ((1 : Nat) : Int)))] : List Value) = [.slice B l.length d, S stamp, Pt g1 0, .bool (((l.getD k ([], [])).1) == nm && ((l.getD k ([], [])).2) == sec), .bool ((dgF T R ((l.getD k ([], [])).2) stamp) == (dgF T R sec stamp)), .slice B l.length d, In l.length, In (k + 1)] by rw [nadd64 k 1 (by omega)]) fun β => ?_
     refine GL_end (by kernel_rfl) ?_
     replace H := H.drop 0
     replace H : Sep w0 w25 (.blk g1 40 [S nm, S sec] :: F) := H
     refine thn_normal ⟨(k + 1, ((l.getD k ([], [])).1) == nm && ((l.getD k ([], [])).2) == sec, (dgF T R ((l.getD k ([], [])).2) stamp) == (dgF T R sec stamp)), Agr_of_keys (by kernel_rfl), ⟨H, ?_⟩, ?_⟩
     · refine ⟨by omega, ?_, ?_⟩
       · rw [pair_stepE (by omega), ← hI2]; clear hI2 hI3 H; generalize l.getD k ([], []) = u at *; simp [*]
       · rw [cr_stepE (by omega), ← hI3]; clear hI2 hI3 H; generalize l.getD k ([], []) = u at *; simp [*]
     · first | (dsimp only; omega) | omega
    · --false
     refine G_drawS (fun w => w.cell? ⟨g9, 0, none⟩ = some (S ((l.getD k ([], [])).1)) ∧ w.cell? ⟨g1, 0, none⟩ = some (S nm) ∧ True) 20 20 (by kernel_rfl) (by kernel_rfl) H (fun w26 H => ?_)
     refine HL_takes [0, 1, 2] [(0, .slice B l.length d), (2, S stamp), (4, Pt g1 0), (7, .bool (((l.getD k ([], [])).1) == nm && ((l.getD k ([], [])).2) == sec)), (8, .bool false), (10, Pt g9 0), (23, .slice B l.length d), (24, .int .i64 (l.length : Int)), (25, .int .i64 (k : Int)), (36, .bool false), (37, Pt g9 0)] (mkL 20 [0, 1, 2]) 17 (by kernel_rfl) rfl (by kernel_rfl) (fun _ => by kernel_rfl) ⟨((H.blk_cell (i := 0) rfl 0).trans rfl), ((H.blk_cell (i := 1) rfl 0).trans rfl), trivial⟩ (fun β => ?_)
     refine HL_t (i := 3) (m := 16) (fun w hS => run_load1 (t := 9) (by kernel_rfl) hS.1) rfl (by kernel_rfl) (by kernel_rfl) (by kernel_rfl) (by kernel_rfl) (by kernel_rfl) (by kernel_rfl) ⟨((H.blk_cell (i := 0) rfl 0).trans rfl), ((H.blk_cell (i := 1) rfl 0).trans rfl), trivial⟩ rfl ?_
     refine HL_takes [4] [(0, .slice B l.length d), (2, S stamp), (4, Pt g1 0), (7, .bool (((l.getD k ([], [])).1) == nm && ((l.getD k ([], [])).2) == sec)), (8, .bool false), (10, Pt g9 0), (23, .slice B l.length d), (24, .int .i64 (l.length : Int)), (25, .int .i64 (k : Int)), (36, .bool false), (38, S ((l.getD k ([], [])).1)), (39, Pt g1 0)] (mkL 20 [0, 1, 2, 3, 4]) 15 (by kernel_rfl) rfl (by kernel_rfl) (fun _ => by kernel_rfl) ⟨((H.blk_cell (i := 0) rfl 0).trans rfl), ((H.blk_cell (i := 1) rfl 0).trans rfl), trivial⟩ (fun β => ?_)
     refine HL_t (i := 5) (m := 14) (fun w hS => run_load1 (t := 9) (by kernel_rfl) hS.2.1) rfl (by kernel_rfl) (by kernel_rfl) (by kernel_rfl) (by kernel_rfl) (by kernel_rfl) (by kernel_rfl) ⟨((H.blk_cell (i := 0) rfl 0).trans rfl), ((H.blk_cell (i := 1) rfl 0).trans rfl), trivial⟩ rfl ?_
     refine HL_t (i := 6) (m := 13) (fun w _ => (R_streqF (t := 9) (l := (l.getD k ([], [])).1) (m := nm) hq22)) rfl (by kernel_rfl) (by kernel_rfl) (by kernel_rfl) (by kernel_rfl) (by kernel_rfl) (by kernel_rfl) ⟨((H.blk_cell (i := 0) rfl 0).trans rfl), ((H.blk_cell (i := 1) rfl 0).trans rfl), trivial⟩ rfl ?_
     refine HL_takes [7, 8, 9, 10, 11, 12, 13, 14, 15, 16, 17, 18, 19] [(0, .slice B l.length d), (2, S stamp), (4, Pt g1 0), (7, .bool (((l.getD k ([], [])).1) == nm && ((l.getD k ([], [])).2) == sec)), (8, .bool false), (23, .slice B l.length d), (24, .int .i64 (l.length : Int)), (25, .int .i64 (k : Int))] (mkL 20 [0, 1, 2, 3, 4, 5, 6, 7, 8, 9, 10, 11, 12, 13, 14, 15, 16, 17, 18, 19]) 0 (by kernel_rfl) rfl (by kernel_rfl) (fun _ => by kernel_rfl) ⟨((H.blk_cell (i := 0) rfl 0).trans rfl), ((H.blk_cell (i := 1) rfl 0).trans rfl), trivial⟩ (fun β => ?_)
     refine HL_forget [(0, .slice B l.length d), (2, S stamp), (4, Pt g1 0), (7, .bool (((l.getD k ([], [])).1) == nm && ((l.getD k ([], [])).2) == sec)), (8, .bool false), (23, .slice B l.length d), (24, In l.length), (25, In k)] (by kernel_rfl) (fun β => ?_)
     refine HL_fin (by kernel_rfl) ?_
     refine inb_normal ?_
     refine thn_normal ?_
     refine G_region ?_
     refine GL_sr 2 2 [(0, .slice B l.length d), (2, S stamp), (4, Pt g1 0), (7, .bool (((l.getD k ([], [])).1) == nm && ((l.getD k ([], [])).2) == sec)), (8, .bool false), (23, .slice B l.length d), (24, In l.length), (25, In (k + 1))] (show ([.slice B l.length d, S stamp, Pt g1 0, .bool (((l.getD k ([], [])).1) == nm && ((l.getD k ([], [])).2) == sec), .bool false, .slice B l.length d, .int .i64 (l.length : Int), .int .i64 (IntKind.i64.wrap ((k : Int) + ((1 : Nat) : Int)))] : List Value) = [.slice B l.length d, S stamp, Pt g1 0, .bool (((l.getD k ([], [])).1) == nm && ((l.getD k ([], [])).2) == sec), .bool false, .slice B l.length d, In l.length, In (k + 1)] by rw [nadd64 k 1 (by omega)]) fun β => ?_
     refine GL_end (by kernel_rfl) ?_
     replace H := H.drop 0
     replace H : Sep w0 w26 (.blk g1 40 [S nm, S sec] :: F) := H
     refine thn_normal ⟨(k + 1, ((l.getD k ([], [])).1) == nm && ((l.getD k ([], [])).2) == sec, false), Agr_of_keys (by kernel_rfl), ⟨H, ?_⟩, ?_⟩
     · refine ⟨by omega, ?_, ?_⟩
       · rw [pair_stepE (by omega), ← hI2]; clear hI2 hI3 H; generalize l.getD k ([], []) = u at *; simp [*]
       · rw [cr_stepE (by omega), ← hI3]; clear hI2 hI3 H; generalize l.getD k ([], []) = u at *; simp [*]
     · first | (dsimp only; omega) | omega
 · --no
  replace h0 : ¬ (k < l.length) := of_decide_eq_false h0
  refine G_exit (thn_exit (thn_exit (inb_hit ?_)))
  refine thn_normal ?_
  refine G_seq ?_
  have hkl : k = l.length := by omega
  have hr1 : r1 = true := by rw [hI2, hkl, List.take_length]; exact hb1
  have hr2 : r2 = false := by rw [hI3, hkl, List.take_length]; exact hb2
  refine G_re [(0, .slice B l.length d), (2, S stamp), (4, Pt g1 0), (7, .bool true), (8, .bool false), (23, .slice B l.length d), (24, In l.length), (25, In k), (26, .bool (decide (k < l.length)))] (show ([.slice B l.length d, S stamp, Pt g1 0, .bool r1, .bool r2, .slice B l.length d, In l.length, In k, .bool (decide (k < l.length))] : List Value) = [.slice B l.length d, S stamp, Pt g1 0, .bool true, .bool false, .slice B l.length d, In l.length, In k, .bool (decide (k < l.length))] by rw [hr1, hr2]) (fun β => ?_)
  refine G_sr ?_
  refine GL_C (c_Mechs H) ?_
  rintro _ w28 ⟨g27, rfl, H⟩
  replace H : Sep w0 w28 (.blk g27 9 [S [80, 76, 65, 73, 78], S [76, 79, 71, 73, 78], S [67, 82, 65, 77, 45, 77, 68, 53]] :: .blk g1 40 [S nm, S sec] :: F) := H
  refine GL_st 2 3 [(0, .slice B l.length d), (2, S stamp), (4, Pt g1 0), (7, .bool true), (8, .bool false), (55, .slice (some ⟨g27, 0, none⟩) 3 3), (56, In 3), (57, In 0)] fun β => ?_
  refine G_block ?_
  refine G_un 4 ?_
  refine GU_step ?_
  refine G_forget [(0, .slice B l.length d), (2, S stamp), (4, Pt g1 0), (7, .bool true), (8, .bool false), (55, .slice (some ⟨g27, 0, none⟩) 3 3), (56, In 3), (57, In 0)] (by kernel_rfl) (fun β => ?_)
  replace H := H.front (i := 1) rfl
  replace H := H.front (i := 1) rfl
  replace H : Sep w0 w28 (.blk g27 9 [S [80, 76, 65, 73, 78], S [76, 79, 71, 73, 78], S [67, 82, 65, 77, 45, 77, 68, 53]] :: .blk g1 40 [S nm, S sec] :: F) := H
  refine G_sr ?_
  refine GL_st 1 1 [(0, .slice B l.length d), (2, S stamp), (4, Pt g1 0), (7, .bool true), (8, .bool false), (55, .slice (some ⟨g27, 0, none⟩) 3 3), (56, In 3), (57, In 0), (58, .bool true)] fun β => ?_
  refine G_seq ?_
  refine G_true (by kernel_rfl) ?_
  refine G_skip ?_
  refine thn_normal ?_
  refine G_seq ?_
  refine G_block ?_
  refine G_sr ?_
  refine GL_s 1 1 [(0, .slice B l.length d), (2, S stamp), (4, Pt g1 0), (7, .bool true), (8, .bool false), (55, .slice (some ⟨g27, 0, none⟩) 3 3), (56, In 3), (57, In 0), (59, Pt g27 0)] fun β => ?_
  refine GL_V (run_load1 (t := 9) (by kernel_rfl) ((H.blk_cell (i := 0) rfl 0).trans rfl)) ?_
  refine GL_st 1 3 [(0, .slice B l.length d), (2, S stamp), (4, Pt g1 0), (7, .bool true), (8, .bool false), (12, S [80, 76, 65, 73, 78]), (55, .slice (some ⟨g27, 0, none⟩) 3 3), (56, In 3), (57, In 0)] fun β => ?_
  refine G_sr ?_
  refine GL_V (run_loadN (t := 40) (vs := [S nm, S sec]) (by kernel_rfl) (by kernel_rfl) (H.blk_cells (i := 1) rfl 0 _ ⟨_, rfl⟩)) ?_
  refine GL_s 1 2 [(0, .slice B l.length d), (2, S stamp), (4, Pt g1 0), (7, .bool true), (8, .bool false), (12, S [80, 76, 65, 73, 78]), (55, .slice (some ⟨g27, 0, none⟩) 3 3), (56, In 3), (57, In 0), (62, .agg #[S nm, S sec]), (63, S [80, 76, 65, 73, 78])] fun β => ?_
  refine GL_C (c_Respond_plain nm sec [80, 76, 65, 73, 78] (by omega) (by omega) (by first | omega | decide) (by decide) hy H) ?_
  rintro _ w29 ⟨g30, rfl, H⟩
  replace H : Sep w0 w29 (.blk g30 80 [S nm, S sec, .iface 85 (.agg #[]), .bool true] :: .blk g27 9 [S [80, 76, 65, 73, 78], S [76, 79, 71, 73, 78], S [67, 82, 65, 77, 45, 77, 68, 53]] :: .blk g1 40 [S nm, S sec] :: F) := H
  refine GL_st 5 8 [(0, .slice B l.length d), (2, S stamp), (4, Pt g1 0), (7, .bool true), (8, .bool false), (12, S [80, 76, 65, 73, 78]), (13, .iface 75 (Pt g30 0)), (14, In 0), (55, .slice (some ⟨g27, 0, none⟩) 3 3), (56, In 3), (57, In 0)] fun β => ?_
  refine G_sr ?_
  refine GL_s 3 3 [(0, .slice B l.length d), (2, S stamp), (4, Pt g1 0), (7, .bool true), (8, .bool false), (12, S [80, 76, 65, 73, 78]), (13, .iface 75 (Pt g30 0)), (14, In 0), (55, .slice (some ⟨g27, 0, none⟩) 3 3), (56, In 3), (57, In 0), (68, .slice B l.length d), (69, S [80, 76, 65, 73, 78]), (70, S stamp)] fun β => ?_
  refine GL_C (c_Begin_plain T hT gT R hR gR l (by first | omega | (decide +kernel) | (simp only [List.length_nil]; omega) | (simp only [List.length_cons, List.length_nil]; omega)) hU [80, 76, 65, 73, 78] stamp ([] : List UInt8) (by first | omega | (decide +kernel) | (simp only [List.length_nil]; omega) | (simp only [List.length_cons, List.length_nil]; omega)) (by first | omega | (decide +kernel) | (simp only [List.length_nil]; omega) | (simp only [List.length_cons, List.length_nil]; omega)) (by first | omega | (decide +kernel) | (simp only [List.length_nil]; omega) | (simp only [List.length_cons, List.length_nil]; omega)) (by decide) (Rd.more RU (.cons _ (.cons _ (.cons _ (.refl _))))) H) ?_
  rintro _ w34 ⟨g31, A32, c33, rfl, H⟩
  replace H : Sep w0 w34 (.blk g31 58 [.slice A32 l.length c33, In 1, .iface 85 (.agg #[]), S ([] : List UInt8)] :: .row (.slice A32 l.length c33) 40 2 l.length (us l) :: .blk g30 80 [S nm, S sec, .iface 85 (.agg #[]), .bool true] :: .blk g27 9 [S [80, 76, 65, 73, 78], S [76, 79, 71, 73, 78], S [67, 82, 65, 77, 45, 77, 68, 53]] :: .blk g1 40 [S nm, S sec] :: F) := H
  refine GL_st 5 9 [(0, .slice B l.length d), (2, S stamp), (4, Pt g1 0), (7, .bool true), (8, .bool false), (12, S [80, 76, 65, 73, 78]), (13, .iface 75 (Pt g30 0)), (14, In 0), (15, Pt g31 0), (16, In 0), (55, .slice (some ⟨g27, 0, none⟩) 3 3), (56, In 3), (57, In 0)] fun β => ?_
  refine G_seq ?_
  refine G_sr ?_
  refine GL_s 9 9 [(0, .slice B l.length d), (2, S stamp), (4, Pt g1 0), (7, .bool true), (8, .bool false), (12, S [80, 76, 65, 73, 78]), (15, Pt g31 0), (55, .slice (some ⟨g27, 0, none⟩) 3 3), (56, In 3), (57, In 0), (80, .bool false), (81, Pt g31 0), (82, .iface 75 (Pt g30 0))] fun β => ?_
  replace H := H.front (i := 2) rfl
  replace H := H.front (i := 2) rfl
  replace H := H.front (i := 2) rfl
  replace H : Sep w0 w34 (.blk g31 58 [.slice A32 l.length c33, In 1, .iface 85 (.agg #[]), S ([] : List UInt8)] :: .row (.slice A32 l.length c33) 40 2 l.length (us l) :: .blk g30 80 [S nm, S sec, .iface 85 (.agg #[]), .bool true] :: .blk g27 9 [S [80, 76, 65, 73, 78], S [76, 79, 71, 73, 78], S [67, 82, 65, 77, 45, 77, 68, 53]] :: .blk g1 40 [S nm, S sec] :: F) := H
  refine GL_C (c_talk_plain_true T hT gT R hR gR l (by omega) hU nm sec stamp (by omega) (by omega) (by omega) true hz1 hz2 hb1 H) ?_
  rintro _ w35 ⟨rfl, H⟩
  replace H : Sep w0 w35 (.blk g31 58 [.slice A32 l.length c33, In 2, .iface 85 (.agg #[]), S nm] :: .row (.slice A32 l.length c33) 40 2 l.length (us l) :: .blk g30 80 [S nm, S sec, .nilIface, .bool true] :: .blk g27 9 [S [80, 76, 65, 73, 78], S [76, 79, 71, 73, 78], S [67, 82, 65, 77, 45, 77, 68, 53]] :: .blk g1 40 [S nm, S sec] :: F) := H
  refine GL_st 2 12 [(0, .slice B l.length d), (2, S stamp), (4, Pt g1 0), (7, .bool true), (8, .bool false), (12, S [80, 76, 65, 73, 78]), (15, Pt g31 0), (55, .slice (some ⟨g27, 0, none⟩) 3 3), (56, In 3), (57, In 0), (85, .bool false)] fun β => ?_
  refine G_false (by kernel_rfl) ?_
  refine G_skip ?_
  refine thn_normal ?_
  refine G_sr ?_
  refine GL_st 2 2 [(0, .slice B l.length d), (2, S stamp), (4, Pt g1 0), (7, .bool true), (8, .bool false), (12, S [80, 76, 65, 73, 78]), (15, Pt g31 0), (17, .bool true), (55, .slice (some ⟨g27, 0, none⟩) 3 3), (56, In 3), (57, In 0)] fun β => ?_
  refine G_seq ?_
  refine G_sr ?_
  refine GL_st 2 2 [(0, .slice B l.length d), (2, S stamp), (4, Pt g1 0), (7, .bool true), (8, .bool false), (15, Pt g31 0), (17, .bool true), (55, .slice (some ⟨g27, 0, none⟩) 3 3), (56, In 3), (57, In 0), (88, .bool false)] fun β => ?_
  refine G_false (by kernel_rfl) ?_
  refine G_skip ?_
  refine thn_normal ?_
  refine G_seq ?_
  refine G_drawS (fun w => w.cell? ⟨g1, 0, none⟩ = some (S nm) ∧ True) 31 31 (by kernel_rfl) (by kernel_rfl) H (fun w36 H => ?_)
  refine HL_takes [0, 3] [(0, .slice B l.length d), (2, S stamp), (4, Pt g1 0), (7, .bool true), (8, .bool false), (15, Pt g31 0), (17, .bool true), (55, .slice (some ⟨g27, 0, none⟩) 3 3), (56, .int .i64 ((3 : Nat) : Int)), (57, .int .i64 ((0 : Nat) : Int)), (90, Pt g31 0), (93, .bool true)] (mkL 31 [0, 3]) 29 (by kernel_rfl) rfl (by kernel_rfl) (fun _ => by kernel_rfl) ⟨((H.blk_cell (i := 4) rfl 0).trans rfl), trivial⟩ (fun β => ?_)
  replace H : Sep w0 w36 (.blk g31 58 [.slice A32 l.length c33, In 2, .iface 85 (.agg #[]), S nm] :: .row (.slice A32 l.length c33) 40 2 l.length (us l) :: .blk g30 80 [S nm, S sec, .nilIface, .bool true] :: .blk g27 9 [S [80, 76, 65, 73, 78], S [76, 79, 71, 73, 78], S [67, 82, 65, 77, 45, 77, 68, 53]] :: .blk g1 40 [S nm, S sec] :: F) := H
  refine HL_call (i := 1) (f := 9) (args := #[Pt g31 0]) rfl (by kernel_rfl) (by kernel_rfl) (by kernel_rfl) (by kernel_rfl) (c_State 2 (.slice A32 l.length c33) (.iface 85 (.agg #[])) (S nm) H) ?_
  rintro _ w37 ⟨rfl, H⟩
  refine ⟨(.inr ⟨((H.blk_cell (i := 4) rfl 0).trans rfl), trivial⟩), ?_⟩
  refine HL_takes [2, 4, 5, 6, 9] [(0, .slice B l.length d), (2, S stamp), (4, Pt g1 0), (7, .bool true), (8, .bool false), (15, Pt g31 0), (17, .bool true), (55, .slice (some ⟨g27, 0, none⟩) 3 3), (56, .int .i64 ((3 : Nat) : Int)), (57, .int .i64 ((0 : Nat) : Int)), (95, .bool false), (96, Pt g31 0), (99, .bool true)] (mkL 31 [0, 3, 1, 2, 4, 5, 6, 9]) 23 (by kernel_rfl) rfl (by kernel_rfl) (fun _ => by kernel_rfl) ⟨((H.blk_cell (i := 4) rfl 0).trans rfl), trivial⟩ (fun β => ?_)
  replace H : Sep w0 w37 (.blk g31 58 [.slice A32 l.length c33, In 2, .iface 85 (.agg #[]), S nm] :: .row (.slice A32 l.length c33) 40 2 l.length (us l) :: .blk g30 80 [S nm, S sec, .nilIface, .bool true] :: .blk g27 9 [S [80, 76, 65, 73, 78], S [76, 79, 71, 73, 78], S [67, 82, 65, 77, 45, 77, 68, 53]] :: .blk g1 40 [S nm, S sec] :: F) := H
  refine HL_call (i := 7) (f := 9) (args := #[Pt g31 0]) rfl (by kernel_rfl) (by kernel_rfl) (by kernel_rfl) (by kernel_rfl) (c_State 2 (.slice A32 l.length c33) (.iface 85 (.agg #[])) (S nm) H) ?_
  rintro _ w38 ⟨rfl, H⟩
  refine ⟨(.inr ⟨((H.blk_cell (i := 4) rfl 0).trans rfl), trivial⟩), ?_⟩
  refine HL_takes [8, 10, 11, 12, 13, 14, 15, 17] [(0, .slice B l.length d), (2, S stamp), (4, Pt g1 0), (7, .bool true), (8, .bool false), (15, Pt g31 0), (17, .bool true), (55, .slice (some ⟨g27, 0, none⟩) 3 3), (56, .int .i64 ((3 : Nat) : Int)), (57, .int .i64 ((0 : Nat) : Int)), (102, .bool false), (104, .bool true), (105, Pt g31 0), (107, Pt g1 0)] (mkL 31 [0, 3, 1, 2, 4, 5, 6, 9, 7, 8, 10, 11, 12, 13, 14, 15, 17]) 14 (by kernel_rfl) rfl (by kernel_rfl) (fun _ => by kernel_rfl) ⟨((H.blk_cell (i := 4) rfl 0).trans rfl), trivial⟩ (fun β => ?_)
  refine HL_t (i := 18) (m := 13) (fun w hS => run_load1 (t := 9) (by kernel_rfl) hS.1) rfl (by kernel_rfl) (by kernel_rfl) (by kernel_rfl) (by kernel_rfl) (by kernel_rfl) (by kernel_rfl) ⟨((H.blk_cell (i := 4) rfl 0).trans rfl), trivial⟩ rfl ?_
  replace H : Sep w0 w38 (.blk g31 58 [.slice A32 l.length c33, In 2, .iface 85 (.agg #[]), S nm] :: .row (.slice A32 l.length c33) 40 2 l.length (us l) :: .blk g30 80 [S nm, S sec, .nilIface, .bool true] :: .blk g27 9 [S [80, 76, 65, 73, 78], S [76, 79, 71, 73, 78], S [67, 82, 65, 77, 45, 77, 68, 53]] :: .blk g1 40 [S nm, S sec] :: F) := H
  refine HL_call (i := 16) (f := 10) (args := #[Pt g31 0]) rfl (by kernel_rfl) (by kernel_rfl) (by kernel_rfl) (by kernel_rfl) (c_User 2 (.slice A32 l.length c33) (.iface 85 (.agg #[])) nm H) ?_
  rintro _ w39 ⟨rfl, H⟩
  refine ⟨(.inr ⟨((H.blk_cell (i := 4) rfl 0).trans rfl), trivial⟩), ?_⟩
  refine HL_t (i := 19) (m := 11) (fun w _ => (R_strneF (t := 9) (l := nm) (m := nm) rfl)) rfl (by kernel_rfl) (by kernel_rfl) (by kernel_rfl) (by kernel_rfl) (by kernel_rfl) (by kernel_rfl) ⟨((H.blk_cell (i := 4) rfl 0).trans rfl), trivial⟩ rfl ?_
  refine HL_takes [20, 21, 22, 23, 24, 25, 26, 27, 28, 29, 30] [(0, .slice B l.length d), (2, S stamp), (4, Pt g1 0), (7, .bool true), (8, .bool false), (55, .slice (some ⟨g27, 0, none⟩) 3 3), (56, .int .i64 ((3 : Nat) : Int)), (57, .int .i64 ((0 : Nat) : Int)), (120, .bool false)] (mkL 31 [0, 3, 1, 2, 4, 5, 6, 9, 7, 8, 10, 11, 12, 13, 14, 15, 17, 18, 16, 19, 20, 21, 22, 23, 24, 25, 26, 27, 28, 29, 30]) 0 (by kernel_rfl) rfl (by kernel_rfl) (fun _ => by kernel_rfl) ⟨((H.blk_cell (i := 4) rfl 0).trans rfl), trivial⟩ (fun β => ?_)
  refine HL_forget [(0, .slice B l.length d), (2, S stamp), (4, Pt g1 0), (7, .bool true), (8, .bool false), (55, .slice (some ⟨g27, 0, none⟩) 3 3), (56, In 3), (57, In 0), (120, .bool false)] (by kernel_rfl) (fun β => ?_)
  refine HL_fin (by kernel_rfl) ?_
  refine thn_normal ?_
  refine G_false (by kernel_rfl) ?_
  refine G_skip ?_
  refine inb_normal ?_
  refine thn_normal ?_
  refine G_region ?_
  refine GL_st 2 2 [(0, .slice B l.length d), (2, S stamp), (4, Pt g1 0), (7, .bool true), (8, .bool false), (55, .slice (some ⟨g27, 0, none⟩) 3 3), (56, In 3), (57, In 1)] fun β => ?_
  refine GU_step ?_
  refine G_forget [(0, .slice B l.length d), (2, S stamp), (4, Pt g1 0), (7, .bool true), (8, .bool false), (55, .slice (some ⟨g27, 0, none⟩) 3 3), (56, In 3), (57, In 1)] (by kernel_rfl) (fun β => ?_)
  replace H := H.drop 2
  replace H := H.drop 1
  replace H := H.drop 0
  replace H := H.front (i := 1) rfl
  replace H := H.front (i := 1) rfl
  replace H : Sep w0 w39 (.blk g27 9 [S [80, 76, 65, 73, 78], S [76, 79, 71, 73, 78], S [67, 82, 65, 77, 45, 77, 68, 53]] :: .blk g1 40 [S nm, S sec] :: F) := H
  refine G_sr ?_
  refine GL_st 1 1 [(0, .slice B l.length d), (2, S stamp), (4, Pt g1 0), (7, .bool true), (8, .bool false), (55, .slice (some ⟨g27, 0, none⟩) 3 3), (56, In 3), (57, In 1), (58, .bool true)] fun β => ?_
  refine G_seq ?_
  refine G_true (by kernel_rfl) ?_
  refine G_skip ?_
  refine thn_normal ?_
  refine G_seq ?_
  refine G_block ?_
  refine G_sr ?_
  refine GL_s 1 1 [(0, .slice B l.length d), (2, S stamp), (4, Pt g1 0), (7, .bool true), (8, .bool false), (55, .slice (some ⟨g27, 0, none⟩) 3 3), (56, In 3), (57, In 1), (59, Pt g27 1)] fun β => ?_
  refine GL_V (run_load1 (t := 9) (by kernel_rfl) ((H.blk_cell (i := 0) rfl 1).trans rfl)) ?_
  refine GL_st 1 3 [(0, .slice B l.length d), (2, S stamp), (4, Pt g1 0), (7, .bool true), (8, .bool false), (12, S [76, 79, 71, 73, 78]), (55, .slice (some ⟨g27, 0, none⟩) 3 3), (56, In 3), (57, In 1)] fun β => ?_
  refine G_sr ?_
  refine GL_V (run_loadN (t := 40) (vs := [S nm, S sec]) (by kernel_rfl) (by kernel_rfl) (H.blk_cells (i := 1) rfl 0 _ ⟨_, rfl⟩)) ?_
  refine GL_s 1 2 [(0, .slice B l.length d), (2, S stamp), (4, Pt g1 0), (7, .bool true), (8, .bool false), (12, S [76, 79, 71, 73, 78]), (55, .slice (some ⟨g27, 0, none⟩) 3 3), (56, In 3), (57, In 1), (62, .agg #[S nm, S sec]), (63, S [76, 79, 71, 73, 78])] fun β => ?_
  refine GL_C (c_Respond_login nm sec [76, 79, 71, 73, 78] (by omega) (by omega) (by first | omega | decide) (by decide) hy H) ?_
  rintro _ w40 ⟨g41, rfl, H⟩
  replace H : Sep w0 w40 (.blk g41 80 [S nm, S sec, .iface 86 (.agg #[]), .bool false] :: .blk g27 9 [S [80, 76, 65, 73, 78], S [76, 79, 71, 73, 78], S [67, 82, 65, 77, 45, 77, 68, 53]] :: .blk g1 40 [S nm, S sec] :: F) := H
  refine GL_st 5 8 [(0, .slice B l.length d), (2, S stamp), (4, Pt g1 0), (7, .bool true), (8, .bool false), (12, S [76, 79, 71, 73, 78]), (13, .iface 75 (Pt g41 0)), (14, In 0), (55, .slice (some ⟨g27, 0, none⟩) 3 3), (56, In 3), (57, In 1)] fun β => ?_
  refine G_sr ?_
  refine GL_s 3 3 [(0, .slice B l.length d), (2, S stamp), (4, Pt g1 0), (7, .bool true), (8, .bool false), (12, S [76, 79, 71, 73, 78]), (13, .iface 75 (Pt g41 0)), (14, In 0), (55, .slice (some ⟨g27, 0, none⟩) 3 3), (56, In 3), (57, In 1), (68, .slice B l.length d), (69, S [76, 79, 71, 73, 78]), (70, S stamp)] fun β => ?_
  refine GL_C (c_Begin_login T hT gT R hR gR l (by first | omega | (decide +kernel) | (simp only [List.length_nil]; omega) | (simp only [List.length_cons, List.length_nil]; omega)) hU [76, 79, 71, 73, 78] stamp ([] : List UInt8) (by first | omega | (decide +kernel) | (simp only [List.length_nil]; omega) | (simp only [List.length_cons, List.length_nil]; omega)) (by first | omega | (decide +kernel) | (simp only [List.length_nil]; omega) | (simp only [List.length_cons, List.length_nil]; omega)) (by first | omega | (decide +kernel) | (simp only [List.length_nil]; omega) | (simp only [List.length_cons, List.length_nil]; omega)) (by decide) (Rd.more RU (.cons _ (.cons _ (.cons _ (.refl _))))) H) ?_
  rintro _ w45 ⟨g42, A43, c44, rfl, H⟩
  replace H : Sep w0 w45 (.blk g42 58 [.slice A43 l.length c44, In 1, .iface 86 (.agg #[]), S ([] : List UInt8)] :: .row (.slice A43 l.length c44) 40 2 l.length (us l) :: .blk g41 80 [S nm, S sec, .iface 86 (.agg #[]), .bool false] :: .blk g27 9 [S [80, 76, 65, 73, 78], S [76, 79, 71, 73, 78], S [67, 82, 65, 77, 45, 77, 68, 53]] :: .blk g1 40 [S nm, S sec] :: F) := H
  refine GL_st 5 9 [(0, .slice B l.length d), (2, S stamp), (4, Pt g1 0), (7, .bool true), (8, .bool false), (12, S [76, 79, 71, 73, 78]), (13, .iface 75 (Pt g41 0)), (14, In 0), (15, Pt g42 0), (16, In 0), (55, .slice (some ⟨g27, 0, none⟩) 3 3), (56, In 3), (57, In 1)] fun β => ?_
  refine G_seq ?_
  refine G_sr ?_
  refine GL_s 9 9 [(0, .slice B l.length d), (2, S stamp), (4, Pt g1 0), (7, .bool true), (8, .bool false), (12, S [76, 79, 71, 73, 78]), (15, Pt g42 0), (55, .slice (some ⟨g27, 0, none⟩) 3 3), (56, In 3), (57, In 1), (80, .bool false), (81, Pt g42 0), (82, .iface 75 (Pt g41 0))] fun β => ?_
  replace H := H.front (i := 2) rfl
  replace H := H.front (i := 2) rfl
  replace H := H.front (i := 2) rfl
  replace H : Sep w0 w45 (.blk g42 58 [.slice A43 l.length c44, In 1, .iface 86 (.agg #[]), S ([] : List UInt8)] :: .row (.slice A43 l.length c44) 40 2 l.length (us l) :: .blk g41 80 [S nm, S sec, .iface 86 (.agg #[]), .bool false] :: .blk g27 9 [S [80, 76, 65, 73, 78], S [76, 79, 71, 73, 78], S [67, 82, 65, 77, 45, 77, 68, 53]] :: .blk g1 40 [S nm, S sec] :: F) := H
  refine GL_C (c_talk_login_true T hT gT R hR gR l (by omega) hU nm sec stamp (by omega) (by omega) (by omega) false hz1 hz2 hb1 H) ?_
  rintro _ w46 ⟨rfl, H⟩
  replace H : Sep w0 w46 (.blk g42 58 [.slice A43 l.length c44, In 2, .iface 167 (.agg #[S nm]), S nm] :: .row (.slice A43 l.length c44) 40 2 l.length (us l) :: .blk g41 80 [S nm, S sec, .nilIface, .bool false] :: .blk g27 9 [S [80, 76, 65, 73, 78], S [76, 79, 71, 73, 78], S [67, 82, 65, 77, 45, 77, 68, 53]] :: .blk g1 40 [S nm, S sec] :: F) := H
  refine GL_st 2 12 [(0, .slice B l.length d), (2, S stamp), (4, Pt g1 0), (7, .bool true), (8, .bool false), (12, S [76, 79, 71, 73, 78]), (15, Pt g42 0), (55, .slice (some ⟨g27, 0, none⟩) 3 3), (56, In 3), (57, In 1), (85, .bool false)] fun β => ?_
  refine G_false (by kernel_rfl) ?_
  refine G_skip ?_
  refine thn_normal ?_
  refine G_sr ?_
  refine GL_st 2 2 [(0, .slice B l.length d), (2, S stamp), (4, Pt g1 0), (7, .bool true), (8, .bool false), (12, S [76, 79, 71, 73, 78]), (15, Pt g42 0), (17, .bool true), (55, .slice (some ⟨g27, 0, none⟩) 3 3), (56, In 3), (57, In 1)] fun β => ?_
  refine G_seq ?_
  refine G_sr ?_
  refine GL_st 2 2 [(0, .slice B l.length d), (2, S stamp), (4, Pt g1 0), (7, .bool true), (8, .bool false), (15, Pt g42 0), (17, .bool true), (55, .slice (some ⟨g27, 0, none⟩) 3 3), (56, In 3), (57, In 1), (88, .bool false)] fun β => ?_
  refine G_false (by kernel_rfl) ?_
  refine G_skip ?_
  refine thn_normal ?_
  refine G_seq ?_
  refine G_drawS (fun w => w.cell? ⟨g1, 0, none⟩ = some (S nm) ∧ True) 31 31 (by kernel_rfl) (by kernel_rfl) H (fun w47 H => ?_)
  refine HL_takes [0, 3] [(0, .slice B l.length d), (2, S stamp), (4, Pt g1 0), (7, .bool true), (8, .bool false), (15, Pt g42 0), (17, .bool true), (55, .slice (some ⟨g27, 0, none⟩) 3 3), (56, .int .i64 ((3 : Nat) : Int)), (57, .int .i64 ((1 : Nat) : Int)), (90, Pt g42 0), (93, .bool true)] (mkL 31 [0, 3]) 29 (by kernel_rfl) rfl (by kernel_rfl) (fun _ => by kernel_rfl) ⟨((H.blk_cell (i := 4) rfl 0).trans rfl), trivial⟩ (fun β => ?_)
  replace H : Sep w0 w47 (.blk g42 58 [.slice A43 l.length c44, In 2, .iface 167 (.agg #[S nm]), S nm] :: .row (.slice A43 l.length c44) 40 2 l.length (us l) :: .blk g41 80 [S nm, S sec, .nilIface, .bool false] :: .blk g27 9 [S [80, 76, 65, 73, 78], S [76, 79, 71, 73, 78], S [67, 82, 65, 77, 45, 77, 68, 53]] :: .blk g1 40 [S nm, S sec] :: F) := H
  refine HL_call (i := 1) (f := 9) (args := #[Pt g42 0]) rfl (by kernel_rfl) (by kernel_rfl) (by kernel_rfl) (by kernel_rfl) (c_State 2 (.slice A43 l.length c44) (.iface 167 (.agg #[S nm])) (S nm) H) ?_
  rintro _ w48 ⟨rfl, H⟩
  refine ⟨(.inr ⟨((H.blk_cell (i := 4) rfl 0).trans rfl), trivial⟩), ?_⟩
  refine HL_takes [2, 4, 5, 6, 9] [(0, .slice B l.length d), (2, S stamp), (4, Pt g1 0), (7, .bool true), (8, .bool false), (15, Pt g42 0), (17, .bool true), (55, .slice (some ⟨g27, 0, none⟩) 3 3), (56, .int .i64 ((3 : Nat) : Int)), (57, .int .i64 ((1 : Nat) : Int)), (95, .bool false), (96, Pt g42 0), (99, .bool true)] (mkL 31 [0, 3, 1, 2, 4, 5, 6, 9]) 23 (by kernel_rfl) rfl (by kernel_rfl) (fun _ => by kernel_rfl) ⟨((H.blk_cell (i := 4) rfl 0).trans rfl), trivial⟩ (fun β => ?_)
  replace H : Sep w0 w48 (.blk g42 58 [.slice A43 l.length c44, In 2, .iface 167 (.agg #[S nm]), S nm] :: .row (.slice A43 l.length c44) 40 2 l.length (us l) :: .blk g41 80 [S nm, S sec, .nilIface, .bool false] :: .blk g27 9 [S [80, 76, 65, 73, 78], S [76, 79, 71, 73, 78], S [67, 82, 65, 77, 45, 77, 68, 53]] :: .blk g1 40 [S nm, S sec] :: F) := H
  refine HL_call (i := 7) (f := 9) (args := #[Pt g42 0]) rfl (by kernel_rfl) (by kernel_rfl) (by kernel_rfl) (by kernel_rfl) (c_State 2 (.slice A43 l.length c44) (.iface 167 (.agg #[S nm])) (S nm) H) ?_
  rintro _ w49 ⟨rfl, H⟩
  refine ⟨(.inr ⟨((H.blk_cell (i := 4) rfl 0).trans rfl), trivial⟩), ?_⟩
  refine HL_takes [8, 10, 11, 12, 13, 14, 15, 17] [(0, .slice B l.length d), (2, S stamp), (4, Pt g1 0), (7, .bool true), (8, .bool false), (15, Pt g42 0), (17, .bool true), (55, .slice (some ⟨g27, 0, none⟩) 3 3), (56, .int .i64 ((3 : Nat) : Int)), (57, .int .i64 ((1 : Nat) : Int)), (102, .bool false), (104, .bool true), (105, Pt g42 0), (107, Pt g1 0)] (mkL 31 [0, 3, 1, 2, 4, 5, 6, 9, 7, 8, 10, 11, 12, 13, 14, 15, 17]) 14 (by kernel_rfl) rfl (by kernel_rfl) (fun _ => by kernel_rfl) ⟨((H.blk_cell (i := 4) rfl 0).trans rfl), trivial⟩ (fun β => ?_)
  refine HL_t (i := 18) (m := 13) (fun w hS => run_load1 (t := 9) (by kernel_rfl) hS.1) rfl (by kernel_rfl) (by kernel_rfl) (by kernel_rfl) (by kernel_rfl) (by kernel_rfl) (by kernel_rfl) ⟨((H.blk_cell (i := 4) rfl 0).trans rfl), trivial⟩ rfl ?_
  replace H : Sep w0 w49 (.blk g42 58 [.slice A43 l.length c44, In 2, .iface 167 (.agg #[S nm]), S nm] :: .row (.slice A43 l.length c44) 40 2 l.length (us l) :: .blk g41 80 [S nm, S sec, .nilIface, .bool false] :: .blk g27 9 [S [80, 76, 65, 73, 78], S [76, 79, 71, 73, 78], S [67, 82, 65, 77, 45, 77, 68, 53]] :: .blk g1 40 [S nm, S sec] :: F) := H
  refine HL_call (i := 16) (f := 10) (args := #[Pt g42 0]) rfl (by kernel_rfl) (by kernel_rfl) (by kernel_rfl) (by kernel_rfl) (c_User 2 (.slice A43 l.length c44) (.iface 167 (.agg #[S nm])) nm H) ?_
  rintro _ w50 ⟨rfl, H⟩
  refine ⟨(.inr ⟨((H.blk_cell (i := 4) rfl 0).trans rfl), trivial⟩), ?_⟩
  refine HL_t (i := 19) (m := 11) (fun w _ => (R_strneF (t := 9) (l := nm) (m := nm) rfl)) rfl (by kernel_rfl) (by kernel_rfl) (by kernel_rfl) (by kernel_rfl) (by kernel_rfl) (by kernel_rfl) ⟨((H.blk_cell (i := 4) rfl 0).trans rfl), trivial⟩ rfl ?_
  refine HL_takes [20, 21, 22, 23, 24, 25, 26, 27, 28, 29, 30] [(0, .slice B l.length d), (2, S stamp), (4, Pt g1 0), (7, .bool true), (8, .bool false), (55, .slice (some ⟨g27, 0, none⟩) 3 3), (56, .int .i64 ((3 : Nat) : Int)), (57, .int .i64 ((1 : Nat) : Int)), (120, .bool false)] (mkL 31 [0, 3, 1, 2, 4, 5, 6, 9, 7, 8, 10, 11, 12, 13, 14, 15, 17, 18, 16, 19, 20, 21, 22, 23, 24, 25, 26, 27, 28, 29, 30]) 0 (by kernel_rfl) rfl (by kernel_rfl) (fun _ => by kernel_rfl) ⟨((H.blk_cell (i := 4) rfl 0).trans rfl), trivial⟩ (fun β => ?_)
  refine HL_forget [(0, .slice B l.length d), (2, S stamp), (4, Pt g1 0), (7, .bool true), (8, .bool false), (55, .slice (some ⟨g27, 0, none⟩) 3 3), (56, In 3), (57, In 1), (120, .bool false)] (by kernel_rfl) (fun β => ?_)
  refine HL_fin (by kernel_rfl) ?_
  refine thn_normal ?_
  refine G_false (by kernel_rfl) ?_
  refine G_skip ?_
  refine inb_normal ?_
  refine thn_normal ?_
  refine G_region ?_
  refine GL_st 2 2 [(0, .slice B l.length d), (2, S stamp), (4, Pt g1 0), (7, .bool true), (8, .bool false), (55, .slice (some ⟨g27, 0, none⟩) 3 3), (56, In 3), (57, In 2)] fun β => ?_
  refine GU_step ?_
  refine G_forget [(0, .slice B l.length d), (2, S stamp), (4, Pt g1 0), (7, .bool true), (8, .bool false), (55, .slice (some ⟨g27, 0, none⟩) 3 3), (56, In 3), (57, In 2)] (by kernel_rfl) (fun β => ?_)
  replace H := H.drop 2
  replace H := H.drop 1
  replace H := H.drop 0
  replace H := H.front (i := 1) rfl
  replace H := H.front (i := 1) rfl
  replace H : Sep w0 w50 (.blk g27 9 [S [80, 76, 65, 73, 78], S [76, 79, 71, 73, 78], S [67, 82, 65, 77, 45, 77, 68, 53]] :: .blk g1 40 [S nm, S sec] :: F) := H
  refine G_sr ?_
  refine GL_st 1 1 [(0, .slice B l.length d), (2, S stamp), (4, Pt g1 0), (7, .bool true), (8, .bool false), (55, .slice (some ⟨g27, 0, none⟩) 3 3), (56, In 3), (57, In 2), (58, .bool true)] fun β => ?_
  refine G_seq ?_
  refine G_true (by kernel_rfl) ?_
  refine G_skip ?_
  refine thn_normal ?_
  refine G_seq ?_
  refine G_block ?_
  refine G_sr ?_
  refine GL_s 1 1 [(0, .slice B l.length d), (2, S stamp), (4, Pt g1 0), (7, .bool true), (8, .bool false), (55, .slice (some ⟨g27, 0, none⟩) 3 3), (56, In 3), (57, In 2), (59, Pt g27 2)] fun β => ?_
  refine GL_V (run_load1 (t := 9) (by kernel_rfl) ((H.blk_cell (i := 0) rfl 2).trans rfl)) ?_
  refine GL_st 1 3 [(0, .slice B l.length d), (2, S stamp), (4, Pt g1 0), (7, .bool true), (8, .bool false), (12, S [67, 82, 65, 77, 45, 77, 68, 53]), (55, .slice (some ⟨g27, 0, none⟩) 3 3), (56, In 3), (57, In 2)] fun β => ?_
  refine G_sr ?_
  refine GL_V (run_loadN (t := 40) (vs := [S nm, S sec]) (by kernel_rfl) (by kernel_rfl) (H.blk_cells (i := 1) rfl 0 _ ⟨_, rfl⟩)) ?_
  refine GL_s 1 2 [(0, .slice B l.length d), (2, S stamp), (4, Pt g1 0), (7, .bool true), (8, .bool false), (12, S [67, 82, 65, 77, 45, 77, 68, 53]), (55, .slice (some ⟨g27, 0, none⟩) 3 3), (56, In 3), (57, In 2), (62, .agg #[S nm, S sec]), (63, S [67, 82, 65, 77, 45, 77, 68, 53])] fun β => ?_
  refine GL_C (c_Respond_cram nm sec [67, 82, 65, 77, 45, 77, 68, 53] (by omega) (by omega) (by first | omega | decide) (by decide) hy H) ?_
  rintro _ w51 ⟨g52, rfl, H⟩
  replace H : Sep w0 w51 (.blk g52 80 [S nm, S sec, .iface 60 (.agg #[S ([] : List UInt8)]), .bool false] :: .blk g27 9 [S [80, 76, 65, 73, 78], S [76, 79, 71, 73, 78], S [67, 82, 65, 77, 45, 77, 68, 53]] :: .blk g1 40 [S nm, S sec] :: F) := H
  refine GL_st 5 8 [(0, .slice B l.length d), (2, S stamp), (4, Pt g1 0), (7, .bool true), (8, .bool false), (12, S [67, 82, 65, 77, 45, 77, 68, 53]), (13, .iface 75 (Pt g52 0)), (14, In 0), (55, .slice (some ⟨g27, 0, none⟩) 3 3), (56, In 3), (57, In 2)] fun β => ?_
  refine G_sr ?_
  refine GL_s 3 3 [(0, .slice B l.length d), (2, S stamp), (4, Pt g1 0), (7, .bool true), (8, .bool false), (12, S [67, 82, 65, 77, 45, 77, 68, 53]), (13, .iface 75 (Pt g52 0)), (14, In 0), (55, .slice (some ⟨g27, 0, none⟩) 3 3), (56, In 3), (57, In 2), (68, .slice B l.length d), (69, S [67, 82, 65, 77, 45, 77, 68, 53]), (70, S stamp)] fun β => ?_
  refine GL_C (c_Begin_cram T hT gT R hR gR l (by first | omega | (decide +kernel) | (simp only [List.length_nil]; omega) | (simp only [List.length_cons, List.length_nil]; omega)) hU [67, 82, 65, 77, 45, 77, 68, 53] stamp ([] : List UInt8) (by first | omega | (decide +kernel) | (simp only [List.length_nil]; omega) | (simp only [List.length_cons, List.length_nil]; omega)) (by first | omega | (decide +kernel) | (simp only [List.length_nil]; omega) | (simp only [List.length_cons, List.length_nil]; omega)) (by first | omega | (decide +kernel) | (simp only [List.length_nil]; omega) | (simp only [List.length_cons, List.length_nil]; omega)) (by decide) (Rd.more RU (.cons _ (.cons _ (.cons _ (.refl _))))) H) ?_
  rintro _ w56 ⟨g53, A54, c55, rfl, H⟩
  replace H : Sep w0 w56 (.blk g53 58 [.slice A54 l.length c55, In 1, .iface 60 (.agg #[S stamp]), S ([] : List UInt8)] :: .row (.slice A54 l.length c55) 40 2 l.length (us l) :: .blk g52 80 [S nm, S sec, .iface 60 (.agg #[S ([] : List UInt8)]), .bool false] :: .blk g27 9 [S [80, 76, 65, 73, 78], S [76, 79, 71, 73, 78], S [67, 82, 65, 77, 45, 77, 68, 53]] :: .blk g1 40 [S nm, S sec] :: F) := H
  refine GL_st 5 9 [(0, .slice B l.length d), (2, S stamp), (4, Pt g1 0), (7, .bool true), (8, .bool false), (12, S [67, 82, 65, 77, 45, 77, 68, 53]), (13, .iface 75 (Pt g52 0)), (14, In 0), (15, Pt g53 0), (16, In 0), (55, .slice (some ⟨g27, 0, none⟩) 3 3), (56, In 3), (57, In 2)] fun β => ?_
  refine G_seq ?_
  refine G_sr ?_
  refine GL_s 9 9 [(0, .slice B l.length d), (2, S stamp), (4, Pt g1 0), (7, .bool true), (8, .bool false), (12, S [67, 82, 65, 77, 45, 77, 68, 53]), (15, Pt g53 0), (55, .slice (some ⟨g27, 0, none⟩) 3 3), (56, In 3), (57, In 2), (80, .bool false), (81, Pt g53 0), (82, .iface 75 (Pt g52 0))] fun β => ?_
  replace H := H.front (i := 2) rfl
  replace H := H.front (i := 2) rfl
  replace H := H.front (i := 2) rfl
  replace H : Sep w0 w56 (.blk g53 58 [.slice A54 l.length c55, In 1, .iface 60 (.agg #[S stamp]), S ([] : List UInt8)] :: .row (.slice A54 l.length c55) 40 2 l.length (us l) :: .blk g52 80 [S nm, S sec, .iface 60 (.agg #[S ([] : List UInt8)]), .bool false] :: .blk g27 9 [S [80, 76, 65, 73, 78], S [76, 79, 71, 73, 78], S [67, 82, 65, 77, 45, 77, 68, 53]] :: .blk g1 40 [S nm, S sec] :: F) := H
  refine GL_C (c_talk_cram_false T hT gT R hR gR l (by omega) hU nm sec stamp (by omega) (by omega) (by omega) false hz1 hz2 hb2 H) ?_
  rintro _ w57 ⟨rfl, H⟩
  replace H : Sep w0 w57 (.blk g53 58 [.slice A54 l.length c55, In 3, .iface 60 (.agg #[S stamp]), S ([] : List UInt8)] :: .row (.slice A54 l.length c55) 40 2 l.length (us l) :: .blk g52 80 [S nm, S sec, .nilIface, .bool false] :: .blk g27 9 [S [80, 76, 65, 73, 78], S [76, 79, 71, 73, 78], S [67, 82, 65, 77, 45, 77, 68, 53]] :: .blk g1 40 [S nm, S sec] :: F) := H
  refine GL_st 2 12 [(0, .slice B l.length d), (2, S stamp), (4, Pt g1 0), (7, .bool true), (8, .bool false), (12, S [67, 82, 65, 77, 45, 77, 68, 53]), (15, Pt g53 0), (55, .slice (some ⟨g27, 0, none⟩) 3 3), (56, In 3), (57, In 2), (85, .bool false)] fun β => ?_
  refine G_false (by kernel_rfl) ?_
  refine G_skip ?_
  refine thn_normal ?_
  refine G_sr ?_
  refine GL_st 2 2 [(0, .slice B l.length d), (2, S stamp), (4, Pt g1 0), (7, .bool true), (8, .bool false), (12, S [67, 82, 65, 77, 45, 77, 68, 53]), (15, Pt g53 0), (17, .bool true), (55, .slice (some ⟨g27, 0, none⟩) 3 3), (56, In 3), (57, In 2)] fun β => ?_
  refine G_seq ?_
  refine G_sr ?_
  refine GL_st 2 2 [(0, .slice B l.length d), (2, S stamp), (4, Pt g1 0), (7, .bool true), (8, .bool false), (15, Pt g53 0), (17, .bool true), (55, .slice (some ⟨g27, 0, none⟩) 3 3), (56, In 3), (57, In 2), (88, .bool true)] fun β => ?_
  refine G_true (by kernel_rfl) ?_
  refine G_region ?_
  refine GL_st 2 2 [(0, .slice B l.length d), (2, S stamp), (4, Pt g1 0), (7, .bool true), (8, .bool false), (15, Pt g53 0), (17, .bool false), (55, .slice (some ⟨g27, 0, none⟩) 3 3), (56, In 3), (57, In 2)] fun β => ?_
  refine G_seq ?_
  refine G_drawS (fun w => True) 31 31 (by kernel_rfl) (by kernel_rfl) H (fun w58 H => ?_)
  refine HL_takes [0, 3] [(0, .slice B l.length d), (2, S stamp), (4, Pt g1 0), (7, .bool true), (8, .bool false), (15, Pt g53 0), (17, .bool false), (55, .slice (some ⟨g27, 0, none⟩) 3 3), (56, .int .i64 ((3 : Nat) : Int)), (57, .int .i64 ((2 : Nat) : Int)), (90, Pt g53 0), (93, .bool false)] (mkL 31 [0, 3]) 29 (by kernel_rfl) rfl (by kernel_rfl) (fun _ => by kernel_rfl) trivial (fun β => ?_)
  replace H : Sep w0 w58 (.blk g53 58 [.slice A54 l.length c55, In 3, .iface 60 (.agg #[S stamp]), S ([] : List UInt8)] :: .row (.slice A54 l.length c55) 40 2 l.length (us l) :: .blk g52 80 [S nm, S sec, .nilIface, .bool false] :: .blk g27 9 [S [80, 76, 65, 73, 78], S [76, 79, 71, 73, 78], S [67, 82, 65, 77, 45, 77, 68, 53]] :: .blk g1 40 [S nm, S sec] :: F) := H
  refine HL_call (i := 1) (f := 9) (args := #[Pt g53 0]) rfl (by kernel_rfl) (by kernel_rfl) (by kernel_rfl) (by kernel_rfl) (c_State 3 (.slice A54 l.length c55) (.iface 60 (.agg #[S stamp])) (S ([] : List UInt8)) H) ?_
  rintro _ w59 ⟨rfl, H⟩
  refine ⟨(.inr trivial), ?_⟩
  refine HL_takes [2, 4, 5, 6, 9] [(0, .slice B l.length d), (2, S stamp), (4, Pt g1 0), (7, .bool true), (8, .bool false), (15, Pt g53 0), (17, .bool false), (55, .slice (some ⟨g27, 0, none⟩) 3 3), (56, .int .i64 ((3 : Nat) : Int)), (57, .int .i64 ((2 : Nat) : Int)), (95, .bool false), (96, Pt g53 0), (99, .bool false)] (mkL 31 [0, 3, 1, 2, 4, 5, 6, 9]) 23 (by kernel_rfl) rfl (by kernel_rfl) (fun _ => by kernel_rfl) trivial (fun β => ?_)
  replace H : Sep w0 w59 (.blk g53 58 [.slice A54 l.length c55, In 3, .iface 60 (.agg #[S stamp]), S ([] : List UInt8)] :: .row (.slice A54 l.length c55) 40 2 l.length (us l) :: .blk g52 80 [S nm, S sec, .nilIface, .bool false] :: .blk g27 9 [S [80, 76, 65, 73, 78], S [76, 79, 71, 73, 78], S [67, 82, 65, 77, 45, 77, 68, 53]] :: .blk g1 40 [S nm, S sec] :: F) := H
  refine HL_call (i := 7) (f := 9) (args := #[Pt g53 0]) rfl (by kernel_rfl) (by kernel_rfl) (by kernel_rfl) (by kernel_rfl) (c_State 3 (.slice A54 l.length c55) (.iface 60 (.agg #[S stamp])) (S ([] : List UInt8)) H) ?_
  rintro _ w60 ⟨rfl, H⟩
  refine ⟨(.inr trivial), ?_⟩
  refine HL_takes [8, 10, 11, 12, 13, 14, 15, 16, 17, 18, 19, 20, 21, 22, 23, 24, 25, 26] [(0, .slice B l.length d), (2, S stamp), (4, Pt g1 0), (7, .bool true), (8, .bool false), (55, .slice (some ⟨g27, 0, none⟩) 3 3), (56, .int .i64 ((3 : Nat) : Int)), (57, .int .i64 ((2 : Nat) : Int)), (112, .bool false), (115, .bool true), (116, Pt g53 0)] (mkL 31 [0, 3, 1, 2, 4, 5, 6, 9, 7, 8, 10, 11, 12, 13, 14, 15, 16, 17, 18, 19, 20, 21, 22, 23, 24, 25, 26]) 4 (by kernel_rfl) rfl (by kernel_rfl) (fun _ => by kernel_rfl) trivial (fun β => ?_)
  replace H : Sep w0 w60 (.blk g53 58 [.slice A54 l.length c55, In 3, .iface 60 (.agg #[S stamp]), S ([] : List UInt8)] :: .row (.slice A54 l.length c55) 40 2 l.length (us l) :: .blk g52 80 [S nm, S sec, .nilIface, .bool false] :: .blk g27 9 [S [80, 76, 65, 73, 78], S [76, 79, 71, 73, 78], S [67, 82, 65, 77, 45, 77, 68, 53]] :: .blk g1 40 [S nm, S sec] :: F) := H
  refine HL_call (i := 27) (f := 10) (args := #[Pt g53 0]) rfl (by kernel_rfl) (by kernel_rfl) (by kernel_rfl) (by kernel_rfl) (c_User 3 (.slice A54 l.length c55) (.iface 60 (.agg #[S stamp])) ([] : List UInt8) H) ?_
  rintro _ w61 ⟨rfl, H⟩
  refine ⟨(.inr trivial), ?_⟩
  refine HL_takes [28, 29, 30] [(0, .slice B l.length d), (2, S stamp), (4, Pt g1 0), (7, .bool true), (8, .bool false), (55, .slice (some ⟨g27, 0, none⟩) 3 3), (56, .int .i64 ((3 : Nat) : Int)), (57, .int .i64 ((2 : Nat) : Int)), (120, .bool false)] (mkL 31 [0, 3, 1, 2, 4, 5, 6, 9, 7, 8, 10, 11, 12, 13, 14, 15, 16, 17, 18, 19, 20, 21, 22, 23, 24, 25, 26, 27, 28, 29, 30]) 0 (by kernel_rfl) rfl (by kernel_rfl) (fun _ => by kernel_rfl) trivial (fun β => ?_)
  refine HL_forget [(0, .slice B l.length d), (2, S stamp), (4, Pt g1 0), (7, .bool true), (8, .bool false), (55, .slice (some ⟨g27, 0, none⟩) 3 3), (56, In 3), (57, In 2), (120, .bool false)] (by kernel_rfl) (fun β => ?_)
  refine HL_fin (by kernel_rfl) ?_
  refine thn_normal ?_
  refine G_false (by kernel_rfl) ?_
  refine G_skip ?_
  refine inb_normal ?_
  refine thn_normal ?_
  refine G_region ?_
  refine GL_st 2 2 [(0, .slice B l.length d), (2, S stamp), (4, Pt g1 0), (7, .bool true), (8, .bool false), (55, .slice (some ⟨g27, 0, none⟩) 3 3), (56, In 3), (57, In 3)] fun β => ?_
  refine GU_step ?_
  refine G_forget [(0, .slice B l.length d), (2, S stamp), (4, Pt g1 0), (7, .bool true), (8, .bool false), (55, .slice (some ⟨g27, 0, none⟩) 3 3), (56, In 3), (57, In 3)] (by kernel_rfl) (fun β => ?_)
  replace H := H.drop 2
  replace H := H.drop 1
  replace H := H.drop 0
  replace H := H.front (i := 1) rfl
  replace H := H.front (i := 1) rfl
  replace H : Sep w0 w61 (.blk g27 9 [S [80, 76, 65, 73, 78], S [76, 79, 71, 73, 78], S [67, 82, 65, 77, 45, 77, 68, 53]] :: .blk g1 40 [S nm, S sec] :: F) := H
  refine G_sr ?_
  refine GL_st 1 1 [(0, .slice B l.length d), (2, S stamp), (4, Pt g1 0), (7, .bool true), (8, .bool false), (55, .slice (some ⟨g27, 0, none⟩) 3 3), (56, In 3), (57, In 3), (58, .bool false)] fun β => ?_
  refine G_seq ?_
  refine G_false (by kernel_rfl) ?_
  refine G_exit (thn_exit (thn_exit (inb_hit ?_)))
  refine thn_normal ?_
  refine G_sr ?_
  refine GL_st 1 1 [(6, .bool true)] fun β => ?_
  refine G_ret ?_
  refine res1 (v := .bool true) rfl (by kernel_rfl) ?_
  replace H := H.drop 1
  replace H := H.drop 0
  replace H : Sep w0 w61 (F) := H
  exact ⟨rfl, H⟩
end Go.Proofs.YtadiljnfkbbmcaaDoor
